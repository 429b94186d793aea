import Derived.Test.YtmpglmcjoelciaaGreatDoorDMa
import Derived.Lib.IndexBytes
noncomputable section
namespace Go.Proofs.YtmpglmcjoelciaaGreatDoor.Ev
open Go Go.Proofs Go.Proofs.Ev
set_option linter.unusedVariables false
theorem cond_eq (n : Nat) (b : Bool) (e : Int) : Q0f.F n b e = some (if b then e else 0) := by cases b <;> rfl
theorem ncond_eq (n : Nat) (b : Bool) (e : Int) : Q3x.F n b e = some (if b then e else 0) := by cases b <;> rfl
theorem in_eq (n : Nat) (a b c : Int) : Q3z.F n a b c = some (decide (b ≤ a ∧ a ≤ c)) := by
  unfold Q3z.F Q3z.e
  by_cases h : b ≤ a
  · rw [cond_t h]; simp [h]
  · rw [cond_f h]; simp [h]
theorem Within_eq (n : Nat) (a b c : Int) : Q1z.F n a b c = some (decide (b ≤ a ∧ a ≤ c)) := by
  unfold Q1z.F Q1z.e
  by_cases h : b ≤ a
  · rw [cond_t h]; simp [h]
  · rw [cond_f h]; simp [h]
def fz : List Int → Int
  | [] => 0
  | x :: r => if x ≠ 0 then x else fz r
theorem first_l (n : Nat) (xs : List Int) (hx : xs.length ≤ 1000) : ∀ (d i m : Nat), i + d = xs.length → d < m → Q0m.l n m (.z2 (xs.map vi) xs.length i) = some (fz (xs.drop i))
  | _, _, 0, _, h => absurd h (by omega)
  | 0, i, m + 1, h, _ => by
    show Q0m.r2 n (Q0m.l n m) _ _ _ = _
    unfold Q0m.r2
    rw [cond_f (by omega), List.drop_of_length_le (by omega)]
    rfl
  | d + 1, i, m + 1, h, hm => by
    have hi : i < xs.length := by omega
    have ih := first_l n xs hx d (i + 1) m (by omega) (by omega)
    show Q0m.r2 n (Q0m.l n m) _ _ _ = _
    unfold Q0m.r2
    rw [cond_t (by omega), List.length_map, within_t hi, cond_true]
    have e : (xs.map vi).getD (((i : Nat) : Int)).toNat AV.undef = vi xs[i] := by simp [List.getD_eq_getElem?_getD, hi]
    rw [e, List.drop_eq_getElem_cons hi]
    show (bif xs[i] != 0 then some xs[i] else _) = _
    by_cases h0 : xs[i] = 0
    · have : (xs[i] != 0) = false := by simp [h0]
      rw [this, cond_false, wsucc (by omega), ih]
      simp [fz, h0]
    · have : (xs[i] != 0) = true := by simp [h0]
      rw [this, cond_true]
      simp [fz, h0]
theorem first_eq {n : Nat} (xs : List Int) (hx : xs.length ≤ 1000) (hn : 1001 ≤ n) : Q0m.F n (xs.map vi) = some (fz xs) := by
  unfold Q0m.F Q0m.e
  rw [List.length_map]
  exact first_l n xs hx xs.length 0 n (by omega) (by omega)
theorem first2 {n : Nat} (hn : 1001 ≤ n) (a b : Int) : Q0m.F n [vi a, vi b] = some (if a ≠ 0 then a else b) := by
  have := first_eq (n := n) [a, b] (by simp) hn
  rw [show ([a, b] : List Int).map vi = [vi a, vi b] from rfl] at this
  rw [this]
  by_cases h : a = 0 <;> by_cases h2 : b = 0 <;> simp [fz, h, h2]
theorem nfirst_l (n : Nat) (xs : List Int) (hx : xs.length ≤ 1000) : ∀ (d i m : Nat), i + d = xs.length → d < m → Q3y.l n m (.z2 (xs.map vi) xs.length i) = some (fz (xs.drop i))
  | _, _, 0, _, h => absurd h (by omega)
  | 0, i, m + 1, h, _ => by
    show Q3y.r2 n (Q3y.l n m) _ _ _ = _
    unfold Q3y.r2
    rw [cond_f (by omega), List.drop_of_length_le (by omega)]
    rfl
  | d + 1, i, m + 1, h, hm => by
    have hi : i < xs.length := by omega
    have ih := nfirst_l n xs hx d (i + 1) m (by omega) (by omega)
    show Q3y.r2 n (Q3y.l n m) _ _ _ = _
    unfold Q3y.r2
    rw [cond_t (by omega), List.length_map, within_t hi, cond_true]
    have e : (xs.map vi).getD (((i : Nat) : Int)).toNat AV.undef = vi xs[i] := by simp [List.getD_eq_getElem?_getD, hi]
    rw [e, List.drop_eq_getElem_cons hi]
    show (bif xs[i] != 0 then some xs[i] else _) = _
    by_cases h0 : xs[i] = 0
    · have : (xs[i] != 0) = false := by simp [h0]
      rw [this, cond_false, wsucc (by omega), ih]
      simp [fz, h0]
    · have : (xs[i] != 0) = true := by simp [h0]
      rw [this, cond_true]
      simp [fz, h0]
theorem nfirst_eq {n : Nat} (xs : List Int) (hx : xs.length ≤ 1000) (hn : 1001 ≤ n) : Q3y.F n (xs.map vi) = some (fz xs) := by
  unfold Q3y.F Q3y.e
  rw [List.length_map]
  exact nfirst_l n xs hx xs.length 0 n (by omega) (by omega)
theorem nfirst2 {n : Nat} (hn : 1001 ≤ n) (a b : Int) : Q3y.F n [vi a, vi b] = some (if a ≠ 0 then a else b) := by
  have := nfirst_eq (n := n) [a, b] (by simp) hn
  rw [show ([a, b] : List Int).map vi = [vi a, vi b] from rfl] at this
  rw [this]
  by_cases h : a = 0 <;> by_cases h2 : b = 0 <;> simp [fz, h, h2]
def chkT (k a b : Int) : Int :=
  if k = 0 then (if ¬ (1 ≤ a ∧ a ≤ 256) then 18 else if b ≠ 0 then 3 else 0)
  else if k = 1 ∨ k = 2 then (if ¬ (1 ≤ a ∧ a ≤ 15) then 18 else if ¬ (0 ≤ b ∧ b ≤ a) then 3 else 0)
  else if k = 3 then (if ¬ (a = 4 ∨ a = 9) then 18 else if ¬ (0 ≤ b ∧ b ≤ a) then 3 else 0)
  else if k = 4 then (if a ≠ 0 then 18 else if b ≠ 0 then 3 else 0)
  else 4
theorem beq_int (a b : Int) : (a == b) = decide (a = b) := rfl
theorem r13_eq {n : Nat} (hn : 1001 ≤ n) (c : Q3t.Z → Option Int) (x y : Bool) : Q3t.r13 n c x y = some (if !x then 18 else if !y then 3 else 0) := by
  unfold Q3t.r13
  rw [ncond_eq, Option.bind_some, ncond_eq, Option.bind_some, nfirst2 hn, Option.bind_some]
  cases x <;> cases y <;> rfl
theorem check_eq {n : Nat} (hn : 1001 ≤ n) (k a b : Int) : Q3t.F n k a b = some (chkT k a b) := by
  obtain ⟨m, rfl⟩ : ∃ m, n = m + 1 := ⟨n - 1, by omega⟩
  unfold Q3t.F Q3t.e chkT
  have hl : ∀ x y, Q3t.l (m + 1) (m + 1) (.z13 x y) = some (if !x then 18 else if !y then 3 else 0) := fun x y => r13_eq hn (Q3t.l (m + 1) m) x y
  simp only [hl, in_eq, Option.bind_some, beq_int]
  by_cases h0 : k = 0
  · rw [cond_t h0]
    by_cases h1 : 1 ≤ a ∧ a ≤ 256 <;> by_cases h2 : b = 0 <;> simp only [h0, h1, h2] <;> (try simp) <;> (try (first | omega | (split <;> split <;> omega)))
  · rw [cond_f h0]
    by_cases h1 : k = 1
    · rw [cond_t h1]
      by_cases h2 : 1 ≤ a ∧ a ≤ 15 <;> by_cases h3 : 0 ≤ b ∧ b ≤ a <;> simp only [h1, h2, h3] <;> (try simp) <;> (try (first | omega | (split <;> split <;> omega)))
    · rw [cond_f h1]
      by_cases h2 : k = 2
      · rw [cond_t h2]
        by_cases h4 : 1 ≤ a ∧ a ≤ 15 <;> by_cases h3 : 0 ≤ b ∧ b ≤ a <;> simp only [h2, h4, h3] <;> (try simp) <;> (try (first | omega | (split <;> split <;> omega)))
      · rw [cond_f h2]
        by_cases h3 : k = 3
        · rw [cond_t h3]
          by_cases ha : a = 4
          · rw [cond_t ha]
            by_cases h5 : 0 ≤ b ∧ b ≤ a <;> simp only [h3, h5] <;> (try simp [ha]) <;> (try (first | omega | (split <;> split <;> omega)))
          · rw [cond_f ha]
            by_cases h6 : a = 9 <;> by_cases h5 : 0 ≤ b ∧ b ≤ a <;> simp only [h3, h5, h6, ha] <;> (try simp) <;> (try (first | omega | (split <;> split <;> omega)))
        · rw [cond_f h3]
          by_cases h4 : k = 4
          · rw [cond_t h4]
            by_cases h5 : a = 0 <;> by_cases h6 : b = 0 <;> simp only [h4, h5, h6] <;> (try simp) <;> (try (first | omega | (split <;> split <;> omega)))
          · rw [cond_f h4]
            simp [h0, h1, h2, h3, h4]
theorem count_eq (n : Nat) (b : Bool) : Q1p.F n b = some (if b then 1 else 0) := by cases b <;> rfl
theorem typeErr_eq {n : Nat} (hn : 3 ≤ n) (k a b : Int) : Q2q.F n k a b = some (chkT k a b) := by
  obtain ⟨m, rfl⟩ : ∃ m, n = m + 1 := ⟨n - 1, by omega⟩
  unfold Q2q.F Q2q.e
  have hl : ∀ x k a b, Q2q.l (m + 1) (m + 1) (.z12 x k a b) = some (if !x then 18 else if 1 ≤ k ∧ k ≤ 3 then (if 0 ≤ b ∧ b ≤ a then 0 else 3) else (if b = 0 then 0 else 3)) := by
    intro x k a b
    show Q2q.r12 (m + 1) (Q2q.l (m + 1) m) x k a b = _
    unfold Q2q.r12 Q2o.F Q2o.e
    cases x with
    | false => rfl
    | true =>
      simp only [Within_eq, Option.bind_some, count_eq, Bool.not_true, cond_false]
      by_cases h : 1 ≤ k ∧ k ≤ 3
      · rw [cond_t h]
        simp only [Bool.false_eq_true, if_false, if_pos h]
        by_cases h2 : 0 ≤ b ∧ b ≤ a
        · simp only [h2, and_self, decide_true, Bool.not_true, Bool.false_eq_true, if_false, if_true]; rfl
        · simp only [h2, decide_false, Bool.not_false, if_true, if_false]; rfl
      · rw [cond_f h]
        simp only [Bool.false_eq_true, if_false, if_neg h]
        by_cases h2 : b = 0
        · subst h2; rfl
        · have : ¬ (0 ≤ b ∧ b ≤ 0) := by omega
          simp only [h2, this, decide_false, Bool.not_false, if_true, if_false]; rfl
  simp only [hl, Within_eq, Option.bind_some, beq_int]
  unfold chkT
  by_cases hk : 0 ≤ k ∧ k ≤ 4
  · have : (!decide (0 ≤ k ∧ k ≤ 4)) = false := by simp [hk]
    rw [this, cond_false]
    by_cases h0 : k = 0
    · rw [cond_t h0]
      by_cases h1 : 1 ≤ a ∧ a ≤ 256 <;> by_cases h2 : b = 0 <;> simp only [h0, h1, h2] <;> (try simp) <;> (try (first | omega | (split <;> split <;> omega)))
    · rw [cond_f h0]
      by_cases h1 : k = 1
      · rw [cond_t h1]
        by_cases h2 : 1 ≤ a ∧ a ≤ 15 <;> by_cases h3 : 0 ≤ b ∧ b ≤ a <;> simp only [h1, h2, h3] <;> (try simp) <;> (try (first | omega | (split <;> split <;> omega)))
      · rw [cond_f h1]
        by_cases h2 : k = 2
        · rw [cond_t h2]
          by_cases h4 : 1 ≤ a ∧ a ≤ 15 <;> by_cases h3 : 0 ≤ b ∧ b ≤ a <;> simp only [h2, h4, h3] <;> (try simp) <;> (try (first | omega | (split <;> split <;> omega)))
        · rw [cond_f h2]
          by_cases h3 : k = 3
          · rw [cond_t h3]
            by_cases ha : a = 4
            · rw [cond_t ha]
              by_cases h5 : 0 ≤ b ∧ b ≤ a <;> simp only [h3, h5] <;> (try simp [ha]) <;> (try (first | omega | (split <;> split <;> omega)))
            · rw [cond_f ha]
              by_cases h6 : a = 9 <;> by_cases h5 : 0 ≤ b ∧ b ≤ a <;> simp only [h3, h5, h6, ha] <;> (try simp) <;> (try (first | omega | (split <;> split <;> omega)))
          · rw [cond_f h3]
            have h4 : k = 4 := by omega
            by_cases h5 : a = 0 <;> by_cases h6 : b = 0 <;> simp only [h4, h5, h6] <;> (try simp) <;> (try (first | omega | (split <;> split <;> omega)))
  · have : (!decide (0 ≤ k ∧ k ≤ 4)) = true := by simp; omega
    rw [this, cond_true, if_neg (by omega), if_neg (by omega), if_neg (by omega), if_neg (by omega)]
def kd (c : UInt8) : Int := Lib.indexByte [65, 80, 83, 66] c
theorem empty_eq (l : List UInt8) : ((bs l).toList == (⟨#[]⟩ : ByteArray).toList) = decide (l = []) := by
  rw [bs_toList, show (⟨#[]⟩ : ByteArray).toList = ([] : List UInt8) from bs_toList []]
  cases l <;> rfl
end Go.Proofs.YtmpglmcjoelciaaGreatDoor.Ev
namespace Go.Proofs.YtmpglmcjoelciaaGreatDoor.Ev
open Go Go.Proofs Go.Proofs.Ev
set_option linter.unusedVariables false
theorem dec1 {k : Nat} (h : k < 10) : Lib.decDigits k = [UInt8.ofNat (48 + k)] := by rw [Lib.decDigits, dif_pos h]
theorem decS {k : Nat} (h : ¬ k < 10) : Lib.decDigits k = Lib.decDigits (k / 10) ++ [UInt8.ofNat (48 + k % 10)] := by rw [Lib.decDigits, dif_neg h]
theorem dec_len : ∀ (m k : Nat), k < 10 ^ (m + 1) → 1 ≤ (Lib.decDigits k).length ∧ (Lib.decDigits k).length ≤ m + 1
  | m, k, h => by
    by_cases h1 : k < 10
    · rw [dec1 h1]; simp
    · rw [decS h1]
      cases m with
      | zero => omega
      | succ m =>
        have := dec_len m (k / 10) (by rw [Nat.pow_succ] at h; omega)
        simp only [List.length_append, List.length_cons, List.length_nil]
        omega
theorem small_digit (k : Nat) (h : k < 10) : strOf [vu (IntKind.u8.wrap (IntKind.i64.wrap (48 + (k : Int))))] = some [UInt8.ofNat (48 + k)] := by
  have : ∀ k : Fin 10, strOf [vu (IntKind.u8.wrap (IntKind.i64.wrap (48 + ((k.1 : Nat) : Int))))] = some [UInt8.ofNat (48 + k.1)] := by decide +kernel
  exact this ⟨k, h⟩
theorem digits_eq {n : Nat} (hn : 20 ≤ n) (k : Nat) (h : k < 10 ^ 18) : Q1q.F n k = some (bs (Lib.decDigits k)) := by
  obtain ⟨m, rfl⟩ : ∃ m, n = m + 18 := ⟨n - 18, by omega⟩
  unfold Q1q.F
  have : ∀ (q j : Nat) (k : Nat), k < 10 ^ (j + 1) → j ≤ 17 → Q1q.D (m + 18) (j + 1 + q) k = some (bs (Lib.decDigits k)) := by
    intro q j
    induction j with
    | zero =>
      intro k hk _
      have hk : k < 10 := by simpa using hk
      rw [show 0 + 1 + q = q + 1 by omega]
      rw [Q1q.D_succ]
      unfold Q1q.e
      rw [cond_f (by omega), cond_f (by omega), cond_t (by omega)]
      simp only [small_digit k hk]
      rw [dec1 hk]
      rfl
    | succ j ih =>
      intro k hk hj
      have hp : 10 ^ (j + 1 + 1) ≤ 10 ^ 18 := Nat.pow_le_pow_right (by omega) (by omega)
      rw [show j + 1 + 1 + q = (j + 1 + q) + 1 by omega]
      rw [Q1q.D_succ]
      unfold Q1q.e
      rw [cond_f (by omega), cond_f (by omega)]
      by_cases h1 : k < 10
      · rw [cond_t (by omega)]
        simp only [small_digit k h1]
        rw [dec1 h1]
        rfl
      · rw [cond_f (by omega)]
        have e1 : IntKind.i64.wrap (Int.tdiv (k : Int) 10) = ((k / 10 : Nat) : Int) := by rw [Int.tdiv_eq_ediv_of_nonneg (by omega), w64] <;> omega
        have e2 : Int.tmod (k : Int) 10 = ((k % 10 : Nat) : Int) := by rw [Int.tmod_eq_emod_of_nonneg (by omega)]; omega
        have hk' : k / 10 < 10 ^ (j + 1) := by rw [Nat.pow_succ] at hk; omega
        have hl := dec_len j (k / 10) hk'
        simp only [e1, e2, small_digit (k % 10) (by omega)]
        rw [ih (k / 10) hk' (by omega), Option.bind_some]
        simp only [withSome]
        rw [chk_t (by rw [bs_size, bs_size]; simp; omega), bs_append, ← decS h1]
  have h2 := this m 17 k h (by omega)
  rw [show 17 + 1 + m = m + 18 by omega] at h2
  exact h2
theorem itoa_eq (n k : Nat) (h : k < 10 ^ 18) : Q4e.F n k = some (bs (Lib.decDigits k)) := by
  unfold Q4e.F
  have : (decide ((-9223372036854775808 : Int) ≤ (k : Int)) && decide ((k : Int) ≤ 9223372036854775807)) = true := by rw [Bool.and_eq_true, decide_eq_true_eq, decide_eq_true_eq]; omega
  rw [this, cond_true, Lib.itoa, if_neg (by omega), Int.toNat_natCast]
def ltr (k : Int) : UInt8 := if k = 0 then 65 else if k = 1 then 80 else if k = 2 then 83 else 66
def tText (k a b : Int) : List UInt8 := Lib.decDigits a.toNat ++ ([ltr k] ++ (if k = 0 then [] else Lib.decDigits b.toNat))
theorem chkT_ok {k a b : Int} (h : chkT k a b = 0) (h4 : k ≠ 4) : (k = 0 ∨ k = 1 ∨ k = 2 ∨ k = 3) ∧ 1 ≤ a ∧ a ≤ 256 ∧ 0 ≤ b ∧ b ≤ 15 ∧ (k = 0 → b = 0) := by
  unfold chkT at h
  split at h
  · split at h
    · cases h
    · split at h
      · cases h
      · omega
  · split at h
    · split at h
      · cases h
      · split at h
        · cases h
        · omega
    · split at h
      · split at h
        · cases h
        · split at h
          · cases h
          · omega
      · exact absurd h (by decide)
theorem ltr_ext (k : Int) (h : k = 0 ∨ k = 1 ∨ k = 2 ∨ k = 3) : (decide ((0 : Int) ≤ IntKind.i64.wrap (k + 1)) && decide ((IntKind.i64.wrap (k + 1) : Int) ≤ 4)) = true ∧
    (decide ((0 : Int) ≤ k) && decide (k ≤ IntKind.i64.wrap (k + 1))) = true ∧ (⟨#[65, 80, 83, 66]⟩ : ByteArray).extract k.toNat (IntKind.i64.wrap (k + 1)).toNat = bs [ltr k] := by
  rcases h with rfl | rfl | rfl | rfl <;> exact ⟨by decide, by decide, by rw [show (⟨#[65, 80, 83, 66]⟩ : ByteArray) = bs [65, 80, 83, 66] from rfl, bs_extract]; rfl⟩
theorem dec_small {a : Int} (h0 : 0 ≤ a) (h : a ≤ 256) : ∃ x : Nat, a = x ∧ x ≤ 256 ∧ (Lib.decDigits a.toNat).length ≤ 3 := by
  refine ⟨a.toNat, by omega, by omega, (dec_len 2 a.toNat (by omega)).2⟩
theorem typeText_eq {n : Nat} {k a b : Int} (hk : k = 0 ∨ k = 1 ∨ k = 2 ∨ k = 3) (ha : 0 ≤ a) (ha2 : a ≤ 256) (hb : 0 ≤ b) (hb2 : b ≤ 15) : Q1j.F n k a b = some (bs (tText k a b)) := by
  obtain ⟨x, rfl, hx, hxl⟩ := dec_small ha ha2
  obtain ⟨y, rfl, hy, hyl⟩ := dec_small hb (by omega)
  obtain ⟨e1, e2, e3⟩ := ltr_ext k hk
  rw [Int.toNat_natCast] at hxl hyl
  unfold Q1j.F Q1j.e
  rw [itoa_eq n x (by omega), Option.bind_some, e1, cond_true, e2, cond_true]
  simp only [e3]
  rw [chk_t (by rw [bs_size, bs_size]; simp; omega), bs_append]
  unfold tText
  rw [Int.toNat_natCast, Int.toNat_natCast, beq_int]
  by_cases h0 : k = 0
  · rw [cond_t h0, if_pos h0]; simp
  · rw [cond_f h0, if_neg h0, itoa_eq n y (by omega), Option.bind_some, chk_t (by rw [bs_size, bs_size]; simp; omega), bs_append, List.append_assoc]
theorem typeTextR_l {n : Nat} (hn : 1001 ≤ n) (k : Nat) (hk : k < 4) {a b : Int} (ha : 0 ≤ a) (ha2 : a ≤ 256) (hb : 0 ≤ b) (hb2 : b ≤ 15) : ∀ (d i m : Nat), i + d = k → d < m →
    Q38.l n m (.z2 i k a b) = some (bs (tText k a b))
  | _, _, 0, _, h => absurd h (by omega)
  | d, i, m + 1, h, hm => by
    have ek : Q3g.F n = some [vi 0, vi 1, vi 2, vi 3] := rfl
    have hi : i < 4 := by omega
    have e5 : (decide ((0 : Int) ≤ (i : Int)) && decide ((i : Int) < (([vi 0, vi 1, vi 2, vi 3].length : Nat) : Int))) = true := within_t hi
    have e6 : ([vi 0, vi 1, vi 2, vi 3] : List AV).getD i .undef = vi i := by
      have : i = 0 ∨ i = 1 ∨ i = 2 ∨ i = 3 := by omega
      rcases this with rfl | rfl | rfl | rfl <;> rfl
    show Q38.r2 n (Q38.l n m) (i : Int) (k : Int) a b = _
    unfold Q38.r2
    rw [cond_t (by omega), ek, Option.bind_some, e5, cond_true, Int.toNat_natCast, e6]
    show (bif ((i : Int) == (k : Int)) then _ else _) = _
    rw [beq_int]
    cases d with
    | zero =>
      have hik : i = k := by omega
      subst hik
      obtain ⟨x, rfl, hx, hxl⟩ := dec_small ha ha2
      obtain ⟨y, rfl, hy, hyl⟩ := dec_small hb (by omega)
      obtain ⟨e1, e2, e3⟩ := ltr_ext (i : Int) (by omega)
      rw [Int.toNat_natCast] at hxl hyl e3
      rw [cond_t rfl, digits_eq (by omega) x (by omega), Option.bind_some, e1, cond_true, e2, cond_true]
      simp only [e3]
      rw [chk_t (by rw [bs_size, bs_size]; simp; omega), bs_append]
      unfold tText
      rw [Int.toNat_natCast, Int.toNat_natCast]
      by_cases h0 : (i : Int) = 0
      · have : ((i : Int) != 0) = false := by simp [h0]
        rw [this, cond_false, if_pos h0]; simp
      · have : ((i : Int) != 0) = true := by simpa using h0
        rw [this, cond_true, if_neg h0, digits_eq (by omega) y (by omega), Option.bind_some, chk_t (by rw [bs_size, bs_size]; simp; omega), bs_append, List.append_assoc]
    | succ d =>
      rw [cond_f (by omega), wsucc (by omega)]
      exact typeTextR_l hn k hk ha ha2 hb hb2 d (i + 1) m (by omega) (by omega)
theorem typeTextR_eq {n : Nat} (hn : 1001 ≤ n) {k a b : Int} (hk : k = 0 ∨ k = 1 ∨ k = 2 ∨ k = 3) (ha : 0 ≤ a) (ha2 : a ≤ 256) (hb : 0 ≤ b) (hb2 : b ≤ 15) : Q38.F n k a b = some (bs (tText k a b)) := by
  obtain ⟨x, rfl⟩ := Int.eq_ofNat_of_zero_le (a := k) (by omega)
  unfold Q38.F Q38.e
  exact typeTextR_l hn x (by omega) ha ha2 hb hb2 x 0 n (by omega) (by omega)
theorem awake_eq (n : Nat) : Q2j.F n = some true := rfl
end Go.Proofs.YtmpglmcjoelciaaGreatDoor.Ev
namespace Go.Proofs.YtmpglmcjoelciaaGreatDoor.Ev
open Go Go.Proofs Go.Proofs.Ev
set_option linter.unusedVariables false
set_option maxRecDepth 100000
abbrev Q0s.A := ByteArray
abbrev Q0s.T := Bool
def Q0s.i : Q0s.A → List AV := fun a0 => [vs a0]
def Q0s.o (xs : List AV) : Option Q0s.A := match xs with | [.v (.string a0)] => some a0 | _ => none
theorem Q0s.oi : ∀ xs a, Q0s.o xs = some a → xs = Q0s.i a := by
  intro xs a h
  unfold Q0s.o at h
  split at h
  · cases h; rfl
  · cases h
def Q0s.p (p : Q0s.T) : AV := vb p
def Q0s.q (x : AV) : Option Q0s.T := match x with | .v (.bool p0) => some p0 | _ => none
theorem Q0s.qi : ∀ x p, Q0s.q x = some p → x = Q0s.p p := by
  intro x p h
  unfold Q0s.q at h
  split at h
  · cases h; rfl
  · cases h
inductive Q0s.Z where
  | z2 (z1 z2 : Int) (z3 : List AV)
def Q0s.C {R : Type} (n : Nat) (f : FuncId) (xs : List AV) : (AV → Option R) → Option R :=
  fun _ => none
theorem Q0s.tells {R : Type} (n : Nat) : Tells (R := R) Tryz.prog (Q0s.C n) := fun _ xs => Tells1.none
def Q0s.cut (r : Nat) : Option Keep := match r with | 2 => some ⟨[6, 7, 8], []⟩ | _ => none
def Q0s.t (z : Q0s.Z) : List Item := (todoOf (match z with | .z2 _ _ _ => 2) 1000 [.code (Tryz.f46.body.getD .skip)]).getD []
def Q0s.s : Q0s.Z → St
  | .z2 z1 z2 z3 => ⟨spr 19 0 [(6, .own 0 0 none), (7, vi z1), (8, vi z2)], Mem.ofList [.row ⟨true, 5⟩ 1 z3], 1⟩
def Q0s.r2 (n : Nat) (c : Q0s.Z → Option Bool) (z1 z2 : Int) (z3 : List AV) : Option Bool :=
  bif decide (z2 < z1) then (bif decide ((0 : Int) ≤ z2) && decide (z2 < ((z3.length : Nat) : Int)) then (withCons ((z3.getD ((z2).toNat) .undef).cells) fun h2 r3 =>
  withInt .u8 h2 fun x4 =>
  bif decide (x4 < 32) then (some false) else (bif decide (x4 > 126) then (some false) else (c (.z2 z1 (IntKind.i64.wrap (z2 + 1)) z3)))) else none) else (some true)
def Q0s.r (n : Nat) (c : Q0s.Z → Option Bool) : Q0s.Z → Option Bool
  | .z2 z1 z2 z3 => Q0s.r2 n c z1 z2 z3
def Q0s.e (n : Nat) (c : Q0s.Z → Option Bool) (a0 : ByteArray) : Option Bool :=
  let y1 : List AV := a0.toList.map fun b => vu b.toNat
  c (.z2 ((y1.length : Nat) : Int) 0 y1)
def Q0s.E (n : Nat) (c : Q0s.Z → Option Bool) : Q0s.A → Option Q0s.T := fun a0 => Q0s.e n c a0
def Q0s.l (n : Nat) : Nat → Q0s.Z → Option Bool := loopL (Q0s.r n)
def Q0s.F (n : Nat) (a0 : ByteArray) : Option Bool := Q0s.e n (Q0s.l n n) a0
def Q0s.FA (n : Nat) : Q0s.A → Option Q0s.T := Q0s.E n (Q0s.l n n)
theorem Q0s.hands (n : Nat) : ∀ a p, Q0s.FA n a = some p → HandsIn Tryz.prog 46 (Q0s.i a) (Q0s.p p) :=
  pf_hands (C := Q0s.C n) (cut := Q0s.cut) (t := Q0s.t) (s := Q0s.s) (e := Q0s.E n) (r := Q0s.r n) (n := n) cfg mixed globs rfl Q0s.qi (Q0s.tells n) Tryz.func46 (by kernel_rfl) (by kernel_rfl) (fun rec a => by kernel_rfl) (fun rec z => by cases z <;> kernel_rfl)
def Q0s.via {R : Type} (n : Nat) : List AV → (AV → Option R) → Option R := viaK (Q0s.FA n) Q0s.o Q0s.p
theorem Q0s.tells1 {R : Type} (n : Nat) (xs : List AV) : Tells1 (R := R) Tryz.prog 46 xs (Q0s.via n xs) := tells_via Q0s.oi (fun a => by kernel_rfl) (Q0s.hands n) xs
end Go.Proofs.YtmpglmcjoelciaaGreatDoor.Ev
namespace Go.Proofs.YtmpglmcjoelciaaGreatDoor.Ev
open Go Go.Proofs Go.Proofs.Ev
set_option linter.unusedVariables false
set_option maxRecDepth 100000
inductive Q14.Z where
  | z2 (z1 : ByteArray) (z2 : Int)
def Q14.r2 (n : Nat) (c : Q14.Z → Option Int) (z1 : ByteArray) (z2 : Int) : Option Int :=
  let y1 : Bool := decide (z2 < ((z1.size : Nat) : Int))
  bif y1 then (bif decide ((0 : Int) ≤ z2) && decide (z2 < ((z1.size : Nat) : Int)) then (let y2 : Int := (((z1.data.getD ((z2).toNat) 0).toNat : Nat) : Int)
  bif y2 != 39 then (c (.z2 z1 (IntKind.i64.wrap (z2 + 1)))) else (let y3 : Bool := decide ((IntKind.i64.wrap (z2 + 1)) < ((z1.size : Nat) : Int))
  bif y3 then (bif decide ((0 : Int) ≤ IntKind.i64.wrap (z2 + 1)) && decide (IntKind.i64.wrap (z2 + 1) < ((z1.size : Nat) : Int)) then (let y4 : Int := (((z1.data.getD ((IntKind.i64.wrap (z2 + 1)).toNat) 0).toNat : Nat) : Int)
  bif y4 == 39 then (let y5 : Int := IntKind.i64.wrap ((IntKind.i64.wrap (z2 + 1)) + 1)
  c (.z2 z1 y5)) else (some (IntKind.i64.wrap (z2 + 1)))) else none) else (some (IntKind.i64.wrap (z2 + 1))))) else none) else (some 0)
def Q14.r (n : Nat) (c : Q14.Z → Option Int) : Q14.Z → Option Int
  | .z2 z1 z2 => Q14.r2 n c z1 z2
def Q14.l (n : Nat) : Nat → Q14.Z → Option Int := loopL (Q14.r n)
end Go.Proofs.YtmpglmcjoelciaaGreatDoor.Ev
namespace Go.Proofs.YtmpglmcjoelciaaGreatDoor.Ev
open Go Go.Proofs Go.Proofs.Ev
set_option linter.unusedVariables false
set_option maxRecDepth 100000
abbrev Q1y.A := List AV × List AV
abbrev Q1y.T := Bool
def Q1y.i : Q1y.A → List AV := fun (a0, a1) => [.sl ⟨true, 9⟩ 1 a0, .sl ⟨true, 9⟩ 1 a1]
def Q1y.o (xs : List AV) : Option Q1y.A := match xs with | [.sl ⟨true, 9⟩ 1 a0, .sl ⟨true, 9⟩ 1 a1] => some (a0, a1) | _ => none
theorem Q1y.oi : ∀ xs a, Q1y.o xs = some a → xs = Q1y.i a := by
  intro xs a h
  unfold Q1y.o at h
  split at h
  · cases h; rfl
  · cases h
def Q1y.p (p : Q1y.T) : AV := vb p
def Q1y.q (x : AV) : Option Q1y.T := match x with | .v (.bool p0) => some p0 | _ => none
theorem Q1y.qi : ∀ x p, Q1y.q x = some p → x = Q1y.p p := by
  intro x p h
  unfold Q1y.q at h
  split at h
  · cases h; rfl
  · cases h
inductive Q1y.Z where
  | z4 (z1 z2 : List AV) (z3 : Int)
def Q1y.C {R : Type} (n : Nat) (f : FuncId) (xs : List AV) : (AV → Option R) → Option R :=
  fun _ => none
theorem Q1y.tells {R : Type} (n : Nat) : Tells (R := R) Tryz.prog (Q1y.C n) := fun _ xs => Tells1.none
def Q1y.cut (r : Nat) : Option Keep := match r with | 4 => some ⟨[0, 1, 5], []⟩ | _ => none
def Q1y.t (z : Q1y.Z) : List Item := (todoOf (match z with | .z4 _ _ _ => 4) 1000 [.code (Tryz.f15.body.getD .skip)]).getD []
def Q1y.s : Q1y.Z → St
  | .z4 z1 z2 z3 => ⟨spr 26 0 [(0, .sl ⟨true, 9⟩ 1 z1), (1, .sl ⟨true, 9⟩ 1 z2), (5, vi z3)], Mem.ofList [], 0⟩
def Q1y.r4 (n : Nat) (c : Q1y.Z → Option Bool) (z1 z2 : List AV) (z3 : Int) : Option Bool :=
  let y2 : Bool := decide (z3 < ((z1.length : Nat) : Int))
  bif y2 then (bif decide ((0 : Int) ≤ z3) && decide (z3 < ((z1.length : Nat) : Int)) then (withCons ((z1.getD ((z3).toNat) .undef).cells) fun h3 r4 =>
  withStr h3 fun s5 =>
  bif decide ((0 : Int) ≤ z3) && decide (z3 < ((z2.length : Nat) : Int)) then (withCons ((z2.getD ((z3).toNat) .undef).cells) fun h6 r7 =>
  withStr h6 fun s8 =>
  bif !(s5.toList == s8.toList) then (some false) else (c (.z4 z1 z2 (IntKind.i64.wrap (z3 + 1))))) else none) else none) else (some true)
def Q1y.r (n : Nat) (c : Q1y.Z → Option Bool) : Q1y.Z → Option Bool
  | .z4 z1 z2 z3 => Q1y.r4 n c z1 z2 z3
def Q1y.e (n : Nat) (c : Q1y.Z → Option Bool) (a0 a1 : List AV) : Option Bool :=
  let y1 : Bool := ((a0.length : Nat) : Int) != ((a1.length : Nat) : Int)
  bif y1 then (some false) else (c (.z4 a0 a1 0))
def Q1y.E (n : Nat) (c : Q1y.Z → Option Bool) : Q1y.A → Option Q1y.T := fun (a0, a1) => Q1y.e n c a0 a1
def Q1y.l (n : Nat) : Nat → Q1y.Z → Option Bool := loopL (Q1y.r n)
def Q1y.F (n : Nat) (a0 a1 : List AV) : Option Bool := Q1y.e n (Q1y.l n n) a0 a1
def Q1y.FA (n : Nat) : Q1y.A → Option Q1y.T := Q1y.E n (Q1y.l n n)
theorem Q1y.hands (n : Nat) : ∀ a p, Q1y.FA n a = some p → HandsIn Tryz.prog 15 (Q1y.i a) (Q1y.p p) :=
  pf_hands (C := Q1y.C n) (cut := Q1y.cut) (t := Q1y.t) (s := Q1y.s) (e := Q1y.E n) (r := Q1y.r n) (n := n) cfg mixed globs rfl Q1y.qi (Q1y.tells n) Tryz.func15 (by kernel_rfl) (by kernel_rfl) (fun rec a => by kernel_rfl) (fun rec z => by cases z <;> kernel_rfl)
def Q1y.via {R : Type} (n : Nat) : List AV → (AV → Option R) → Option R := viaK (Q1y.FA n) Q1y.o Q1y.p
theorem Q1y.tells1 {R : Type} (n : Nat) (xs : List AV) : Tells1 (R := R) Tryz.prog 15 xs (Q1y.via n xs) := tells_via Q1y.oi (fun a => by kernel_rfl) (Q1y.hands n) xs
end Go.Proofs.YtmpglmcjoelciaaGreatDoor.Ev
namespace Go.Proofs.YtmpglmcjoelciaaGreatDoor.Ev
open Go Go.Proofs Go.Proofs.Ev
set_option linter.unusedVariables false
def qt : List UInt8 → Nat → Option Nat
  | [], _ => none
  | c :: r, i => if c ≠ 39 then qt r (i + 1) else match r with
    | [] => some (i + 1)
    | d :: r' => if d = 39 then qt r' (i + 2) else some (i + 1)
theorem byte_ne (c u : UInt8) (k : Nat) (hu : u.toNat = k) : ((((c.toNat : Nat) : Int)) != ((k : Nat) : Int)) = decide (c ≠ u) := by
  have : (((c.toNat : Nat) : Int) = ((k : Nat) : Int)) ↔ c = u := by
    constructor
    · intro h
      apply UInt8.toNat_inj.1
      omega
    · rintro rfl
      omega
  rw [Bool.eq_iff_iff, bne_iff_ne, decide_eq_true_eq]
  exact not_congr this
theorem byte_eq (c u : UInt8) (k : Nat) (hu : u.toNat = k) : ((((c.toNat : Nat) : Int)) == ((k : Nat) : Int)) = decide (c = u) := by
  have : (((c.toNat : Nat) : Int) = ((k : Nat) : Int)) ↔ c = u := by
    constructor
    · intro h
      apply UInt8.toNat_inj.1
      omega
    · rintro rfl
      omega
  rw [Bool.eq_iff_iff, beq_iff_eq, decide_eq_true_eq]
  exact this
theorem quoted_l (n : Nat) (l : List UInt8) (hl : l.length ≤ 100000) : ∀ (d i m : Nat), i + d = l.length → d < m → Q14.l n m (.z2 (bs l) i) = some (((qt (l.drop i) i).getD 0 : Nat) : Int)
  | _, _, 0, _, h => absurd h (by omega)
  | 0, i, m + 1, h, _ => by
    show Q14.r2 n (Q14.l n m) (bs l) i = _
    unfold Q14.r2
    simp only [bs_size]
    rw [cond_f (by omega), List.drop_of_length_le (by omega)]
    rfl
  | d + 1, i, m + 1, h, hm => by
    have hi : i < l.length := by omega
    show Q14.r2 n (Q14.l n m) (bs l) i = _
    unfold Q14.r2
    simp only [bs_size, within_t hi, Int.toNat_natCast, getD_at hi, cond_true]
    rw [cond_t (by omega), List.drop_eq_getElem_cons hi, show (39 : Int) = ((39 : Nat) : Int) from rfl, byte_ne _ 39 39 rfl, wsucc (by omega)]
    unfold qt
    by_cases hc : l[i] = 39
    · rw [cond_f (by simp [hc]), if_neg (by simp [hc])]
      by_cases h1 : i + 1 < l.length
      · simp only [within_t h1, Int.toNat_natCast, getD_at h1, cond_true, byte_eq _ 39 39 rfl]
        rw [cond_t (by omega), List.drop_eq_getElem_cons h1]
        simp only
        by_cases hd : l[i + 1] = 39
        · rw [cond_t hd, if_pos hd, wsucc (by omega)]
          cases d with
          | zero => omega
          | succ d => exact quoted_l n l hl d (i + 2) m (by omega) (by omega)
        · rw [cond_f hd, if_neg hd]
          rfl
      · rw [cond_f (by omega), List.drop_of_length_le (by omega)]
        rfl
    · rw [cond_t (by simpa using hc), if_pos hc]
      exact quoted_l n l hl d (i + 1) m (by omega) (by omega)
def Ws (ws : List (List UInt8)) : List AV := ws.map fun w => vs (bs w)
theorem Ws_snoc (a : List (List UInt8)) (w : List UInt8) : Ws a ++ [vs (bs w)] = Ws (a ++ [w]) := by simp [Ws]
theorem Ws_length (a : List (List UInt8)) : (Ws a).length = a.length := by simp [Ws]
def okc (c : UInt8) : Bool := decide (32 ≤ c.toNat) && decide (c.toNat ≤ 126)
theorem writable_l (n : Nat) (l : List UInt8) (hl : l.length ≤ 100000) : ∀ (d i m : Nat), i + d = l.length → d < m → Q0s.l n m (.z2 l.length i (l.map fun b => vu b.toNat)) = some ((l.drop i).all okc)
  | _, _, 0, _, h => absurd h (by omega)
  | 0, i, m + 1, h, _ => by
    show Q0s.r2 n (Q0s.l n m) l.length i _ = _
    unfold Q0s.r2
    rw [cond_f (by omega), List.drop_of_length_le (by omega)]
    rfl
  | d + 1, i, m + 1, h, hm => by
    have hi : i < l.length := by omega
    have ih := writable_l n l hl d (i + 1) m (by omega) (by omega)
    show Q0s.r2 n (Q0s.l n m) l.length i _ = _
    unfold Q0s.r2
    have e : (l.map fun b => vu b.toNat).getD (((i : Nat) : Int)).toNat AV.undef = vu l[i].toNat := by simp [List.getD_eq_getElem?_getD, hi]
    rw [cond_t (by omega), List.length_map, within_t hi, cond_true, e, List.drop_eq_getElem_cons hi, List.all_cons]
    show (bif decide (((l[i].toNat : Nat) : Int) < 32) then some false else bif decide (((l[i].toNat : Nat) : Int) > 126) then some false else _) = _
    by_cases h1 : l[i].toNat < 32
    · rw [cond_t (by omega)]
      have : okc l[i] = false := by simp [okc]; omega
      rw [this]; rfl
    · rw [cond_f (by omega)]
      by_cases h2 : l[i].toNat > 126
      · rw [cond_t (by omega)]
        have : okc l[i] = false := by simp [okc]; omega
        rw [this]; rfl
      · rw [cond_f (by omega)]
        have : okc l[i] = true := by simp [okc]; omega
        rw [this, wsucc (by omega), ih, Bool.true_and]
theorem writable_eq {n : Nat} (l : List UInt8) (hl : l.length ≤ 100000) (hn : 100002 ≤ n) : Q0s.F n (bs l) = some (l.all okc) := by
  unfold Q0s.F Q0s.e
  simp only [bs_toList, List.length_map]
  exact writable_l n l hl l.length 0 n (by omega) (by omega)
end Go.Proofs.YtmpglmcjoelciaaGreatDoor.Ev
namespace Go.Proofs.YtmpglmcjoelciaaGreatDoor.Ev
open Go Go.Proofs Go.Proofs.Ev
set_option linter.unusedVariables false
def nmL (c : UInt8) : Bool := (decide (65 ≤ c.toNat) && decide (c.toNat ≤ 90)) || (decide (c = 35) || (decide (c = 36) || decide (c = 64)))
def nmO (c : UInt8) : Bool := isD c || (decide (c = 95) || decide (c = 46))
def chkN : Nat → List UInt8 → Bool
  | _, [] => true
  | i, c :: r => (nmL c || (decide (i ≠ 0) && nmO c)) && chkN (i + 1) r
theorem chkN_cons (i : Nat) (c : UInt8) (r : List UInt8) : chkN i (c :: r) = ((nmL c || (decide (i ≠ 0) && nmO c)) && chkN (i + 1) r) := rfl
def isNm (l : List UInt8) : Bool := (decide (1 ≤ l.length) && decide (l.length ≤ 10)) && chkN 0 l
theorem let3 {α : Type} (f : Bool → α) (a b c d e : Bool) : (bif a then (bif b then f true else (bif c then f true else (bif d then f true else f e))) else (bif c then f true else (bif d then f true else f e))) = f ((a && b) || (c || (d || e))) := by
  cases a <;> cases b <;> cases c <;> cases d <;> rfl
theorem let2 {α : Type} (g : Bool → α) (a b c d : Bool) : (bif a then (bif b then g true else (bif c then g true else g d)) else (bif c then g true else g d)) = g ((a && b) || (c || d)) := by
  cases a <;> cases b <;> cases c <;> rfl
theorem le_byte (c : UInt8) (k : Nat) : decide ((k : Int) ≤ ((c.toNat : Nat) : Int)) = decide (k ≤ c.toNat) := by rw [decide_eq_decide]; omega
theorem byte_le2 (c : UInt8) (k : Nat) : decide (((c.toNat : Nat) : Int) ≤ (k : Int)) = decide (c.toNat ≤ k) := by rw [decide_eq_decide]; omega
theorem isName_l (n : Nat) (l : List UInt8) (hl : l.length ≤ 1000) : ∀ (d i m : Nat), i + d = l.length → 3 * d < m → Q0r.l n m (.z4 l.length i (l.map fun b => vu b.toNat)) = some (chkN i (l.drop i))
  | _, _, 0, _, h => absurd h (by omega)
  | 0, i, m + 1, h, _ => by
    rw [Q0r.at4]
    unfold Q0r.r4
    rw [cond_f (by omega), List.drop_of_length_le (by omega)]
    rfl
  | d + 1, i, m + 1, h, hm => by
    have hi : i < l.length := by omega
    obtain ⟨m, rfl⟩ : ∃ q, m = q + 2 := ⟨m - 2, by omega⟩
    have ih := isName_l n l hl d (i + 1) m (by omega) (by omega)
    have e : (l.map fun b => vu b.toNat).getD (((i : Nat) : Int)).toNat AV.undef = vu l[i].toNat := by simp [List.getD_eq_getElem?_getD, hi]
    have h8 : ∀ z2 z3, Q0r.l n (m + 1) (.z8 i z2 z3 l.length i (l.map fun b => vu b.toNat)) = some ((z2 || (decide (i ≠ 0) && z3)) && chkN (i + 1) (l.drop (i + 1))) := by
      intro z2 z3
      rw [Q0r.at8]
      unfold Q0r.r8
      rw [wsucc (by omega), ih, beq_int]
      cases z2 with
      | true => rfl
      | false =>
        by_cases h0 : i = 0
        · subst h0; rfl
        · rw [Bool.not_false, cond_true, cond_f (by omega)]
          cases z3 <;> simp [h0]
    have h7 : ∀ b, Q0r.l n (m + 2) (.z7 i ((l[i].toNat : Nat) : Int) b l.length i (l.map fun b => vu b.toNat)) = some ((b || (decide (i ≠ 0) && nmO l[i])) && chkN (i + 1) (l.drop (i + 1))) := by
      intro b
      rw [Q0r.at7]
      unfold Q0r.r7
      rw [let2 (fun q => Q0r.l n (m + 1) (.z8 i b q l.length i (l.map fun b => vu b.toNat))), h8]
      unfold nmO isD
      rw [show (48 : Int) = ((48 : Nat) : Int) from rfl, le_byte, show (57 : Int) = ((57 : Nat) : Int) from rfl, byte_le2, show (95 : Int) = ((95 : Nat) : Int) from rfl, byte_eq _ 95 95 rfl, show (46 : Int) = ((46 : Nat) : Int) from rfl, byte_eq _ 46 46 rfl]
    rw [Q0r.at4]
    unfold Q0r.r4
    rw [cond_t (by omega), List.length_map, within_t hi, cond_true, e, List.drop_eq_getElem_cons hi]
    show (bif decide ((65 : Int) ≤ ((l[i].toNat : Nat) : Int)) then _ else _) = _
    rw [let3 (fun q => Q0r.l n (m + 2) (.z7 i ((l[i].toNat : Nat) : Int) q l.length i (l.map fun b => vu b.toNat))), h7]
    rw [chkN_cons]
    unfold nmL
    rw [show (65 : Int) = ((65 : Nat) : Int) from rfl, le_byte, show (90 : Int) = ((90 : Nat) : Int) from rfl, byte_le2, show (35 : Int) = ((35 : Nat) : Int) from rfl, byte_eq _ 35 35 rfl, show (36 : Int) = ((36 : Nat) : Int) from rfl, byte_eq _ 36 36 rfl,
      show (64 : Int) = ((64 : Nat) : Int) from rfl, byte_eq _ 64 64 rfl]
theorem isName_eq {n : Nat} (hn : 1001 ≤ n) (l : List UInt8) : Q0r.F n (bs l) = some (isNm l) := by
  unfold Q0r.F Q0r.e isNm
  rw [empty_eq]
  simp only [bs_size, bs_toList, List.length_map]
  by_cases h0 : l = []
  · rw [cond_t h0]
    subst h0
    rfl
  · have hpos : 0 < l.length := List.length_pos_iff.2 h0
    rw [cond_f h0]
    by_cases h1 : l.length > 10
    · rw [cond_t (by omega)]
      have : decide (l.length ≤ 10) = false := by rw [decide_eq_false_iff_not]; omega
      rw [this]; simp
    · rw [cond_f (by omega)]
      have h2 : decide (l.length ≤ 10) = true := by rw [decide_eq_true_eq]; omega
      have h3 : decide (1 ≤ l.length) = true := by rw [decide_eq_true_eq]; omega
      rw [h2, h3]
      have := isName_l n l (by omega) l.length 0 n (by omega) (by omega)
      rw [List.drop_zero] at this
      exact this
theorem isUpper_eq (n : Nat) (c : UInt8) : Q1u.F n ((c.toNat : Nat) : Int) = some (decide (65 ≤ c.toNat) && decide (c.toNat ≤ 90)) := by
  unfold Q1u.F Q1u.e
  rw [show (65 : Int) = ((65 : Nat) : Int) from rfl, le_byte, show (90 : Int) = ((90 : Nat) : Int) from rfl, byte_le2]
  cases decide (65 ≤ c.toNat) <;> rfl
theorem isDig_eq (n : Nat) (c : UInt8) : Q1s.F n ((c.toNat : Nat) : Int) = some (isD c) := by
  unfold Q1s.F Q1s.e isD
  rw [show (48 : Int) = ((48 : Nat) : Int) from rfl, le_byte, show (57 : Int) = ((57 : Nat) : Int) from rfl, byte_le2]
  cases decide (48 ≤ c.toNat) <;> rfl
theorem let3' {α : Type} (f : Bool → α) (p c d e : Bool) : (bif p then f true else (bif c then f true else (bif d then f true else f e))) = f (p || (d || (c || e))) := by
  cases p <;> cases c <;> cases d <;> rfl
theorem isNameR_l (n : Nat) (l : List UInt8) (hl : l.length ≤ 1000) : ∀ (d i m : Nat), i + d = l.length → 3 * d < m → Q1t.l n m (.z4 (bs l) i) = some (chkN i (l.drop i))
  | _, _, 0, _, h => absurd h (by omega)
  | 0, i, m + 1, h, _ => by
    rw [Q1t.at4]
    unfold Q1t.r4
    simp only [bs_size]
    rw [cond_f (by omega), List.drop_of_length_le (by omega)]
    rfl
  | d + 1, i, m + 1, h, hm => by
    have hi : i < l.length := by omega
    obtain ⟨m, rfl⟩ : ∃ q, m = q + 2 := ⟨m - 2, by omega⟩
    have ih := isNameR_l n l hl d (i + 1) m (by omega) (by omega)
    have h5 : Q1t.l n (m + 1) (.z5 (bs l) i) = some (chkN (i + 1) (l.drop (i + 1))) := by
      rw [Q1t.at5]
      unfold Q1t.r5
      rw [wsucc (by omega), ih]
    have h8 : ∀ b, Q1t.l n (m + 2) (.z8 (bs l) i ((l[i].toNat : Nat) : Int) b) = some ((b || (decide (i ≠ 0) && nmO l[i])) && chkN (i + 1) (l.drop (i + 1))) := by
      intro b
      rw [Q1t.at8]
      unfold Q1t.r8
      rw [isDig_eq, Option.bind_some, h5, beq_int, show (95 : Int) = ((95 : Nat) : Int) from rfl, byte_ne _ 95 95 rfl, show (46 : Int) = ((46 : Nat) : Int) from rfl, byte_ne _ 46 46 rfl]
      unfold nmO
      cases b with
      | true => rfl
      | false =>
        by_cases h0 : i = 0
        · subst h0; rfl
        · rw [Bool.not_false, cond_true, cond_f (by omega)]
          by_cases h1 : l[i] = 95 <;> by_cases h2 : l[i] = 46 <;> cases isD l[i] <;> simp [h0, h1, h2]
    rw [Q1t.at4]
    unfold Q1t.r4
    simp only [bs_size, within_t hi, Int.toNat_natCast, getD_at hi, cond_true]
    rw [cond_t (by omega), isUpper_eq, Option.bind_some, let3' (fun q => Q1t.l n (m + 2) (.z8 (bs l) i ((l[i].toNat : Nat) : Int) q)), h8, List.drop_eq_getElem_cons hi]
    rw [chkN_cons]
    unfold nmL
    rw [show (35 : Int) = ((35 : Nat) : Int) from rfl, byte_eq _ 35 35 rfl, show (36 : Int) = ((36 : Nat) : Int) from rfl, byte_eq _ 36 36 rfl,
      show (64 : Int) = ((64 : Nat) : Int) from rfl, byte_eq _ 64 64 rfl]
theorem isNameR_eq {n : Nat} (hn : 1001 ≤ n) (l : List UInt8) : Q1t.F n (bs l) = some (isNm l) := by
  unfold Q1t.F Q1t.e isNm
  rw [Within_eq, Option.bind_some, bs_size]
  have e : decide ((1 : Int) ≤ ((l.length : Nat) : Int) ∧ ((l.length : Nat) : Int) ≤ 10) = (decide (1 ≤ l.length) && decide (l.length ≤ 10)) := by
    rw [← Bool.decide_and, decide_eq_decide]; omega
  rw [e]
  cases h : (decide (1 ≤ l.length) && decide (l.length ≤ 10)) with
  | false => rfl
  | true =>
    rw [Bool.and_eq_true, decide_eq_true_eq, decide_eq_true_eq] at h
    have := isNameR_l n l (by omega) l.length 0 n (by omega) (by omega)
    rw [List.drop_zero] at this
    exact this
def ixs : List (List UInt8) → List UInt8 → Nat → Int
  | [], _, _ => -1
  | w :: r, s, i => if w = s then (i : Int) else ixs r s (i + 1)
theorem ixs_cons (w : List UInt8) (r : List (List UInt8)) (s : List UInt8) (i : Nat) : ixs (w :: r) s i = if w = s then (i : Int) else ixs r s (i + 1) := rfl
theorem ixs_has : ∀ (ws : List (List UInt8)) (s : List UInt8) (i : Nat), decide (ixs ws s i ≥ 0) = ws.contains s
  | [], s, i => by simp [ixs]
  | w :: r, s, i => by
    unfold ixs
    rw [List.contains_cons]
    by_cases h : w = s
    · subst h; simp
    · have : (s == w) = false := by simpa using fun e => h e.symm
      rw [if_neg h, this, Bool.false_or, ixs_has r s (i + 1)]
theorem ixs_lt : ∀ (ws : List (List UInt8)) (s : List UInt8) (i k : Nat), k < ws.length → ws[k]? = some s → decide (ixs ws s i < ((i + k : Nat) : Int)) = (ws.take k).contains s
  | w :: r, s, i, 0, _, h => by
    simp at h
    subst h
    simp [ixs]
  | w :: r, s, i, k + 1, hk, h => by
    unfold ixs
    rw [List.take_succ_cons, List.contains_cons]
    by_cases e : w = s
    · subst e; simp; omega
    · have : (s == w) = false := by simpa using fun e' => e e'.symm
      rw [if_neg e, this, Bool.false_or, ← ixs_lt r s (i + 1) k (by simpa using hk) (by simpa using h), show i + (k + 1) = i + 1 + k by omega]
theorem Ws_getD {ws : List (List UInt8)} {i : Nat} (hi : i < ws.length) : (Ws ws).getD (((i : Nat) : Int)).toNat AV.undef = vs (bs ws[i]) := by simp [Ws, List.getD_eq_getElem?_getD, hi]
theorem str_eq (a b : List UInt8) : ((bs a).toList == (bs b).toList) = decide (a = b) := by
  rw [bs_toList, bs_toList]
  by_cases h : a = b <;> simp [h]
theorem index_l (n : Nat) (ws : List (List UInt8)) (hw : ws.length ≤ 1000) (s : List UInt8) : ∀ (d i m : Nat), i + d = ws.length → d < m → Q4c.l n m (.z2 (Ws ws) (bs s) ws.length i) = some (ixs (ws.drop i) s i)
  | _, _, 0, _, h => absurd h (by omega)
  | 0, i, m + 1, h, _ => by
    rw [Q4c.at2]
    unfold Q4c.r2
    rw [cond_f (by omega), List.drop_of_length_le (by omega)]
    rfl
  | d + 1, i, m + 1, h, hm => by
    have hi : i < ws.length := by omega
    have ih := index_l n ws hw s d (i + 1) m (by omega) (by omega)
    rw [Q4c.at2]
    unfold Q4c.r2
    rw [cond_t (by omega), Ws_length, within_t hi, cond_true, Ws_getD hi, List.drop_eq_getElem_cons hi]
    show (bif ((bs s).toList == (bs ws[i]).toList) then _ else _) = _
    rw [str_eq, wsucc (by omega), ih, ixs_cons]
    by_cases h : s = ws[i]
    · rw [cond_t h, if_pos h.symm]
    · rw [cond_f h, if_neg (fun e => h e.symm)]
theorem contains_str {n : Nat} (hn : 1001 ≤ n) (ws : List (List UInt8)) (hw : ws.length ≤ 1000) (s : List UInt8) : Q48.F n (Ws ws) (bs s) = some (ws.contains s) := by
  unfold Q48.F Q48.e Q4c.F Q4c.e
  have := index_l n ws hw s ws.length 0 n (by omega) (by omega)
  rw [List.drop_zero] at this
  rw [Ws_length, show (0 : Int) = ((0 : Nat) : Int) from rfl, this, Option.bind_some]
  show some (decide (ixs ws s 0 ≥ 0)) = _
  rw [ixs_has]
theorem indexOf_l (n : Nat) (ws : List (List UInt8)) (hw : ws.length ≤ 1000) (s : List UInt8) : ∀ (d i m : Nat), i + d = ws.length → d < m → Q1r.l n m (.z2 (Ws ws) (bs s) i) = some (ixs (ws.drop i) s i)
  | _, _, 0, _, h => absurd h (by omega)
  | 0, i, m + 1, h, _ => by
    rw [Q1r.at2]
    unfold Q1r.r2
    simp only [Ws_length]
    rw [cond_f (by omega), List.drop_of_length_le (by omega)]
    rfl
  | d + 1, i, m + 1, h, hm => by
    have hi : i < ws.length := by omega
    have ih := indexOf_l n ws hw s d (i + 1) m (by omega) (by omega)
    rw [Q1r.at2]
    unfold Q1r.r2
    simp only [Ws_length]
    rw [cond_t (by omega), within_t hi, cond_true, Ws_getD hi, List.drop_eq_getElem_cons hi]
    show (bif ((bs ws[i]).toList == (bs s).toList) then _ else _) = _
    rw [str_eq, wsucc (by omega), ih, ixs_cons]
    by_cases h : ws[i] = s
    · rw [cond_t h, if_pos h]
    · rw [cond_f h, if_neg h]
theorem indexOf_eq {n : Nat} (hn : 1001 ≤ n) (ws : List (List UInt8)) (hw : ws.length ≤ 1000) (s : List UInt8) : Q1r.F n (Ws ws) (bs s) = some (ixs ws s 0) := by
  unfold Q1r.F Q1r.e
  have := indexOf_l n ws hw s ws.length 0 n (by omega) (by omega)
  rw [List.drop_zero] at this
  exact this
theorem nameErr_eq {n : Nat} (hn : 1001 ≤ n) (ws : List (List UInt8)) (hw : ws.length ≤ 1000) (s : List UInt8) : Q0y.F n (bs s) (Ws ws) = some (if isNm s = false then 7 else if ws.contains s then 13 else 0) := by
  unfold Q0y.F Q0y.e
  rw [isName_eq hn, Option.bind_some, cond_eq, Option.bind_some, contains_str hn ws hw, Option.bind_some, cond_eq, Option.bind_some, first2 hn, Option.bind_some]
  cases isNm s <;> cases ws.contains s <;> rfl
theorem Ws_take (ws : List (List UInt8)) (i : Nat) : ((Ws ws).take i).drop 0 = Ws (ws.take i) := by simp [Ws, List.map_take]
theorem Ws_take2 (ws : List (List UInt8)) (i : Nat) : ((Ws ws).drop 0).take i = Ws (ws.take i) := by simp [Ws, List.map_take]
end Go.Proofs.YtmpglmcjoelciaaGreatDoor.Ev
namespace Go.Proofs.YtmpglmcjoelciaaGreatDoor.Ev
open Go Go.Proofs Go.Proofs.Ev
set_option linter.unusedVariables false
structure LF where
  nm : List UInt8
  b : Int
  fd : List UInt8
structure JP where
  fr : Int
  lf : List UInt8
  b : Int
  rt : List UInt8
structure KF where
  nm : List UInt8
  d : Bool
structure CN where
  fd : List UInt8
  op : Int
  n : Int
  s : List UInt8
structure RL where
  om : Bool
  cs : List CN
def LF.av (x : LF) : AV := .agg [vs (bs x.nm), vi x.b, vs (bs x.fd)]
def JP.av (x : JP) : AV := .agg [vi x.fr, vs (bs x.lf), vi x.b, vs (bs x.rt)]
def KF.av (x : KF) : AV := .agg [vs (bs x.nm), vb x.d]
def CN.av (x : CN) : AV := .agg [vs (bs x.fd), vi x.op, vi x.n, vs (bs x.s)]
def RL.av (x : RL) : AV := .agg [vb x.om, .sl ⟨true, 104⟩ 4 (x.cs.map CN.av)]
theorem at_map {α : Type} (f : α → AV) {l : List α} {i : Nat} (hi : i < l.length) : (l.map f).getD (((i : Nat) : Int)).toNat AV.undef = f l[i] := by simp [List.getD_eq_getElem?_getD, hi]
def names (fs : List LF) : List (List UInt8) := fs.map LF.nm
def knames (ks : List KF) : List (List UInt8) := ks.map KF.nm
def Bl (ts : List Bool) : List AV := ts.map vb
theorem Bl_length (ts : List Bool) : (Bl ts).length = ts.length := by simp [Bl]
def ne (before : List (List UInt8)) (s : List UInt8) : Int := if isNm s = false then 7 else if before.contains s then 13 else 0
def bErr (ws : List (List UInt8)) : List (List UInt8) → Nat → Int × Int
  | [], _ => (0, 0)
  | w :: r, i => if ne (ws.take i) w ≠ 0 then ((i : Int), ne (ws.take i) w) else bErr ws r (i + 1)
def fe (nb : Int) (before : List (List UInt8)) (f : LF) : Int := if ne before f.nm ≠ 0 then ne before f.nm else if ¬ (0 ≤ f.b ∧ f.b ≤ nb) then 3 else if isNm f.fd = false then 7 else 0
def fErr (nb : Int) (ns : List (List UInt8)) : List LF → Nat → Int × Int
  | [], _ => (0, 0)
  | f :: r, i => if fe nb (ns.take i) f ≠ 0 then ((i : Int), fe nb (ns.take i) f) else fErr nb ns r (i + 1)
def je (nb last : Int) (j : JP) : Int := if ¬ (1 ≤ j.b ∧ j.b ≤ nb) then 3 else if ¬ (0 ≤ j.fr ∧ j.fr ≤ j.b - 1) then 3 else if isNm j.lf = false then 7 else if isNm j.rt = false then 7 else if j.b < last then 14 else 0
def jErr (nb : Int) : List JP → Nat → Int → List Bool → Int × Int
  | [], _, _, ts => (0, if (ts.drop 1).contains false then 11 else 0)
  | j :: r, i, last, ts => if je nb last j ≠ 0 then ((i : Int), je nb last j) else jErr nb r (i + 1) j.b (ts.set j.b.toNat true)
def ke (ns before : List (List UInt8)) (k : KF) : Int := if ns.contains k.nm = false then 11 else if before.contains k.nm then 13 else 0
def kErr (ns ks : List (List UInt8)) : List KF → Nat → Int × Int
  | [], _ => (0, 0)
  | k :: r, i => if ke ns (ks.take i) k ≠ 0 then ((i : Int), ke ns (ks.take i) k) else kErr ns ks r (i + 1)
def ce (ns : List (List UInt8)) (c : CN) : Int := if ns.contains c.fd = false then 11 else if ¬ (0 ≤ c.op ∧ c.op ≤ 5) then 4 else if ¬ (-999999999999999 ≤ c.n ∧ c.n ≤ 999999999999999) then 3 else if c.s.length > 256 then 2 else if c.n ≠ 0 ∧ c.s ≠ [] then 5 else 0
def cErr (ns : List (List UInt8)) : List CN → Int
  | [] => 0
  | c :: r => if ce ns c ≠ 0 then ce ns c else cErr ns r
def re (ns : List (List UInt8)) (r : RL) : Int := if r.cs.length > 4 then 2 else cErr ns r.cs
def rErr (ns : List (List UInt8)) : List RL → Nat → Int × Int
  | [], _ => (0, 0)
  | r :: rs, i => if re ns r ≠ 0 then ((i : Int), re ns r) else rErr ns rs (i + 1)
theorem bErr_cons (ws : List (List UInt8)) (w : List UInt8) (r : List (List UInt8)) (i : Nat) : bErr ws (w :: r) i = if ne (ws.take i) w ≠ 0 then ((i : Int), ne (ws.take i) w) else bErr ws r (i + 1) := rfl
theorem fErr_cons (nb : Int) (ns : List (List UInt8)) (f : LF) (r : List LF) (i : Nat) : fErr nb ns (f :: r) i = if fe nb (ns.take i) f ≠ 0 then ((i : Int), fe nb (ns.take i) f) else fErr nb ns r (i + 1) := rfl
theorem jErr_cons (nb : Int) (j : JP) (r : List JP) (i : Nat) (last : Int) (ts : List Bool) : jErr nb (j :: r) i last ts = if je nb last j ≠ 0 then ((i : Int), je nb last j) else jErr nb r (i + 1) j.b (ts.set j.b.toNat true) := rfl
theorem kErr_cons (ns ks : List (List UInt8)) (k : KF) (r : List KF) (i : Nat) : kErr ns ks (k :: r) i = if ke ns (ks.take i) k ≠ 0 then ((i : Int), ke ns (ks.take i) k) else kErr ns ks r (i + 1) := rfl
theorem cErr_cons (ns : List (List UInt8)) (c : CN) (r : List CN) : cErr ns (c :: r) = if ce ns c ≠ 0 then ce ns c else cErr ns r := rfl
theorem rErr_cons (ns : List (List UInt8)) (r : RL) (rs : List RL) (i : Nat) : rErr ns (r :: rs) i = if re ns r ≠ 0 then ((i : Int), re ns r) else rErr ns rs (i + 1) := rfl
section
variable {n : Nat} {nm fm : ByteArray} {a2 a4 a5 a7 : List AV} {uq : Bool}
theorem namesOf_l (hn : 1001 ≤ n) (fs : List LF) (hf : fs.length ≤ 1000) : ∀ (d i m : Nat), i + d = fs.length → d < m → Q0z.l n m (.z3 (fs.map LF.av) fs.length i (Ws ((names fs).take i))) = some (Ws (names fs))
  | _, _, 0, _, h => absurd h (by omega)
  | 0, i, m + 1, h, _ => by
    rw [Q0z.at3]
    unfold Q0z.r3
    rw [cond_f (by omega), List.take_of_length_le (by simp [names]; omega)]
  | d + 1, i, m + 1, h, hm => by
    have hi : i < fs.length := by omega
    have ih := namesOf_l hn fs hf d (i + 1) m (by omega) (by omega)
    have hmost : most = 1000000000 := rfl
    have hni : i < (names fs).length := by simp [names]; omega
    have e2 : (names fs)[i] = fs[i].nm := by simp [names]
    rw [Q0z.at3]
    unfold Q0z.r3
    rw [cond_t (by omega), List.length_map, within_t hi, cond_true, at_map LF.av hi]
    show (bif decide ((Ws ((names fs).take i)).length + 1 ≤ most) then (Q0z.l n m (.z3 (fs.map LF.av) fs.length (IntKind.i64.wrap ((i : Int) + 1)) (Ws ((names fs).take i) ++ [vs (bs fs[i].nm)]))) else none) = _
    rw [cond_t (by rw [Ws_length, List.length_take]; omega), wsucc (by omega), Ws_snoc, ← e2, ← List.take_succ_eq_append_getElem hni]
    exact ih
theorem namesOf_eq (hn : 1001 ≤ n) (fs : List LF) (hf : fs.length ≤ 1000) : Q0z.F n nm fm a2 (fs.map LF.av) a4 a5 uq a7 = some (Ws (names fs)) := by
  unfold Q0z.F Q0z.e
  rw [List.length_map]
  exact namesOf_l hn fs hf fs.length 0 n (by omega) (by omega)
theorem basesErr_l (hn : 1001 ≤ n) (ws : List (List UInt8)) (hw : ws.length ≤ 1000) (a3 : List AV) : ∀ (d i m : Nat), i + d = ws.length → d < m → Q0e.l n m (.z5 (Ws ws) ws.length i nm fm (Ws ws) a3 a4 a5 uq a7) = some (bErr ws (ws.drop i) i)
  | _, _, 0, _, h => absurd h (by omega)
  | 0, i, m + 1, h, _ => by
    rw [Q0e.at5]
    unfold Q0e.r5
    rw [cond_f (by omega), List.drop_of_length_le (by omega)]
    rfl
  | d + 1, i, m + 1, h, hm => by
    have hi : i < ws.length := by omega
    have ih := basesErr_l hn ws hw a3 d (i + 1) m (by omega) (by omega)
    rw [Q0e.at5]
    unfold Q0e.r5
    rw [cond_t (by omega), Ws_length, within_t hi, cond_true, Ws_getD hi, upto_t (Nat.le_of_lt hi), List.drop_eq_getElem_cons hi]
    show (Q0y.F n (bs ws[i]) (((Ws ws).take i).drop 0)).bind _ = _
    rw [Ws_take, nameErr_eq hn _ (by rw [List.length_take]; omega), Option.bind_some, wsucc (by omega), ih]
    rw [bErr_cons]
    show (bif ne (ws.take i) ws[i] != 0 then some ((i : Int), ne (ws.take i) ws[i]) else _) = _
    by_cases h0 : ne (ws.take i) ws[i] = 0
    · have : (ne (ws.take i) ws[i] != 0) = false := by simp [h0]
      rw [this, cond_false, if_neg (by simp [h0])]
    · have : (ne (ws.take i) ws[i] != 0) = true := by simp [h0]
      rw [this, cond_true, if_pos h0]
def bErrT (ws : List (List UInt8)) : Int × Int := if ws.length = 0 then (0, 1) else if ws.length > 3 then (0, 2) else bErr ws ws 0
theorem sizes_first {n : Nat} (hn : 1001 ≤ n) (a b : Bool) : Q0m.F n [vi (if a then 1 else 0), vi (if b then 2 else 0)] = some (if a then 1 else if b then 2 else 0) := by
  rw [first2 hn]
  cases a <;> cases b <;> rfl
theorem basesErr_eq (hn : 1001 ≤ n) (ws : List (List UInt8)) (hw : ws.length ≤ 1000) (a3 : List AV) : Q0e.F n nm fm (Ws ws) a3 a4 a5 uq a7 = some (bErrT ws) := by
  unfold Q0e.F Q0e.e bErrT
  simp only [Ws_length]
  rw [cond_eq, Option.bind_some, cond_eq, Option.bind_some, sizes_first hn, Option.bind_some, beq_int]
  by_cases h0 : ws.length = 0
  · have : decide (((ws.length : Nat) : Int) = 0) = true := by rw [decide_eq_true_eq]; omega
    rw [this, if_pos h0]
    rfl
  · have : decide (((ws.length : Nat) : Int) = 0) = false := by rw [decide_eq_false_iff_not]; omega
    rw [this, if_neg h0]
    by_cases h3 : ws.length > 3
    · have : decide (((ws.length : Nat) : Int) > 3) = true := by rw [decide_eq_true_eq]; omega
      rw [this, if_pos h3]
      rfl
    · have : decide (((ws.length : Nat) : Int) > 3) = false := by rw [decide_eq_false_iff_not]; omega
      rw [this, if_neg h3]
      have := basesErr_l (nm := nm) (fm := fm) (a4 := a4) (a5 := a5) (uq := uq) (a7 := a7) hn ws hw a3 ws.length 0 n (by omega) (by omega)
      rw [List.drop_zero] at this
      exact this
theorem fieldsErr_l (hn : 1001 ≤ n) (ws : List (List UInt8)) (hw : ws.length ≤ 1000) (fs : List LF) (hf : fs.length ≤ 1000) : ∀ (d i m : Nat), i + d = fs.length → d < m →
    Q0i.l n m (.z6 (fs.map LF.av) fs.length i nm fm (Ws ws) (fs.map LF.av) a4 a5 uq a7 (Ws (names fs))) = some (fErr ((ws.length : Int) - 1) (names fs) (fs.drop i) i)
  | _, _, 0, _, h => absurd h (by omega)
  | 0, i, m + 1, h, _ => by
    rw [Q0i.at6]
    unfold Q0i.r6
    rw [cond_f (by omega), List.drop_of_length_le (by omega)]
    rfl
  | d + 1, i, m + 1, h, hm => by
    have hi : i < fs.length := by omega
    have hni : (names fs).length = fs.length := by simp [names]
    have ih := fieldsErr_l hn ws hw fs hf d (i + 1) m (by omega) (by omega)
    rw [Q0i.at6]
    unfold Q0i.r6
    rw [cond_t (by omega), List.length_map, within_t hi, cond_true, at_map LF.av hi, List.drop_eq_getElem_cons hi]
    show (bif decide ((0 : Int) ≤ (i : Int)) && decide ((i : Int) ≤ (((Ws (names fs)).length : Nat) : Int)) then ((Q0y.F n (bs fs[i].nm) (((Ws (names fs)).drop 0).take (((i : Int) - 0).toNat))).bind _) else none) = _
    rw [Ws_length, upto_t (by omega), cond_true, show ((i : Int) - 0).toNat = i by omega, Ws_take2, nameErr_eq hn _ (by rw [List.length_take]; omega), Option.bind_some]
    show ((Q0o.F n fs[i].b 0 (IntKind.i64.wrap ((((Ws ws).length : Nat) : Int) - 1))).bind _) = _
    rw [Ws_length, w64 (by omega) (by omega)]
    have hin : Q0o.F n fs[i].b 0 ((ws.length : Int) - 1) = some (decide (0 ≤ fs[i].b ∧ fs[i].b ≤ (ws.length : Int) - 1)) := by
      unfold Q0o.F Q0o.e
      by_cases h : 0 ≤ fs[i].b
      · rw [cond_t h]; simp [h]
      · rw [cond_f h]; simp [h]
    rw [hin, Option.bind_some, cond_eq, Option.bind_some, isName_eq hn, Option.bind_some, cond_eq, Option.bind_some, wsucc (by omega), ih]
    rw [fErr_cons]
    have hfz := first_eq (n := n) [ne ((names fs).take i) fs[i].nm, (if (!decide (0 ≤ fs[i].b ∧ fs[i].b ≤ (ws.length : Int) - 1)) = true then 3 else 0), (if (!isNm fs[i].fd) = true then 7 else 0)] (by simp) hn
    show ((Q0m.F n ([ne ((names fs).take i) fs[i].nm, (if (!decide (0 ≤ fs[i].b ∧ fs[i].b ≤ (ws.length : Int) - 1)) = true then 3 else 0), (if (!isNm fs[i].fd) = true then 7 else 0)].map vi)).bind _) = _
    rw [hfz, Option.bind_some]
    have e : fz [ne ((names fs).take i) fs[i].nm, (if (!decide (0 ≤ fs[i].b ∧ fs[i].b ≤ (ws.length : Int) - 1)) = true then 3 else 0), (if (!isNm fs[i].fd) = true then 7 else 0)] = fe ((ws.length : Int) - 1) ((names fs).take i) fs[i] := by
      unfold fe
      by_cases h1 : ne ((names fs).take i) fs[i].nm = 0
      · by_cases h2 : 0 ≤ fs[i].b ∧ fs[i].b ≤ (ws.length : Int) - 1
        · cases h3 : isNm fs[i].fd <;> simp [fz, h1, h2]
        · simp [fz, h1, h2]
      · simp [fz, h1]
    rw [e]
    by_cases h0 : fe ((ws.length : Int) - 1) ((names fs).take i) fs[i] = 0
    · have : (fe ((ws.length : Int) - 1) ((names fs).take i) fs[i] != 0) = false := by simp [h0]
      rw [this, cond_false, if_neg (by simp [h0])]
    · have : (fe ((ws.length : Int) - 1) ((names fs).take i) fs[i] != 0) = true := by simp [h0]
      rw [this, cond_true, if_pos h0]
def fErrT (ws : List (List UInt8)) (fs : List LF) : Int × Int := if fs.length = 0 then (0, 1) else if fs.length > 20 then (0, 2) else fErr ((ws.length : Int) - 1) (names fs) fs 0
theorem fieldsErr_eq (hn : 1001 ≤ n) (ws : List (List UInt8)) (hw : ws.length ≤ 1000) (fs : List LF) (hf : fs.length ≤ 1000) : Q0i.F n nm fm (Ws ws) (fs.map LF.av) a4 a5 uq a7 = some (fErrT ws fs) := by
  unfold Q0i.F Q0i.e fErrT
  simp only [List.length_map]
  rw [cond_eq, Option.bind_some, cond_eq, Option.bind_some, sizes_first hn, Option.bind_some, beq_int]
  by_cases h0 : fs.length = 0
  · have : decide (((fs.length : Nat) : Int) = 0) = true := by rw [decide_eq_true_eq]; omega
    rw [this, if_pos h0]
    rfl
  · have : decide (((fs.length : Nat) : Int) = 0) = false := by rw [decide_eq_false_iff_not]; omega
    rw [this, if_neg h0]
    by_cases h3 : fs.length > 20
    · have : decide (((fs.length : Nat) : Int) > 20) = true := by rw [decide_eq_true_eq]; omega
      rw [this, if_pos h3]
      rfl
    · have : decide (((fs.length : Nat) : Int) > 20) = false := by rw [decide_eq_false_iff_not]; omega
      rw [this, if_neg h3]
      show ((Q0z.F n nm fm (Ws ws) (fs.map LF.av) a4 a5 uq a7).bind _) = _
      rw [namesOf_eq hn fs hf, Option.bind_some]
      have := fieldsErr_l (nm := nm) (fm := fm) (a4 := a4) (a5 := a5) (uq := uq) (a7 := a7) hn ws hw fs hf fs.length 0 n (by omega) (by omega)
      rw [List.drop_zero] at this
      exact this
end
end Go.Proofs.YtmpglmcjoelciaaGreatDoor.Ev
namespace Go.Proofs.YtmpglmcjoelciaaGreatDoor.Ev
open Go Go.Proofs Go.Proofs.Ev
set_option linter.unusedVariables false
section
variable {R : Type}
theorem cells_agg (cs : List AV) : (AV.agg cs).cells = cs := rfl
theorem cells_v (x : Value) : (AV.v x).cells = [.v x] := rfl
theorem withCons_cons (c : AV) (r : List AV) (K : AV → List AV → Option R) : withCons (c :: r) K = K c r := rfl
theorem withInt_mk (k : IntKind) (n : Int) (K : Int → Option R) : withInt k (.v (.int k n)) K = K n := by simp [withInt]
theorem withStr_mk (s : ByteArray) (K : ByteArray → Option R) : withStr (.v (.string s)) K = K s := rfl
theorem withBool_mk (b : Bool) (K : Bool → Option R) : withBool (.v (.bool b)) K = K b := rfl
theorem withSl_mk (fl : Fl) (sz : Nat) (xs : List AV) (K : List AV → Option R) : withSl fl sz (.sl fl sz xs) K = K xs := by
  have : (fl == fl) = true := by simp
  simp [withSl]
theorem bif_ite {p : Prop} [Decidable p] (x y : R) : (bif decide p then x else y) = if p then x else y := by by_cases h : p <;> simp [h]
theorem bif_eq0 (a b : Int) (x y : R) : (bif a == b then x else y) = if a = b then x else y := by
  show (bif decide (a = b) then x else y) = _
  exact bif_ite x y
theorem at_mapN {α : Type} (f : α → AV) {l : List α} {i : Nat} (hi : i < l.length) : (l.map f).getD i AV.undef = f l[i] := by simp [List.getD_eq_getElem?_getD, hi]
theorem Ws_getDN {ws : List (List UInt8)} {i : Nat} (hi : i < ws.length) : (Ws ws).getD i AV.undef = vs (bs ws[i]) := by simp [Ws, List.getD_eq_getElem?_getD, hi]
end
end Go.Proofs.YtmpglmcjoelciaaGreatDoor.Ev
namespace Go.Proofs.YtmpglmcjoelciaaGreatDoor.Ev
open Go Go.Proofs Go.Proofs.Ev
set_option linter.unusedVariables false
section
variable {n : Nat} {nm fm : ByteArray} {a3 a4 a5 a7 : List AV} {uq : Bool}
theorem din_eq (n : Nat) (a b c : Int) : Q0o.F n a b c = some (decide (b ≤ a ∧ a ≤ c)) := by
  unfold Q0o.F Q0o.e
  by_cases h : b ≤ a
  · rw [cond_t h]; simp [h]
  · rw [cond_f h]; simp [h]
theorem bif_ne {α : Type} (e : Int) (x y : α) : (bif e != 0 then x else y) = if e ≠ 0 then x else y := by
  by_cases h : e = 0
  · have h1 : (e != 0) = false := by simp [h]
    rw [h1, if_neg (by simp [h])]; rfl
  · have h1 : (e != 0) = true := by simp [h]
    rw [h1, if_pos h]; rfl
theorem cond_yes {α : Type} {b : Bool} (h : b = true) (x y : α) : (bif b then x else y) = x := by rw [h]; rfl
theorem some_ite {α : Type} {p : Prop} [Decidable p] (x y : α) : (if p then some x else some y) = some (if p then x else y) := by split <;> rfl
theorem Bl_getD {ts : List Bool} {i : Nat} (hi : i < ts.length) : (Bl ts).getD (((i : Nat) : Int)).toNat AV.undef = vb ts[i] := by simp [Bl, List.getD_eq_getElem?_getD, hi]
theorem indexB_l (n : Nat) (ts : List Bool) (hw : ts.length ≤ 1000) : ∀ (d i m : Nat), i + d = ts.length → d < m → ∃ q, Q4b.l n m (.z2 (Bl ts) false ts.length i) = some q ∧ decide (q ≥ 0) = (ts.drop i).contains false
  | _, _, 0, _, h => absurd h (by omega)
  | 0, i, m + 1, h, _ => by
    refine ⟨-1, ?_, by rw [List.drop_of_length_le (by omega)]; rfl⟩
    rw [Q4b.at2]
    unfold Q4b.r2
    rw [cond_f (by omega)]
  | d + 1, i, m + 1, h, hm => by
    have hi : i < ts.length := by omega
    obtain ⟨q, h1, h2⟩ := indexB_l n ts hw d (i + 1) m (by omega) (by omega)
    rw [Q4b.at2]
    unfold Q4b.r2
    rw [cond_t (by omega), Bl_length, within_t hi, cond_true, Bl_getD hi, List.drop_eq_getElem_cons hi, List.contains_cons]
    show ∃ q, (bif (false == ts[i]) then some (i : Int) else _) = some q ∧ _
    cases ts[i] with
    | false => exact ⟨i, rfl, by simp⟩
    | true =>
      refine ⟨q, ?_, by rw [h2]; rfl⟩
      show Q4b.l n m (.z2 (Bl ts) false ts.length (IntKind.i64.wrap ((i : Int) + 1))) = _
      rw [wsucc (by omega)]
      exact h1
theorem containsB {n : Nat} (hn : 1001 ≤ n) (ts : List Bool) (hw : ts.length ≤ 1000) : Q47.F n (Bl ts) false = some (ts.contains false) := by
  unfold Q47.F Q47.e Q4b.F Q4b.e
  obtain ⟨q, h1, h2⟩ := indexB_l n ts hw ts.length 0 n (by omega) (by omega)
  rw [List.drop_zero] at h2
  rw [Bl_length, show (0 : Int) = ((0 : Nat) : Int) from rfl, h1, Option.bind_some]
  exact congrArg some h2
theorem Bl_drop (ts : List Bool) (k : Nat) : (Bl ts).drop k = Bl (ts.drop k) := by simp [Bl, List.map_drop]
theorem Bl_set (ts : List Bool) (k : Nat) (b : Bool) : (Bl ts).set k (vb b) = Bl (ts.set k b) := by simp [Bl, List.map_set]
theorem joins_l (hn : 1001 ≤ n) (ws : List (List UInt8)) (hw : 1 ≤ ws.length ∧ ws.length ≤ 1000) (js : List JP) (hj : js.length ≤ 1000) : ∀ (d i m : Nat) (last : Int) (ts : List Bool), i + d = js.length → d < m → ts.length = ws.length →
    Q0u.l n m (.z6 last (js.map JP.av) js.length i nm fm (Ws ws) a3 (js.map JP.av) a5 uq a7 (Bl ts)) = some (jErr ((ws.length : Int) - 1) (js.drop i) i last ts)
  | _, _, 0, _, _, _, h, _ => absurd h (by omega)
  | 0, i, m + 1, last, ts, h, _, ht => by
    rw [Q0u.at6]
    unfold Q0u.r6
    rw [cond_f (by omega), Bl_length, cond_yes (by rw [Bool.and_eq_true, decide_eq_true_eq, decide_eq_true_eq]; omega), Bl_drop, containsB hn _ (by rw [List.length_drop]; omega), Option.bind_some, cond_eq, Option.bind_some, List.drop_of_length_le (show js.length ≤ i by omega)]
    rfl
  | d + 1, i, m + 1, last, ts, h, hm, ht => by
    have hi : i < js.length := by omega
    rw [Q0u.at6]
    unfold Q0u.r6
    rw [cond_t (by omega), List.length_map, within_t hi, cond_true, at_map JP.av hi, List.drop_eq_getElem_cons hi]
    show ((Q0o.F n js[i].b 1 (IntKind.i64.wrap ((((Ws ws).length : Nat) : Int) - 1))).bind fun p16 => (Q0f.F n (!p16) 3).bind fun p17 => (Q0o.F n js[i].fr 0 (IntKind.i64.wrap (js[i].b - 1))).bind fun p18 =>
      (Q0f.F n (!p18) 3).bind fun p19 => (Q0r.F n (bs js[i].lf)).bind fun p20 => (Q0f.F n (!p20) 7).bind fun p21 => (Q0r.F n (bs js[i].rt)).bind fun p22 => (Q0f.F n (!p22) 7).bind fun p23 =>
      (Q0f.F n (decide (js[i].b < last)) 14).bind fun p24 => (Q0m.F n ([p17, p19, p21, p23, p24].map vi)).bind fun p25 =>
      bif p25 != 0 then (some ((i : Int), p25)) else (bif decide ((0 : Int) ≤ js[i].b) && decide (js[i].b < (((Bl ts).length : Nat) : Int)) then
        (Q0u.l n m (.z6 js[i].b (js.map JP.av) js.length (IntKind.i64.wrap ((i : Int) + 1)) nm fm (Ws ws) a3 (js.map JP.av) a5 uq a7 ((Bl ts).set ((js[i].b).toNat) (vb true)))) else none)) = _
    simp only [Ws_length, din_eq, Option.bind_some, cond_eq, isName_eq hn, first_eq (n := n) [_, _, _, _, _] (by simp) hn]
    rw [w64 (x := (ws.length : Int) - 1) (by omega) (by omega), bif_ne]
    rw [jErr_cons]
    have e : fz [(if (!decide (1 ≤ js[i].b ∧ js[i].b ≤ (ws.length : Int) - 1)) = true then 3 else 0), (if (!decide (0 ≤ js[i].fr ∧ js[i].fr ≤ IntKind.i64.wrap (js[i].b - 1))) = true then 3 else 0), (if (!isNm js[i].lf) = true then 7 else 0), (if (!isNm js[i].rt) = true then 7 else 0), (if decide (js[i].b < last) = true then 14 else 0)] = je ((ws.length : Int) - 1) last js[i] := by
      unfold je
      by_cases h1 : 1 ≤ js[i].b ∧ js[i].b ≤ (ws.length : Int) - 1
      · rw [w64 (x := js[i].b - 1) (by omega) (by omega)]
        by_cases h2 : 0 ≤ js[i].fr ∧ js[i].fr ≤ js[i].b - 1
        · cases h3 : isNm js[i].lf
          · simp [fz, h1, h2]
          · cases h4 : isNm js[i].rt
            · simp [fz, h1, h2]
            · simp [fz, h1, h2]
        · simp [fz, h1, h2]
      · simp [fz, h1]
    rw [e]
    by_cases h0 : je ((ws.length : Int) - 1) last js[i] = 0
    · rw [if_neg (by simp [h0]), if_neg (by simp [h0])]
      have hb : 1 ≤ js[i].b ∧ js[i].b ≤ (ws.length : Int) - 1 := by
        unfold je at h0
        by_cases h1 : 1 ≤ js[i].b ∧ js[i].b ≤ (ws.length : Int) - 1
        · exact h1
        · rw [if_pos h1] at h0; omega
      have e2 : (decide ((0 : Int) ≤ js[i].b) && decide (js[i].b < (((Bl ts).length : Nat) : Int))) = true := by
        rw [Bl_length, Bool.and_eq_true, decide_eq_true_eq, decide_eq_true_eq]; omega
      rw [e2, cond_true, wsucc (by omega), Bl_set]
      exact joins_l hn ws hw js hj d (i + 1) m js[i].b (ts.set js[i].b.toNat true) (by omega) (by omega) (by simp [ht])
    · rw [if_pos h0, if_pos h0]
def jErrT (ws : List (List UInt8)) (js : List JP) : Int × Int := if js.length > 20 then (0, 2) else jErr ((ws.length : Int) - 1) js 0 0 (List.replicate ws.length false)
theorem joins_eq (hn : 1001 ≤ n) (ws : List (List UInt8)) (hw : 1 ≤ ws.length ∧ ws.length ≤ 1000) (js : List JP) (hj : js.length ≤ 1000) : Q0u.F n nm fm (Ws ws) a3 (js.map JP.av) a5 uq a7 = some (jErrT ws js) := by
  unfold Q0u.F Q0u.e jErrT
  simp only [List.length_map, Ws_length]
  by_cases h : js.length > 20
  · rw [cond_t (by omega), if_pos h]
  · rw [cond_f (by omega), if_neg h, cond_yes (by have : most = 1000000000 := rfl; simp [this]; omega), Int.toNat_natCast]
    have e : List.replicate ws.length (vb false) = Bl (List.replicate ws.length false) := by simp [Bl]
    rw [e]
    have := joins_l (nm := nm) (fm := fm) (a3 := a3) (a5 := a5) (uq := uq) (a7 := a7) hn ws hw js hj js.length 0 n 0 (List.replicate ws.length false) (by omega) (by omega) (by simp)
    rw [List.drop_zero] at this
    exact this
theorem keys_l (hn : 1001 ≤ n) (ns : List (List UInt8)) (hs : ns.length ≤ 1000) (ks : List KF) (hk : ks.length ≤ 1000) : ∀ (d i m : Nat), i + d = ks.length → d < m →
    Q0w.l n m (.z5 (Ws ns) (ks.map KF.av) ks.length i (Ws ((knames ks).take i))) = some (kErr ns (knames ks) (ks.drop i) i)
  | _, _, 0, _, h => absurd h (by omega)
  | 0, i, m + 1, h, _ => by
    rw [Q0w.at5]
    unfold Q0w.r5
    rw [cond_f (by omega), List.drop_of_length_le (by omega)]
    rfl
  | d + 1, i, m + 1, h, hm => by
    have hi : i < ks.length := by omega
    have hni : (knames ks).length = ks.length := by simp [knames]
    have hni' : i < (knames ks).length := by omega
    have hmost : most = 1000000000 := rfl
    have e2 : (knames ks)[i] = ks[i].nm := by simp [knames]
    have ih := keys_l hn ns hs ks hk d (i + 1) m (by omega) (by omega)
    rw [Q0w.at5]
    unfold Q0w.r5
    rw [cond_t (by omega), List.length_map, within_t hi, cond_true, at_map KF.av hi, List.drop_eq_getElem_cons hi]
    show ((Q48.F n (Ws ns) (bs ks[i].nm)).bind fun p8 => (Q0f.F n (!p8) 11).bind fun p9 => (Q48.F n (Ws ((knames ks).take i)) (bs ks[i].nm)).bind fun p10 => (Q0f.F n p10 13).bind fun p11 =>
      (Q0m.F n [vi p9, vi p11]).bind fun p12 => bif p12 != 0 then (some ((i : Int), p12)) else (bif decide ((Ws ((knames ks).take i)).length + 1 ≤ most) then
        (Q0w.l n m (.z5 (Ws ns) (ks.map KF.av) ks.length (IntKind.i64.wrap ((i : Int) + 1)) (Ws ((knames ks).take i) ++ [vs (bs ks[i].nm)]))) else none)) = _
    rw [contains_str hn ns hs, Option.bind_some, cond_eq, Option.bind_some, contains_str hn _ (by rw [List.length_take]; omega), Option.bind_some, cond_eq, Option.bind_some, first2 hn, Option.bind_some, bif_ne,
      cond_t (by rw [Ws_length, List.length_take]; omega), wsucc (by omega), Ws_snoc, ← e2, ← List.take_succ_eq_append_getElem hni', ih]
    rw [kErr_cons]
    have e : (if (if (!ns.contains (knames ks)[i]) = true then (11 : Int) else 0) ≠ 0 then (if (!ns.contains (knames ks)[i]) = true then (11 : Int) else 0) else (if ((knames ks).take i).contains (knames ks)[i] = true then 13 else 0)) = ke ns ((knames ks).take i) ks[i] := by
      unfold ke
      rw [e2]
      cases ns.contains ks[i].nm <;> cases ((knames ks).take i).contains ks[i].nm <;> rfl
    rw [e, some_ite]
def kErrT (ns : List (List UInt8)) (ks : List KF) : Int × Int := if ks.length > 4 then (0, 2) else kErr ns (knames ks) ks 0
theorem keysErr_eq (hn : 1001 ≤ n) (ns : List (List UInt8)) (hs : ns.length ≤ 1000) (ks : List KF) (hk : ks.length ≤ 1000) : Q0w.F n (ks.map KF.av) (Ws ns) = some (kErrT ns ks) := by
  unfold Q0w.F Q0w.e kErrT
  simp only [List.length_map]
  by_cases h : ks.length > 4
  · rw [cond_t (by omega), if_pos h]
  · rw [cond_f (by omega), if_neg h]
    have := keys_l hn ns hs ks hk ks.length 0 n (by omega) (by omega)
    rw [List.drop_zero] at this
    exact this
theorem condErr_eq (hn : 1001 ≤ n) (ns : List (List UInt8)) (hs : ns.length ≤ 1000) (c : CN) : Q0g.F n (bs c.fd) c.op c.n (bs c.s) (Ws ns) = some (ce ns c) := by
  unfold Q0g.F Q0g.e
  simp only [contains_str hn ns hs, Option.bind_some, cond_eq, din_eq, bs_size, empty_eq]
  have e5 : ∀ a b c d e : Int, Q0m.F n [vi a, vi b, vi c, vi d, vi e] = some (fz [a, b, c, d, e]) := fun a b c d e => first_eq [a, b, c, d, e] (by simp) hn
  simp only [e5, Option.bind_some]
  rw [bif_ne]
  unfold ce
  have hsz : decide (((c.s.length : Nat) : Int) > 256) = decide (c.s.length > 256) := by rw [decide_eq_decide]; omega
  rw [hsz]
  cases h1 : ns.contains c.fd
  · by_cases h0 : c.n = 0 <;> simp [fz, h0]
  · by_cases h2 : 0 ≤ c.op ∧ c.op ≤ 5
    · by_cases h3 : -999999999999999 ≤ c.n ∧ c.n ≤ 999999999999999
      · by_cases h4 : c.s.length > 256
        · by_cases h0 : c.n = 0 <;> simp [fz, h0, h2, h3, h4]
        · by_cases h0 : c.n = 0 <;> by_cases h5 : c.s = [] <;> simp [fz, h0, h2, h3, h4, h5]
      · by_cases h0 : c.n = 0 <;> simp [fz, h0, h2, h3]
    · by_cases h0 : c.n = 0 <;> simp [fz, h0, h2]
theorem rules_l (hn : 1001 ≤ n) (ns : List (List UInt8)) (hs : ns.length ≤ 1000) (rs : List RL) (hr : rs.length ≤ 1000) : ∀ (d i m : Nat), i + d = rs.length → 10 * d + 1 ≤ m →
    Q16.l n m (.z5 (rs.map RL.av) rs.length i (Ws ns)) = some (rErr ns (rs.drop i) i)
  | 0, i, m, h, hm => by
    obtain ⟨m, rfl⟩ : ∃ q, m = q + 1 := ⟨m - 1, by omega⟩
    rw [Q16.at5]
    unfold Q16.r5
    rw [cond_f (by omega), List.drop_of_length_le (by omega)]
    rfl
  | d + 1, i, m, h, hm => by
    obtain ⟨m, rfl⟩ : ∃ q, m = q + 1 := ⟨m - 1, by omega⟩
    have hi : i < rs.length := by omega
    -- the conditions of a rule
    have inner : ∀ (e j q : Nat), rs[i].cs.length ≤ 4 → j + e = rs[i].cs.length → 10 * d + 2 + e ≤ q →
        Q16.l n q (.z10 i (rs.map RL.av) rs.length i (rs[i].cs.map CN.av) rs[i].cs.length j (Ws ns)) = some (if cErr ns (rs[i].cs.drop j) ≠ 0 then ((i : Int), cErr ns (rs[i].cs.drop j)) else rErr ns (rs.drop (i + 1)) (i + 1)) := by
      intro e
      induction e with
      | zero =>
        intro j q h4 hj hq
        obtain ⟨q, rfl⟩ : ∃ r, q = r + 1 := ⟨q - 1, by omega⟩
        rw [Q16.at10]
        unfold Q16.r10
        rw [cond_f (by omega), wsucc (by omega), rules_l hn ns hs rs hr d (i + 1) q (by omega) (by omega), List.drop_of_length_le (show rs[i].cs.length ≤ j by omega)]
        rfl
      | succ e ih =>
        intro j q h4 hj hq
        obtain ⟨q, rfl⟩ : ∃ r, q = r + 1 := ⟨q - 1, by omega⟩
        have hjl : j < rs[i].cs.length := by omega
        have ih' := ih (j + 1) q h4 (by omega) (by omega)
        rw [Q16.at10]
        unfold Q16.r10
        rw [cond_t (by omega), List.length_map, within_t hjl, cond_true, at_map CN.av hjl, List.drop_eq_getElem_cons hjl]
        show ((Q0g.F n (bs rs[i].cs[j].fd) rs[i].cs[j].op rs[i].cs[j].n (bs rs[i].cs[j].s) (Ws ns)).bind fun p22 => bif p22 != 0 then (some ((i : Int), p22)) else
          Q16.l n q (.z10 i (rs.map RL.av) rs.length i (rs[i].cs.map CN.av) rs[i].cs.length (IntKind.i64.wrap ((j : Int) + 1)) (Ws ns))) = _
        rw [condErr_eq hn ns hs, Option.bind_some, bif_ne, wsucc (by omega), ih']
        rw [cErr_cons]
        by_cases h0 : ce ns rs[i].cs[j] = 0
        · simp only [h0, ne_eq, not_true_eq_false, if_false]
        · simp only [h0, ne_eq, not_false_eq_true, if_true]
    rw [Q16.at5]
    unfold Q16.r5
    rw [cond_t (by omega), List.length_map, within_t hi, cond_true, at_map RL.av hi, List.drop_eq_getElem_cons hi]
    show (bif decide ((((rs[i].cs.map CN.av).length : Nat) : Int) > 4) then (some ((i : Int), 2)) else Q16.l n m (.z10 i (rs.map RL.av) rs.length i (rs[i].cs.map CN.av) (((rs[i].cs.map CN.av).length : Nat) : Int) 0 (Ws ns))) = _
    rw [List.length_map]
    rw [rErr_cons]
    unfold re
    by_cases h4 : rs[i].cs.length > 4
    · rw [cond_t (by omega), if_pos h4, if_pos (by decide)]
    · rw [cond_f (by omega), if_neg h4]
      have := inner rs[i].cs.length 0 m (by omega) (by omega) (by omega)
      rw [List.drop_zero] at this
      exact this
def rErrT (ns : List (List UInt8)) (rs : List RL) : Int × Int := if rs.length > 8 then (0, 2) else rErr ns rs 0
theorem rulesErr_eq (hn : 20001 ≤ n) (fs : List LF) (hf : fs.length ≤ 1000) (rs : List RL) (hr : rs.length ≤ 1000) {a2 : List AV} : Q16.F n nm fm a2 (fs.map LF.av) a4 a5 uq (rs.map RL.av) = some (rErrT (names fs) rs) := by
  unfold Q16.F Q16.e rErrT
  simp only [List.length_map]
  by_cases h : rs.length > 8
  · rw [cond_t (by omega), if_pos h]
  · rw [cond_f (by omega), if_neg h, namesOf_eq (by omega) fs hf, Option.bind_some]
    have := rules_l (n := n) (by omega) (names fs) (by simp [names]; omega) rs hr rs.length 0 n (by omega) (by omega)
    rw [List.drop_zero] at this
    exact this
def chkL (nm fm : List UInt8) (ws : List (List UInt8)) (fs : List LF) (js : List JP) (ks : List KF) (uq : Bool) (rs : List RL) : Int × Int :=
  if isNm nm = false then (0, 7) else if isNm fm = false then (0, 7)
  else if (bErrT ws).2 ≠ 0 then bErrT ws
  else if (fErrT ws fs).2 ≠ 0 then fErrT ws fs
  else if (jErrT ws js).2 ≠ 0 then jErrT ws js
  else if (kErrT (names fs) ks).2 ≠ 0 then kErrT (names fs) ks
  else if (rErrT (names fs) rs).2 ≠ 0 then rErrT (names fs) rs
  else (0, if ws.length > 1 ∧ (rs.length > 0 ∨ uq = true) then 15 else 0)
theorem checkLogical_eq (hn : 20010 ≤ n) (nm fm : List UInt8) (ws : List (List UInt8)) (hw : ws.length ≤ 1000) (fs : List LF) (hf : fs.length ≤ 1000) (js : List JP) (hj : js.length ≤ 1000) (ks : List KF) (hk : ks.length ≤ 1000) (uq : Bool) (rs : List RL) (hr : rs.length ≤ 1000) :
    Q04.F n (bs nm) (bs fm) (Ws ws) (fs.map LF.av) (js.map JP.av) (ks.map KF.av) uq (rs.map RL.av) = some (chkL nm fm ws fs js ks uq rs) := by
  have hnl : (names fs).length ≤ 1000 := by simp [names]; omega
  -- behind a part
  have h7 : ∀ (m : Nat) (p : Int × Int) (i : Nat), i ≤ 5 → Q04.l n (m + 1) (.z7 p.1 p.2 5 i (bs nm) (bs fm) (Ws ws) (fs.map LF.av) (js.map JP.av) (ks.map KF.av) uq (rs.map RL.av)) =
      if p.2 ≠ 0 then some p else Q04.l n m (.z4 5 ((i + 1 : Nat) : Int) (bs nm) (bs fm) (Ws ws) (fs.map LF.av) (js.map JP.av) (ks.map KF.av) uq (rs.map RL.av)) := by
    intro m p i hi
    rw [Q04.at7]
    unfold Q04.r7
    rw [bif_ne, wsucc (by omega)]
  have h5 : ∀ m, Q04.l n (m + 1) (.z4 5 ((5 : Nat) : Int) (bs nm) (bs fm) (Ws ws) (fs.map LF.av) (js.map JP.av) (ks.map KF.av) uq (rs.map RL.av)) = some (0, if ws.length > 1 ∧ (rs.length > 0 ∨ uq = true) then 15 else 0) := by
    intro m
    rw [Q04.at4]
    unfold Q04.r4
    simp only [Ws_length, List.length_map, cond_eq, Option.bind_some]
    rw [cond_f (by omega)]
    by_cases h1 : ws.length > 1
    · rw [cond_t (by omega)]
      by_cases h2 : rs.length > 0
      · rw [cond_t (by omega)]; simp [h1, h2]
      · rw [cond_f (by omega)]; simp [h1, h2]
    · rw [cond_f (by omega)]; simp [h1]
  have h4 : ∀ m, Q04.l n (m + 4) (.z4 5 ((4 : Nat) : Int) (bs nm) (bs fm) (Ws ws) (fs.map LF.av) (js.map JP.av) (ks.map KF.av) uq (rs.map RL.av)) = if (rErrT (names fs) rs).2 ≠ 0 then some (rErrT (names fs) rs) else some (0, if ws.length > 1 ∧ (rs.length > 0 ∨ uq = true) then 15 else 0) := by
    intro m
    rw [Q04.at4]
    unfold Q04.r4
    rw [cond_t (by omega), cond_t (by omega), Q04.at6]
    unfold Q04.r6
    rw [rulesErr_eq (by omega) fs hf rs hr, Option.bind_some, h7 _ _ 4 (by omega), h5]
  have h3 : ∀ m, Q04.l n (m + 7) (.z4 5 ((3 : Nat) : Int) (bs nm) (bs fm) (Ws ws) (fs.map LF.av) (js.map JP.av) (ks.map KF.av) uq (rs.map RL.av)) = if (kErrT (names fs) ks).2 ≠ 0 then some (kErrT (names fs) ks) else
      if (rErrT (names fs) rs).2 ≠ 0 then some (rErrT (names fs) rs) else some (0, if ws.length > 1 ∧ (rs.length > 0 ∨ uq = true) then 15 else 0) := by
    intro m
    rw [Q04.at4]
    unfold Q04.r4
    rw [cond_t (by omega), cond_f (by omega), cond_t (by omega), Q04.at6x1]
    unfold Q04.r6x1 Q05.F Q05.e
    rw [namesOf_eq (by omega) fs hf, Option.bind_some, keysErr_eq (by omega) _ hnl ks hk, Option.bind_some, Option.bind_some, h7 _ _ 3 (by omega), h4]
  have h2 : 1 ≤ ws.length → ∀ m, Q04.l n (m + 10) (.z4 5 ((2 : Nat) : Int) (bs nm) (bs fm) (Ws ws) (fs.map LF.av) (js.map JP.av) (ks.map KF.av) uq (rs.map RL.av)) = if (jErrT ws js).2 ≠ 0 then some (jErrT ws js) else
      if (kErrT (names fs) ks).2 ≠ 0 then some (kErrT (names fs) ks) else if (rErrT (names fs) rs).2 ≠ 0 then some (rErrT (names fs) rs) else some (0, if ws.length > 1 ∧ (rs.length > 0 ∨ uq = true) then 15 else 0) := by
    intro h1 m
    rw [Q04.at4]
    unfold Q04.r4
    rw [cond_t (by omega), cond_f (by omega), cond_f (by omega), cond_t (by omega), Q04.at6x2]
    unfold Q04.r6x2
    rw [joins_eq (by omega) ws ⟨h1, hw⟩ js hj, Option.bind_some, h7 _ _ 2 (by omega), h3]
  have h1 : 1 ≤ ws.length → ∀ m, Q04.l n (m + 13) (.z4 5 ((1 : Nat) : Int) (bs nm) (bs fm) (Ws ws) (fs.map LF.av) (js.map JP.av) (ks.map KF.av) uq (rs.map RL.av)) = if (fErrT ws fs).2 ≠ 0 then some (fErrT ws fs) else if (jErrT ws js).2 ≠ 0 then some (jErrT ws js) else
      if (kErrT (names fs) ks).2 ≠ 0 then some (kErrT (names fs) ks) else if (rErrT (names fs) rs).2 ≠ 0 then some (rErrT (names fs) rs) else some (0, if ws.length > 1 ∧ (rs.length > 0 ∨ uq = true) then 15 else 0) := by
    intro h1 m
    rw [Q04.at4]
    unfold Q04.r4
    rw [cond_t (by omega), cond_f (by omega), cond_f (by omega), cond_f (by omega), cond_t (by omega), Q04.at6x3]
    unfold Q04.r6x3
    rw [fieldsErr_eq (by omega) ws hw fs hf, Option.bind_some, h7 _ _ 1 (by omega), h2 h1]
  unfold Q04.F Q04.e chkL
  rw [isName_eq (by omega), Option.bind_some, isName_eq (by omega), Option.bind_some]
  cases hnm : isNm nm with
  | false => rfl
  | true =>
    cases hfm : isNm fm with
    | false => rfl
    | true =>
      simp only [Bool.not_true, cond_false, Bool.true_eq_false, if_false]
      obtain ⟨m, rfl⟩ : ∃ m, n = m + 16 := ⟨n - 16, by omega⟩
      rw [show (0 : Int) = ((0 : Nat) : Int) from rfl, Q04.at4]
      unfold Q04.r4
      rw [cond_t (by omega), cond_f (by omega), cond_f (by omega), cond_f (by omega), cond_f (by omega), cond_t (by omega), Q04.at6x4]
      unfold Q04.r6x4
      rw [basesErr_eq (by omega) ws hw, Option.bind_some, h7 _ _ 0 (by omega)]
      by_cases hb : (bErrT ws).2 = 0
      · have hlen : 1 ≤ ws.length := by
          unfold bErrT at hb
          by_cases h0 : ws.length = 0
          · rw [if_pos h0] at hb; cases hb
          · omega
        rw [if_neg (by simp [hb]), if_neg (by simp [hb]), h1 hlen]
        simp only [some_ite, if_false]
        rfl
      · rw [if_pos hb]
        show _ = some (if (bErrT ws).2 ≠ 0 then _ else _)
        rw [if_pos hb]
end
end Go.Proofs.YtmpglmcjoelciaaGreatDoor.Ev
namespace Go.Proofs.YtmpglmcjoelciaaGreatDoor.Ev
open Go Go.Proofs Go.Proofs.Ev
set_option linter.unusedVariables false
section
variable {n : Nat} {nm fm : ByteArray} {a2 a3 a4 a5 a7 : List AV} {uq : Bool}
theorem fieldOf_l (fs : List LF) (hf : fs.length ≤ 1000) (s : List UInt8) : ∀ (d i m : Nat), i + d = fs.length → d < m → Q2u.l n m (.z2 (bs s) i nm fm a2 (fs.map LF.av) a4 a5 uq a7) = some (ixs ((names fs).drop i) s i)
  | _, _, 0, _, h => absurd h (by omega)
  | 0, i, m + 1, h, _ => by
    rw [Q2u.at2]
    unfold Q2u.r2
    simp only [List.length_map]
    rw [cond_f (by omega), List.drop_of_length_le (by simp [names]; omega)]
    rfl
  | d + 1, i, m + 1, h, hm => by
    have hi : i < fs.length := by omega
    have hni : i < (names fs).length := by simp [names]; omega
    have e2 : (names fs)[i] = fs[i].nm := by simp [names]
    have ih := fieldOf_l fs hf s d (i + 1) m (by omega) (by omega)
    rw [Q2u.at2]
    unfold Q2u.r2
    simp only [List.length_map]
    rw [cond_t (by omega), within_t hi, cond_true, at_map LF.av hi, List.drop_eq_getElem_cons hni]
    show (bif ((bs fs[i].nm).toList == (bs s).toList) then _ else _) = _
    rw [str_eq, wsucc (by omega), ih, ixs_cons, e2]
    by_cases h : fs[i].nm = s
    · rw [cond_t h, if_pos h]
    · rw [cond_f h, if_neg h]
theorem fieldOf_eq (hn : 1001 ≤ n) (fs : List LF) (hf : fs.length ≤ 1000) (s : List UInt8) : Q2u.F n nm fm a2 (fs.map LF.av) a4 a5 uq a7 (bs s) = some (ixs (names fs) s 0) := by
  unfold Q2u.F Q2u.e
  have := fieldOf_l (n := n) (nm := nm) (fm := fm) (a2 := a2) (a4 := a4) (a5 := a5) (uq := uq) (a7 := a7) fs hf s fs.length 0 n (by omega) (by omega)
  rw [List.drop_zero] at this
  exact this
theorem ixs_ge : ∀ (ws : List (List UInt8)) (s : List UInt8) (i : Nat), -1 ≤ ixs ws s i
  | [], _, _ => by simp [ixs]
  | w :: r, s, i => by
    unfold ixs
    split
    · omega
    · exact ixs_ge r s (i + 1)
theorem ixs_none (ws : List (List UInt8)) (s : List UInt8) : (ixs ws s 0 == -1) = !ws.contains s := by
  have h1 := ixs_has ws s 0
  have h2 := ixs_ge ws s 0
  rw [← h1, beq_int]
  by_cases h : ixs ws s 0 ≥ 0
  · have : ¬ ixs ws s 0 = -1 := by omega
    simp [h, this]
  · have : ixs ws s 0 = -1 := by omega
    simp [this]
theorem ruleErr_l (hn : 1001 ≤ n) (fs : List LF) (hf : fs.length ≤ 1000) (om : Bool) (cs : List CN) (hc : cs.length ≤ 1000) : ∀ (d i m : Nat), i + d = cs.length → d < m →
    Q3k.l n m (.z4 i nm fm a2 (fs.map LF.av) a4 a5 uq a7 om (cs.map CN.av)) = some (cErr (names fs) (cs.drop i))
  | _, _, 0, _, h => absurd h (by omega)
  | 0, i, m + 1, h, _ => by
    rw [Q3k.at4]
    unfold Q3k.r4
    simp only [List.length_map]
    rw [cond_f (by omega), List.drop_of_length_le (by omega)]
    rfl
  | d + 1, i, m + 1, h, hm => by
    have hi : i < cs.length := by omega
    have ih := ruleErr_l hn fs hf om cs hc d (i + 1) m (by omega) (by omega)
    rw [Q3k.at4]
    unfold Q3k.r4
    simp only [List.length_map]
    rw [cond_t (by omega), within_t hi, cond_true, at_map CN.av hi, List.drop_eq_getElem_cons hi]
    show ((Q2u.F n nm fm a2 (fs.map LF.av) a4 a5 uq a7 (bs cs[i].fd)).bind fun p15 => bif p15 == (-1) then (some 11) else ((Q1z.F n cs[i].op 0 5).bind fun p16 => bif !p16 then (some 4) else
      ((Q1z.F n cs[i].n (-999999999999999) 999999999999999).bind fun p17 => bif !p17 then (some 3) else (bif decide ((((bs cs[i].s).size : Nat) : Int) > 256) then (some 2) else
      (bif cs[i].n != 0 then (bif !((bs cs[i].s).toList == (⟨#[]⟩ : ByteArray).toList) then (some 5) else (Q3k.l n m (.z4 (IntKind.i64.wrap ((i : Int) + 1)) nm fm a2 (fs.map LF.av) a4 a5 uq a7 om (cs.map CN.av)))) else
        (Q3k.l n m (.z4 (IntKind.i64.wrap ((i : Int) + 1)) nm fm a2 (fs.map LF.av) a4 a5 uq a7 om (cs.map CN.av)))))))) = _
    rw [fieldOf_eq hn fs hf, Option.bind_some, ixs_none, Within_eq, Option.bind_some, Within_eq, Option.bind_some, bs_size, empty_eq, wsucc (by omega), ih]
    rw [cErr_cons]
    unfold ce
    cases h1 : (names fs).contains cs[i].fd
    · simp
    · by_cases h2 : 0 ≤ cs[i].op ∧ cs[i].op ≤ 5
      · by_cases h3 : -999999999999999 ≤ cs[i].n ∧ cs[i].n ≤ 999999999999999
        · by_cases h4 : cs[i].s.length > 256
          · have : decide (((cs[i].s.length : Nat) : Int) > 256) = true := by rw [decide_eq_true_eq]; omega
            simp [h2, h3, h4, this]
          · have : decide (((cs[i].s.length : Nat) : Int) > 256) = false := by rw [decide_eq_false_iff_not]; omega
            rw [this]
            rw [bif_ne]
            by_cases h0 : cs[i].n = 0 <;> by_cases h5 : cs[i].s = [] <;> simp [h0, h2, h3, h4, h5]
        · simp [h2, h3]
      · simp [h2]
theorem ruleErr_eq (hn : 1001 ≤ n) (fs : List LF) (hf : fs.length ≤ 1000) (r : RL) (hc : r.cs.length ≤ 1000) : Q3k.F n nm fm a2 (fs.map LF.av) a4 a5 uq a7 r.om (r.cs.map CN.av) = some (re (names fs) r) := by
  unfold Q3k.F Q3k.e re
  simp only [List.length_map]
  by_cases h : r.cs.length > 4
  · rw [cond_t (by omega), if_pos h]
  · rw [cond_f (by omega), if_neg h]
    have := ruleErr_l (n := n) (nm := nm) (fm := fm) (a2 := a2) (a4 := a4) (a5 := a5) (uq := uq) (a7 := a7) hn fs hf r.om r.cs hc r.cs.length 0 n (by omega) (by omega)
    rw [List.drop_zero] at this
    exact this
theorem joinsC_l (ts : List Bool) (ht : ts.length ≤ 1000) : ∀ (d i m : Nat), i + d = ts.length → d < m → Q3f.l n m (.z18 i (Bl ts)) = some (0, if (ts.drop i).contains false then 11 else 0)
  | _, _, 0, _, h => absurd h (by omega)
  | 0, i, m + 1, h, _ => by
    rw [Q3f.at18]
    unfold Q3f.r18
    simp only [Bl_length]
    rw [cond_f (by omega), List.drop_of_length_le (by omega)]
    rfl
  | d + 1, i, m + 1, h, hm => by
    have hi : i < ts.length := by omega
    have ih := joinsC_l ts ht d (i + 1) m (by omega) (by omega)
    rw [Q3f.at18]
    unfold Q3f.r18
    simp only [Bl_length]
    rw [cond_t (by omega), within_t hi, cond_true, Bl_getD hi, List.drop_eq_getElem_cons hi, List.contains_cons]
    show (bif !ts[i] then some (0, 11) else Q3f.l n m (.z18 (IntKind.i64.wrap ((i : Int) + 1)) (Bl ts))) = _
    rw [wsucc (by omega), ih]
    cases ts[i] <;> simp
theorem joinsR_l (hn : 1001 ≤ n) (ws : List (List UInt8)) (hw : 1 ≤ ws.length ∧ ws.length ≤ 1000) (js : List JP) (hj : js.length ≤ 1000) : ∀ (d i m : Nat) (last : Int) (ts : List Bool), i + d = js.length → d + 1001 < m → ts.length = ws.length →
    ((i = 0 ∧ last = 0) ∨ ∃ h : i - 1 < js.length, 0 < i ∧ last = js[i - 1].b) →
    Q3f.l n m (.z5 i nm fm (Ws ws) a3 (js.map JP.av) a5 uq a7 (Bl ts)) = some (jErr ((ws.length : Int) - 1) (js.drop i) i last ts)
  | _, _, 0, _, _, _, h, _, _ => absurd h (by omega)
  | 0, i, m + 1, last, ts, h, hm, ht, hl => by
    rw [Q3f.at5]
    unfold Q3f.r5
    simp only [List.length_map]
    rw [cond_f (by omega), List.drop_of_length_le (by omega)]
    exact joinsC_l ts (by omega) (ts.length - 1) 1 m (by omega) (by omega)
  | d + 1, i, m + 1, last, ts, h, hm, ht, hl => by
    have hi : i < js.length := by omega
    rw [Q3f.at5]
    unfold Q3f.r5
    simp only [List.length_map]
    rw [cond_t (by omega), within_t hi, cond_true, at_map JP.av hi, List.drop_eq_getElem_cons hi]
    show ((Q1z.F n js[i].b 1 (IntKind.i64.wrap ((((Ws ws).length : Nat) : Int) - 1))).bind fun p17 => bif !p17 then (some ((i : Int), 3)) else ((Q1z.F n js[i].fr 0 (IntKind.i64.wrap (js[i].b - 1))).bind fun p18 =>
      bif !p18 then (some ((i : Int), 3)) else ((Q1t.F n (bs js[i].lf)).bind fun p19 => bif !p19 then (some ((i : Int), 7)) else ((Q1t.F n (bs js[i].rt)).bind fun p20 => bif !p20 then (some ((i : Int), 7)) else
      (bif decide ((i : Int) > 0) then (bif decide ((0 : Int) ≤ IntKind.i64.wrap ((i : Int) - 1)) && decide (IntKind.i64.wrap ((i : Int) - 1) < ((js.length : Nat) : Int)) then (withCons ((((js.map JP.av).getD ((IntKind.i64.wrap ((i : Int) - 1)).toNat) .undef).cells).drop 2) fun h21 r22 =>
        withInt .i64 h21 fun x23 => bif decide (js[i].b < x23) then (some ((i : Int), 14)) else (bif decide ((0 : Int) ≤ js[i].b) && decide (js[i].b < (((Bl ts).length : Nat) : Int)) then
          (Q3f.l n m (.z5 (IntKind.i64.wrap ((i : Int) + 1)) nm fm (Ws ws) a3 (js.map JP.av) a5 uq a7 ((Bl ts).set ((js[i].b).toNat) (vb true)))) else none)) else none)
      else (bif decide ((0 : Int) ≤ js[i].b) && decide (js[i].b < (((Bl ts).length : Nat) : Int)) then
          (Q3f.l n m (.z5 (IntKind.i64.wrap ((i : Int) + 1)) nm fm (Ws ws) a3 (js.map JP.av) a5 uq a7 ((Bl ts).set ((js[i].b).toNat) (vb true)))) else none)))))) = _
    rw [Ws_length, Within_eq, Option.bind_some, Within_eq, Option.bind_some, isNameR_eq hn, Option.bind_some, isNameR_eq hn, Option.bind_some, w64 (x := (ws.length : Int) - 1) (by omega) (by omega), wsucc (by omega), Bl_set]
    rw [jErr_cons]
    unfold je
    by_cases h1 : 1 ≤ js[i].b ∧ js[i].b ≤ (ws.length : Int) - 1
    · rw [w64 (x := js[i].b - 1) (by omega) (by omega)]
      have e2 : (decide ((0 : Int) ≤ js[i].b) && decide (js[i].b < (((Bl ts).length : Nat) : Int))) = true := by
        rw [Bl_length, Bool.and_eq_true, decide_eq_true_eq, decide_eq_true_eq]; omega
      have ih := joinsR_l hn ws hw js hj d (i + 1) m js[i].b (ts.set js[i].b.toNat true) (by omega) (by omega) (by simp [ht]) (.inr ⟨by simpa using hi, by omega, by simp⟩)
      by_cases h2 : 0 ≤ js[i].fr ∧ js[i].fr ≤ js[i].b - 1
      · cases h3 : isNm js[i].lf
        · simp [h1, h2]
        · cases h4 : isNm js[i].rt
          · simp [h1, h2]
          · rw [e2, cond_true, ih]
            rcases hl with ⟨h0, hl0⟩ | ⟨hlt, h0, hl0⟩
            · subst h0 hl0
              have : ¬ js[0].b < 0 := by omega
              simp [h1, h2, this]
            · have e3 : IntKind.i64.wrap ((i : Int) - 1) = ((i - 1 : Nat) : Int) := by rw [w64] <;> omega
              have hg : decide ((i : Int) > 0) = true := by rw [decide_eq_true_eq]; omega
              rw [e3, within_t hlt, cond_true, at_map JP.av hlt, hg, cond_true]
              simp only [h1, h2, and_self, decide_true, Bool.not_true, cond_false, not_true_eq_false, if_false, Bool.true_eq_false]
              show (bif decide (js[i].b < js[i - 1].b) then some ((i : Int), (14 : Int)) else _) = _
              rw [← hl0]
              by_cases h5 : js[i].b < last
              · rw [cond_t h5, if_pos h5]; simp
              · rw [cond_f h5, if_neg h5]; simp
      · simp [h1, h2]
    · simp [h1]
theorem joinsR_eq (hn : 3001 ≤ n) (ws : List (List UInt8)) (hw : 1 ≤ ws.length ∧ ws.length ≤ 1000) (js : List JP) (hj : js.length ≤ 1000) : Q3f.F n nm fm (Ws ws) a3 (js.map JP.av) a5 uq a7 = some (jErrT ws js) := by
  unfold Q3f.F Q3f.e jErrT
  simp only [List.length_map, Ws_length]
  by_cases h : js.length > 20
  · rw [cond_t (by omega), if_pos h]
  · rw [cond_f (by omega), if_neg h, cond_yes (by have : most = 1000000000 := rfl; simp [this]; omega), Int.toNat_natCast]
    have e : List.replicate ws.length (vb false) = Bl (List.replicate ws.length false) := by simp [Bl]
    rw [e]
    have := joinsR_l (nm := nm) (fm := fm) (a3 := a3) (a5 := a5) (uq := uq) (a7 := a7) (n := n) (by omega) ws hw js hj js.length 0 n 0 (List.replicate ws.length false) (by omega) (by omega) (by simp) (.inl ⟨rfl, rfl⟩)
    rw [List.drop_zero] at this
    exact this
end
section
variable {n : Nat} {nm fm : ByteArray} {ws : List (List UInt8)} {fs : List LF} {js : List JP} {ks : List KF} {uq : Bool} {rs : List RL}
def tailR (ws : List (List UInt8)) (fs : List LF) (uq : Bool) (rs : List RL) (i : Nat) : Int × Int :=
  if (rErr (names fs) (rs.drop i) i).2 ≠ 0 then rErr (names fs) (rs.drop i) i else (0, if ws.length > 1 ∧ (rs.length > 0 ∨ uq = true) then 15 else 0)
theorem checkR48 (hn : 1001 ≤ n) (hf : fs.length ≤ 1000) (hr : rs.length ≤ 1000) (hc : ∀ r ∈ rs, r.cs.length ≤ 1000) : ∀ (d i m : Nat), i + d = rs.length → d < m →
    Q2s.l n m (.z48 i nm fm (Ws ws) (fs.map LF.av) (js.map JP.av) (ks.map KF.av) uq (rs.map RL.av)) = some (tailR ws fs uq rs i)
  | _, _, 0, _, h => absurd h (by omega)
  | 0, i, m + 1, h, _ => by
    rw [Q2s.at48]
    unfold Q2s.r48 tailR
    simp only [List.length_map, Ws_length]
    rw [cond_f (by omega), List.drop_of_length_le (by omega)]
    show _ = some (if (0 : Int) ≠ 0 then _ else _)
    rw [if_neg (by simp)]
    by_cases h1 : ws.length > 1
    · rw [cond_t (by omega)]
      by_cases h2 : rs.length > 0
      · rw [cond_t (by omega)]; simp [h1, h2]
      · rw [cond_f (by omega)]; cases uq <;> simp [h1, h2]
    · rw [cond_f (by omega)]; simp [h1]
  | d + 1, i, m + 1, h, hm => by
    have hi : i < rs.length := by omega
    have ih := checkR48 hn hf hr hc d (i + 1) m (by omega) (by omega)
    rw [Q2s.at48]
    unfold Q2s.r48
    simp only [List.length_map]
    rw [cond_t (by omega), within_t hi, cond_true, at_map RL.av hi]
    show ((Q3k.F n nm fm (Ws ws) (fs.map LF.av) (js.map JP.av) (ks.map KF.av) uq (rs.map RL.av) rs[i].om (rs[i].cs.map CN.av)).bind fun p52 => bif p52 != 0 then (some ((i : Int), p52)) else
      Q2s.l n m (.z48 (IntKind.i64.wrap ((i : Int) + 1)) nm fm (Ws ws) (fs.map LF.av) (js.map JP.av) (ks.map KF.av) uq (rs.map RL.av))) = _
    rw [ruleErr_eq hn fs hf rs[i] (hc _ (List.getElem_mem _)), Option.bind_some, bif_ne, wsucc (by omega), ih]
    unfold tailR
    rw [List.drop_eq_getElem_cons hi]
    rw [rErr_cons]
    by_cases h0 : re (names fs) rs[i] = 0
    · simp only [h0, ne_eq, not_true_eq_false, if_false]
    · simp only [h0, ne_eq, not_false_eq_true, if_true]
def tailK (ws : List (List UInt8)) (fs : List LF) (ks : List KF) (uq : Bool) (rs : List RL) (i : Nat) : Int × Int :=
  if (kErr (names fs) (knames ks) (ks.drop i) i).2 ≠ 0 then kErr (names fs) (knames ks) (ks.drop i) i else if rs.length > 8 then (0, 2) else tailR ws fs uq rs 0
theorem checkR36 (hn : 1001 ≤ n) (hf : fs.length ≤ 1000) (hk : ks.length ≤ 1000) (hr : rs.length ≤ 1000) (hc : ∀ r ∈ rs, r.cs.length ≤ 1000) : ∀ (d i m : Nat), i + d = ks.length → 1010 * d + 1002 ≤ m →
    Q2s.l n m (.z36 i nm fm (Ws ws) (fs.map LF.av) (js.map JP.av) (ks.map KF.av) uq (rs.map RL.av)) = some (tailK ws fs ks uq rs i)
  | 0, i, m, h, hm => by
    obtain ⟨m, rfl⟩ : ∃ q, m = q + 1 := ⟨m - 1, by omega⟩
    rw [Q2s.at36]
    unfold Q2s.r36 tailK
    simp only [List.length_map]
    rw [cond_f (by omega), List.drop_of_length_le (by omega)]
    show _ = some (if (0 : Int) ≠ 0 then _ else _)
    rw [if_neg (by simp)]
    by_cases h8 : rs.length > 8
    · rw [cond_t (by omega), if_pos h8]
    · rw [cond_f (by omega), if_neg h8]
      exact checkR48 hn hf hr hc rs.length 0 m (by omega) (by omega)
  | d + 1, i, m, h, hm => by
    obtain ⟨m, rfl⟩ : ∃ q, m = q + 1 := ⟨m - 1, by omega⟩
    have hi : i < ks.length := by omega
    have hkl : (knames ks).length = ks.length := by simp [knames]
    -- whether it stood before
    have inner : ∀ (e j q : Nat), j + e = i → 1010 * d + 1003 + e ≤ q → Q2s.l n q (.z41 i j nm fm (Ws ws) (fs.map LF.av) (js.map JP.av) (ks.map KF.av) uq (rs.map RL.av)) =
        some (if (((knames ks).take i).drop j).contains ks[i].nm then ((i : Int), 13) else tailK ws fs ks uq rs (i + 1)) := by
      intro e
      induction e with
      | zero =>
        intro j q hj hq
        obtain ⟨q, rfl⟩ : ∃ r, q = r + 1 := ⟨q - 1, by omega⟩
        rw [Q2s.at41]
        unfold Q2s.r41
        rw [cond_f (by omega), wsucc (by omega), checkR36 hn hf hk hr hc d (i + 1) q (by omega) (by omega), List.drop_of_length_le (by rw [List.length_take]; omega)]
        simp
      | succ e ih =>
        intro j q hj hq
        obtain ⟨q, rfl⟩ : ∃ r, q = r + 1 := ⟨q - 1, by omega⟩
        have ih' := ih (j + 1) q (by omega) (by omega)
        have hjl : j < ks.length := by omega
        have hjt : j < ((knames ks).take i).length := by rw [List.length_take]; omega
        have e2 : ((knames ks).take i)[j] = ks[j].nm := by simp [knames]
        rw [Q2s.at41]
        unfold Q2s.r41
        simp only [List.length_map]
        rw [cond_t (by omega), within_t hjl, cond_true, at_map KF.av hjl, List.drop_eq_getElem_cons hjt, List.contains_cons, e2]
        show (bif decide ((0 : Int) ≤ (i : Int)) && decide ((i : Int) < ((ks.length : Nat) : Int)) then (withCons (((ks.map KF.av).getD (((i : Nat) : Int)).toNat .undef).cells) fun h42 r43 => withStr h42 fun s44 => bif (bs ks[j].nm).toList == s44.toList then (some ((i : Int), 13)) else
          Q2s.l n q (.z41 i (IntKind.i64.wrap ((j : Int) + 1)) nm fm (Ws ws) (fs.map LF.av) (js.map JP.av) (ks.map KF.av) uq (rs.map RL.av))) else none) = _
        rw [within_t hi, cond_true, at_map KF.av hi]
        show (bif (bs ks[j].nm).toList == (bs ks[i].nm).toList then (some ((i : Int), 13)) else
          Q2s.l n q (.z41 i (IntKind.i64.wrap ((j : Int) + 1)) nm fm (Ws ws) (fs.map LF.av) (js.map JP.av) (ks.map KF.av) uq (rs.map RL.av))) = _
        rw [str_eq, wsucc (by omega), ih']
        by_cases h : ks[j].nm = ks[i].nm
        · rw [cond_t h]; simp [h]
        · have : (ks[i].nm == ks[j].nm) = false := by simpa using fun e => h e.symm
          rw [cond_f h, this, Bool.false_or]
    rw [Q2s.at36]
    unfold Q2s.r36
    simp only [List.length_map]
    rw [cond_t (by omega), within_t hi, cond_true, at_map KF.av hi]
    show ((Q2u.F n nm fm (Ws ws) (fs.map LF.av) (js.map JP.av) (ks.map KF.av) uq (rs.map RL.av) (bs ks[i].nm)).bind fun p37 => bif p37 == (-1) then (some ((i : Int), 11)) else
      Q2s.l n m (.z41 i 0 nm fm (Ws ws) (fs.map LF.av) (js.map JP.av) (ks.map KF.av) uq (rs.map RL.av))) = _
    have hin := inner i 0 m (by omega) (by omega)
    rw [List.drop_zero] at hin
    rw [fieldOf_eq hn fs hf, Option.bind_some, ixs_none, show (0 : Int) = ((0 : Nat) : Int) from rfl, hin]
    unfold tailK
    rw [List.drop_eq_getElem_cons hi]
    rw [kErr_cons]
    unfold ke
    cases h1 : (names fs).contains ks[i].nm
    · simp
    · cases h2 : ((knames ks).take i).contains ks[i].nm
      · simp
      · simp
def tailF (ws : List (List UInt8)) (fs : List LF) (js : List JP) (ks : List KF) (uq : Bool) (rs : List RL) (i : Nat) : Int × Int :=
  if (fErr ((ws.length : Int) - 1) (names fs) (fs.drop i) i).2 ≠ 0 then fErr ((ws.length : Int) - 1) (names fs) (fs.drop i) i else if (jErrT ws js).2 ≠ 0 then jErrT ws js else if ks.length > 4 then (0, 2) else tailK ws fs ks uq rs 0
end
end Go.Proofs.YtmpglmcjoelciaaGreatDoor.Ev
namespace Go.Proofs.YtmpglmcjoelciaaGreatDoor.Ev
open Go Go.Proofs Go.Proofs.Ev
set_option linter.unusedVariables false
set_option maxRecDepth 100000
abbrev Q0x.A := ByteArray × ByteArray × List AV × List AV × List AV × List AV × Bool × List AV
abbrev Q0x.T := Int
def Q0x.i : Q0x.A → List AV := fun (a0, a1, a2, a3, a4, a5, a6, a7) => [AV.agg [vs a0, vs a1, .sl ⟨true, 9⟩ 1 a2, .sl ⟨true, 95⟩ 3 a3, .sl ⟨true, 97⟩ 4 a4, .sl ⟨true, 111⟩ 2 a5, vb a6, .sl ⟨false, 100⟩ 2 a7]]
def Q0x.o (xs : List AV) : Option Q0x.A := match xs with | [.agg [.v (.string a0), .v (.string a1), .sl ⟨true, 9⟩ 1 a2, .sl ⟨true, 95⟩ 3 a3, .sl ⟨true, 97⟩ 4 a4, .sl ⟨true, 111⟩ 2 a5, .v (.bool a6), .sl ⟨false, 100⟩ 2 a7]] => some (a0, a1, a2, a3, a4, a5, a6, a7) | _ => none
theorem Q0x.oi : ∀ xs a, Q0x.o xs = some a → xs = Q0x.i a := by
  intro xs a h
  unfold Q0x.o at h
  split at h
  · cases h; rfl
  · cases h
def Q0x.p (p : Q0x.T) : AV := vi p
def Q0x.q (x : AV) : Option Q0x.T := match x with | .v (.int .i64 p0) => some p0 | _ => none
theorem Q0x.qi : ∀ x p, Q0x.q x = some p → x = Q0x.p p := by
  intro x p h
  unfold Q0x.q at h
  split at h
  · cases h; rfl
  · cases h
def Q0x.C {R : Type} (n : Nat) (f : FuncId) (xs : List AV) : (AV → Option R) → Option R :=
  bif Nat.beq f 17 then Q04.via n xs else fun _ => none
theorem Q0x.tells {R : Type} (n : Nat) : Tells (R := R) Tryz.prog (Q0x.C n) := fun _ xs => tells_at (Q04.tells1 n xs) (Tells1.none)
def Q0x.cut (r : Nat) : Option Keep := match r with  | _ => none
def Q0x.e (n : Nat) (a0 a1 : ByteArray) (a2 a3 a4 a5 : List AV) (a6 : Bool) (a7 : List AV) : Option Int :=
  (Q04.F n a0 a1 a2 a3 a4 a5 a6 a7).bind fun p1 =>
  some p1.2
def Q0x.E (n : Nat) : Q0x.A → Option Q0x.T := fun (a0, a1, a2, a3, a4, a5, a6, a7) => Q0x.e n a0 a1 a2 a3 a4 a5 a6 a7
def Q0x.F (n : Nat) (a0 a1 : ByteArray) (a2 a3 a4 a5 : List AV) (a6 : Bool) (a7 : List AV) : Option Int := Q0x.e n a0 a1 a2 a3 a4 a5 a6 a7
def Q0x.FA (n : Nat) : Q0x.A → Option Q0x.T := Q0x.E n
theorem Q0x.hands (n : Nat) : ∀ a p, Q0x.FA n a = some p → HandsIn Tryz.prog 114 (Q0x.i a) (Q0x.p p) :=
  pf_hands (C := Q0x.C n) (cut := Q0x.cut) (Z := Empty) (t := nofun) (s := nofun) (e := fun _ => Q0x.E n) (r := fun _ z => nomatch z) (n := n) cfg mixed globs rfl Q0x.qi (Q0x.tells n) Tryz.func114 (by kernel_rfl) (by kernel_rfl) (fun rec a => by kernel_rfl) (fun rec z => nomatch z)
def Q0x.via {R : Type} (n : Nat) : List AV → (AV → Option R) → Option R := viaK (Q0x.FA n) Q0x.o Q0x.p
theorem Q0x.tells1 {R : Type} (n : Nat) (xs : List AV) : Tells1 (R := R) Tryz.prog 114 xs (Q0x.via n xs) := tells_via Q0x.oi (fun a => by kernel_rfl) (Q0x.hands n) xs
end Go.Proofs.YtmpglmcjoelciaaGreatDoor.Ev
namespace Go.Proofs.YtmpglmcjoelciaaGreatDoor.Ev
open Go Go.Proofs Go.Proofs.Ev
set_option linter.unusedVariables false
set_option maxRecDepth 100000
abbrev Q44.A := Int × Int × Int
abbrev Q44.T := Int
def Q44.i : Q44.A → List AV := fun (a0, a1, a2) => [AV.agg [vi a0, vi a1, vi a2]]
def Q44.o (xs : List AV) : Option Q44.A := match xs with | [.agg [.v (.int .i64 a0), .v (.int .i64 a1), .v (.int .i64 a2)]] => some (a0, a1, a2) | _ => none
theorem Q44.oi : ∀ xs a, Q44.o xs = some a → xs = Q44.i a := by
  intro xs a h
  unfold Q44.o at h
  split at h
  · cases h; rfl
  · cases h
def Q44.p (p : Q44.T) : AV := vi p
def Q44.q (x : AV) : Option Q44.T := match x with | .v (.int .i64 p0) => some p0 | _ => none
theorem Q44.qi : ∀ x p, Q44.q x = some p → x = Q44.p p := by
  intro x p h
  unfold Q44.q at h
  split at h
  · cases h; rfl
  · cases h
def Q44.C {R : Type} (n : Nat) (f : FuncId) (xs : List AV) : (AV → Option R) → Option R :=
  fun _ => none
theorem Q44.tells {R : Type} (n : Nat) : Tells (R := R) Tryz.prog (Q44.C n) := fun _ xs => Tells1.none
def Q44.cut (r : Nat) : Option Keep := match r with  | _ => none
def Q44.e (n : Nat) (a0 a1 a2 : Int) : Option Int :=
  bif a0 == 1 then (let y1 : Int := IntKind.i64.wrap (Int.tdiv a1 2)
  some (IntKind.i64.wrap (y1 + 1))) else (bif a0 == 3 then (let y2 : Int := IntKind.i64.wrap (Int.tdiv a1 9)
  let y3 : Int := IntKind.i64.wrap ((2 : Int) + (IntKind.i64.wrap (y2 * 2)))
  some y3) else (bif a0 == 4 then (some 16) else (some a1)))
def Q44.E (n : Nat) : Q44.A → Option Q44.T := fun (a0, a1, a2) => Q44.e n a0 a1 a2
def Q44.F (n : Nat) (a0 a1 a2 : Int) : Option Int := Q44.e n a0 a1 a2
def Q44.FA (n : Nat) : Q44.A → Option Q44.T := Q44.E n
theorem Q44.hands (n : Nat) : ∀ a p, Q44.FA n a = some p → HandsIn Tryz.prog 180 (Q44.i a) (Q44.p p) :=
  pf_hands (C := Q44.C n) (cut := Q44.cut) (Z := Empty) (t := nofun) (s := nofun) (e := fun _ => Q44.E n) (r := fun _ z => nomatch z) (n := n) cfg mixed globs rfl Q44.qi (Q44.tells n) Tryz.func180 (by kernel_rfl) (by kernel_rfl) (fun rec a => by kernel_rfl) (fun rec z => nomatch z)
def Q44.via {R : Type} (n : Nat) : List AV → (AV → Option R) → Option R := viaK (Q44.FA n) Q44.o Q44.p
theorem Q44.tells1 {R : Type} (n : Nat) (xs : List AV) : Tells1 (R := R) Tryz.prog 180 xs (Q44.via n xs) := tells_via Q44.oi (fun a => by kernel_rfl) (Q44.hands n) xs
end Go.Proofs.YtmpglmcjoelciaaGreatDoor.Ev
namespace Go.Proofs.YtmpglmcjoelciaaGreatDoor.Ev
open Go Go.Proofs Go.Proofs.Ev
set_option linter.unusedVariables false
set_option maxRecDepth 100000
abbrev Q3w.A := Int × Int × Int
abbrev Q3w.T := Int × Int
def Q3w.i : Q3w.A → List AV := fun (a0, a1, a2) => [AV.agg [vi a0, vi a1, vi a2]]
def Q3w.o (xs : List AV) : Option Q3w.A := match xs with | [.agg [.v (.int .i64 a0), .v (.int .i64 a1), .v (.int .i64 a2)]] => some (a0, a1, a2) | _ => none
theorem Q3w.oi : ∀ xs a, Q3w.o xs = some a → xs = Q3w.i a := by
  intro xs a h
  unfold Q3w.o at h
  split at h
  · cases h; rfl
  · cases h
def Q3w.p (p : Q3w.T) : AV := .tup [vi p.1, vi p.2]
def Q3w.q (x : AV) : Option Q3w.T := match x with | .tup [.v (.int .i64 p0), .v (.int .i64 p1)] => some (p0, p1) | _ => none
theorem Q3w.qi : ∀ x p, Q3w.q x = some p → x = Q3w.p p := by
  intro x p h
  unfold Q3w.q at h
  split at h
  · cases h; rfl
  · cases h
def Q3w.C {R : Type} (n : Nat) (f : FuncId) (xs : List AV) : (AV → Option R) → Option R :=
  bif Nat.beq f 84 then Q3t.via n xs else bif Nat.beq f 180 then Q44.via n xs else fun _ => none
theorem Q3w.tells {R : Type} (n : Nat) : Tells (R := R) Tryz.prog (Q3w.C n) := fun _ xs => tells_at (Q3t.tells1 n xs) (tells_at (Q44.tells1 n xs) (Tells1.none))
def Q3w.cut (r : Nat) : Option Keep := match r with  | _ => none
def Q3w.e (n : Nat) (a0 a1 a2 : Int) : Option (Int × Int) :=
  (Q3t.F n a0 a1 a2).bind fun p1 =>
  bif p1 != 0 then (some (0, p1)) else ((Q44.F n a0 a1 a2).bind fun p2 =>
  some (p2, 0))
def Q3w.E (n : Nat) : Q3w.A → Option Q3w.T := fun (a0, a1, a2) => Q3w.e n a0 a1 a2
def Q3w.F (n : Nat) (a0 a1 a2 : Int) : Option (Int × Int) := Q3w.e n a0 a1 a2
def Q3w.FA (n : Nat) : Q3w.A → Option Q3w.T := Q3w.E n
theorem Q3w.hands (n : Nat) : ∀ a p, Q3w.FA n a = some p → HandsIn Tryz.prog 159 (Q3w.i a) (Q3w.p p) :=
  pf_hands (C := Q3w.C n) (cut := Q3w.cut) (Z := Empty) (t := nofun) (s := nofun) (e := fun _ => Q3w.E n) (r := fun _ z => nomatch z) (n := n) cfg mixed globs rfl Q3w.qi (Q3w.tells n) Tryz.func159 (by kernel_rfl) (by kernel_rfl) (fun rec a => by kernel_rfl) (fun rec z => nomatch z)
def Q3w.via {R : Type} (n : Nat) : List AV → (AV → Option R) → Option R := viaK (Q3w.FA n) Q3w.o Q3w.p
theorem Q3w.tells1 {R : Type} (n : Nat) (xs : List AV) : Tells1 (R := R) Tryz.prog 159 xs (Q3w.via n xs) := tells_via Q3w.oi (fun a => by kernel_rfl) (Q3w.hands n) xs
end Go.Proofs.YtmpglmcjoelciaaGreatDoor.Ev
namespace Go.Proofs.YtmpglmcjoelciaaGreatDoor.Ev
open Go Go.Proofs Go.Proofs.Ev
set_option linter.unusedVariables false
set_option maxRecDepth 100000
abbrev Q17.A := List AV
abbrev Q17.T := Int
def Q17.i : Q17.A → List AV := fun a0 => [.sl ⟨true, 125⟩ 4 a0]
def Q17.o (xs : List AV) : Option Q17.A := match xs with | [.sl ⟨true, 125⟩ 4 a0] => some a0 | _ => none
theorem Q17.oi : ∀ xs a, Q17.o xs = some a → xs = Q17.i a := by
  intro xs a h
  unfold Q17.o at h
  split at h
  · cases h; rfl
  · cases h
def Q17.p (p : Q17.T) : AV := vi p
def Q17.q (x : AV) : Option Q17.T := match x with | .v (.int .i64 p0) => some p0 | _ => none
theorem Q17.qi : ∀ x p, Q17.q x = some p → x = Q17.p p := by
  intro x p h
  unfold Q17.q at h
  split at h
  · cases h; rfl
  · cases h
inductive Q17.Z where
  | z3 (z1 : Int) (z2 : List AV) (z3 z4 : Int)
def Q17.C {R : Type} (n : Nat) (f : FuncId) (xs : List AV) : (AV → Option R) → Option R :=
  bif Nat.beq f 159 then Q3w.via n xs else fun _ => none
theorem Q17.tells {R : Type} (n : Nat) : Tells (R := R) Tryz.prog (Q17.C n) := fun _ xs => tells_at (Q3w.tells1 n xs) (Tells1.none)
def Q17.cut (r : Nat) : Option Keep := match r with | 3 => some ⟨[3, 8, 9, 10], []⟩ | _ => none
def Q17.t (z : Q17.Z) : List Item := (todoOf (match z with | .z3 _ _ _ _ => 3) 1000 [.code (Tryz.f137.body.getD .skip)]).getD []
def Q17.s : Q17.Z → St
  | .z3 z1 z2 z3 z4 => ⟨spr 25 0 [(3, vi z1), (8, .sl ⟨true, 125⟩ 4 z2), (9, vi z3), (10, vi z4)], Mem.ofList [], 0⟩
def Q17.r3 (n : Nat) (c : Q17.Z → Option Int) (z1 : Int) (z2 : List AV) (z3 z4 : Int) : Option Int :=
  bif decide (z4 < z3) then (bif decide ((0 : Int) ≤ z4) && decide (z4 < ((z2.length : Nat) : Int)) then (withCons ((z2.getD ((z4).toNat) .undef).cells) fun h1 r2 =>
  withStr h1 fun s3 =>
  withCons r2 fun h4 r5 =>
  withInt .i64 h4 fun x6 =>
  withCons r5 fun h7 r8 =>
  withInt .i64 h7 fun x9 =>
  withCons r8 fun h10 r11 =>
  withInt .i64 h10 fun x12 =>
  (Q3w.F n x6 x9 x12).bind fun p13 =>
  let y14 : Int := IntKind.i64.wrap (z1 + p13.1)
  c (.z3 y14 z2 z3 (IntKind.i64.wrap (z4 + 1)))) else none) else (some z1)
def Q17.r (n : Nat) (c : Q17.Z → Option Int) : Q17.Z → Option Int
  | .z3 z1 z2 z3 z4 => Q17.r3 n c z1 z2 z3 z4
def Q17.e (n : Nat) (c : Q17.Z → Option Int) (a0 : List AV) : Option Int :=
  c (.z3 0 a0 ((a0.length : Nat) : Int) 0)
def Q17.E (n : Nat) (c : Q17.Z → Option Int) : Q17.A → Option Q17.T := fun a0 => Q17.e n c a0
def Q17.l (n : Nat) : Nat → Q17.Z → Option Int := loopL (Q17.r n)
def Q17.F (n : Nat) (a0 : List AV) : Option Int := Q17.e n (Q17.l n n) a0
def Q17.FA (n : Nat) : Q17.A → Option Q17.T := Q17.E n (Q17.l n n)
theorem Q17.hands (n : Nat) : ∀ a p, Q17.FA n a = some p → HandsIn Tryz.prog 137 (Q17.i a) (Q17.p p) :=
  pf_hands (C := Q17.C n) (cut := Q17.cut) (t := Q17.t) (s := Q17.s) (e := Q17.E n) (r := Q17.r n) (n := n) cfg mixed globs rfl Q17.qi (Q17.tells n) Tryz.func137 (by kernel_rfl) (by kernel_rfl) (fun rec a => by kernel_rfl) (fun rec z => by cases z <;> kernel_rfl)
def Q17.via {R : Type} (n : Nat) : List AV → (AV → Option R) → Option R := viaK (Q17.FA n) Q17.o Q17.p
theorem Q17.tells1 {R : Type} (n : Nat) (xs : List AV) : Tells1 (R := R) Tryz.prog 137 xs (Q17.via n xs) := tells_via Q17.oi (fun a => by kernel_rfl) (Q17.hands n) xs
end Go.Proofs.YtmpglmcjoelciaaGreatDoor.Ev
namespace Go.Proofs.YtmpglmcjoelciaaGreatDoor.Ev
open Go Go.Proofs Go.Proofs.Ev
set_option linter.unusedVariables false
set_option maxRecDepth 100000
abbrev Q0j.A := ByteArray × ByteArray × List AV × List AV × Bool
abbrev Q0j.T := Int
def Q0j.i : Q0j.A → List AV := fun (a0, a1, a2, a3, a4) => [AV.agg [vs a0, vs a1, .sl ⟨true, 125⟩ 4 a2, .sl ⟨true, 111⟩ 2 a3, vb a4]]
def Q0j.o (xs : List AV) : Option Q0j.A := match xs with | [.agg [.v (.string a0), .v (.string a1), .sl ⟨true, 125⟩ 4 a2, .sl ⟨true, 111⟩ 2 a3, .v (.bool a4)]] => some (a0, a1, a2, a3, a4) | _ => none
theorem Q0j.oi : ∀ xs a, Q0j.o xs = some a → xs = Q0j.i a := by
  intro xs a h
  unfold Q0j.o at h
  split at h
  · cases h; rfl
  · cases h
def Q0j.p (p : Q0j.T) : AV := vi p
def Q0j.q (x : AV) : Option Q0j.T := match x with | .v (.int .i64 p0) => some p0 | _ => none
theorem Q0j.qi : ∀ x p, Q0j.q x = some p → x = Q0j.p p := by
  intro x p h
  unfold Q0j.q at h
  split at h
  · cases h; rfl
  · cases h
inductive Q0j.Z where
  | z7 (z1 z2 : List AV) (z3 z4 : Int) (z5 z6 : ByteArray) (z7 z8 : List AV) (z9 : Bool) (z10 : List AV)
def Q0j.C {R : Type} (n : Nat) (f : FuncId) (xs : List AV) : (AV → Option R) → Option R :=
  bif Nat.beq f 44 then Q0m.via n xs else bif Nat.beq f 45 then Q0f.via n xs else bif Nat.beq f 51 then Q0r.via n xs else bif Nat.beq f 56 then Q0w.via n xs else bif Nat.beq f 84 then Q3t.via n xs else bif Nat.beq f 99 then Q0y.via n xs else bif Nat.beq f 137 then Q17.via n xs else fun _ => none
theorem Q0j.tells {R : Type} (n : Nat) : Tells (R := R) Tryz.prog (Q0j.C n) := fun _ xs => tells_at (Q0m.tells1 n xs) (tells_at (Q0f.tells1 n xs) (tells_at (Q0r.tells1 n xs) (tells_at (Q0w.tells1 n xs) (tells_at (Q3t.tells1 n xs) (tells_at (Q0y.tells1 n xs) (tells_at (Q17.tells1 n xs) (Tells1.none)))))))
def Q0j.cut (r : Nat) : Option Keep := match r with | 7 => some ⟨[1, 3, 5, 38, 39, 40], [(5, none, ⟨true, 9⟩, 1)]⟩ | _ => none
def Q0j.t (z : Q0j.Z) : List Item := (todoOf (match z with | .z7 _ _ _ _ _ _ _ _ _ _ => 7) 1000 [.code (Tryz.f115.body.getD .skip)]).getD []
def Q0j.s : Q0j.Z → St
  | .z7 z1 z2 z3 z4 z5 z6 z7 z8 z9 z10 => ⟨spr 78 0 [(1, .ptr 0 0), (3, .sl ⟨true, 125⟩ 4 z1), (5, .own 1 0 none), (38, .sl ⟨true, 125⟩ 4 z2), (39, vi z3), (40, vi z4)], Mem.ofList [.box 48 [vs z5, vs z6, .sl ⟨true, 125⟩ 4 z7, .sl ⟨true, 111⟩ 2 z8, vb z9], .row ⟨true, 9⟩ 1 z10], 2⟩
def Q0j.r7 (n : Nat) (c : Q0j.Z → Option Int) (z1 z2 : List AV) (z3 z4 : Int) (z5 z6 : ByteArray) (z7 z8 : List AV) (z9 : Bool) (z10 : List AV) : Option Int :=
  bif decide (z4 < z3) then (bif decide ((0 : Int) ≤ z4) && decide (z4 < ((z2.length : Nat) : Int)) then (withCons ((z2.getD ((z4).toNat) .undef).cells) fun h10 r11 =>
  withStr h10 fun s12 =>
  withCons r11 fun h13 r14 =>
  withInt .i64 h13 fun x15 =>
  withCons r14 fun h16 r17 =>
  withInt .i64 h16 fun x18 =>
  withCons r17 fun h19 r20 =>
  withInt .i64 h19 fun x21 =>
  (Q0y.F n s12 z10).bind fun p22 =>
  (Q3t.F n x15 x18 x21).bind fun p23 =>
  (Q0f.F n (x15 == 4) 17).bind fun p24 =>
  (Q0m.F n [vi p22, vi p23, vi p24]).bind fun p25 =>
  bif p25 != 0 then (some p25) else (bif decide (z10.length + [vs s12].length ≤ most) then (c (.z7 z1 z2 z3 (IntKind.i64.wrap (z4 + 1)) z5 z6 z7 z8 z9 (z10 ++ [vs s12]))) else none)) else none) else ((Q17.F n z1).bind fun p26 =>
  bif decide (p26 > 200) then (some 18) else ((Q0w.F n z8 z10).bind fun p27 =>
  some p27.2))
def Q0j.r (n : Nat) (c : Q0j.Z → Option Int) : Q0j.Z → Option Int
  | .z7 z1 z2 z3 z4 z5 z6 z7 z8 z9 z10 => Q0j.r7 n c z1 z2 z3 z4 z5 z6 z7 z8 z9 z10
def Q0j.e (n : Nat) (c : Q0j.Z → Option Int) (a0 a1 : ByteArray) (a2 a3 : List AV) (a4 : Bool) : Option Int :=
  (Q0r.F n a0).bind fun p1 =>
  (Q0f.F n (!p1) 7).bind fun p2 =>
  (Q0r.F n a1).bind fun p3 =>
  (Q0f.F n (!p3) 7).bind fun p4 =>
  let y5 : Bool := ((a2.length : Nat) : Int) == 0
  (Q0f.F n y5 1).bind fun p6 =>
  let y7 : Bool := decide (((a2.length : Nat) : Int) > 20)
  (Q0f.F n y7 2).bind fun p8 =>
  (Q0m.F n [vi p2, vi p4, vi p6, vi p8]).bind fun p9 =>
  bif p9 != 0 then (some p9) else (c (.z7 a2 a2 ((a2.length : Nat) : Int) 0 a0 a1 a2 a3 a4 []))
def Q0j.E (n : Nat) (c : Q0j.Z → Option Int) : Q0j.A → Option Q0j.T := fun (a0, a1, a2, a3, a4) => Q0j.e n c a0 a1 a2 a3 a4
def Q0j.l (n : Nat) : Nat → Q0j.Z → Option Int := loopL (Q0j.r n)
def Q0j.F (n : Nat) (a0 a1 : ByteArray) (a2 a3 : List AV) (a4 : Bool) : Option Int := Q0j.e n (Q0j.l n n) a0 a1 a2 a3 a4
def Q0j.FA (n : Nat) : Q0j.A → Option Q0j.T := Q0j.E n (Q0j.l n n)
theorem Q0j.hands (n : Nat) : ∀ a p, Q0j.FA n a = some p → HandsIn Tryz.prog 115 (Q0j.i a) (Q0j.p p) :=
  pf_hands (C := Q0j.C n) (cut := Q0j.cut) (t := Q0j.t) (s := Q0j.s) (e := Q0j.E n) (r := Q0j.r n) (n := n) cfg mixed globs rfl Q0j.qi (Q0j.tells n) Tryz.func115 (by kernel_rfl) (by kernel_rfl) (fun rec a => by kernel_rfl) (fun rec z => by cases z <;> kernel_rfl)
def Q0j.via {R : Type} (n : Nat) : List AV → (AV → Option R) → Option R := viaK (Q0j.FA n) Q0j.o Q0j.p
theorem Q0j.tells1 {R : Type} (n : Nat) (xs : List AV) : Tells1 (R := R) Tryz.prog 115 xs (Q0j.via n xs) := tells_via Q0j.oi (fun a => by kernel_rfl) (Q0j.hands n) xs
end Go.Proofs.YtmpglmcjoelciaaGreatDoor.Ev
namespace Go.Proofs.YtmpglmcjoelciaaGreatDoor.Ev
open Go Go.Proofs Go.Proofs.Ev
set_option linter.unusedVariables false
set_option maxRecDepth 100000
abbrev Q0h.A := Bool × ByteArray × ByteArray × List AV × List AV × Bool × ByteArray × ByteArray × List AV × List AV × List AV × List AV × Bool × List AV
abbrev Q0h.T := Int
def Q0h.i : Q0h.A → List AV := fun (a0, a1, a2, a3, a4, a5, a6, a7, a8, a9, a10, a11, a12, a13) => [AV.agg [vb a0, vs a1, vs a2, .sl ⟨true, 125⟩ 4 a3, .sl ⟨true, 111⟩ 2 a4, vb a5, vs a6, vs a7, .sl ⟨true, 9⟩ 1 a8, .sl ⟨true, 95⟩ 3 a9, .sl ⟨true, 97⟩ 4 a10, .sl ⟨true, 111⟩ 2 a11, vb a12, .sl ⟨false, 100⟩ 2 a13]]
def Q0h.o (xs : List AV) : Option Q0h.A := match xs with | [.agg [.v (.bool a0), .v (.string a1), .v (.string a2), .sl ⟨true, 125⟩ 4 a3, .sl ⟨true, 111⟩ 2 a4, .v (.bool a5), .v (.string a6), .v (.string a7), .sl ⟨true, 9⟩ 1 a8, .sl ⟨true, 95⟩ 3 a9, .sl ⟨true, 97⟩ 4 a10, .sl ⟨true, 111⟩ 2 a11, .v (.bool a12), .sl ⟨false, 100⟩ 2 a13]] => some (a0, a1, a2, a3, a4, a5, a6, a7, a8, a9, a10, a11, a12, a13) | _ => none
theorem Q0h.oi : ∀ xs a, Q0h.o xs = some a → xs = Q0h.i a := by
  intro xs a h
  unfold Q0h.o at h
  split at h
  · cases h; rfl
  · cases h
def Q0h.p (p : Q0h.T) : AV := vi p
def Q0h.q (x : AV) : Option Q0h.T := match x with | .v (.int .i64 p0) => some p0 | _ => none
theorem Q0h.qi : ∀ x p, Q0h.q x = some p → x = Q0h.p p := by
  intro x p h
  unfold Q0h.q at h
  split at h
  · cases h; rfl
  · cases h
def Q0h.C {R : Type} (n : Nat) (f : FuncId) (xs : List AV) : (AV → Option R) → Option R :=
  bif Nat.beq f 114 then Q0x.via n xs else bif Nat.beq f 115 then Q0j.via n xs else fun _ => none
theorem Q0h.tells {R : Type} (n : Nat) : Tells (R := R) Tryz.prog (Q0h.C n) := fun _ xs => tells_at (Q0x.tells1 n xs) (tells_at (Q0j.tells1 n xs) (Tells1.none))
def Q0h.cut (r : Nat) : Option Keep := match r with  | _ => none
def Q0h.e (n : Nat) (a0 : Bool) (a1 a2 : ByteArray) (a3 a4 : List AV) (a5 : Bool) (a6 a7 : ByteArray) (a8 a9 a10 a11 : List AV) (a12 : Bool) (a13 : List AV) : Option Int :=
  bif a0 then ((Q0x.F n a6 a7 a8 a9 a10 a11 a12 a13).bind fun p1 =>
  some p1) else ((Q0j.F n a1 a2 a3 a4 a5).bind fun p2 =>
  some p2)
def Q0h.E (n : Nat) : Q0h.A → Option Q0h.T := fun (a0, a1, a2, a3, a4, a5, a6, a7, a8, a9, a10, a11, a12, a13) => Q0h.e n a0 a1 a2 a3 a4 a5 a6 a7 a8 a9 a10 a11 a12 a13
def Q0h.F (n : Nat) (a0 : Bool) (a1 a2 : ByteArray) (a3 a4 : List AV) (a5 : Bool) (a6 a7 : ByteArray) (a8 a9 a10 a11 : List AV) (a12 : Bool) (a13 : List AV) : Option Int := Q0h.e n a0 a1 a2 a3 a4 a5 a6 a7 a8 a9 a10 a11 a12 a13
def Q0h.FA (n : Nat) : Q0h.A → Option Q0h.T := Q0h.E n
theorem Q0h.hands (n : Nat) : ∀ a p, Q0h.FA n a = some p → HandsIn Tryz.prog 66 (Q0h.i a) (Q0h.p p) :=
  pf_hands (C := Q0h.C n) (cut := Q0h.cut) (Z := Empty) (t := nofun) (s := nofun) (e := fun _ => Q0h.E n) (r := fun _ z => nomatch z) (n := n) cfg mixed globs rfl Q0h.qi (Q0h.tells n) Tryz.func66 (by kernel_rfl) (by kernel_rfl) (fun rec a => by kernel_rfl) (fun rec z => nomatch z)
def Q0h.via {R : Type} (n : Nat) : List AV → (AV → Option R) → Option R := viaK (Q0h.FA n) Q0h.o Q0h.p
theorem Q0h.tells1 {R : Type} (n : Nat) (xs : List AV) : Tells1 (R := R) Tryz.prog 66 xs (Q0h.via n xs) := tells_via Q0h.oi (fun a => by kernel_rfl) (Q0h.hands n) xs
end Go.Proofs.YtmpglmcjoelciaaGreatDoor.Ev
namespace Go.Proofs.YtmpglmcjoelciaaGreatDoor.Ev
open Go Go.Proofs Go.Proofs.Ev
set_option linter.unusedVariables false
set_option maxRecDepth 100000
abbrev Q3i.A := Unit
abbrev Q3i.T := List AV
def Q3i.i : Q3i.A → List AV := fun _ => []
def Q3i.o (xs : List AV) : Option Q3i.A := match xs with | [] => some () | _ => none
theorem Q3i.oi : ∀ xs a, Q3i.o xs = some a → xs = Q3i.i a := by
  intro xs a h
  unfold Q3i.o at h
  split at h
  · cases h; rfl
  · cases h
def Q3i.p (p : Q3i.T) : AV := .fr ⟨true, 9⟩ 1 p
def Q3i.q (x : AV) : Option Q3i.T := match x with | .fr ⟨true, 9⟩ 1 p0 => some p0 | _ => none
theorem Q3i.qi : ∀ x p, Q3i.q x = some p → x = Q3i.p p := by
  intro x p h
  unfold Q3i.q at h
  split at h
  · cases h; rfl
  · cases h
def Q3i.C {R : Type} (n : Nat) (f : FuncId) (xs : List AV) : (AV → Option R) → Option R :=
  fun _ => none
theorem Q3i.tells {R : Type} (n : Nat) : Tells (R := R) Tryz.prog (Q3i.C n) := fun _ xs => Tells1.none
def Q3i.cut (r : Nat) : Option Keep := match r with  | _ => none
def Q3i.e (n : Nat)  : Option (List AV) :=
  some [vs (⟨#[69, 81]⟩ : ByteArray), vs (⟨#[78, 69]⟩ : ByteArray), vs (⟨#[76, 84]⟩ : ByteArray), vs (⟨#[76, 69]⟩ : ByteArray), vs (⟨#[71, 84]⟩ : ByteArray), vs (⟨#[71, 69]⟩ : ByteArray)]
def Q3i.E (n : Nat) : Q3i.A → Option Q3i.T := fun _ => Q3i.e n
def Q3i.F (n : Nat)  : Option (List AV) := Q3i.e n
def Q3i.FA (n : Nat) : Q3i.A → Option Q3i.T := Q3i.E n
theorem Q3i.hands (n : Nat) : ∀ a p, Q3i.FA n a = some p → HandsIn Tryz.prog 124 (Q3i.i a) (Q3i.p p) :=
  pf_hands (C := Q3i.C n) (cut := Q3i.cut) (Z := Empty) (t := nofun) (s := nofun) (e := fun _ => Q3i.E n) (r := fun _ z => nomatch z) (n := n) cfg mixed globs rfl Q3i.qi (Q3i.tells n) Tryz.func124 (by kernel_rfl) (by kernel_rfl) (fun rec a => by kernel_rfl) (fun rec z => nomatch z)
def Q3i.via {R : Type} (n : Nat) : List AV → (AV → Option R) → Option R := viaK (Q3i.FA n) Q3i.o Q3i.p
theorem Q3i.tells1 {R : Type} (n : Nat) (xs : List AV) : Tells1 (R := R) Tryz.prog 124 xs (Q3i.via n xs) := tells_via Q3i.oi (fun a => by kernel_rfl) (Q3i.hands n) xs
end Go.Proofs.YtmpglmcjoelciaaGreatDoor.Ev
namespace Go.Proofs.YtmpglmcjoelciaaGreatDoor.Ev
open Go Go.Proofs Go.Proofs.Ev
set_option linter.unusedVariables false
set_option maxRecDepth 100000
abbrev Q1x.A := Int × Int × Int
abbrev Q1x.T := Int
def Q1x.i : Q1x.A → List AV := fun (a0, a1, a2) => [AV.agg [vi a0, vi a1, vi a2]]
def Q1x.o (xs : List AV) : Option Q1x.A := match xs with | [.agg [.v (.int .i64 a0), .v (.int .i64 a1), .v (.int .i64 a2)]] => some (a0, a1, a2) | _ => none
theorem Q1x.oi : ∀ xs a, Q1x.o xs = some a → xs = Q1x.i a := by
  intro xs a h
  unfold Q1x.o at h
  split at h
  · cases h; rfl
  · cases h
def Q1x.p (p : Q1x.T) : AV := vi p
def Q1x.q (x : AV) : Option Q1x.T := match x with | .v (.int .i64 p0) => some p0 | _ => none
theorem Q1x.qi : ∀ x p, Q1x.q x = some p → x = Q1x.p p := by
  intro x p h
  unfold Q1x.q at h
  split at h
  · cases h; rfl
  · cases h
def Q1x.C {R : Type} (n : Nat) (f : FuncId) (xs : List AV) : (AV → Option R) → Option R :=
  bif Nat.beq f 88 then Q1p.via n xs else fun _ => none
theorem Q1x.tells {R : Type} (n : Nat) : Tells (R := R) Tryz.prog (Q1x.C n) := fun _ xs => tells_at (Q1p.tells1 n xs) (Tells1.none)
def Q1x.cut (r : Nat) : Option Keep := match r with  | _ => none
def Q1x.e (n : Nat) (a0 a1 a2 : Int) : Option Int :=
  bif a0 == 1 then (let y1 : Int := IntKind.i64.wrap (Int.tdiv a1 2)
  some (IntKind.i64.wrap (y1 + 1))) else (bif a0 == 3 then ((Q1p.F n (a1 == 9)).bind fun p2 =>
  let y3 : Int := IntKind.i64.wrap ((2 : Int) * p2)
  let y4 : Int := IntKind.i64.wrap ((2 : Int) + y3)
  some y4) else (bif a0 == 4 then (some 16) else (some a1)))
def Q1x.E (n : Nat) : Q1x.A → Option Q1x.T := fun (a0, a1, a2) => Q1x.e n a0 a1 a2
def Q1x.F (n : Nat) (a0 a1 a2 : Int) : Option Int := Q1x.e n a0 a1 a2
def Q1x.FA (n : Nat) : Q1x.A → Option Q1x.T := Q1x.E n
theorem Q1x.hands (n : Nat) : ∀ a p, Q1x.FA n a = some p → HandsIn Tryz.prog 142 (Q1x.i a) (Q1x.p p) :=
  pf_hands (C := Q1x.C n) (cut := Q1x.cut) (Z := Empty) (t := nofun) (s := nofun) (e := fun _ => Q1x.E n) (r := fun _ z => nomatch z) (n := n) cfg mixed globs rfl Q1x.qi (Q1x.tells n) Tryz.func142 (by kernel_rfl) (by kernel_rfl) (fun rec a => by kernel_rfl) (fun rec z => nomatch z)
def Q1x.via {R : Type} (n : Nat) : List AV → (AV → Option R) → Option R := viaK (Q1x.FA n) Q1x.o Q1x.p
theorem Q1x.tells1 {R : Type} (n : Nat) (xs : List AV) : Tells1 (R := R) Tryz.prog 142 xs (Q1x.via n xs) := tells_via Q1x.oi (fun a => by kernel_rfl) (Q1x.hands n) xs
end Go.Proofs.YtmpglmcjoelciaaGreatDoor.Ev
namespace Go.Proofs.YtmpglmcjoelciaaGreatDoor.Ev
open Go Go.Proofs Go.Proofs.Ev
set_option linter.unusedVariables false
set_option maxRecDepth 100000
abbrev Q27.A := ByteArray × List AV
abbrev Q27.T := Int
def Q27.i : Q27.A → List AV := fun (a0, a1) => [AV.agg [vs a0, .sl ⟨true, 125⟩ 4 a1]]
def Q27.o (xs : List AV) : Option Q27.A := match xs with | [.agg [.v (.string a0), .sl ⟨true, 125⟩ 4 a1]] => some (a0, a1) | _ => none
theorem Q27.oi : ∀ xs a, Q27.o xs = some a → xs = Q27.i a := by
  intro xs a h
  unfold Q27.o at h
  split at h
  · cases h; rfl
  · cases h
def Q27.p (p : Q27.T) : AV := vi p
def Q27.q (x : AV) : Option Q27.T := match x with | .v (.int .i64 p0) => some p0 | _ => none
theorem Q27.qi : ∀ x p, Q27.q x = some p → x = Q27.p p := by
  intro x p h
  unfold Q27.q at h
  split at h
  · cases h; rfl
  · cases h
inductive Q27.Z where
  | z3 (z1 z2 : Int) (z3 : ByteArray) (z4 : List AV)
def Q27.C {R : Type} (n : Nat) (f : FuncId) (xs : List AV) : (AV → Option R) → Option R :=
  bif Nat.beq f 142 then Q1x.via n xs else fun _ => none
theorem Q27.tells {R : Type} (n : Nat) : Tells (R := R) Tryz.prog (Q27.C n) := fun _ xs => tells_at (Q1x.tells1 n xs) (Tells1.none)
def Q27.cut (r : Nat) : Option Keep := match r with | 3 => some ⟨[1, 3, 4], []⟩ | _ => none
def Q27.t (z : Q27.Z) : List Item := (todoOf (match z with | .z3 _ _ _ _ => 3) 1000 [.code (Tryz.f95.body.getD .skip)]).getD []
def Q27.s : Q27.Z → St
  | .z3 z1 z2 z3 z4 => ⟨spr 22 0 [(1, .ptr 0 0), (3, vi z1), (4, vi z2)], Mem.ofList [.box 46 [vs z3, .sl ⟨true, 125⟩ 4 z4]], 1⟩
def Q27.r3 (n : Nat) (c : Q27.Z → Option Int) (z1 z2 : Int) (z3 : ByteArray) (z4 : List AV) : Option Int :=
  let y1 : Bool := decide (z2 < ((z4.length : Nat) : Int))
  bif y1 then (bif decide ((0 : Int) ≤ z2) && decide (z2 < ((z4.length : Nat) : Int)) then (withCons (((z4.getD ((z2).toNat) .undef).cells).drop 1) fun h2 r3 =>
  withInt .i64 h2 fun x4 =>
  withCons r3 fun h5 r6 =>
  withInt .i64 h5 fun x7 =>
  withCons r6 fun h8 r9 =>
  withInt .i64 h8 fun x10 =>
  (Q1x.F n x4 x7 x10).bind fun p11 =>
  c (.z3 (IntKind.i64.wrap (z1 + p11)) (IntKind.i64.wrap (z2 + 1)) z3 z4)) else none) else (some z1)
def Q27.r (n : Nat) (c : Q27.Z → Option Int) : Q27.Z → Option Int
  | .z3 z1 z2 z3 z4 => Q27.r3 n c z1 z2 z3 z4
def Q27.e (n : Nat) (c : Q27.Z → Option Int) (a0 : ByteArray) (a1 : List AV) : Option Int :=
  c (.z3 0 0 a0 a1)
def Q27.E (n : Nat) (c : Q27.Z → Option Int) : Q27.A → Option Q27.T := fun (a0, a1) => Q27.e n c a0 a1
def Q27.l (n : Nat) : Nat → Q27.Z → Option Int := loopL (Q27.r n)
def Q27.F (n : Nat) (a0 : ByteArray) (a1 : List AV) : Option Int := Q27.e n (Q27.l n n) a0 a1
def Q27.FA (n : Nat) : Q27.A → Option Q27.T := Q27.E n (Q27.l n n)
theorem Q27.hands (n : Nat) : ∀ a p, Q27.FA n a = some p → HandsIn Tryz.prog 95 (Q27.i a) (Q27.p p) :=
  pf_hands (C := Q27.C n) (cut := Q27.cut) (t := Q27.t) (s := Q27.s) (e := Q27.E n) (r := Q27.r n) (n := n) cfg mixed globs rfl Q27.qi (Q27.tells n) Tryz.func95 (by kernel_rfl) (by kernel_rfl) (fun rec a => by kernel_rfl) (fun rec z => by cases z <;> kernel_rfl)
def Q27.via {R : Type} (n : Nat) : List AV → (AV → Option R) → Option R := viaK (Q27.FA n) Q27.o Q27.p
theorem Q27.tells1 {R : Type} (n : Nat) (xs : List AV) : Tells1 (R := R) Tryz.prog 95 xs (Q27.via n xs) := tells_via Q27.oi (fun a => by kernel_rfl) (Q27.hands n) xs
end Go.Proofs.YtmpglmcjoelciaaGreatDoor.Ev
namespace Go.Proofs.YtmpglmcjoelciaaGreatDoor.Ev
open Go Go.Proofs Go.Proofs.Ev
set_option linter.unusedVariables false
set_option maxRecDepth 100000
abbrev Q21.A := ByteArray × List AV × ByteArray
abbrev Q21.T := Int
def Q21.i : Q21.A → List AV := fun (a0, a1, a2) => [AV.agg [vs a0, .sl ⟨true, 125⟩ 4 a1], vs a2]
def Q21.o (xs : List AV) : Option Q21.A := match xs with | [.agg [.v (.string a0), .sl ⟨true, 125⟩ 4 a1], .v (.string a2)] => some (a0, a1, a2) | _ => none
theorem Q21.oi : ∀ xs a, Q21.o xs = some a → xs = Q21.i a := by
  intro xs a h
  unfold Q21.o at h
  split at h
  · cases h; rfl
  · cases h
def Q21.p (p : Q21.T) : AV := vi p
def Q21.q (x : AV) : Option Q21.T := match x with | .v (.int .i64 p0) => some p0 | _ => none
theorem Q21.qi : ∀ x p, Q21.q x = some p → x = Q21.p p := by
  intro x p h
  unfold Q21.q at h
  split at h
  · cases h; rfl
  · cases h
inductive Q21.Z where
  | z2 (z1 : ByteArray) (z2 : Int) (z3 : ByteArray) (z4 : List AV)
def Q21.C {R : Type} (n : Nat) (f : FuncId) (xs : List AV) : (AV → Option R) → Option R :=
  fun _ => none
theorem Q21.tells {R : Type} (n : Nat) : Tells (R := R) Tryz.prog (Q21.C n) := fun _ xs => Tells1.none
def Q21.cut (r : Nat) : Option Keep := match r with | 2 => some ⟨[1, 2, 5], []⟩ | _ => none
def Q21.t (z : Q21.Z) : List Item := (todoOf (match z with | .z2 _ _ _ _ => 2) 1000 [.code (Tryz.f140.body.getD .skip)]).getD []
def Q21.s : Q21.Z → St
  | .z2 z1 z2 z3 z4 => ⟨spr 22 0 [(1, vs z1), (2, .ptr 0 0), (5, vi z2)], Mem.ofList [.box 46 [vs z3, .sl ⟨true, 125⟩ 4 z4]], 1⟩
def Q21.r2 (n : Nat) (c : Q21.Z → Option Int) (z1 : ByteArray) (z2 : Int) (z3 : ByteArray) (z4 : List AV) : Option Int :=
  let y1 : Bool := decide (z2 < ((z4.length : Nat) : Int))
  bif y1 then (bif decide ((0 : Int) ≤ z2) && decide (z2 < ((z4.length : Nat) : Int)) then (withCons ((z4.getD ((z2).toNat) .undef).cells) fun h2 r3 =>
  withStr h2 fun s4 =>
  bif s4.toList == z1.toList then (some z2) else (c (.z2 z1 (IntKind.i64.wrap (z2 + 1)) z3 z4))) else none) else (some (-1))
def Q21.r (n : Nat) (c : Q21.Z → Option Int) : Q21.Z → Option Int
  | .z2 z1 z2 z3 z4 => Q21.r2 n c z1 z2 z3 z4
def Q21.e (n : Nat) (c : Q21.Z → Option Int) (a0 : ByteArray) (a1 : List AV) (a2 : ByteArray) : Option Int :=
  c (.z2 a2 0 a0 a1)
def Q21.E (n : Nat) (c : Q21.Z → Option Int) : Q21.A → Option Q21.T := fun (a0, a1, a2) => Q21.e n c a0 a1 a2
def Q21.l (n : Nat) : Nat → Q21.Z → Option Int := loopL (Q21.r n)
def Q21.F (n : Nat) (a0 : ByteArray) (a1 : List AV) (a2 : ByteArray) : Option Int := Q21.e n (Q21.l n n) a0 a1 a2
def Q21.FA (n : Nat) : Q21.A → Option Q21.T := Q21.E n (Q21.l n n)
theorem Q21.hands (n : Nat) : ∀ a p, Q21.FA n a = some p → HandsIn Tryz.prog 140 (Q21.i a) (Q21.p p) :=
  pf_hands (C := Q21.C n) (cut := Q21.cut) (t := Q21.t) (s := Q21.s) (e := Q21.E n) (r := Q21.r n) (n := n) cfg mixed globs rfl Q21.qi (Q21.tells n) Tryz.func140 (by kernel_rfl) (by kernel_rfl) (fun rec a => by kernel_rfl) (fun rec z => by cases z <;> kernel_rfl)
def Q21.via {R : Type} (n : Nat) : List AV → (AV → Option R) → Option R := viaK (Q21.FA n) Q21.o Q21.p
theorem Q21.tells1 {R : Type} (n : Nat) (xs : List AV) : Tells1 (R := R) Tryz.prog 140 xs (Q21.via n xs) := tells_via Q21.oi (fun a => by kernel_rfl) (Q21.hands n) xs
end Go.Proofs.YtmpglmcjoelciaaGreatDoor.Ev
namespace Go.Proofs.YtmpglmcjoelciaaGreatDoor.Ev
open Go Go.Proofs Go.Proofs.Ev
set_option linter.unusedVariables false
set_option maxRecDepth 100000
abbrev Q22.A := ByteArray × List AV
abbrev Q22.T := Int × Int
def Q22.i : Q22.A → List AV := fun (a0, a1) => [AV.agg [vs a0, .sl ⟨true, 125⟩ 4 a1]]
def Q22.o (xs : List AV) : Option Q22.A := match xs with | [.agg [.v (.string a0), .sl ⟨true, 125⟩ 4 a1]] => some (a0, a1) | _ => none
theorem Q22.oi : ∀ xs a, Q22.o xs = some a → xs = Q22.i a := by
  intro xs a h
  unfold Q22.o at h
  split at h
  · cases h; rfl
  · cases h
def Q22.p (p : Q22.T) : AV := .tup [vi p.1, vi p.2]
def Q22.q (x : AV) : Option Q22.T := match x with | .tup [.v (.int .i64 p0), .v (.int .i64 p1)] => some (p0, p1) | _ => none
theorem Q22.qi : ∀ x p, Q22.q x = some p → x = Q22.p p := by
  intro x p h
  unfold Q22.q at h
  split at h
  · cases h; rfl
  · cases h
inductive Q22.Z where
  | z6 (z1 : Int) (z2 : ByteArray) (z3 : List AV)
def Q22.C {R : Type} (n : Nat) (f : FuncId) (xs : List AV) : (AV → Option R) → Option R :=
  bif Nat.beq f 32 then Q2q.via n xs else bif Nat.beq f 59 then Q1t.via n xs else bif Nat.beq f 88 then Q1p.via n xs else bif Nat.beq f 95 then Q27.via n xs else bif Nat.beq f 140 then Q21.via n xs else fun _ => none
theorem Q22.tells {R : Type} (n : Nat) : Tells (R := R) Tryz.prog (Q22.C n) := fun _ xs => tells_at (Q2q.tells1 n xs) (tells_at (Q1t.tells1 n xs) (tells_at (Q1p.tells1 n xs) (tells_at (Q27.tells1 n xs) (tells_at (Q21.tells1 n xs) (Tells1.none)))))
def Q22.cut (r : Nat) : Option Keep := match r with | 6 => some ⟨[1, 4], []⟩ | _ => none
def Q22.t (z : Q22.Z) : List Item := (todoOf (match z with | .z6 _ _ _ => 6) 1000 [.code (Tryz.f160.body.getD .skip)]).getD []
def Q22.s : Q22.Z → St
  | .z6 z1 z2 z3 => ⟨spr 66 0 [(1, .ptr 0 0), (4, vi z1)], Mem.ofList [.box 46 [vs z2, .sl ⟨true, 125⟩ 4 z3]], 1⟩
def Q22.r6 (n : Nat) (c : Q22.Z → Option (Int × Int)) (z1 : Int) (z2 : ByteArray) (z3 : List AV) : Option (Int × Int) :=
  let y3 : Bool := decide (z1 < ((z3.length : Nat) : Int))
  bif y3 then (bif decide ((0 : Int) ≤ z1) && decide (z1 < ((z3.length : Nat) : Int)) then (withCons ((z3.getD ((z1).toNat) .undef).cells) fun h4 r5 =>
  withStr h4 fun s6 =>
  (Q1t.F n s6).bind fun p7 =>
  bif !p7 then (some (z1, 7)) else (bif decide ((0 : Int) ≤ z1) && decide (z1 < ((z3.length : Nat) : Int)) then (withCons ((z3.getD ((z1).toNat) .undef).cells) fun h8 r9 =>
  withStr h8 fun s10 =>
  (Q21.F n z2 z3 s10).bind fun p11 =>
  bif decide (p11 < z1) then (some (z1, 13)) else (bif decide ((0 : Int) ≤ z1) && decide (z1 < ((z3.length : Nat) : Int)) then (withCons (((z3.getD ((z1).toNat) .undef).cells).drop 1) fun h12 r13 =>
  withInt .i64 h12 fun x14 =>
  withCons r13 fun h15 r16 =>
  withInt .i64 h15 fun x17 =>
  withCons r16 fun h18 r19 =>
  withInt .i64 h18 fun x20 =>
  (Q2q.F n x14 x17 x20).bind fun p21 =>
  bif p21 != 0 then (some (z1, p21)) else (bif decide ((0 : Int) ≤ z1) && decide (z1 < ((z3.length : Nat) : Int)) then (withCons (((z3.getD ((z1).toNat) .undef).cells).drop 1) fun h22 r23 =>
  withInt .i64 h22 fun x24 =>
  bif x24 == 4 then (some (z1, 17)) else (c (.z6 (IntKind.i64.wrap (z1 + 1)) z2 z3))) else none)) else none)) else none)) else none) else ((Q27.F n z2 z3).bind fun p25 =>
  (Q1p.F n (decide (p25 > 200))).bind fun p26 =>
  let y27 : Int := IntKind.i64.wrap ((18 : Int) * p26)
  some (0, y27))
def Q22.r (n : Nat) (c : Q22.Z → Option (Int × Int)) : Q22.Z → Option (Int × Int)
  | .z6 z1 z2 z3 => Q22.r6 n c z1 z2 z3
def Q22.e (n : Nat) (c : Q22.Z → Option (Int × Int)) (a0 : ByteArray) (a1 : List AV) : Option (Int × Int) :=
  let y1 : Bool := ((a1.length : Nat) : Int) == 0
  bif y1 then (some (0, 1)) else (let y2 : Bool := decide (((a1.length : Nat) : Int) > 20)
  bif y2 then (some (0, 2)) else (c (.z6 0 a0 a1)))
def Q22.E (n : Nat) (c : Q22.Z → Option (Int × Int)) : Q22.A → Option Q22.T := fun (a0, a1) => Q22.e n c a0 a1
def Q22.l (n : Nat) : Nat → Q22.Z → Option (Int × Int) := loopL (Q22.r n)
def Q22.F (n : Nat) (a0 : ByteArray) (a1 : List AV) : Option (Int × Int) := Q22.e n (Q22.l n n) a0 a1
def Q22.FA (n : Nat) : Q22.A → Option Q22.T := Q22.E n (Q22.l n n)
theorem Q22.hands (n : Nat) : ∀ a p, Q22.FA n a = some p → HandsIn Tryz.prog 160 (Q22.i a) (Q22.p p) :=
  pf_hands (C := Q22.C n) (cut := Q22.cut) (t := Q22.t) (s := Q22.s) (e := Q22.E n) (r := Q22.r n) (n := n) cfg mixed globs rfl Q22.qi (Q22.tells n) Tryz.func160 (by kernel_rfl) (by kernel_rfl) (fun rec a => by kernel_rfl) (fun rec z => by cases z <;> kernel_rfl)
def Q22.via {R : Type} (n : Nat) : List AV → (AV → Option R) → Option R := viaK (Q22.FA n) Q22.o Q22.p
theorem Q22.tells1 {R : Type} (n : Nat) (xs : List AV) : Tells1 (R := R) Tryz.prog 160 xs (Q22.via n xs) := tells_via Q22.oi (fun a => by kernel_rfl) (Q22.hands n) xs
end Go.Proofs.YtmpglmcjoelciaaGreatDoor.Ev
namespace Go.Proofs.YtmpglmcjoelciaaGreatDoor.Ev
open Go Go.Proofs Go.Proofs.Ev
set_option linter.unusedVariables false
set_option maxRecDepth 100000
abbrev Q24.A := ByteArray × List AV
abbrev Q24.T := Int × Int
def Q24.i : Q24.A → List AV := fun (a0, a1) => [AV.agg [vs a0, .sl ⟨true, 125⟩ 4 a1]]
def Q24.o (xs : List AV) : Option Q24.A := match xs with | [.agg [.v (.string a0), .sl ⟨true, 125⟩ 4 a1]] => some (a0, a1) | _ => none
theorem Q24.oi : ∀ xs a, Q24.o xs = some a → xs = Q24.i a := by
  intro xs a h
  unfold Q24.o at h
  split at h
  · cases h; rfl
  · cases h
def Q24.p (p : Q24.T) : AV := .tup [vi p.1, vi p.2]
def Q24.q (x : AV) : Option Q24.T := match x with | .tup [.v (.int .i64 p0), .v (.int .i64 p1)] => some (p0, p1) | _ => none
theorem Q24.qi : ∀ x p, Q24.q x = some p → x = Q24.p p := by
  intro x p h
  unfold Q24.q at h
  split at h
  · cases h; rfl
  · cases h
def Q24.C {R : Type} (n : Nat) (f : FuncId) (xs : List AV) : (AV → Option R) → Option R :=
  bif Nat.beq f 59 then Q1t.via n xs else bif Nat.beq f 160 then Q22.via n xs else fun _ => none
theorem Q24.tells {R : Type} (n : Nat) : Tells (R := R) Tryz.prog (Q24.C n) := fun _ xs => tells_at (Q1t.tells1 n xs) (tells_at (Q22.tells1 n xs) (Tells1.none))
def Q24.cut (r : Nat) : Option Keep := match r with  | _ => none
def Q24.e (n : Nat) (a0 : ByteArray) (a1 : List AV) : Option (Int × Int) :=
  (Q1t.F n a0).bind fun p1 =>
  bif !p1 then (some (0, 7)) else ((Q22.F n a0 a1).bind fun p2 =>
  some (p2.1, p2.2))
def Q24.E (n : Nat) : Q24.A → Option Q24.T := fun (a0, a1) => Q24.e n a0 a1
def Q24.F (n : Nat) (a0 : ByteArray) (a1 : List AV) : Option (Int × Int) := Q24.e n a0 a1
def Q24.FA (n : Nat) : Q24.A → Option Q24.T := Q24.E n
theorem Q24.hands (n : Nat) : ∀ a p, Q24.FA n a = some p → HandsIn Tryz.prog 138 (Q24.i a) (Q24.p p) :=
  pf_hands (C := Q24.C n) (cut := Q24.cut) (Z := Empty) (t := nofun) (s := nofun) (e := fun _ => Q24.E n) (r := fun _ z => nomatch z) (n := n) cfg mixed globs rfl Q24.qi (Q24.tells n) Tryz.func138 (by kernel_rfl) (by kernel_rfl) (fun rec a => by kernel_rfl) (fun rec z => nomatch z)
def Q24.via {R : Type} (n : Nat) : List AV → (AV → Option R) → Option R := viaK (Q24.FA n) Q24.o Q24.p
theorem Q24.tells1 {R : Type} (n : Nat) (xs : List AV) : Tells1 (R := R) Tryz.prog 138 xs (Q24.via n xs) := tells_via Q24.oi (fun a => by kernel_rfl) (Q24.hands n) xs
end Go.Proofs.YtmpglmcjoelciaaGreatDoor.Ev
namespace Go.Proofs.YtmpglmcjoelciaaGreatDoor.Ev
open Go Go.Proofs Go.Proofs.Ev
set_option linter.unusedVariables false
set_option maxRecDepth 100000
abbrev Q25.A := ByteArray × ByteArray × List AV × List AV × Bool
abbrev Q25.T := Int × Int
def Q25.i : Q25.A → List AV := fun (a0, a1, a2, a3, a4) => [AV.agg [vs a0, vs a1, .sl ⟨true, 125⟩ 4 a2, .sl ⟨true, 111⟩ 2 a3, vb a4]]
def Q25.o (xs : List AV) : Option Q25.A := match xs with | [.agg [.v (.string a0), .v (.string a1), .sl ⟨true, 125⟩ 4 a2, .sl ⟨true, 111⟩ 2 a3, .v (.bool a4)]] => some (a0, a1, a2, a3, a4) | _ => none
theorem Q25.oi : ∀ xs a, Q25.o xs = some a → xs = Q25.i a := by
  intro xs a h
  unfold Q25.o at h
  split at h
  · cases h; rfl
  · cases h
def Q25.p (p : Q25.T) : AV := .tup [vi p.1, vi p.2]
def Q25.q (x : AV) : Option Q25.T := match x with | .tup [.v (.int .i64 p0), .v (.int .i64 p1)] => some (p0, p1) | _ => none
theorem Q25.qi : ∀ x p, Q25.q x = some p → x = Q25.p p := by
  intro x p h
  unfold Q25.q at h
  split at h
  · cases h; rfl
  · cases h
inductive Q25.Z where
  | z4 (z1 : Int) (z2 z3 : ByteArray) (z4 z5 : List AV) (z6 : Bool)
  | z9 (z1 z2 : Int) (z3 z4 : ByteArray) (z5 z6 : List AV) (z7 : Bool)
def Q25.C {R : Type} (n : Nat) (f : FuncId) (xs : List AV) : (AV → Option R) → Option R :=
  bif Nat.beq f 140 then Q21.via n xs else fun _ => none
theorem Q25.tells {R : Type} (n : Nat) : Tells (R := R) Tryz.prog (Q25.C n) := fun _ xs => tells_at (Q21.tells1 n xs) (Tells1.none)
def Q25.cut (r : Nat) : Option Keep := match r with | 4 => some ⟨[1, 4], []⟩ | 9 => some ⟨[1, 4, 5], []⟩ | _ => none
def Q25.t (z : Q25.Z) : List Item := (todoOf (match z with | .z4 _ _ _ _ _ _ => 4 | .z9 _ _ _ _ _ _ _ => 9) 1000 [.code (Tryz.f139.body.getD .skip)]).getD []
def Q25.s : Q25.Z → St
  | .z4 z1 z2 z3 z4 z5 z6 => ⟨spr 47 0 [(1, .ptr 0 0), (4, vi z1)], Mem.ofList [.box 48 [vs z2, vs z3, .sl ⟨true, 125⟩ 4 z4, .sl ⟨true, 111⟩ 2 z5, vb z6]], 1⟩
  | .z9 z1 z2 z3 z4 z5 z6 z7 => ⟨spr 47 0 [(1, .ptr 0 0), (4, vi z1), (5, vi z2)], Mem.ofList [.box 48 [vs z3, vs z4, .sl ⟨true, 125⟩ 4 z5, .sl ⟨true, 111⟩ 2 z6, vb z7]], 1⟩
def Q25.r4 (n : Nat) (c : Q25.Z → Option (Int × Int)) (z1 : Int) (z2 z3 : ByteArray) (z4 z5 : List AV) (z6 : Bool) : Option (Int × Int) :=
  let y2 : Bool := decide (z1 < ((z5.length : Nat) : Int))
  bif y2 then (bif decide ((0 : Int) ≤ z1) && decide (z1 < ((z5.length : Nat) : Int)) then (withCons ((z5.getD ((z1).toNat) .undef).cells) fun h3 r4 =>
  withStr h3 fun s5 =>
  (Q21.F n z3 z4 s5).bind fun p6 =>
  bif p6 == (-1) then (some (z1, 11)) else (c (.z9 z1 0 z2 z3 z4 z5 z6))) else none) else (some (0, 0))
def Q25.r9 (n : Nat) (c : Q25.Z → Option (Int × Int)) (z1 z2 : Int) (z3 z4 : ByteArray) (z5 z6 : List AV) (z7 : Bool) : Option (Int × Int) :=
  bif decide (z2 < z1) then (bif decide ((0 : Int) ≤ z2) && decide (z2 < ((z6.length : Nat) : Int)) then (withCons ((z6.getD ((z2).toNat) .undef).cells) fun h7 r8 =>
  withStr h7 fun s9 =>
  bif decide ((0 : Int) ≤ z1) && decide (z1 < ((z6.length : Nat) : Int)) then (withCons ((z6.getD ((z1).toNat) .undef).cells) fun h10 r11 =>
  withStr h10 fun s12 =>
  bif s9.toList == s12.toList then (some (z1, 13)) else (c (.z9 z1 (IntKind.i64.wrap (z2 + 1)) z3 z4 z5 z6 z7))) else none) else none) else (c (.z4 (IntKind.i64.wrap (z1 + 1)) z3 z4 z5 z6 z7))
def Q25.r (n : Nat) (c : Q25.Z → Option (Int × Int)) : Q25.Z → Option (Int × Int)
  | .z4 z1 z2 z3 z4 z5 z6 => Q25.r4 n c z1 z2 z3 z4 z5 z6
  | .z9 z1 z2 z3 z4 z5 z6 z7 => Q25.r9 n c z1 z2 z3 z4 z5 z6 z7
def Q25.e (n : Nat) (c : Q25.Z → Option (Int × Int)) (a0 a1 : ByteArray) (a2 a3 : List AV) (a4 : Bool) : Option (Int × Int) :=
  let y1 : Bool := decide (((a3.length : Nat) : Int) > 4)
  bif y1 then (some (0, 2)) else (c (.z4 0 a0 a1 a2 a3 a4))
def Q25.E (n : Nat) (c : Q25.Z → Option (Int × Int)) : Q25.A → Option Q25.T := fun (a0, a1, a2, a3, a4) => Q25.e n c a0 a1 a2 a3 a4
def Q25.l (n : Nat) : Nat → Q25.Z → Option (Int × Int) := loopL (Q25.r n)
def Q25.F (n : Nat) (a0 a1 : ByteArray) (a2 a3 : List AV) (a4 : Bool) : Option (Int × Int) := Q25.e n (Q25.l n n) a0 a1 a2 a3 a4
def Q25.FA (n : Nat) : Q25.A → Option Q25.T := Q25.E n (Q25.l n n)
theorem Q25.hands (n : Nat) : ∀ a p, Q25.FA n a = some p → HandsIn Tryz.prog 139 (Q25.i a) (Q25.p p) :=
  pf_hands (C := Q25.C n) (cut := Q25.cut) (t := Q25.t) (s := Q25.s) (e := Q25.E n) (r := Q25.r n) (n := n) cfg mixed globs rfl Q25.qi (Q25.tells n) Tryz.func139 (by kernel_rfl) (by kernel_rfl) (fun rec a => by kernel_rfl) (fun rec z => by cases z <;> kernel_rfl)
def Q25.via {R : Type} (n : Nat) : List AV → (AV → Option R) → Option R := viaK (Q25.FA n) Q25.o Q25.p
theorem Q25.tells1 {R : Type} (n : Nat) (xs : List AV) : Tells1 (R := R) Tryz.prog 139 xs (Q25.via n xs) := tells_via Q25.oi (fun a => by kernel_rfl) (Q25.hands n) xs
end Go.Proofs.YtmpglmcjoelciaaGreatDoor.Ev
namespace Go.Proofs.YtmpglmcjoelciaaGreatDoor.Ev
open Go Go.Proofs Go.Proofs.Ev
set_option linter.unusedVariables false
set_option maxRecDepth 100000
abbrev Q23.A := ByteArray × ByteArray × List AV × List AV × Bool
abbrev Q23.T := Int × Int
def Q23.i : Q23.A → List AV := fun (a0, a1, a2, a3, a4) => [AV.agg [vs a0, vs a1, .sl ⟨true, 125⟩ 4 a2, .sl ⟨true, 111⟩ 2 a3, vb a4]]
def Q23.o (xs : List AV) : Option Q23.A := match xs with | [.agg [.v (.string a0), .v (.string a1), .sl ⟨true, 125⟩ 4 a2, .sl ⟨true, 111⟩ 2 a3, .v (.bool a4)]] => some (a0, a1, a2, a3, a4) | _ => none
theorem Q23.oi : ∀ xs a, Q23.o xs = some a → xs = Q23.i a := by
  intro xs a h
  unfold Q23.o at h
  split at h
  · cases h; rfl
  · cases h
def Q23.p (p : Q23.T) : AV := .tup [vi p.1, vi p.2]
def Q23.q (x : AV) : Option Q23.T := match x with | .tup [.v (.int .i64 p0), .v (.int .i64 p1)] => some (p0, p1) | _ => none
theorem Q23.qi : ∀ x p, Q23.q x = some p → x = Q23.p p := by
  intro x p h
  unfold Q23.q at h
  split at h
  · cases h; rfl
  · cases h
def Q23.C {R : Type} (n : Nat) (f : FuncId) (xs : List AV) : (AV → Option R) → Option R :=
  bif Nat.beq f 59 then Q1t.via n xs else bif Nat.beq f 138 then Q24.via n xs else bif Nat.beq f 139 then Q25.via n xs else fun _ => none
theorem Q23.tells {R : Type} (n : Nat) : Tells (R := R) Tryz.prog (Q23.C n) := fun _ xs => tells_at (Q1t.tells1 n xs) (tells_at (Q24.tells1 n xs) (tells_at (Q25.tells1 n xs) (Tells1.none)))
def Q23.cut (r : Nat) : Option Keep := match r with  | _ => none
def Q23.e (n : Nat) (a0 a1 : ByteArray) (a2 a3 : List AV) (a4 : Bool) : Option (Int × Int) :=
  (Q1t.F n a0).bind fun p1 =>
  bif !p1 then (some (0, 7)) else ((Q24.F n a1 a2).bind fun p2 =>
  bif p2.2 != 0 then (some (0, p2.2)) else ((Q25.F n a0 a1 a2 a3 a4).bind fun p3 =>
  some (p3.1, p3.2)))
def Q23.E (n : Nat) : Q23.A → Option Q23.T := fun (a0, a1, a2, a3, a4) => Q23.e n a0 a1 a2 a3 a4
def Q23.F (n : Nat) (a0 a1 : ByteArray) (a2 a3 : List AV) (a4 : Bool) : Option (Int × Int) := Q23.e n a0 a1 a2 a3 a4
def Q23.FA (n : Nat) : Q23.A → Option Q23.T := Q23.E n
theorem Q23.hands (n : Nat) : ∀ a p, Q23.FA n a = some p → HandsIn Tryz.prog 90 (Q23.i a) (Q23.p p) :=
  pf_hands (C := Q23.C n) (cut := Q23.cut) (Z := Empty) (t := nofun) (s := nofun) (e := fun _ => Q23.E n) (r := fun _ z => nomatch z) (n := n) cfg mixed globs rfl Q23.qi (Q23.tells n) Tryz.func90 (by kernel_rfl) (by kernel_rfl) (fun rec a => by kernel_rfl) (fun rec z => nomatch z)
def Q23.via {R : Type} (n : Nat) : List AV → (AV → Option R) → Option R := viaK (Q23.FA n) Q23.o Q23.p
theorem Q23.tells1 {R : Type} (n : Nat) (xs : List AV) : Tells1 (R := R) Tryz.prog 90 xs (Q23.via n xs) := tells_via Q23.oi (fun a => by kernel_rfl) (Q23.hands n) xs
end Go.Proofs.YtmpglmcjoelciaaGreatDoor.Ev
namespace Go.Proofs.YtmpglmcjoelciaaGreatDoor.Ev
open Go Go.Proofs Go.Proofs.Ev
set_option linter.unusedVariables false
set_option maxRecDepth 100000
abbrev Q20.A := ByteArray × ByteArray × List AV × List AV × Bool
abbrev Q20.T := Int
def Q20.i : Q20.A → List AV := fun (a0, a1, a2, a3, a4) => [AV.agg [vs a0, vs a1, .sl ⟨true, 125⟩ 4 a2, .sl ⟨true, 111⟩ 2 a3, vb a4]]
def Q20.o (xs : List AV) : Option Q20.A := match xs with | [.agg [.v (.string a0), .v (.string a1), .sl ⟨true, 125⟩ 4 a2, .sl ⟨true, 111⟩ 2 a3, .v (.bool a4)]] => some (a0, a1, a2, a3, a4) | _ => none
theorem Q20.oi : ∀ xs a, Q20.o xs = some a → xs = Q20.i a := by
  intro xs a h
  unfold Q20.o at h
  split at h
  · cases h; rfl
  · cases h
def Q20.p (p : Q20.T) : AV := vi p
def Q20.q (x : AV) : Option Q20.T := match x with | .v (.int .i64 p0) => some p0 | _ => none
theorem Q20.qi : ∀ x p, Q20.q x = some p → x = Q20.p p := by
  intro x p h
  unfold Q20.q at h
  split at h
  · cases h; rfl
  · cases h
def Q20.C {R : Type} (n : Nat) (f : FuncId) (xs : List AV) : (AV → Option R) → Option R :=
  bif Nat.beq f 90 then Q23.via n xs else fun _ => none
theorem Q20.tells {R : Type} (n : Nat) : Tells (R := R) Tryz.prog (Q20.C n) := fun _ xs => tells_at (Q23.tells1 n xs) (Tells1.none)
def Q20.cut (r : Nat) : Option Keep := match r with  | _ => none
def Q20.e (n : Nat) (a0 a1 : ByteArray) (a2 a3 : List AV) (a4 : Bool) : Option Int :=
  (Q23.F n a0 a1 a2 a3 a4).bind fun p1 =>
  some p1.2
def Q20.E (n : Nat) : Q20.A → Option Q20.T := fun (a0, a1, a2, a3, a4) => Q20.e n a0 a1 a2 a3 a4
def Q20.F (n : Nat) (a0 a1 : ByteArray) (a2 a3 : List AV) (a4 : Bool) : Option Int := Q20.e n a0 a1 a2 a3 a4
def Q20.FA (n : Nat) : Q20.A → Option Q20.T := Q20.E n
theorem Q20.hands (n : Nat) : ∀ a p, Q20.FA n a = some p → HandsIn Tryz.prog 38 (Q20.i a) (Q20.p p) :=
  pf_hands (C := Q20.C n) (cut := Q20.cut) (Z := Empty) (t := nofun) (s := nofun) (e := fun _ => Q20.E n) (r := fun _ z => nomatch z) (n := n) cfg mixed globs rfl Q20.qi (Q20.tells n) Tryz.func38 (by kernel_rfl) (by kernel_rfl) (fun rec a => by kernel_rfl) (fun rec z => nomatch z)
def Q20.via {R : Type} (n : Nat) : List AV → (AV → Option R) → Option R := viaK (Q20.FA n) Q20.o Q20.p
theorem Q20.tells1 {R : Type} (n : Nat) (xs : List AV) : Tells1 (R := R) Tryz.prog 38 xs (Q20.via n xs) := tells_via Q20.oi (fun a => by kernel_rfl) (Q20.hands n) xs
end Go.Proofs.YtmpglmcjoelciaaGreatDoor.Ev
namespace Go.Proofs.YtmpglmcjoelciaaGreatDoor.Ev
open Go Go.Proofs Go.Proofs.Ev
set_option linter.unusedVariables false
set_option maxRecDepth 100000
abbrev Q26.A := ByteArray × ByteArray × List AV × List AV × Bool
abbrev Q26.T := Int
def Q26.i : Q26.A → List AV := fun (a0, a1, a2, a3, a4) => [AV.agg [vs a0, vs a1, .sl ⟨true, 125⟩ 4 a2, .sl ⟨true, 111⟩ 2 a3, vb a4]]
def Q26.o (xs : List AV) : Option Q26.A := match xs with | [.agg [.v (.string a0), .v (.string a1), .sl ⟨true, 125⟩ 4 a2, .sl ⟨true, 111⟩ 2 a3, .v (.bool a4)]] => some (a0, a1, a2, a3, a4) | _ => none
theorem Q26.oi : ∀ xs a, Q26.o xs = some a → xs = Q26.i a := by
  intro xs a h
  unfold Q26.o at h
  split at h
  · cases h; rfl
  · cases h
def Q26.p (p : Q26.T) : AV := vi p
def Q26.q (x : AV) : Option Q26.T := match x with | .v (.int .i64 p0) => some p0 | _ => none
theorem Q26.qi : ∀ x p, Q26.q x = some p → x = Q26.p p := by
  intro x p h
  unfold Q26.q at h
  split at h
  · cases h; rfl
  · cases h
def Q26.C {R : Type} (n : Nat) (f : FuncId) (xs : List AV) : (AV → Option R) → Option R :=
  bif Nat.beq f 38 then Q20.via n xs else bif Nat.beq f 59 then Q1t.via n xs else fun _ => none
theorem Q26.tells {R : Type} (n : Nat) : Tells (R := R) Tryz.prog (Q26.C n) := fun _ xs => tells_at (Q20.tells1 n xs) (tells_at (Q1t.tells1 n xs) (Tells1.none))
def Q26.cut (r : Nat) : Option Keep := match r with  | _ => none
def Q26.e (n : Nat) (a0 a1 : ByteArray) (a2 a3 : List AV) (a4 : Bool) : Option Int :=
  (Q1t.F n a0).bind fun p1 =>
  bif !p1 then (some 7) else ((Q1t.F n a1).bind fun p2 =>
  bif !p2 then (some 7) else ((Q20.F n a0 a1 a2 a3 a4).bind fun p3 =>
  some p3))
def Q26.E (n : Nat) : Q26.A → Option Q26.T := fun (a0, a1, a2, a3, a4) => Q26.e n a0 a1 a2 a3 a4
def Q26.F (n : Nat) (a0 a1 : ByteArray) (a2 a3 : List AV) (a4 : Bool) : Option Int := Q26.e n a0 a1 a2 a3 a4
def Q26.FA (n : Nat) : Q26.A → Option Q26.T := Q26.E n
theorem Q26.hands (n : Nat) : ∀ a p, Q26.FA n a = some p → HandsIn Tryz.prog 91 (Q26.i a) (Q26.p p) :=
  pf_hands (C := Q26.C n) (cut := Q26.cut) (Z := Empty) (t := nofun) (s := nofun) (e := fun _ => Q26.E n) (r := fun _ z => nomatch z) (n := n) cfg mixed globs rfl Q26.qi (Q26.tells n) Tryz.func91 (by kernel_rfl) (by kernel_rfl) (fun rec a => by kernel_rfl) (fun rec z => nomatch z)
def Q26.via {R : Type} (n : Nat) : List AV → (AV → Option R) → Option R := viaK (Q26.FA n) Q26.o Q26.p
theorem Q26.tells1 {R : Type} (n : Nat) (xs : List AV) : Tells1 (R := R) Tryz.prog 91 xs (Q26.via n xs) := tells_via Q26.oi (fun a => by kernel_rfl) (Q26.hands n) xs
end Go.Proofs.YtmpglmcjoelciaaGreatDoor.Ev
namespace Go.Proofs.YtmpglmcjoelciaaGreatDoor.Ev
open Go Go.Proofs Go.Proofs.Ev
set_option linter.unusedVariables false
set_option maxRecDepth 100000
abbrev Q3o.A := Bool × ByteArray × ByteArray × List AV × List AV × Bool × ByteArray × ByteArray × List AV × List AV × List AV × List AV × Bool × List AV
abbrev Q3o.T := Int
def Q3o.i : Q3o.A → List AV := fun (a0, a1, a2, a3, a4, a5, a6, a7, a8, a9, a10, a11, a12, a13) => [AV.agg [vb a0, vs a1, vs a2, .sl ⟨true, 125⟩ 4 a3, .sl ⟨true, 111⟩ 2 a4, vb a5, vs a6, vs a7, .sl ⟨true, 9⟩ 1 a8, .sl ⟨true, 95⟩ 3 a9, .sl ⟨true, 97⟩ 4 a10, .sl ⟨true, 111⟩ 2 a11, vb a12, .sl ⟨false, 100⟩ 2 a13]]
def Q3o.o (xs : List AV) : Option Q3o.A := match xs with | [.agg [.v (.bool a0), .v (.string a1), .v (.string a2), .sl ⟨true, 125⟩ 4 a3, .sl ⟨true, 111⟩ 2 a4, .v (.bool a5), .v (.string a6), .v (.string a7), .sl ⟨true, 9⟩ 1 a8, .sl ⟨true, 95⟩ 3 a9, .sl ⟨true, 97⟩ 4 a10, .sl ⟨true, 111⟩ 2 a11, .v (.bool a12), .sl ⟨false, 100⟩ 2 a13]] => some (a0, a1, a2, a3, a4, a5, a6, a7, a8, a9, a10, a11, a12, a13) | _ => none
theorem Q3o.oi : ∀ xs a, Q3o.o xs = some a → xs = Q3o.i a := by
  intro xs a h
  unfold Q3o.o at h
  split at h
  · cases h; rfl
  · cases h
def Q3o.p (p : Q3o.T) : AV := vi p
def Q3o.q (x : AV) : Option Q3o.T := match x with | .v (.int .i64 p0) => some p0 | _ => none
theorem Q3o.qi : ∀ x p, Q3o.q x = some p → x = Q3o.p p := by
  intro x p h
  unfold Q3o.q at h
  split at h
  · cases h; rfl
  · cases h
def Q3o.C {R : Type} (n : Nat) (f : FuncId) (xs : List AV) : (AV → Option R) → Option R :=
  bif Nat.beq f 19 then Q2s.via n xs else bif Nat.beq f 91 then Q26.via n xs else fun _ => none
theorem Q3o.tells {R : Type} (n : Nat) : Tells (R := R) Tryz.prog (Q3o.C n) := fun _ xs => tells_at (Q2s.tells1 n xs) (tells_at (Q26.tells1 n xs) (Tells1.none))
def Q3o.cut (r : Nat) : Option Keep := match r with  | _ => none
def Q3o.e (n : Nat) (a0 : Bool) (a1 a2 : ByteArray) (a3 a4 : List AV) (a5 : Bool) (a6 a7 : ByteArray) (a8 a9 a10 a11 : List AV) (a12 : Bool) (a13 : List AV) : Option Int :=
  bif a0 then ((Q2s.F n a6 a7 a8 a9 a10 a11 a12 a13).bind fun p1 =>
  some p1.2) else ((Q26.F n a1 a2 a3 a4 a5).bind fun p2 =>
  some p2)
def Q3o.E (n : Nat) : Q3o.A → Option Q3o.T := fun (a0, a1, a2, a3, a4, a5, a6, a7, a8, a9, a10, a11, a12, a13) => Q3o.e n a0 a1 a2 a3 a4 a5 a6 a7 a8 a9 a10 a11 a12 a13
def Q3o.F (n : Nat) (a0 : Bool) (a1 a2 : ByteArray) (a3 a4 : List AV) (a5 : Bool) (a6 a7 : ByteArray) (a8 a9 a10 a11 : List AV) (a12 : Bool) (a13 : List AV) : Option Int := Q3o.e n a0 a1 a2 a3 a4 a5 a6 a7 a8 a9 a10 a11 a12 a13
def Q3o.FA (n : Nat) : Q3o.A → Option Q3o.T := Q3o.E n
theorem Q3o.hands (n : Nat) : ∀ a p, Q3o.FA n a = some p → HandsIn Tryz.prog 68 (Q3o.i a) (Q3o.p p) :=
  pf_hands (C := Q3o.C n) (cut := Q3o.cut) (Z := Empty) (t := nofun) (s := nofun) (e := fun _ => Q3o.E n) (r := fun _ z => nomatch z) (n := n) cfg mixed globs rfl Q3o.qi (Q3o.tells n) Tryz.func68 (by kernel_rfl) (by kernel_rfl) (fun rec a => by kernel_rfl) (fun rec z => nomatch z)
def Q3o.via {R : Type} (n : Nat) : List AV → (AV → Option R) → Option R := viaK (Q3o.FA n) Q3o.o Q3o.p
theorem Q3o.tells1 {R : Type} (n : Nat) (xs : List AV) : Tells1 (R := R) Tryz.prog 68 xs (Q3o.via n xs) := tells_via Q3o.oi (fun a => by kernel_rfl) (Q3o.hands n) xs
end Go.Proofs.YtmpglmcjoelciaaGreatDoor.Ev
namespace Go.Proofs.YtmpglmcjoelciaaGreatDoor.Ev
open Go Go.Proofs Go.Proofs.Ev
set_option linter.unusedVariables false
set_option maxRecDepth 100000
abbrev Q34.A := ByteArray × List AV × ByteArray × List AV
abbrev Q34.T := Bool
def Q34.i : Q34.A → List AV := fun (a0, a1, a2, a3) => [AV.agg [vs a0, .sl ⟨true, 125⟩ 4 a1], AV.agg [vs a2, .sl ⟨true, 125⟩ 4 a3]]
def Q34.o (xs : List AV) : Option Q34.A := match xs with | [.agg [.v (.string a0), .sl ⟨true, 125⟩ 4 a1], .agg [.v (.string a2), .sl ⟨true, 125⟩ 4 a3]] => some (a0, a1, a2, a3) | _ => none
theorem Q34.oi : ∀ xs a, Q34.o xs = some a → xs = Q34.i a := by
  intro xs a h
  unfold Q34.o at h
  split at h
  · cases h; rfl
  · cases h
def Q34.p (p : Q34.T) : AV := vb p
def Q34.q (x : AV) : Option Q34.T := match x with | .v (.bool p0) => some p0 | _ => none
theorem Q34.qi : ∀ x p, Q34.q x = some p → x = Q34.p p := by
  intro x p h
  unfold Q34.q at h
  split at h
  · cases h; rfl
  · cases h
inductive Q34.Z where
  | z4 (z1 : Int) (z2 : ByteArray) (z3 : List AV) (z4 : ByteArray) (z5 : List AV)
def Q34.C {R : Type} (n : Nat) (f : FuncId) (xs : List AV) : (AV → Option R) → Option R :=
  fun _ => none
theorem Q34.tells {R : Type} (n : Nat) : Tells (R := R) Tryz.prog (Q34.C n) := fun _ xs => Tells1.none
def Q34.cut (r : Nat) : Option Keep := match r with | 4 => some ⟨[2, 3, 5], []⟩ | _ => none
def Q34.t (z : Q34.Z) : List Item := (todoOf (match z with | .z4 _ _ _ _ _ => 4) 1000 [.code (Tryz.f41.body.getD .skip)]).getD []
def Q34.s : Q34.Z → St
  | .z4 z1 z2 z3 z4 z5 => ⟨spr 38 0 [(2, .ptr 0 0), (3, .ptr 1 0), (5, vi z1)], Mem.ofList [.box 46 [vs z2, .sl ⟨true, 125⟩ 4 z3], .box 46 [vs z4, .sl ⟨true, 125⟩ 4 z5]], 2⟩
def Q34.r4 (n : Nat) (c : Q34.Z → Option Bool) (z1 : Int) (z2 : ByteArray) (z3 : List AV) (z4 : ByteArray) (z5 : List AV) : Option Bool :=
  let y2 : Bool := decide (z1 < ((z3.length : Nat) : Int))
  bif y2 then (bif decide ((0 : Int) ≤ z1) && decide (z1 < ((z3.length : Nat) : Int)) then (withCons ((z3.getD ((z1).toNat) .undef).cells) fun h3 r4 =>
  withStr h3 fun s5 =>
  withCons r4 fun h6 r7 =>
  withInt .i64 h6 fun x8 =>
  withCons r7 fun h9 r10 =>
  withInt .i64 h9 fun x11 =>
  withCons r10 fun h12 r13 =>
  withInt .i64 h12 fun x14 =>
  bif decide ((0 : Int) ≤ z1) && decide (z1 < ((z5.length : Nat) : Int)) then (withCons ((z5.getD ((z1).toNat) .undef).cells) fun h15 r16 =>
  withStr h15 fun s17 =>
  withCons r16 fun h18 r19 =>
  withInt .i64 h18 fun x20 =>
  withCons r19 fun h21 r22 =>
  withInt .i64 h21 fun x23 =>
  withCons r22 fun h24 r25 =>
  withInt .i64 h24 fun x26 =>
  let y27 : Bool := !((s5 == s17) && ((x8 == x20) && ((x11 == x23) && ((x14 == x26) && true))))
  bif y27 then (some false) else (c (.z4 (IntKind.i64.wrap (z1 + 1)) z2 z3 z4 z5))) else none) else none) else (some true)
def Q34.r (n : Nat) (c : Q34.Z → Option Bool) : Q34.Z → Option Bool
  | .z4 z1 z2 z3 z4 z5 => Q34.r4 n c z1 z2 z3 z4 z5
def Q34.e (n : Nat) (c : Q34.Z → Option Bool) (a0 : ByteArray) (a1 : List AV) (a2 : ByteArray) (a3 : List AV) : Option Bool :=
  bif !(a0.toList == a2.toList) then (some false) else (let y1 : Bool := ((a1.length : Nat) : Int) != ((a3.length : Nat) : Int)
  bif y1 then (some false) else (c (.z4 0 a0 a1 a2 a3)))
def Q34.E (n : Nat) (c : Q34.Z → Option Bool) : Q34.A → Option Q34.T := fun (a0, a1, a2, a3) => Q34.e n c a0 a1 a2 a3
def Q34.l (n : Nat) : Nat → Q34.Z → Option Bool := loopL (Q34.r n)
def Q34.F (n : Nat) (a0 : ByteArray) (a1 : List AV) (a2 : ByteArray) (a3 : List AV) : Option Bool := Q34.e n (Q34.l n n) a0 a1 a2 a3
def Q34.FA (n : Nat) : Q34.A → Option Q34.T := Q34.E n (Q34.l n n)
theorem Q34.hands (n : Nat) : ∀ a p, Q34.FA n a = some p → HandsIn Tryz.prog 41 (Q34.i a) (Q34.p p) :=
  pf_hands (C := Q34.C n) (cut := Q34.cut) (t := Q34.t) (s := Q34.s) (e := Q34.E n) (r := Q34.r n) (n := n) cfg mixed globs rfl Q34.qi (Q34.tells n) Tryz.func41 (by kernel_rfl) (by kernel_rfl) (fun rec a => by kernel_rfl) (fun rec z => by cases z <;> kernel_rfl)
def Q34.via {R : Type} (n : Nat) : List AV → (AV → Option R) → Option R := viaK (Q34.FA n) Q34.o Q34.p
theorem Q34.tells1 {R : Type} (n : Nat) (xs : List AV) : Tells1 (R := R) Tryz.prog 41 xs (Q34.via n xs) := tells_via Q34.oi (fun a => by kernel_rfl) (Q34.hands n) xs
end Go.Proofs.YtmpglmcjoelciaaGreatDoor.Ev
namespace Go.Proofs.YtmpglmcjoelciaaGreatDoor.Ev
open Go Go.Proofs Go.Proofs.Ev
set_option linter.unusedVariables false
set_option maxRecDepth 100000
abbrev Q3m.A := List AV × List AV
abbrev Q3m.T := Bool
def Q3m.i : Q3m.A → List AV := fun (a0, a1) => [.sl ⟨true, 111⟩ 2 a0, .sl ⟨true, 111⟩ 2 a1]
def Q3m.o (xs : List AV) : Option Q3m.A := match xs with | [.sl ⟨true, 111⟩ 2 a0, .sl ⟨true, 111⟩ 2 a1] => some (a0, a1) | _ => none
theorem Q3m.oi : ∀ xs a, Q3m.o xs = some a → xs = Q3m.i a := by
  intro xs a h
  unfold Q3m.o at h
  split at h
  · cases h; rfl
  · cases h
def Q3m.p (p : Q3m.T) : AV := vb p
def Q3m.q (x : AV) : Option Q3m.T := match x with | .v (.bool p0) => some p0 | _ => none
theorem Q3m.qi : ∀ x p, Q3m.q x = some p → x = Q3m.p p := by
  intro x p h
  unfold Q3m.q at h
  split at h
  · cases h; rfl
  · cases h
inductive Q3m.Z where
  | z4 (z1 z2 : List AV) (z3 : Int)
def Q3m.C {R : Type} (n : Nat) (f : FuncId) (xs : List AV) : (AV → Option R) → Option R :=
  fun _ => none
theorem Q3m.tells {R : Type} (n : Nat) : Tells (R := R) Tryz.prog (Q3m.C n) := fun _ xs => Tells1.none
def Q3m.cut (r : Nat) : Option Keep := match r with | 4 => some ⟨[0, 1, 5], []⟩ | _ => none
def Q3m.t (z : Q3m.Z) : List Item := (todoOf (match z with | .z4 _ _ _ => 4) 1000 [.code (Tryz.f120.body.getD .skip)]).getD []
def Q3m.s : Q3m.Z → St
  | .z4 z1 z2 z3 => ⟨spr 26 0 [(0, .sl ⟨true, 111⟩ 2 z1), (1, .sl ⟨true, 111⟩ 2 z2), (5, vi z3)], Mem.ofList [], 0⟩
def Q3m.r4 (n : Nat) (c : Q3m.Z → Option Bool) (z1 z2 : List AV) (z3 : Int) : Option Bool :=
  let y2 : Bool := decide (z3 < ((z1.length : Nat) : Int))
  bif y2 then (bif decide ((0 : Int) ≤ z3) && decide (z3 < ((z1.length : Nat) : Int)) then (withCons ((z1.getD ((z3).toNat) .undef).cells) fun h3 r4 =>
  withStr h3 fun s5 =>
  withCons r4 fun h6 r7 =>
  withBool h6 fun b8 =>
  bif decide ((0 : Int) ≤ z3) && decide (z3 < ((z2.length : Nat) : Int)) then (withCons ((z2.getD ((z3).toNat) .undef).cells) fun h9 r10 =>
  withStr h9 fun s11 =>
  withCons r10 fun h12 r13 =>
  withBool h12 fun b14 =>
  let y15 : Bool := !((s5 == s11) && ((b8 == b14) && true))
  bif y15 then (some false) else (c (.z4 z1 z2 (IntKind.i64.wrap (z3 + 1))))) else none) else none) else (some true)
def Q3m.r (n : Nat) (c : Q3m.Z → Option Bool) : Q3m.Z → Option Bool
  | .z4 z1 z2 z3 => Q3m.r4 n c z1 z2 z3
def Q3m.e (n : Nat) (c : Q3m.Z → Option Bool) (a0 a1 : List AV) : Option Bool :=
  let y1 : Bool := ((a0.length : Nat) : Int) != ((a1.length : Nat) : Int)
  bif y1 then (some false) else (c (.z4 a0 a1 0))
def Q3m.E (n : Nat) (c : Q3m.Z → Option Bool) : Q3m.A → Option Q3m.T := fun (a0, a1) => Q3m.e n c a0 a1
def Q3m.l (n : Nat) : Nat → Q3m.Z → Option Bool := loopL (Q3m.r n)
def Q3m.F (n : Nat) (a0 a1 : List AV) : Option Bool := Q3m.e n (Q3m.l n n) a0 a1
def Q3m.FA (n : Nat) : Q3m.A → Option Q3m.T := Q3m.E n (Q3m.l n n)
theorem Q3m.hands (n : Nat) : ∀ a p, Q3m.FA n a = some p → HandsIn Tryz.prog 120 (Q3m.i a) (Q3m.p p) :=
  pf_hands (C := Q3m.C n) (cut := Q3m.cut) (t := Q3m.t) (s := Q3m.s) (e := Q3m.E n) (r := Q3m.r n) (n := n) cfg mixed globs rfl Q3m.qi (Q3m.tells n) Tryz.func120 (by kernel_rfl) (by kernel_rfl) (fun rec a => by kernel_rfl) (fun rec z => by cases z <;> kernel_rfl)
def Q3m.via {R : Type} (n : Nat) : List AV → (AV → Option R) → Option R := viaK (Q3m.FA n) Q3m.o Q3m.p
theorem Q3m.tells1 {R : Type} (n : Nat) (xs : List AV) : Tells1 (R := R) Tryz.prog 120 xs (Q3m.via n xs) := tells_via Q3m.oi (fun a => by kernel_rfl) (Q3m.hands n) xs
end Go.Proofs.YtmpglmcjoelciaaGreatDoor.Ev
namespace Go.Proofs.YtmpglmcjoelciaaGreatDoor.Ev
open Go Go.Proofs Go.Proofs.Ev
set_option linter.unusedVariables false
set_option maxRecDepth 100000
abbrev Q33.A := ByteArray × ByteArray × List AV × List AV × Bool × ByteArray × ByteArray × List AV × List AV × Bool
abbrev Q33.T := Bool
def Q33.i : Q33.A → List AV := fun (a0, a1, a2, a3, a4, a5, a6, a7, a8, a9) => [AV.agg [vs a0, vs a1, .sl ⟨true, 125⟩ 4 a2, .sl ⟨true, 111⟩ 2 a3, vb a4], AV.agg [vs a5, vs a6, .sl ⟨true, 125⟩ 4 a7, .sl ⟨true, 111⟩ 2 a8, vb a9]]
def Q33.o (xs : List AV) : Option Q33.A := match xs with | [.agg [.v (.string a0), .v (.string a1), .sl ⟨true, 125⟩ 4 a2, .sl ⟨true, 111⟩ 2 a3, .v (.bool a4)], .agg [.v (.string a5), .v (.string a6), .sl ⟨true, 125⟩ 4 a7, .sl ⟨true, 111⟩ 2 a8, .v (.bool a9)]] => some (a0, a1, a2, a3, a4, a5, a6, a7, a8, a9) | _ => none
theorem Q33.oi : ∀ xs a, Q33.o xs = some a → xs = Q33.i a := by
  intro xs a h
  unfold Q33.o at h
  split at h
  · cases h; rfl
  · cases h
def Q33.p (p : Q33.T) : AV := vb p
def Q33.q (x : AV) : Option Q33.T := match x with | .v (.bool p0) => some p0 | _ => none
theorem Q33.qi : ∀ x p, Q33.q x = some p → x = Q33.p p := by
  intro x p h
  unfold Q33.q at h
  split at h
  · cases h; rfl
  · cases h
def Q33.C {R : Type} (n : Nat) (f : FuncId) (xs : List AV) : (AV → Option R) → Option R :=
  bif Nat.beq f 41 then Q34.via n xs else bif Nat.beq f 120 then Q3m.via n xs else fun _ => none
theorem Q33.tells {R : Type} (n : Nat) : Tells (R := R) Tryz.prog (Q33.C n) := fun _ xs => tells_at (Q34.tells1 n xs) (tells_at (Q3m.tells1 n xs) (Tells1.none))
def Q33.cut (r : Nat) : Option Keep := match r with  | _ => none
def Q33.e (n : Nat) (a0 a1 : ByteArray) (a2 a3 : List AV) (a4 : Bool) (a5 a6 : ByteArray) (a7 a8 : List AV) (a9 : Bool) : Option Bool :=
  bif a0.toList == a5.toList then ((Q34.F n a1 a2 a6 a7).bind fun p1 =>
  bif p1 then ((Q3m.F n a3 a8).bind fun p2 =>
  bif p2 then (some (a4 == a9)) else (some false)) else (some false)) else (some false)
def Q33.E (n : Nat) : Q33.A → Option Q33.T := fun (a0, a1, a2, a3, a4, a5, a6, a7, a8, a9) => Q33.e n a0 a1 a2 a3 a4 a5 a6 a7 a8 a9
def Q33.F (n : Nat) (a0 a1 : ByteArray) (a2 a3 : List AV) (a4 : Bool) (a5 a6 : ByteArray) (a7 a8 : List AV) (a9 : Bool) : Option Bool := Q33.e n a0 a1 a2 a3 a4 a5 a6 a7 a8 a9
def Q33.FA (n : Nat) : Q33.A → Option Q33.T := Q33.E n
theorem Q33.hands (n : Nat) : ∀ a p, Q33.FA n a = some p → HandsIn Tryz.prog 69 (Q33.i a) (Q33.p p) :=
  pf_hands (C := Q33.C n) (cut := Q33.cut) (Z := Empty) (t := nofun) (s := nofun) (e := fun _ => Q33.E n) (r := fun _ z => nomatch z) (n := n) cfg mixed globs rfl Q33.qi (Q33.tells n) Tryz.func69 (by kernel_rfl) (by kernel_rfl) (fun rec a => by kernel_rfl) (fun rec z => nomatch z)
def Q33.via {R : Type} (n : Nat) : List AV → (AV → Option R) → Option R := viaK (Q33.FA n) Q33.o Q33.p
theorem Q33.tells1 {R : Type} (n : Nat) (xs : List AV) : Tells1 (R := R) Tryz.prog 69 xs (Q33.via n xs) := tells_via Q33.oi (fun a => by kernel_rfl) (Q33.hands n) xs
end Go.Proofs.YtmpglmcjoelciaaGreatDoor.Ev
namespace Go.Proofs.YtmpglmcjoelciaaGreatDoor.Ev
open Go Go.Proofs Go.Proofs.Ev
set_option linter.unusedVariables false
set_option maxRecDepth 100000
abbrev Q35.A := ByteArray × ByteArray × List AV × List AV × List AV × List AV × Bool × List AV × ByteArray × ByteArray × List AV × List AV × List AV × List AV × Bool × List AV
abbrev Q35.T := Bool
def Q35.i : Q35.A → List AV := fun (a0, a1, a2, a3, a4, a5, a6, a7, a8, a9, a10, a11, a12, a13, a14, a15) => [AV.agg [vs a0, vs a1, .sl ⟨true, 9⟩ 1 a2, .sl ⟨true, 95⟩ 3 a3, .sl ⟨true, 97⟩ 4 a4, .sl ⟨true, 111⟩ 2 a5, vb a6, .sl ⟨false, 100⟩ 2 a7], AV.agg [vs a8, vs a9, .sl ⟨true, 9⟩ 1 a10, .sl ⟨true, 95⟩ 3 a11, .sl ⟨true, 97⟩ 4 a12, .sl ⟨true, 111⟩ 2 a13, vb a14, .sl ⟨false, 100⟩ 2 a15]]
def Q35.o (xs : List AV) : Option Q35.A := match xs with | [.agg [.v (.string a0), .v (.string a1), .sl ⟨true, 9⟩ 1 a2, .sl ⟨true, 95⟩ 3 a3, .sl ⟨true, 97⟩ 4 a4, .sl ⟨true, 111⟩ 2 a5, .v (.bool a6), .sl ⟨false, 100⟩ 2 a7], .agg [.v (.string a8), .v (.string a9), .sl ⟨true, 9⟩ 1 a10, .sl ⟨true, 95⟩ 3 a11, .sl ⟨true, 97⟩ 4 a12, .sl ⟨true, 111⟩ 2 a13, .v (.bool a14), .sl ⟨false, 100⟩ 2 a15]] => some (a0, a1, a2, a3, a4, a5, a6, a7, a8, a9, a10, a11, a12, a13, a14, a15) | _ => none
theorem Q35.oi : ∀ xs a, Q35.o xs = some a → xs = Q35.i a := by
  intro xs a h
  unfold Q35.o at h
  split at h
  · cases h; rfl
  · cases h
def Q35.p (p : Q35.T) : AV := vb p
def Q35.q (x : AV) : Option Q35.T := match x with | .v (.bool p0) => some p0 | _ => none
theorem Q35.qi : ∀ x p, Q35.q x = some p → x = Q35.p p := by
  intro x p h
  unfold Q35.q at h
  split at h
  · cases h; rfl
  · cases h
inductive Q35.Z where
  | z2
  | z4 (z1 : Int) (z2 z3 : ByteArray) (z4 z5 z6 z7 : List AV) (z8 : Bool) (z9 : List AV) (z10 z11 : ByteArray) (z12 z13 z14 z15 : List AV) (z16 : Bool) (z17 : List AV)
  | z9 (z1 : Int) (z2 z3 : ByteArray) (z4 z5 z6 z7 : List AV) (z8 : Bool) (z9 : List AV) (z10 z11 : ByteArray) (z12 z13 z14 z15 : List AV) (z16 : Bool) (z17 : List AV)
  | z14 (z1 : Int) (z2 z3 : ByteArray) (z4 z5 z6 z7 : List AV) (z8 : Bool) (z9 : List AV) (z10 z11 : ByteArray) (z12 z13 z14 z15 : List AV) (z16 : Bool) (z17 : List AV)
  | z20 (z1 z2 : Int) (z3 z4 : ByteArray) (z5 z6 z7 z8 : List AV) (z9 : Bool) (z10 : List AV) (z11 z12 : ByteArray) (z13 z14 z15 z16 : List AV) (z17 : Bool) (z18 : List AV) (z19 : Bool) (z20 : List AV) (z21 : Bool) (z22 : List AV)
def Q35.C {R : Type} (n : Nat) (f : FuncId) (xs : List AV) : (AV → Option R) → Option R :=
  bif Nat.beq f 15 then Q1y.via n xs else bif Nat.beq f 120 then Q3m.via n xs else fun _ => none
theorem Q35.tells {R : Type} (n : Nat) : Tells (R := R) Tryz.prog (Q35.C n) := fun _ xs => tells_at (Q1y.tells1 n xs) (tells_at (Q3m.tells1 n xs) (Tells1.none))
def Q35.cut (r : Nat) : Option Keep := match r with | 2 => some ⟨[], []⟩ | 4 => some ⟨[2, 3, 5], []⟩ | 9 => some ⟨[2, 3, 6], []⟩ | 14 => some ⟨[2, 3, 7], []⟩ | 20 => some ⟨[2, 3, 7, 8, 9, 10], []⟩ | _ => none
def Q35.t (z : Q35.Z) : List Item := (todoOf (match z with | .z2 => 2 | .z4 _ _ _ _ _ _ _ _ _ _ _ _ _ _ _ _ _ => 4 | .z9 _ _ _ _ _ _ _ _ _ _ _ _ _ _ _ _ _ => 9 | .z14 _ _ _ _ _ _ _ _ _ _ _ _ _ _ _ _ _ => 14 | .z20 _ _ _ _ _ _ _ _ _ _ _ _ _ _ _ _ _ _ _ _ _ _ => 20) 1000 [.code (Tryz.f70.body.getD .skip)]).getD []
def Q35.s : Q35.Z → St
  | .z2 => ⟨spr 158 0 [], Mem.ofList [], 0⟩
  | .z4 z1 z2 z3 z4 z5 z6 z7 z8 z9 z10 z11 z12 z13 z14 z15 z16 z17 => ⟨spr 158 0 [(2, .ptr 0 0), (3, .ptr 1 0), (5, vi z1)], Mem.ofList [.box 36 [vs z2, vs z3, .sl ⟨true, 9⟩ 1 z4, .sl ⟨true, 95⟩ 3 z5, .sl ⟨true, 97⟩ 4 z6, .sl ⟨true, 111⟩ 2 z7, vb z8, .sl ⟨false, 100⟩ 2 z9], .box 36 [vs z10, vs z11, .sl ⟨true, 9⟩ 1 z12, .sl ⟨true, 95⟩ 3 z13, .sl ⟨true, 97⟩ 4 z14, .sl ⟨true, 111⟩ 2 z15, vb z16, .sl ⟨false, 100⟩ 2 z17]], 2⟩
  | .z9 z1 z2 z3 z4 z5 z6 z7 z8 z9 z10 z11 z12 z13 z14 z15 z16 z17 => ⟨spr 158 0 [(2, .ptr 0 0), (3, .ptr 1 0), (6, vi z1)], Mem.ofList [.box 36 [vs z2, vs z3, .sl ⟨true, 9⟩ 1 z4, .sl ⟨true, 95⟩ 3 z5, .sl ⟨true, 97⟩ 4 z6, .sl ⟨true, 111⟩ 2 z7, vb z8, .sl ⟨false, 100⟩ 2 z9], .box 36 [vs z10, vs z11, .sl ⟨true, 9⟩ 1 z12, .sl ⟨true, 95⟩ 3 z13, .sl ⟨true, 97⟩ 4 z14, .sl ⟨true, 111⟩ 2 z15, vb z16, .sl ⟨false, 100⟩ 2 z17]], 2⟩
  | .z14 z1 z2 z3 z4 z5 z6 z7 z8 z9 z10 z11 z12 z13 z14 z15 z16 z17 => ⟨spr 158 0 [(2, .ptr 0 0), (3, .ptr 1 0), (7, vi z1)], Mem.ofList [.box 36 [vs z2, vs z3, .sl ⟨true, 9⟩ 1 z4, .sl ⟨true, 95⟩ 3 z5, .sl ⟨true, 97⟩ 4 z6, .sl ⟨true, 111⟩ 2 z7, vb z8, .sl ⟨false, 100⟩ 2 z9], .box 36 [vs z10, vs z11, .sl ⟨true, 9⟩ 1 z12, .sl ⟨true, 95⟩ 3 z13, .sl ⟨true, 97⟩ 4 z14, .sl ⟨true, 111⟩ 2 z15, vb z16, .sl ⟨false, 100⟩ 2 z17]], 2⟩
  | .z20 z1 z2 z3 z4 z5 z6 z7 z8 z9 z10 z11 z12 z13 z14 z15 z16 z17 z18 z19 z20 z21 z22 => ⟨spr 158 0 [(2, .ptr 0 0), (3, .ptr 1 0), (7, vi z1), (8, .ptr 2 0), (9, .ptr 3 0), (10, vi z2)], Mem.ofList [.box 36 [vs z3, vs z4, .sl ⟨true, 9⟩ 1 z5, .sl ⟨true, 95⟩ 3 z6, .sl ⟨true, 97⟩ 4 z7, .sl ⟨true, 111⟩ 2 z8, vb z9, .sl ⟨false, 100⟩ 2 z10], .box 36 [vs z11, vs z12, .sl ⟨true, 9⟩ 1 z13, .sl ⟨true, 95⟩ 3 z14, .sl ⟨true, 97⟩ 4 z15, .sl ⟨true, 111⟩ 2 z16, vb z17, .sl ⟨false, 100⟩ 2 z18], .box 100 [vb z19, .sl ⟨true, 104⟩ 4 z20], .box 100 [vb z21, .sl ⟨true, 104⟩ 4 z22]], 4⟩
def Q35.r2 (n : Nat) (c : Q35.Z → Option Bool)  : Option Bool :=
  some false
def Q35.r4 (n : Nat) (c : Q35.Z → Option Bool) (z1 : Int) (z2 z3 : ByteArray) (z4 z5 z6 z7 : List AV) (z8 : Bool) (z9 : List AV) (z10 z11 : ByteArray) (z12 z13 z14 z15 : List AV) (z16 : Bool) (z17 : List AV) : Option Bool :=
  let y6 : Bool := decide (z1 < ((z5.length : Nat) : Int))
  bif y6 then (bif decide ((0 : Int) ≤ z1) && decide (z1 < ((z5.length : Nat) : Int)) then (withCons ((z5.getD ((z1).toNat) .undef).cells) fun h7 r8 =>
  withStr h7 fun s9 =>
  withCons r8 fun h10 r11 =>
  withInt .i64 h10 fun x12 =>
  withCons r11 fun h13 r14 =>
  withStr h13 fun s15 =>
  bif decide ((0 : Int) ≤ z1) && decide (z1 < ((z13.length : Nat) : Int)) then (withCons ((z13.getD ((z1).toNat) .undef).cells) fun h16 r17 =>
  withStr h16 fun s18 =>
  withCons r17 fun h19 r20 =>
  withInt .i64 h19 fun x21 =>
  withCons r20 fun h22 r23 =>
  withStr h22 fun s24 =>
  let y25 : Bool := !((s9 == s18) && ((x12 == x21) && ((s15 == s24) && true)))
  bif y25 then (some false) else (c (.z4 (IntKind.i64.wrap (z1 + 1)) z2 z3 z4 z5 z6 z7 z8 z9 z10 z11 z12 z13 z14 z15 z16 z17))) else none) else none) else (c (.z9 0 z2 z3 z4 z5 z6 z7 z8 z9 z10 z11 z12 z13 z14 z15 z16 z17))
def Q35.r9 (n : Nat) (c : Q35.Z → Option Bool) (z1 : Int) (z2 z3 : ByteArray) (z4 z5 z6 z7 : List AV) (z8 : Bool) (z9 : List AV) (z10 z11 : ByteArray) (z12 z13 z14 z15 : List AV) (z16 : Bool) (z17 : List AV) : Option Bool :=
  let y26 : Bool := decide (z1 < ((z6.length : Nat) : Int))
  bif y26 then (bif decide ((0 : Int) ≤ z1) && decide (z1 < ((z6.length : Nat) : Int)) then (withCons ((z6.getD ((z1).toNat) .undef).cells) fun h27 r28 =>
  withInt .i64 h27 fun x29 =>
  withCons r28 fun h30 r31 =>
  withStr h30 fun s32 =>
  withCons r31 fun h33 r34 =>
  withInt .i64 h33 fun x35 =>
  withCons r34 fun h36 r37 =>
  withStr h36 fun s38 =>
  bif decide ((0 : Int) ≤ z1) && decide (z1 < ((z14.length : Nat) : Int)) then (withCons ((z14.getD ((z1).toNat) .undef).cells) fun h39 r40 =>
  withInt .i64 h39 fun x41 =>
  withCons r40 fun h42 r43 =>
  withStr h42 fun s44 =>
  withCons r43 fun h45 r46 =>
  withInt .i64 h45 fun x47 =>
  withCons r46 fun h48 r49 =>
  withStr h48 fun s50 =>
  let y51 : Bool := !((x29 == x41) && ((s32 == s44) && ((x35 == x47) && ((s38 == s50) && true))))
  bif y51 then (some false) else (c (.z9 (IntKind.i64.wrap (z1 + 1)) z2 z3 z4 z5 z6 z7 z8 z9 z10 z11 z12 z13 z14 z15 z16 z17))) else none) else none) else (c (.z14 0 z2 z3 z4 z5 z6 z7 z8 z9 z10 z11 z12 z13 z14 z15 z16 z17))
def Q35.r14 (n : Nat) (c : Q35.Z → Option Bool) (z1 : Int) (z2 z3 : ByteArray) (z4 z5 z6 z7 : List AV) (z8 : Bool) (z9 : List AV) (z10 z11 : ByteArray) (z12 z13 z14 z15 : List AV) (z16 : Bool) (z17 : List AV) : Option Bool :=
  let y52 : Bool := decide (z1 < ((z9.length : Nat) : Int))
  bif y52 then (bif decide ((0 : Int) ≤ z1) && decide (z1 < ((z9.length : Nat) : Int)) then (withCons ((z9.getD ((z1).toNat) .undef).cells) fun h53 r54 =>
  withBool h53 fun b55 =>
  withCons r54 fun h56 r57 =>
  withSl ⟨true, 104⟩ 4 h56 fun xs58 =>
  bif decide ((0 : Int) ≤ z1) && decide (z1 < ((z17.length : Nat) : Int)) then (withCons ((z17.getD ((z1).toNat) .undef).cells) fun h59 r60 =>
  withBool h59 fun b61 =>
  withCons r60 fun h62 r63 =>
  withSl ⟨true, 104⟩ 4 h62 fun xs64 =>
  bif !(b55 == b61) then (some false) else (let y65 : Bool := ((xs58.length : Nat) : Int) != ((xs64.length : Nat) : Int)
  bif y65 then (some false) else (c (.z20 z1 0 z2 z3 z4 z5 z6 z7 z8 z9 z10 z11 z12 z13 z14 z15 z16 z17 b55 xs58 b61 xs64)))) else none) else none) else (some true)
def Q35.r20 (n : Nat) (c : Q35.Z → Option Bool) (z1 z2 : Int) (z3 z4 : ByteArray) (z5 z6 z7 z8 : List AV) (z9 : Bool) (z10 : List AV) (z11 z12 : ByteArray) (z13 z14 z15 z16 : List AV) (z17 : Bool) (z18 : List AV) (z19 : Bool) (z20 : List AV) (z21 : Bool) (z22 : List AV) : Option Bool :=
  let y66 : Bool := decide (z2 < ((z20.length : Nat) : Int))
  bif y66 then (bif decide ((0 : Int) ≤ z2) && decide (z2 < ((z20.length : Nat) : Int)) then (withCons ((z20.getD ((z2).toNat) .undef).cells) fun h67 r68 =>
  withStr h67 fun s69 =>
  withCons r68 fun h70 r71 =>
  withInt .i64 h70 fun x72 =>
  withCons r71 fun h73 r74 =>
  withInt .i64 h73 fun x75 =>
  withCons r74 fun h76 r77 =>
  withStr h76 fun s78 =>
  bif decide ((0 : Int) ≤ z2) && decide (z2 < ((z22.length : Nat) : Int)) then (withCons ((z22.getD ((z2).toNat) .undef).cells) fun h79 r80 =>
  withStr h79 fun s81 =>
  withCons r80 fun h82 r83 =>
  withInt .i64 h82 fun x84 =>
  withCons r83 fun h85 r86 =>
  withInt .i64 h85 fun x87 =>
  withCons r86 fun h88 r89 =>
  withStr h88 fun s90 =>
  let y91 : Bool := !((s69 == s81) && ((x72 == x84) && ((x75 == x87) && ((s78 == s90) && true))))
  bif y91 then (some false) else (c (.z20 z1 (IntKind.i64.wrap (z2 + 1)) z3 z4 z5 z6 z7 z8 z9 z10 z11 z12 z13 z14 z15 z16 z17 z18 z19 z20 z21 z22))) else none) else none) else (c (.z14 (IntKind.i64.wrap (z1 + 1)) z3 z4 z5 z6 z7 z8 z9 z10 z11 z12 z13 z14 z15 z16 z17 z18))
def Q35.r (n : Nat) (c : Q35.Z → Option Bool) : Q35.Z → Option Bool
  | .z2 => Q35.r2 n c
  | .z4 z1 z2 z3 z4 z5 z6 z7 z8 z9 z10 z11 z12 z13 z14 z15 z16 z17 => Q35.r4 n c z1 z2 z3 z4 z5 z6 z7 z8 z9 z10 z11 z12 z13 z14 z15 z16 z17
  | .z9 z1 z2 z3 z4 z5 z6 z7 z8 z9 z10 z11 z12 z13 z14 z15 z16 z17 => Q35.r9 n c z1 z2 z3 z4 z5 z6 z7 z8 z9 z10 z11 z12 z13 z14 z15 z16 z17
  | .z14 z1 z2 z3 z4 z5 z6 z7 z8 z9 z10 z11 z12 z13 z14 z15 z16 z17 => Q35.r14 n c z1 z2 z3 z4 z5 z6 z7 z8 z9 z10 z11 z12 z13 z14 z15 z16 z17
  | .z20 z1 z2 z3 z4 z5 z6 z7 z8 z9 z10 z11 z12 z13 z14 z15 z16 z17 z18 z19 z20 z21 z22 => Q35.r20 n c z1 z2 z3 z4 z5 z6 z7 z8 z9 z10 z11 z12 z13 z14 z15 z16 z17 z18 z19 z20 z21 z22
def Q35.e (n : Nat) (c : Q35.Z → Option Bool) (a0 a1 : ByteArray) (a2 a3 a4 a5 : List AV) (a6 : Bool) (a7 : List AV) (a8 a9 : ByteArray) (a10 a11 a12 a13 : List AV) (a14 : Bool) (a15 : List AV) : Option Bool :=
  bif !(a0.toList == a8.toList) then (c .z2) else (bif !(a1.toList == a9.toList) then (c .z2) else ((Q1y.F n a2 a10).bind fun p1 =>
  bif !p1 then (c .z2) else (let y2 : Bool := ((a3.length : Nat) : Int) != ((a11.length : Nat) : Int)
  bif y2 then (c .z2) else (let y3 : Bool := ((a4.length : Nat) : Int) != ((a12.length : Nat) : Int)
  bif y3 then (c .z2) else ((Q3m.F n a5 a13).bind fun p4 =>
  bif !p4 then (c .z2) else (bif !(a6 == a14) then (c .z2) else (let y5 : Bool := ((a7.length : Nat) : Int) != ((a15.length : Nat) : Int)
  bif y5 then (c .z2) else (c (.z4 0 a0 a1 a2 a3 a4 a5 a6 a7 a8 a9 a10 a11 a12 a13 a14 a15)))))))))
def Q35.E (n : Nat) (c : Q35.Z → Option Bool) : Q35.A → Option Q35.T := fun (a0, a1, a2, a3, a4, a5, a6, a7, a8, a9, a10, a11, a12, a13, a14, a15) => Q35.e n c a0 a1 a2 a3 a4 a5 a6 a7 a8 a9 a10 a11 a12 a13 a14 a15
def Q35.l (n : Nat) : Nat → Q35.Z → Option Bool := loopL (Q35.r n)
def Q35.F (n : Nat) (a0 a1 : ByteArray) (a2 a3 a4 a5 : List AV) (a6 : Bool) (a7 : List AV) (a8 a9 : ByteArray) (a10 a11 a12 a13 : List AV) (a14 : Bool) (a15 : List AV) : Option Bool := Q35.e n (Q35.l n n) a0 a1 a2 a3 a4 a5 a6 a7 a8 a9 a10 a11 a12 a13 a14 a15
def Q35.FA (n : Nat) : Q35.A → Option Q35.T := Q35.E n (Q35.l n n)
theorem Q35.hands (n : Nat) : ∀ a p, Q35.FA n a = some p → HandsIn Tryz.prog 70 (Q35.i a) (Q35.p p) :=
  pf_hands (C := Q35.C n) (cut := Q35.cut) (t := Q35.t) (s := Q35.s) (e := Q35.E n) (r := Q35.r n) (n := n) cfg mixed globs rfl Q35.qi (Q35.tells n) Tryz.func70 (by kernel_rfl) (by kernel_rfl) (fun rec a => by kernel_rfl) (fun rec z => by cases z <;> kernel_rfl)
def Q35.via {R : Type} (n : Nat) : List AV → (AV → Option R) → Option R := viaK (Q35.FA n) Q35.o Q35.p
theorem Q35.tells1 {R : Type} (n : Nat) (xs : List AV) : Tells1 (R := R) Tryz.prog 70 xs (Q35.via n xs) := tells_via Q35.oi (fun a => by kernel_rfl) (Q35.hands n) xs
end Go.Proofs.YtmpglmcjoelciaaGreatDoor.Ev
namespace Go.Proofs.YtmpglmcjoelciaaGreatDoor.Ev
open Go Go.Proofs Go.Proofs.Ev
set_option linter.unusedVariables false
set_option maxRecDepth 100000
abbrev Q2g.A := ByteArray × ByteArray × List AV × List AV × Bool
abbrev Q2g.T := Bool
def Q2g.i : Q2g.A → List AV := fun (a0, a1, a2, a3, a4) => [AV.agg [vs a0, vs a1, .sl ⟨true, 125⟩ 4 a2, .sl ⟨true, 111⟩ 2 a3, vb a4]]
def Q2g.o (xs : List AV) : Option Q2g.A := match xs with | [.agg [.v (.string a0), .v (.string a1), .sl ⟨true, 125⟩ 4 a2, .sl ⟨true, 111⟩ 2 a3, .v (.bool a4)]] => some (a0, a1, a2, a3, a4) | _ => none
theorem Q2g.oi : ∀ xs a, Q2g.o xs = some a → xs = Q2g.i a := by
  intro xs a h
  unfold Q2g.o at h
  split at h
  · cases h; rfl
  · cases h
def Q2g.p (p : Q2g.T) : AV := vb p
def Q2g.q (x : AV) : Option Q2g.T := match x with | .v (.bool p0) => some p0 | _ => none
theorem Q2g.qi : ∀ x p, Q2g.q x = some p → x = Q2g.p p := by
  intro x p h
  unfold Q2g.q at h
  split at h
  · cases h; rfl
  · cases h
inductive Q2g.Z where
  | z2
  | z4 (z1 : Int) (z2 z3 : ByteArray) (z4 z5 : List AV) (z6 : Bool)
def Q2g.C {R : Type} (n : Nat) (f : FuncId) (xs : List AV) : (AV → Option R) → Option R :=
  bif Nat.beq f 50 then Q2k.via n xs else fun _ => none
theorem Q2g.tells {R : Type} (n : Nat) : Tells (R := R) Tryz.prog (Q2g.C n) := fun _ xs => tells_at (Q2k.tells1 n xs) (Tells1.none)
def Q2g.cut (r : Nat) : Option Keep := match r with | 2 => some ⟨[], []⟩ | 4 => some ⟨[1, 3], []⟩ | _ => none
def Q2g.t (z : Q2g.Z) : List Item := (todoOf (match z with | .z2 => 2 | .z4 _ _ _ _ _ _ => 4) 1000 [.code (Tryz.f71.body.getD .skip)]).getD []
def Q2g.s : Q2g.Z → St
  | .z2 => ⟨spr 48 0 [], Mem.ofList [], 0⟩
  | .z4 z1 z2 z3 z4 z5 z6 => ⟨spr 48 0 [(1, .ptr 0 0), (3, vi z1)], Mem.ofList [.box 48 [vs z2, vs z3, .sl ⟨true, 125⟩ 4 z4, .sl ⟨true, 111⟩ 2 z5, vb z6]], 1⟩
def Q2g.r2 (n : Nat) (c : Q2g.Z → Option Bool)  : Option Bool :=
  some false
def Q2g.r4 (n : Nat) (c : Q2g.Z → Option Bool) (z1 : Int) (z2 z3 : ByteArray) (z4 z5 : List AV) (z6 : Bool) : Option Bool :=
  let y5 : Bool := decide (z1 < ((z4.length : Nat) : Int))
  bif y5 then (bif decide ((0 : Int) ≤ z1) && decide (z1 < ((z4.length : Nat) : Int)) then (withCons ((z4.getD ((z1).toNat) .undef).cells) fun h6 r7 =>
  withStr h6 fun s8 =>
  let y9 : Bool := decide (((s8.size : Nat) : Int) > 100)
  bif y9 then (some false) else (c (.z4 (IntKind.i64.wrap (z1 + 1)) z2 z3 z4 z5 z6))) else none) else ((Q2k.F n z5).bind fun p10 =>
  some p10)
def Q2g.r (n : Nat) (c : Q2g.Z → Option Bool) : Q2g.Z → Option Bool
  | .z2 => Q2g.r2 n c
  | .z4 z1 z2 z3 z4 z5 z6 => Q2g.r4 n c z1 z2 z3 z4 z5 z6
def Q2g.e (n : Nat) (c : Q2g.Z → Option Bool) (a0 a1 : ByteArray) (a2 a3 : List AV) (a4 : Bool) : Option Bool :=
  let y1 : Bool := decide (((a0.size : Nat) : Int) > 100)
  bif y1 then (c .z2) else (let y2 : Bool := decide (((a1.size : Nat) : Int) > 100)
  bif y2 then (c .z2) else (let y3 : Bool := decide (((a2.length : Nat) : Int) > 40)
  bif y3 then (c .z2) else (let y4 : Bool := decide (((a3.length : Nat) : Int) > 40)
  bif y4 then (c .z2) else (c (.z4 0 a0 a1 a2 a3 a4)))))
def Q2g.E (n : Nat) (c : Q2g.Z → Option Bool) : Q2g.A → Option Q2g.T := fun (a0, a1, a2, a3, a4) => Q2g.e n c a0 a1 a2 a3 a4
def Q2g.l (n : Nat) : Nat → Q2g.Z → Option Bool := loopL (Q2g.r n)
def Q2g.F (n : Nat) (a0 a1 : ByteArray) (a2 a3 : List AV) (a4 : Bool) : Option Bool := Q2g.e n (Q2g.l n n) a0 a1 a2 a3 a4
def Q2g.FA (n : Nat) : Q2g.A → Option Q2g.T := Q2g.E n (Q2g.l n n)
theorem Q2g.hands (n : Nat) : ∀ a p, Q2g.FA n a = some p → HandsIn Tryz.prog 71 (Q2g.i a) (Q2g.p p) :=
  pf_hands (C := Q2g.C n) (cut := Q2g.cut) (t := Q2g.t) (s := Q2g.s) (e := Q2g.E n) (r := Q2g.r n) (n := n) cfg mixed globs rfl Q2g.qi (Q2g.tells n) Tryz.func71 (by kernel_rfl) (by kernel_rfl) (fun rec a => by kernel_rfl) (fun rec z => by cases z <;> kernel_rfl)
def Q2g.via {R : Type} (n : Nat) : List AV → (AV → Option R) → Option R := viaK (Q2g.FA n) Q2g.o Q2g.p
theorem Q2g.tells1 {R : Type} (n : Nat) (xs : List AV) : Tells1 (R := R) Tryz.prog 71 xs (Q2g.via n xs) := tells_via Q2g.oi (fun a => by kernel_rfl) (Q2g.hands n) xs
end Go.Proofs.YtmpglmcjoelciaaGreatDoor.Ev
namespace Go.Proofs.YtmpglmcjoelciaaGreatDoor.Ev
open Go Go.Proofs Go.Proofs.Ev
set_option linter.unusedVariables false
set_option maxRecDepth 100000
abbrev Q2m.A := Bool × ByteArray × ByteArray × List AV × List AV × Bool × ByteArray × ByteArray × List AV × List AV × List AV × List AV × Bool × List AV
abbrev Q2m.T := Bool
def Q2m.i : Q2m.A → List AV := fun (a0, a1, a2, a3, a4, a5, a6, a7, a8, a9, a10, a11, a12, a13) => [AV.agg [vb a0, vs a1, vs a2, .sl ⟨true, 125⟩ 4 a3, .sl ⟨true, 111⟩ 2 a4, vb a5, vs a6, vs a7, .sl ⟨true, 9⟩ 1 a8, .sl ⟨true, 95⟩ 3 a9, .sl ⟨true, 97⟩ 4 a10, .sl ⟨true, 111⟩ 2 a11, vb a12, .sl ⟨false, 100⟩ 2 a13]]
def Q2m.o (xs : List AV) : Option Q2m.A := match xs with | [.agg [.v (.bool a0), .v (.string a1), .v (.string a2), .sl ⟨true, 125⟩ 4 a3, .sl ⟨true, 111⟩ 2 a4, .v (.bool a5), .v (.string a6), .v (.string a7), .sl ⟨true, 9⟩ 1 a8, .sl ⟨true, 95⟩ 3 a9, .sl ⟨true, 97⟩ 4 a10, .sl ⟨true, 111⟩ 2 a11, .v (.bool a12), .sl ⟨false, 100⟩ 2 a13]] => some (a0, a1, a2, a3, a4, a5, a6, a7, a8, a9, a10, a11, a12, a13) | _ => none
theorem Q2m.oi : ∀ xs a, Q2m.o xs = some a → xs = Q2m.i a := by
  intro xs a h
  unfold Q2m.o at h
  split at h
  · cases h; rfl
  · cases h
def Q2m.p (p : Q2m.T) : AV := vb p
def Q2m.q (x : AV) : Option Q2m.T := match x with | .v (.bool p0) => some p0 | _ => none
theorem Q2m.qi : ∀ x p, Q2m.q x = some p → x = Q2m.p p := by
  intro x p h
  unfold Q2m.q at h
  split at h
  · cases h; rfl
  · cases h
def Q2m.C {R : Type} (n : Nat) (f : FuncId) (xs : List AV) : (AV → Option R) → Option R :=
  bif Nat.beq f 16 then Q2i.via n xs else bif Nat.beq f 71 then Q2g.via n xs else fun _ => none
theorem Q2m.tells {R : Type} (n : Nat) : Tells (R := R) Tryz.prog (Q2m.C n) := fun _ xs => tells_at (Q2i.tells1 n xs) (tells_at (Q2g.tells1 n xs) (Tells1.none))
def Q2m.cut (r : Nat) : Option Keep := match r with  | _ => none
def Q2m.e (n : Nat) (a0 : Bool) (a1 a2 : ByteArray) (a3 a4 : List AV) (a5 : Bool) (a6 a7 : ByteArray) (a8 a9 a10 a11 : List AV) (a12 : Bool) (a13 : List AV) : Option Bool :=
  (Q2g.F n a1 a2 a3 a4 a5).bind fun p1 =>
  bif p1 then ((Q2i.F n a6 a7 a8 a9 a10 a11 a12 a13).bind fun p2 =>
  some p2) else (some false)
def Q2m.E (n : Nat) : Q2m.A → Option Q2m.T := fun (a0, a1, a2, a3, a4, a5, a6, a7, a8, a9, a10, a11, a12, a13) => Q2m.e n a0 a1 a2 a3 a4 a5 a6 a7 a8 a9 a10 a11 a12 a13
def Q2m.F (n : Nat) (a0 : Bool) (a1 a2 : ByteArray) (a3 a4 : List AV) (a5 : Bool) (a6 a7 : ByteArray) (a8 a9 a10 a11 : List AV) (a12 : Bool) (a13 : List AV) : Option Bool := Q2m.e n a0 a1 a2 a3 a4 a5 a6 a7 a8 a9 a10 a11 a12 a13
def Q2m.FA (n : Nat) : Q2m.A → Option Q2m.T := Q2m.E n
theorem Q2m.hands (n : Nat) : ∀ a p, Q2m.FA n a = some p → HandsIn Tryz.prog 25 (Q2m.i a) (Q2m.p p) :=
  pf_hands (C := Q2m.C n) (cut := Q2m.cut) (Z := Empty) (t := nofun) (s := nofun) (e := fun _ => Q2m.E n) (r := fun _ z => nomatch z) (n := n) cfg mixed globs rfl Q2m.qi (Q2m.tells n) Tryz.func25 (by kernel_rfl) (by kernel_rfl) (fun rec a => by kernel_rfl) (fun rec z => nomatch z)
def Q2m.via {R : Type} (n : Nat) : List AV → (AV → Option R) → Option R := viaK (Q2m.FA n) Q2m.o Q2m.p
theorem Q2m.tells1 {R : Type} (n : Nat) (xs : List AV) : Tells1 (R := R) Tryz.prog 25 xs (Q2m.via n xs) := tells_via Q2m.oi (fun a => by kernel_rfl) (Q2m.hands n) xs
end Go.Proofs.YtmpglmcjoelciaaGreatDoor.Ev
namespace Go.Proofs.YtmpglmcjoelciaaGreatDoor.Ev
open Go Go.Proofs Go.Proofs.Ev
set_option linter.unusedVariables false
set_option maxRecDepth 100000
abbrev Q0t.A := Bool × ByteArray × ByteArray × List AV × List AV × Bool × ByteArray × ByteArray × List AV × List AV × List AV × List AV × Bool × List AV
abbrev Q0t.T := Bool
def Q0t.i : Q0t.A → List AV := fun (a0, a1, a2, a3, a4, a5, a6, a7, a8, a9, a10, a11, a12, a13) => [AV.agg [vb a0, vs a1, vs a2, .sl ⟨true, 125⟩ 4 a3, .sl ⟨true, 111⟩ 2 a4, vb a5, vs a6, vs a7, .sl ⟨true, 9⟩ 1 a8, .sl ⟨true, 95⟩ 3 a9, .sl ⟨true, 97⟩ 4 a10, .sl ⟨true, 111⟩ 2 a11, vb a12, .sl ⟨false, 100⟩ 2 a13]]
def Q0t.o (xs : List AV) : Option Q0t.A := match xs with | [.agg [.v (.bool a0), .v (.string a1), .v (.string a2), .sl ⟨true, 125⟩ 4 a3, .sl ⟨true, 111⟩ 2 a4, .v (.bool a5), .v (.string a6), .v (.string a7), .sl ⟨true, 9⟩ 1 a8, .sl ⟨true, 95⟩ 3 a9, .sl ⟨true, 97⟩ 4 a10, .sl ⟨true, 111⟩ 2 a11, .v (.bool a12), .sl ⟨false, 100⟩ 2 a13]] => some (a0, a1, a2, a3, a4, a5, a6, a7, a8, a9, a10, a11, a12, a13) | _ => none
theorem Q0t.oi : ∀ xs a, Q0t.o xs = some a → xs = Q0t.i a := by
  intro xs a h
  unfold Q0t.o at h
  split at h
  · cases h; rfl
  · cases h
def Q0t.p (p : Q0t.T) : AV := vb p
def Q0t.q (x : AV) : Option Q0t.T := match x with | .v (.bool p0) => some p0 | _ => none
theorem Q0t.qi : ∀ x p, Q0t.q x = some p → x = Q0t.p p := by
  intro x p h
  unfold Q0t.q at h
  split at h
  · cases h; rfl
  · cases h
def Q0t.C {R : Type} (n : Nat) (f : FuncId) (xs : List AV) : (AV → Option R) → Option R :=
  fun _ => none
theorem Q0t.tells {R : Type} (n : Nat) : Tells (R := R) Tryz.prog (Q0t.C n) := fun _ xs => Tells1.none
def Q0t.cut (r : Nat) : Option Keep := match r with  | _ => none
def Q0t.e (n : Nat) (a0 : Bool) (a1 a2 : ByteArray) (a3 a4 : List AV) (a5 : Bool) (a6 a7 : ByteArray) (a8 a9 a10 a11 : List AV) (a12 : Bool) (a13 : List AV) : Option Bool :=
  bif a0 then (let y1 : Bool := a1.toList == (⟨#[]⟩ : ByteArray).toList
  bif y1 then (let y2 : Bool := a2.toList == (⟨#[]⟩ : ByteArray).toList
  bif y2 then (let y3 : Bool := ((a3.length : Nat) : Int) == 0
  bif y3 then (let y4 : Bool := ((a4.length : Nat) : Int) == 0
  bif y4 then (some (!a5)) else (some false)) else (some false)) else (some false)) else (some false)) else (let y5 : Bool := a6.toList == (⟨#[]⟩ : ByteArray).toList
  bif y5 then (let y6 : Bool := a7.toList == (⟨#[]⟩ : ByteArray).toList
  bif y6 then (let y7 : Bool := ((a8.length : Nat) : Int) == 0
  bif y7 then (let y8 : Bool := ((a9.length : Nat) : Int) == 0
  bif y8 then (let y9 : Bool := ((a10.length : Nat) : Int) == 0
  bif y9 then (let y10 : Bool := ((a11.length : Nat) : Int) == 0
  bif y10 then (bif !a12 then (let y11 : Bool := ((a13.length : Nat) : Int) == 0
  some y11) else (some false)) else (some false)) else (some false)) else (some false)) else (some false)) else (some false)) else (some false))
def Q0t.E (n : Nat) : Q0t.A → Option Q0t.T := fun (a0, a1, a2, a3, a4, a5, a6, a7, a8, a9, a10, a11, a12, a13) => Q0t.e n a0 a1 a2 a3 a4 a5 a6 a7 a8 a9 a10 a11 a12 a13
def Q0t.F (n : Nat) (a0 : Bool) (a1 a2 : ByteArray) (a3 a4 : List AV) (a5 : Bool) (a6 a7 : ByteArray) (a8 a9 a10 a11 : List AV) (a12 : Bool) (a13 : List AV) : Option Bool := Q0t.e n a0 a1 a2 a3 a4 a5 a6 a7 a8 a9 a10 a11 a12 a13
def Q0t.FA (n : Nat) : Q0t.A → Option Q0t.T := Q0t.E n
theorem Q0t.hands (n : Nat) : ∀ a p, Q0t.FA n a = some p → HandsIn Tryz.prog 72 (Q0t.i a) (Q0t.p p) :=
  pf_hands (C := Q0t.C n) (cut := Q0t.cut) (Z := Empty) (t := nofun) (s := nofun) (e := fun _ => Q0t.E n) (r := fun _ z => nomatch z) (n := n) cfg mixed globs rfl Q0t.qi (Q0t.tells n) Tryz.func72 (by kernel_rfl) (by kernel_rfl) (fun rec a => by kernel_rfl) (fun rec z => nomatch z)
def Q0t.via {R : Type} (n : Nat) : List AV → (AV → Option R) → Option R := viaK (Q0t.FA n) Q0t.o Q0t.p
theorem Q0t.tells1 {R : Type} (n : Nat) (xs : List AV) : Tells1 (R := R) Tryz.prog 72 xs (Q0t.via n xs) := tells_via Q0t.oi (fun a => by kernel_rfl) (Q0t.hands n) xs
end Go.Proofs.YtmpglmcjoelciaaGreatDoor.Ev
namespace Go.Proofs.YtmpglmcjoelciaaGreatDoor.Ev
open Go Go.Proofs Go.Proofs.Ev
set_option linter.unusedVariables false
set_option maxRecDepth 100000
abbrev Q0n.A := ByteArray × ByteArray × ByteArray × Bool
abbrev Q0n.T := List AV
def Q0n.i : Q0n.A → List AV := fun (a0, a1, a2, a3) => [vs a0, vs a1, vs a2, vb a3]
def Q0n.o (xs : List AV) : Option Q0n.A := match xs with | [.v (.string a0), .v (.string a1), .v (.string a2), .v (.bool a3)] => some (a0, a1, a2, a3) | _ => none
theorem Q0n.oi : ∀ xs a, Q0n.o xs = some a → xs = Q0n.i a := by
  intro xs a h
  unfold Q0n.o at h
  split at h
  · cases h; rfl
  · cases h
def Q0n.p (p : Q0n.T) : AV := .fr ⟨true, 9⟩ 1 p
def Q0n.q (x : AV) : Option Q0n.T := match x with | .fr ⟨true, 9⟩ 1 p0 => some p0 | _ => none
theorem Q0n.qi : ∀ x p, Q0n.q x = some p → x = Q0n.p p := by
  intro x p h
  unfold Q0n.q at h
  split at h
  · cases h; rfl
  · cases h
def Q0n.C {R : Type} (n : Nat) (f : FuncId) (xs : List AV) : (AV → Option R) → Option R :=
  fun _ => none
theorem Q0n.tells {R : Type} (n : Nat) : Tells (R := R) Tryz.prog (Q0n.C n) := fun _ xs => Tells1.none
def Q0n.cut (r : Nat) : Option Keep := match r with  | _ => none
def Q0n.e (n : Nat) (a0 a1 a2 : ByteArray) (a3 : Bool) : Option (List AV) :=
  chk (decide (a0.size + 1 ≤ 9223372036854775807)) (chk (decide ((a0 ++ (⟨#[32]⟩ : ByteArray)).size + a1.size ≤ 9223372036854775807)) (let y1 : ByteArray := (a0 ++ (⟨#[32]⟩ : ByteArray)) ++ a1
  bif a3 then (chk (decide (y1.size + 7 ≤ 9223372036854775807)) (let y2 : ByteArray := y1 ++ (⟨#[32, 85, 78, 73, 81, 85, 69]⟩ : ByteArray)
  chk (decide (2 + a2.size ≤ 9223372036854775807)) (let y3 : ByteArray := (⟨#[82, 32]⟩ : ByteArray) ++ a2
  some [vs y2, vs y3]))) else (chk (decide (2 + a2.size ≤ 9223372036854775807)) (let y4 : ByteArray := (⟨#[82, 32]⟩ : ByteArray) ++ a2
  some [vs y1, vs y4]))))
def Q0n.E (n : Nat) : Q0n.A → Option Q0n.T := fun (a0, a1, a2, a3) => Q0n.e n a0 a1 a2 a3
def Q0n.F (n : Nat) (a0 a1 a2 : ByteArray) (a3 : Bool) : Option (List AV) := Q0n.e n a0 a1 a2 a3
def Q0n.FA (n : Nat) : Q0n.A → Option Q0n.T := Q0n.E n
theorem Q0n.hands (n : Nat) : ∀ a p, Q0n.FA n a = some p → HandsIn Tryz.prog 73 (Q0n.i a) (Q0n.p p) :=
  pf_hands (C := Q0n.C n) (cut := Q0n.cut) (Z := Empty) (t := nofun) (s := nofun) (e := fun _ => Q0n.E n) (r := fun _ z => nomatch z) (n := n) cfg mixed globs rfl Q0n.qi (Q0n.tells n) Tryz.func73 (by kernel_rfl) (by kernel_rfl) (fun rec a => by kernel_rfl) (fun rec z => nomatch z)
def Q0n.via {R : Type} (n : Nat) : List AV → (AV → Option R) → Option R := viaK (Q0n.FA n) Q0n.o Q0n.p
theorem Q0n.tells1 {R : Type} (n : Nat) (xs : List AV) : Tells1 (R := R) Tryz.prog 73 xs (Q0n.via n xs) := tells_via Q0n.oi (fun a => by kernel_rfl) (Q0n.hands n) xs
end Go.Proofs.YtmpglmcjoelciaaGreatDoor.Ev
namespace Go.Proofs.YtmpglmcjoelciaaGreatDoor.Ev
open Go Go.Proofs Go.Proofs.Ev
set_option linter.unusedVariables false
set_option maxRecDepth 100000
abbrev Q0v.A := List AV
abbrev Q0v.T := List AV
def Q0v.i : Q0v.A → List AV := fun a0 => [.sl ⟨true, 111⟩ 2 a0]
def Q0v.o (xs : List AV) : Option Q0v.A := match xs with | [.sl ⟨true, 111⟩ 2 a0] => some a0 | _ => none
theorem Q0v.oi : ∀ xs a, Q0v.o xs = some a → xs = Q0v.i a := by
  intro xs a h
  unfold Q0v.o at h
  split at h
  · cases h; rfl
  · cases h
def Q0v.p (p : Q0v.T) : AV := .fr ⟨true, 9⟩ 1 p
def Q0v.q (x : AV) : Option Q0v.T := match x with | .fr ⟨true, 9⟩ 1 p0 => some p0 | _ => none
theorem Q0v.qi : ∀ x p, Q0v.q x = some p → x = Q0v.p p := by
  intro x p h
  unfold Q0v.q at h
  split at h
  · cases h; rfl
  · cases h
inductive Q0v.Z where
  | z3 (z1 : List AV) (z2 z3 : Int) (z4 : List AV)
def Q0v.C {R : Type} (n : Nat) (f : FuncId) (xs : List AV) : (AV → Option R) → Option R :=
  fun _ => none
theorem Q0v.tells {R : Type} (n : Nat) : Tells (R := R) Tryz.prog (Q0v.C n) := fun _ xs => Tells1.none
def Q0v.cut (r : Nat) : Option Keep := match r with | 3 => some ⟨[3, 7, 8, 9], [(3, none, ⟨true, 9⟩, 1)]⟩ | _ => none
def Q0v.t (z : Q0v.Z) : List Item := (todoOf (match z with | .z3 _ _ _ _ => 3) 1000 [.code (Tryz.f75.body.getD .skip)]).getD []
def Q0v.s : Q0v.Z → St
  | .z3 z1 z2 z3 z4 => ⟨spr 26 0 [(3, .own 0 0 none), (7, .sl ⟨true, 111⟩ 2 z1), (8, vi z2), (9, vi z3)], Mem.ofList [.row ⟨true, 9⟩ 1 z4], 1⟩
def Q0v.r3 (n : Nat) (c : Q0v.Z → Option (List AV)) (z1 : List AV) (z2 z3 : Int) (z4 : List AV) : Option (List AV) :=
  bif decide (z3 < z2) then (bif decide ((0 : Int) ≤ z3) && decide (z3 < ((z1.length : Nat) : Int)) then (withCons ((z1.getD ((z3).toNat) .undef).cells) fun h1 r2 =>
  withStr h1 fun s3 =>
  withCons r2 fun h4 r5 =>
  withBool h4 fun b6 =>
  chk (decide (2 + s3.size ≤ 9223372036854775807)) (let y7 : ByteArray := (⟨#[75, 32]⟩ : ByteArray) ++ s3
  bif b6 then (chk (decide (y7.size + 8 ≤ 9223372036854775807)) (let y8 : ByteArray := y7 ++ (⟨#[32, 68, 69, 83, 67, 69, 78, 68]⟩ : ByteArray)
  bif decide (z4.length + [vs y8].length ≤ most) then (c (.z3 z1 z2 (IntKind.i64.wrap (z3 + 1)) (z4 ++ [vs y8]))) else none)) else (bif decide (z4.length + [vs y7].length ≤ most) then (c (.z3 z1 z2 (IntKind.i64.wrap (z3 + 1)) (z4 ++ [vs y7]))) else none))) else none) else (some z4)
def Q0v.r (n : Nat) (c : Q0v.Z → Option (List AV)) : Q0v.Z → Option (List AV)
  | .z3 z1 z2 z3 z4 => Q0v.r3 n c z1 z2 z3 z4
def Q0v.e (n : Nat) (c : Q0v.Z → Option (List AV)) (a0 : List AV) : Option (List AV) :=
  c (.z3 a0 ((a0.length : Nat) : Int) 0 [])
def Q0v.E (n : Nat) (c : Q0v.Z → Option (List AV)) : Q0v.A → Option Q0v.T := fun a0 => Q0v.e n c a0
def Q0v.l (n : Nat) : Nat → Q0v.Z → Option (List AV) := loopL (Q0v.r n)
def Q0v.F (n : Nat) (a0 : List AV) : Option (List AV) := Q0v.e n (Q0v.l n n) a0
def Q0v.FA (n : Nat) : Q0v.A → Option Q0v.T := Q0v.E n (Q0v.l n n)
theorem Q0v.hands (n : Nat) : ∀ a p, Q0v.FA n a = some p → HandsIn Tryz.prog 75 (Q0v.i a) (Q0v.p p) :=
  pf_hands (C := Q0v.C n) (cut := Q0v.cut) (t := Q0v.t) (s := Q0v.s) (e := Q0v.E n) (r := Q0v.r n) (n := n) cfg mixed globs rfl Q0v.qi (Q0v.tells n) Tryz.func75 (by kernel_rfl) (by kernel_rfl) (fun rec a => by kernel_rfl) (fun rec z => by cases z <;> kernel_rfl)
def Q0v.via {R : Type} (n : Nat) : List AV → (AV → Option R) → Option R := viaK (Q0v.FA n) Q0v.o Q0v.p
theorem Q0v.tells1 {R : Type} (n : Nat) (xs : List AV) : Tells1 (R := R) Tryz.prog 75 xs (Q0v.via n xs) := tells_via Q0v.oi (fun a => by kernel_rfl) (Q0v.hands n) xs
end Go.Proofs.YtmpglmcjoelciaaGreatDoor.Ev
namespace Go.Proofs.YtmpglmcjoelciaaGreatDoor.Ev
open Go Go.Proofs Go.Proofs.Ev
set_option linter.unusedVariables false
set_option maxRecDepth 100000
abbrev Q15.A := Bool × List AV
abbrev Q15.T := ByteArray × Bool
def Q15.i : Q15.A → List AV := fun (a0, a1) => [AV.agg [vb a0, .sl ⟨true, 104⟩ 4 a1]]
def Q15.o (xs : List AV) : Option Q15.A := match xs with | [.agg [.v (.bool a0), .sl ⟨true, 104⟩ 4 a1]] => some (a0, a1) | _ => none
theorem Q15.oi : ∀ xs a, Q15.o xs = some a → xs = Q15.i a := by
  intro xs a h
  unfold Q15.o at h
  split at h
  · cases h; rfl
  · cases h
def Q15.p (p : Q15.T) : AV := .tup [vs p.1, vb p.2]
def Q15.q (x : AV) : Option Q15.T := match x with | .tup [.v (.string p0), .v (.bool p1)] => some (p0, p1) | _ => none
theorem Q15.qi : ∀ x p, Q15.q x = some p → x = Q15.p p := by
  intro x p h
  unfold Q15.q at h
  split at h
  · cases h; rfl
  · cases h
inductive Q15.Z where
  | z5 (z1 : ByteArray) (z2 : Bool) (z3 : List AV) (z4 z5 : Int)
  | z12 (z1 : ByteArray) (z2 : Bool) (z3 : ByteArray) (z4 : List AV) (z5 z6 : Int) (z7 : ByteArray) (z8 z9 : Int) (z10 : ByteArray)
def Q15.C {R : Type} (n : Nat) (f : FuncId) (xs : List AV) : (AV → Option R) → Option R :=
  bif Nat.beq f 46 then Q0s.via n xs else bif Nat.beq f 76 then Q4e.via n xs else bif Nat.beq f 122 then Q4j.via n xs else fun _ => none
theorem Q15.tells {R : Type} (n : Nat) : Tells (R := R) Tryz.prog (Q15.C n) := fun _ xs => tells_at (Q0s.tells1 n xs) (tells_at (Q4e.tells1 n xs) (tells_at (Q4j.tells1 n xs) (Tells1.none)))
def Q15.cut (r : Nat) : Option Keep := match r with | 5 => some ⟨[4, 5, 12, 13, 14], []⟩ | 12 => some ⟨[4, 5, 7, 8, 12, 13, 14], []⟩ | _ => none
def Q15.t (z : Q15.Z) : List Item := (todoOf (match z with | .z5 _ _ _ _ _ => 5 | .z12 _ _ _ _ _ _ _ _ _ _ => 12) 1000 [.code (Tryz.f77.body.getD .skip)]).getD []
def Q15.s : Q15.Z → St
  | .z5 z1 z2 z3 z4 z5 => ⟨spr 62 0 [(4, vs z1), (5, vb z2), (12, .sl ⟨true, 104⟩ 4 z3), (13, vi z4), (14, vi z5)], Mem.ofList [], 0⟩
  | .z12 z1 z2 z3 z4 z5 z6 z7 z8 z9 z10 => ⟨spr 62 0 [(4, vs z1), (5, vb z2), (7, .ptr 0 0), (8, vs z3), (12, .sl ⟨true, 104⟩ 4 z4), (13, vi z5), (14, vi z6)], Mem.ofList [.box 104 [vs z7, vi z8, vi z9, vs z10]], 1⟩
def Q15.r5 (n : Nat) (c : Q15.Z → Option (ByteArray × Bool)) (z1 : ByteArray) (z2 : Bool) (z3 : List AV) (z4 z5 : Int) : Option (ByteArray × Bool) :=
  bif decide (z5 < z4) then (bif decide ((0 : Int) ≤ z5) && decide (z5 < ((z3.length : Nat) : Int)) then (withCons ((z3.getD ((z5).toNat) .undef).cells) fun h1 r2 =>
  withStr h1 fun s3 =>
  withCons r2 fun h4 r5 =>
  withInt .i64 h4 fun x6 =>
  withCons r5 fun h7 r8 =>
  withInt .i64 h7 fun x9 =>
  withCons r8 fun h10 r11 =>
  withStr h10 fun s12 =>
  bif decide (z5 > 0) then (chk (decide (z1.size + 4 ≤ 9223372036854775807)) (let y13 : ByteArray := z1 ++ (⟨#[32, 65, 78, 68]⟩ : ByteArray)
  (Q4e.F n x9).bind fun p14 =>
  let y15 : Bool := !(s12.toList == (⟨#[]⟩ : ByteArray).toList)
  bif y15 then ((Q4j.F n s12 (⟨#[39]⟩ : ByteArray) (⟨#[39, 39]⟩ : ByteArray)).bind fun p16 =>
  chk (decide (1 + p16.size ≤ 9223372036854775807)) (chk (decide (((⟨#[39]⟩ : ByteArray) ++ p16).size + 1 ≤ 9223372036854775807)) (let y17 : ByteArray := ((⟨#[39]⟩ : ByteArray) ++ p16) ++ (⟨#[39]⟩ : ByteArray)
  c (.z12 y13 z2 y17 z3 z4 z5 s3 x6 x9 s12)))) else (c (.z12 y13 z2 p14 z3 z4 z5 s3 x6 x9 s12)))) else ((Q4e.F n x9).bind fun p18 =>
  let y19 : Bool := !(s12.toList == (⟨#[]⟩ : ByteArray).toList)
  bif y19 then ((Q4j.F n s12 (⟨#[39]⟩ : ByteArray) (⟨#[39, 39]⟩ : ByteArray)).bind fun p20 =>
  chk (decide (1 + p20.size ≤ 9223372036854775807)) (chk (decide (((⟨#[39]⟩ : ByteArray) ++ p20).size + 1 ≤ 9223372036854775807)) (let y21 : ByteArray := ((⟨#[39]⟩ : ByteArray) ++ p20) ++ (⟨#[39]⟩ : ByteArray)
  c (.z12 z1 z2 y21 z3 z4 z5 s3 x6 x9 s12)))) else (c (.z12 z1 z2 p18 z3 z4 z5 s3 x6 x9 s12)))) else none) else (some (z1, z2))
def Q15.r12 (n : Nat) (c : Q15.Z → Option (ByteArray × Bool)) (z1 : ByteArray) (z2 : Bool) (z3 : ByteArray) (z4 : List AV) (z5 z6 : Int) (z7 : ByteArray) (z8 z9 : Int) (z10 : ByteArray) : Option (ByteArray × Bool) :=
  chk (decide (1 + z7.size ≤ 9223372036854775807)) (chk (decide (((⟨#[32]⟩ : ByteArray) ++ z7).size + 1 ≤ 9223372036854775807)) (let y22 : ByteArray := ((⟨#[32]⟩ : ByteArray) ++ z7) ++ (⟨#[32]⟩ : ByteArray)
  bif decide ((0 : Int) ≤ z8) && decide (z8 < ((gr0.length : Nat) : Int)) then (withCons ((gr0.getD ((z8).toNat) .undef).cells) fun h23 r24 =>
  withStr h23 fun s25 =>
  chk (decide (y22.size + s25.size ≤ 9223372036854775807)) (chk (decide ((y22 ++ s25).size + 1 ≤ 9223372036854775807)) (let y26 : ByteArray := (y22 ++ s25) ++ (⟨#[32]⟩ : ByteArray)
  chk (decide (y26.size + z3.size ≤ 9223372036854775807)) (chk (decide (z1.size + (y26 ++ z3).size ≤ 9223372036854775807)) (bif z2 then ((Q0s.F n z10).bind fun p27 =>
  c (.z5 (z1 ++ (y26 ++ z3)) p27 z4 z5 (IntKind.i64.wrap (z6 + 1)))) else (c (.z5 (z1 ++ (y26 ++ z3)) false z4 z5 (IntKind.i64.wrap (z6 + 1))))))))) else none))
def Q15.r (n : Nat) (c : Q15.Z → Option (ByteArray × Bool)) : Q15.Z → Option (ByteArray × Bool)
  | .z5 z1 z2 z3 z4 z5 => Q15.r5 n c z1 z2 z3 z4 z5
  | .z12 z1 z2 z3 z4 z5 z6 z7 z8 z9 z10 => Q15.r12 n c z1 z2 z3 z4 z5 z6 z7 z8 z9 z10
def Q15.e (n : Nat) (c : Q15.Z → Option (ByteArray × Bool)) (a0 : Bool) (a1 : List AV) : Option (ByteArray × Bool) :=
  bif a0 then (c (.z5 (⟨#[79]⟩ : ByteArray) true a1 ((a1.length : Nat) : Int) 0)) else (c (.z5 (⟨#[83]⟩ : ByteArray) true a1 ((a1.length : Nat) : Int) 0))
def Q15.E (n : Nat) (c : Q15.Z → Option (ByteArray × Bool)) : Q15.A → Option Q15.T := fun (a0, a1) => Q15.e n c a0 a1
def Q15.l (n : Nat) : Nat → Q15.Z → Option (ByteArray × Bool) := loopL (Q15.r n)
def Q15.F (n : Nat) (a0 : Bool) (a1 : List AV) : Option (ByteArray × Bool) := Q15.e n (Q15.l n n) a0 a1
def Q15.FA (n : Nat) : Q15.A → Option Q15.T := Q15.E n (Q15.l n n)
theorem Q15.hands (n : Nat) : ∀ a p, Q15.FA n a = some p → HandsIn Tryz.prog 77 (Q15.i a) (Q15.p p) :=
  pf_hands (C := Q15.C n) (cut := Q15.cut) (t := Q15.t) (s := Q15.s) (e := Q15.E n) (r := Q15.r n) (n := n) cfg mixed globs rfl Q15.qi (Q15.tells n) Tryz.func77 (by kernel_rfl) (by kernel_rfl) (fun rec a => by kernel_rfl) (fun rec z => by cases z <;> kernel_rfl)
def Q15.via {R : Type} (n : Nat) : List AV → (AV → Option R) → Option R := viaK (Q15.FA n) Q15.o Q15.p
theorem Q15.tells1 {R : Type} (n : Nat) (xs : List AV) : Tells1 (R := R) Tryz.prog 77 xs (Q15.via n xs) := tells_via Q15.oi (fun a => by kernel_rfl) (Q15.hands n) xs
end Go.Proofs.YtmpglmcjoelciaaGreatDoor.Ev
namespace Go.Proofs.YtmpglmcjoelciaaGreatDoor.Ev
open Go Go.Proofs Go.Proofs.Ev
set_option linter.unusedVariables false
set_option maxRecDepth 100000
abbrev Q0b.A := ByteArray
abbrev Q0b.T := Bool
def Q0b.i : Q0b.A → List AV := fun a0 => [vs a0]
def Q0b.o (xs : List AV) : Option Q0b.A := match xs with | [.v (.string a0)] => some a0 | _ => none
theorem Q0b.oi : ∀ xs a, Q0b.o xs = some a → xs = Q0b.i a := by
  intro xs a h
  unfold Q0b.o at h
  split at h
  · cases h; rfl
  · cases h
def Q0b.p (p : Q0b.T) : AV := vb p
def Q0b.q (x : AV) : Option Q0b.T := match x with | .v (.bool p0) => some p0 | _ => none
theorem Q0b.qi : ∀ x p, Q0b.q x = some p → x = Q0b.p p := by
  intro x p h
  unfold Q0b.q at h
  split at h
  · cases h; rfl
  · cases h
def Q0b.C {R : Type} (n : Nat) (f : FuncId) (xs : List AV) : (AV → Option R) → Option R :=
  fun _ => none
theorem Q0b.tells {R : Type} (n : Nat) : Tells (R := R) Tryz.prog (Q0b.C n) := fun _ xs => Tells1.none
def Q0b.cut (r : Nat) : Option Keep := match r with  | _ => none
def Q0b.e (n : Nat) (a0 : ByteArray) : Option Bool :=
  let y1 : Bool := decide (((a0.size : Nat) : Int) > 240)
  some y1
def Q0b.E (n : Nat) : Q0b.A → Option Q0b.T := fun a0 => Q0b.e n a0
def Q0b.F (n : Nat) (a0 : ByteArray) : Option Bool := Q0b.e n a0
def Q0b.FA (n : Nat) : Q0b.A → Option Q0b.T := Q0b.E n
theorem Q0b.hands (n : Nat) : ∀ a p, Q0b.FA n a = some p → HandsIn Tryz.prog 79 (Q0b.i a) (Q0b.p p) :=
  pf_hands (C := Q0b.C n) (cut := Q0b.cut) (Z := Empty) (t := nofun) (s := nofun) (e := fun _ => Q0b.E n) (r := fun _ z => nomatch z) (n := n) cfg mixed globs rfl Q0b.qi (Q0b.tells n) Tryz.func79 (by kernel_rfl) (by kernel_rfl) (fun rec a => by kernel_rfl) (fun rec z => nomatch z)
def Q0b.via {R : Type} (n : Nat) : List AV → (AV → Option R) → Option R := viaK (Q0b.FA n) Q0b.o Q0b.p
theorem Q0b.tells1 {R : Type} (n : Nat) (xs : List AV) : Tells1 (R := R) Tryz.prog 79 xs (Q0b.via n xs) := tells_via Q0b.oi (fun a => by kernel_rfl) (Q0b.hands n) xs
end Go.Proofs.YtmpglmcjoelciaaGreatDoor.Ev
namespace Go.Proofs.YtmpglmcjoelciaaGreatDoor.Ev
open Go Go.Proofs Go.Proofs.Ev
set_option linter.unusedVariables false
set_option maxRecDepth 100000
abbrev Q49.A := List AV
abbrev Q49.T := Int
def Q49.i : Q49.A → List AV := fun a0 => [.sl ⟨true, 9⟩ 1 a0, .fn 79 []]
def Q49.o (xs : List AV) : Option Q49.A := match xs with | [.sl ⟨true, 9⟩ 1 a0, .fn 79 []] => some a0 | _ => none
theorem Q49.oi : ∀ xs a, Q49.o xs = some a → xs = Q49.i a := by
  intro xs a h
  unfold Q49.o at h
  split at h
  · cases h; rfl
  · cases h
def Q49.p (p : Q49.T) : AV := vi p
def Q49.q (x : AV) : Option Q49.T := match x with | .v (.int .i64 p0) => some p0 | _ => none
theorem Q49.qi : ∀ x p, Q49.q x = some p → x = Q49.p p := by
  intro x p h
  unfold Q49.q at h
  split at h
  · cases h; rfl
  · cases h
inductive Q49.Z where
  | z2 (z1 : List AV) (z2 z3 : Int)
def Q49.C {R : Type} (n : Nat) (f : FuncId) (xs : List AV) : (AV → Option R) → Option R :=
  bif Nat.beq f 79 then Q0b.via n xs else fun _ => none
theorem Q49.tells {R : Type} (n : Nat) : Tells (R := R) Tryz.prog (Q49.C n) := fun _ xs => tells_at (Q0b.tells1 n xs) (Tells1.none)
def Q49.cut (r : Nat) : Option Keep := match r with | 2 => some ⟨[0, 1, 7, 8], []⟩ | _ => none
def Q49.t (z : Q49.Z) : List Item := (todoOf (match z with | .z2 _ _ _ => 2) 1000 [.code (Tryz.f123.body.getD .skip)]).getD []
def Q49.s : Q49.Z → St
  | .z2 z1 z2 z3 => ⟨spr 19 0 [(0, .sl ⟨true, 9⟩ 1 z1), (1, .fn 79 []), (7, vi z2), (8, vi z3)], Mem.ofList [], 0⟩
def Q49.r2 (n : Nat) (c : Q49.Z → Option Int) (z1 : List AV) (z2 z3 : Int) : Option Int :=
  bif decide (z3 < z2) then (bif decide ((0 : Int) ≤ z3) && decide (z3 < ((z1.length : Nat) : Int)) then (withCons ((z1.getD ((z3).toNat) .undef).cells) fun h1 r2 =>
  withStr h1 fun s3 =>
  (Q0b.F n s3).bind fun p4 =>
  bif p4 then (some z3) else (c (.z2 z1 z2 (IntKind.i64.wrap (z3 + 1))))) else none) else (some (-1))
def Q49.r (n : Nat) (c : Q49.Z → Option Int) : Q49.Z → Option Int
  | .z2 z1 z2 z3 => Q49.r2 n c z1 z2 z3
def Q49.e (n : Nat) (c : Q49.Z → Option Int) (a0 : List AV) : Option Int :=
  c (.z2 a0 ((a0.length : Nat) : Int) 0)
def Q49.E (n : Nat) (c : Q49.Z → Option Int) : Q49.A → Option Q49.T := fun a0 => Q49.e n c a0
def Q49.l (n : Nat) : Nat → Q49.Z → Option Int := loopL (Q49.r n)
def Q49.F (n : Nat) (a0 : List AV) : Option Int := Q49.e n (Q49.l n n) a0
def Q49.FA (n : Nat) : Q49.A → Option Q49.T := Q49.E n (Q49.l n n)
theorem Q49.hands (n : Nat) : ∀ a p, Q49.FA n a = some p → HandsIn Tryz.prog 123 (Q49.i a) (Q49.p p) :=
  pf_hands (C := Q49.C n) (cut := Q49.cut) (t := Q49.t) (s := Q49.s) (e := Q49.E n) (r := Q49.r n) (n := n) cfg mixed globs rfl Q49.qi (Q49.tells n) Tryz.func123 (by kernel_rfl) (by kernel_rfl) (fun rec a => by kernel_rfl) (fun rec z => by cases z <;> kernel_rfl)
def Q49.via {R : Type} (n : Nat) : List AV → (AV → Option R) → Option R := viaK (Q49.FA n) Q49.o Q49.p
theorem Q49.tells1 {R : Type} (n : Nat) (xs : List AV) : Tells1 (R := R) Tryz.prog 123 xs (Q49.via n xs) := tells_via Q49.oi (fun a => by kernel_rfl) (Q49.hands n) xs
end Go.Proofs.YtmpglmcjoelciaaGreatDoor.Ev
namespace Go.Proofs.YtmpglmcjoelciaaGreatDoor.Ev
open Go Go.Proofs Go.Proofs.Ev
set_option linter.unusedVariables false
set_option maxRecDepth 100000
abbrev Q46.A := List AV
abbrev Q46.T := Bool
def Q46.i : Q46.A → List AV := fun a0 => [.sl ⟨true, 9⟩ 1 a0, .fn 79 []]
def Q46.o (xs : List AV) : Option Q46.A := match xs with | [.sl ⟨true, 9⟩ 1 a0, .fn 79 []] => some a0 | _ => none
theorem Q46.oi : ∀ xs a, Q46.o xs = some a → xs = Q46.i a := by
  intro xs a h
  unfold Q46.o at h
  split at h
  · cases h; rfl
  · cases h
def Q46.p (p : Q46.T) : AV := vb p
def Q46.q (x : AV) : Option Q46.T := match x with | .v (.bool p0) => some p0 | _ => none
theorem Q46.qi : ∀ x p, Q46.q x = some p → x = Q46.p p := by
  intro x p h
  unfold Q46.q at h
  split at h
  · cases h; rfl
  · cases h
def Q46.C {R : Type} (n : Nat) (f : FuncId) (xs : List AV) : (AV → Option R) → Option R :=
  bif Nat.beq f 123 then Q49.via n xs else fun _ => none
theorem Q46.tells {R : Type} (n : Nat) : Tells (R := R) Tryz.prog (Q46.C n) := fun _ xs => tells_at (Q49.tells1 n xs) (Tells1.none)
def Q46.cut (r : Nat) : Option Keep := match r with  | _ => none
def Q46.e (n : Nat) (a0 : List AV) : Option Bool :=
  (Q49.F n a0).bind fun p1 =>
  some (decide (p1 ≥ 0))
def Q46.E (n : Nat) : Q46.A → Option Q46.T := fun a0 => Q46.e n a0
def Q46.F (n : Nat) (a0 : List AV) : Option Bool := Q46.e n a0
def Q46.FA (n : Nat) : Q46.A → Option Q46.T := Q46.E n
theorem Q46.hands (n : Nat) : ∀ a p, Q46.FA n a = some p → HandsIn Tryz.prog 78 (Q46.i a) (Q46.p p) :=
  pf_hands (C := Q46.C n) (cut := Q46.cut) (Z := Empty) (t := nofun) (s := nofun) (e := fun _ => Q46.E n) (r := fun _ z => nomatch z) (n := n) cfg mixed globs rfl Q46.qi (Q46.tells n) Tryz.func78 (by kernel_rfl) (by kernel_rfl) (fun rec a => by kernel_rfl) (fun rec z => nomatch z)
def Q46.via {R : Type} (n : Nat) : List AV → (AV → Option R) → Option R := viaK (Q46.FA n) Q46.o Q46.p
theorem Q46.tells1 {R : Type} (n : Nat) (xs : List AV) : Tells1 (R := R) Tryz.prog 78 xs (Q46.via n xs) := tells_via Q46.oi (fun a => by kernel_rfl) (Q46.hands n) xs
end Go.Proofs.YtmpglmcjoelciaaGreatDoor.Ev
namespace Go.Proofs.YtmpglmcjoelciaaGreatDoor.Ev
open Go Go.Proofs Go.Proofs.Ev
set_option linter.unusedVariables false
set_option maxRecDepth 100000
abbrev Q0a.A := Bool × ByteArray × ByteArray × List AV × List AV × Bool × ByteArray × ByteArray × List AV × List AV × List AV × List AV × Bool × List AV
abbrev Q0a.T := List AV × Int
def Q0a.i : Q0a.A → List AV := fun (a0, a1, a2, a3, a4, a5, a6, a7, a8, a9, a10, a11, a12, a13) => [AV.agg [vb a0, vs a1, vs a2, .sl ⟨true, 125⟩ 4 a3, .sl ⟨true, 111⟩ 2 a4, vb a5, vs a6, vs a7, .sl ⟨true, 9⟩ 1 a8, .sl ⟨true, 95⟩ 3 a9, .sl ⟨true, 97⟩ 4 a10, .sl ⟨true, 111⟩ 2 a11, vb a12, .sl ⟨false, 100⟩ 2 a13]]
def Q0a.o (xs : List AV) : Option Q0a.A := match xs with | [.agg [.v (.bool a0), .v (.string a1), .v (.string a2), .sl ⟨true, 125⟩ 4 a3, .sl ⟨true, 111⟩ 2 a4, .v (.bool a5), .v (.string a6), .v (.string a7), .sl ⟨true, 9⟩ 1 a8, .sl ⟨true, 95⟩ 3 a9, .sl ⟨true, 97⟩ 4 a10, .sl ⟨true, 111⟩ 2 a11, .v (.bool a12), .sl ⟨false, 100⟩ 2 a13]] => some (a0, a1, a2, a3, a4, a5, a6, a7, a8, a9, a10, a11, a12, a13) | _ => none
theorem Q0a.oi : ∀ xs a, Q0a.o xs = some a → xs = Q0a.i a := by
  intro xs a h
  unfold Q0a.o at h
  split at h
  · cases h; rfl
  · cases h
def Q0a.p (p : Q0a.T) : AV := .tup [.fr ⟨true, 9⟩ 1 p.1, vi p.2]
def Q0a.q (x : AV) : Option Q0a.T := match x with | .tup [.fr ⟨true, 9⟩ 1 p0, .v (.int .i64 p1)] => some (p0, p1) | _ => none
theorem Q0a.qi : ∀ x p, Q0a.q x = some p → x = Q0a.p p := by
  intro x p h
  unfold Q0a.q at h
  split at h
  · cases h; rfl
  · cases h
inductive Q0a.Z where
  | z7 (z1 : List AV) (z2 z3 : Int) (z4 : Bool) (z5 z6 : ByteArray) (z7 z8 : List AV) (z9 : Bool) (z10 z11 : ByteArray) (z12 z13 z14 z15 : List AV) (z16 : Bool) (z17 z18 : List AV)
  | z15 (z1 : List AV) (z2 z3 : Int) (z4 z5 : ByteArray) (z6 z7 z8 z9 : List AV) (z10 : Bool) (z11 z12 : List AV)
  | z20 (z1 : List AV) (z2 z3 : Int) (z4 z5 : ByteArray) (z6 z7 z8 z9 : List AV) (z10 : Bool) (z11 z12 : List AV)
  | z25 (z1 : List AV) (z2 z3 : Int) (z4 z5 : ByteArray) (z6 z7 z8 z9 : List AV) (z10 : Bool) (z11 z12 : List AV)
  | z31 (z1 : List AV) (z2 z3 : Int) (z4 : List AV)
def Q0a.C {R : Type} (n : Nat) (f : FuncId) (xs : List AV) : (AV → Option R) → Option R :=
  bif Nat.beq f 44 then Q0m.via n xs else bif Nat.beq f 45 then Q0f.via n xs else bif Nat.beq f 66 then Q0h.via n xs else bif Nat.beq f 72 then Q0t.via n xs else bif Nat.beq f 73 then Q0n.via n xs else bif Nat.beq f 74 then Q1j.via n xs else bif Nat.beq f 75 then Q0v.via n xs else bif Nat.beq f 76 then Q4e.via n xs else bif Nat.beq f 77 then Q15.via n xs else bif Nat.beq f 78 then Q46.via n xs else fun _ => none
theorem Q0a.tells {R : Type} (n : Nat) : Tells (R := R) Tryz.prog (Q0a.C n) := fun _ xs => tells_at (Q0m.tells1 n xs) (tells_at (Q0f.tells1 n xs) (tells_at (Q0h.tells1 n xs) (tells_at (Q0t.tells1 n xs) (tells_at (Q0n.tells1 n xs) (tells_at (Q1j.tells1 n xs) (tells_at (Q0v.tells1 n xs) (tells_at (Q4e.tells1 n xs) (tells_at (Q15.tells1 n xs) (tells_at (Q46.tells1 n xs) (Tells1.none))))))))))
def Q0a.cut (r : Nat) : Option Keep := match r with | 7 => some ⟨[1, 5, 49, 50, 51], []⟩ | 15 => some ⟨[8, 9, 83, 84, 85], []⟩ | 20 => some ⟨[8, 9, 96, 97, 98], []⟩ | 25 => some ⟨[8, 9, 124, 125, 126], []⟩ | 31 => some ⟨[9, 152, 153, 154], []⟩ | _ => none
def Q0a.t (z : Q0a.Z) : List Item := (todoOf (match z with | .z7 _ _ _ _ _ _ _ _ _ _ _ _ _ _ _ _ _ _ => 7 | .z15 _ _ _ _ _ _ _ _ _ _ _ _ => 15 | .z20 _ _ _ _ _ _ _ _ _ _ _ _ => 20 | .z25 _ _ _ _ _ _ _ _ _ _ _ _ => 25 | .z31 _ _ _ _ => 31) 1000 [.code (Tryz.f26.body.getD .skip)]).getD []
def Q0a.s : Q0a.Z → St
  | .z7 z1 z2 z3 z4 z5 z6 z7 z8 z9 z10 z11 z12 z13 z14 z15 z16 z17 z18 => ⟨spr 174 0 [(1, .ptr 0 0), (5, .own 1 0 none), (49, .sl ⟨true, 125⟩ 4 z1), (50, vi z2), (51, vi z3)], Mem.ofList [.box 50 [vb z4, vs z5, vs z6, .sl ⟨true, 125⟩ 4 z7, .sl ⟨true, 111⟩ 2 z8, vb z9, vs z10, vs z11, .sl ⟨true, 9⟩ 1 z12, .sl ⟨true, 95⟩ 3 z13, .sl ⟨true, 97⟩ 4 z14, .sl ⟨true, 111⟩ 2 z15, vb z16, .sl ⟨false, 100⟩ 2 z17], .row ⟨true, 9⟩ 1 z18], 2⟩
  | .z15 z1 z2 z3 z4 z5 z6 z7 z8 z9 z10 z11 z12 => ⟨spr 174 0 [(8, .ptr 0 0), (9, .own 1 0 none), (83, .sl ⟨true, 9⟩ 1 z1), (84, vi z2), (85, vi z3)], Mem.ofList [.box 36 [vs z4, vs z5, .sl ⟨true, 9⟩ 1 z6, .sl ⟨true, 95⟩ 3 z7, .sl ⟨true, 97⟩ 4 z8, .sl ⟨true, 111⟩ 2 z9, vb z10, .sl ⟨false, 100⟩ 2 z11], .row ⟨true, 9⟩ 1 z12], 2⟩
  | .z20 z1 z2 z3 z4 z5 z6 z7 z8 z9 z10 z11 z12 => ⟨spr 174 0 [(8, .ptr 0 0), (9, .own 1 0 none), (96, .sl ⟨true, 97⟩ 4 z1), (97, vi z2), (98, vi z3)], Mem.ofList [.box 36 [vs z4, vs z5, .sl ⟨true, 9⟩ 1 z6, .sl ⟨true, 95⟩ 3 z7, .sl ⟨true, 97⟩ 4 z8, .sl ⟨true, 111⟩ 2 z9, vb z10, .sl ⟨false, 100⟩ 2 z11], .row ⟨true, 9⟩ 1 z12], 2⟩
  | .z25 z1 z2 z3 z4 z5 z6 z7 z8 z9 z10 z11 z12 => ⟨spr 174 0 [(8, .ptr 0 0), (9, .own 1 0 none), (124, .sl ⟨true, 95⟩ 3 z1), (125, vi z2), (126, vi z3)], Mem.ofList [.box 36 [vs z4, vs z5, .sl ⟨true, 9⟩ 1 z6, .sl ⟨true, 95⟩ 3 z7, .sl ⟨true, 97⟩ 4 z8, .sl ⟨true, 111⟩ 2 z9, vb z10, .sl ⟨false, 100⟩ 2 z11], .row ⟨true, 9⟩ 1 z12], 2⟩
  | .z31 z1 z2 z3 z4 => ⟨spr 174 0 [(9, .own 0 0 none), (152, .sl ⟨false, 100⟩ 2 z1), (153, vi z2), (154, vi z3)], Mem.ofList [.row ⟨true, 9⟩ 1 z4], 1⟩
def Q0a.r7 (n : Nat) (c : Q0a.Z → Option (List AV × Int)) (z1 : List AV) (z2 z3 : Int) (z4 : Bool) (z5 z6 : ByteArray) (z7 z8 : List AV) (z9 : Bool) (z10 z11 : ByteArray) (z12 z13 z14 z15 : List AV) (z16 : Bool) (z17 z18 : List AV) : Option (List AV × Int) :=
  bif decide (z3 < z2) then (bif decide ((0 : Int) ≤ z3) && decide (z3 < ((z1.length : Nat) : Int)) then (withCons ((z1.getD ((z3).toNat) .undef).cells) fun h7 r8 =>
  withStr h7 fun s9 =>
  withCons r8 fun h10 r11 =>
  withInt .i64 h10 fun x12 =>
  withCons r11 fun h13 r14 =>
  withInt .i64 h13 fun x15 =>
  withCons r14 fun h16 r17 =>
  withInt .i64 h16 fun x18 =>
  chk (decide (2 + s9.size ≤ 9223372036854775807)) (let y19 : ByteArray := (⟨#[70, 32]⟩ : ByteArray) ++ s9
  chk (decide (y19.size + 1 ≤ 9223372036854775807)) ((Q1j.F n x12 x15 x18).bind fun p20 =>
  chk (decide ((y19 ++ (⟨#[32]⟩ : ByteArray)).size + p20.size ≤ 9223372036854775807)) (let y21 : ByteArray := (y19 ++ (⟨#[32]⟩ : ByteArray)) ++ p20
  bif decide (z18.length + [vs y21].length ≤ most) then (c (.z7 z1 z2 (IntKind.i64.wrap (z3 + 1)) z4 z5 z6 z7 z8 z9 z10 z11 z12 z13 z14 z15 z16 z17 (z18 ++ [vs y21]))) else none)))) else none) else ((Q0v.F n z8).bind fun p22 =>
  bif decide (z18.length + p22.length ≤ most) then (some (z18 ++ p22, 0)) else none)
def Q0a.r15 (n : Nat) (c : Q0a.Z → Option (List AV × Int)) (z1 : List AV) (z2 z3 : Int) (z4 z5 : ByteArray) (z6 z7 z8 z9 : List AV) (z10 : Bool) (z11 z12 : List AV) : Option (List AV × Int) :=
  bif decide (z3 < z2) then (bif decide ((0 : Int) ≤ z3) && decide (z3 < ((z1.length : Nat) : Int)) then (withCons ((z1.getD ((z3).toNat) .undef).cells) fun h23 r24 =>
  withStr h23 fun s25 =>
  chk (decide (2 + s25.size ≤ 9223372036854775807)) (let y26 : ByteArray := (⟨#[66, 32]⟩ : ByteArray) ++ s25
  bif decide (z12.length + [vs y26].length ≤ most) then (c (.z15 z1 z2 (IntKind.i64.wrap (z3 + 1)) z4 z5 z6 z7 z8 z9 z10 z11 (z12 ++ [vs y26]))) else none)) else none) else (c (.z20 z8 ((z8.length : Nat) : Int) 0 z4 z5 z6 z7 z8 z9 z10 z11 z12))
def Q0a.r20 (n : Nat) (c : Q0a.Z → Option (List AV × Int)) (z1 : List AV) (z2 z3 : Int) (z4 z5 : ByteArray) (z6 z7 z8 z9 : List AV) (z10 : Bool) (z11 z12 : List AV) : Option (List AV × Int) :=
  bif decide (z3 < z2) then (bif decide ((0 : Int) ≤ z3) && decide (z3 < ((z1.length : Nat) : Int)) then (withCons ((z1.getD ((z3).toNat) .undef).cells) fun h27 r28 =>
  withInt .i64 h27 fun x29 =>
  withCons r28 fun h30 r31 =>
  withStr h30 fun s32 =>
  withCons r31 fun h33 r34 =>
  withInt .i64 h33 fun x35 =>
  withCons r34 fun h36 r37 =>
  withStr h36 fun s38 =>
  (Q4e.F n x29).bind fun p39 =>
  chk (decide (2 + p39.size ≤ 9223372036854775807)) (let y40 : ByteArray := (⟨#[74, 32]⟩ : ByteArray) ++ p39
  chk (decide (y40.size + 1 ≤ 9223372036854775807)) (chk (decide ((y40 ++ (⟨#[32]⟩ : ByteArray)).size + s32.size ≤ 9223372036854775807)) (let y41 : ByteArray := (y40 ++ (⟨#[32]⟩ : ByteArray)) ++ s32
  chk (decide (y41.size + 1 ≤ 9223372036854775807)) ((Q4e.F n x35).bind fun p42 =>
  chk (decide ((y41 ++ (⟨#[32]⟩ : ByteArray)).size + p42.size ≤ 9223372036854775807)) (let y43 : ByteArray := (y41 ++ (⟨#[32]⟩ : ByteArray)) ++ p42
  chk (decide (y43.size + 1 ≤ 9223372036854775807)) (chk (decide ((y43 ++ (⟨#[32]⟩ : ByteArray)).size + s38.size ≤ 9223372036854775807)) (let y44 : ByteArray := (y43 ++ (⟨#[32]⟩ : ByteArray)) ++ s38
  bif decide (z12.length + [vs y44].length ≤ most) then (c (.z20 z1 z2 (IntKind.i64.wrap (z3 + 1)) z4 z5 z6 z7 z8 z9 z10 z11 (z12 ++ [vs y44]))) else none)))))))) else none) else (c (.z25 z7 ((z7.length : Nat) : Int) 0 z4 z5 z6 z7 z8 z9 z10 z11 z12))
def Q0a.r25 (n : Nat) (c : Q0a.Z → Option (List AV × Int)) (z1 : List AV) (z2 z3 : Int) (z4 z5 : ByteArray) (z6 z7 z8 z9 : List AV) (z10 : Bool) (z11 z12 : List AV) : Option (List AV × Int) :=
  bif decide (z3 < z2) then (bif decide ((0 : Int) ≤ z3) && decide (z3 < ((z1.length : Nat) : Int)) then (withCons ((z1.getD ((z3).toNat) .undef).cells) fun h45 r46 =>
  withStr h45 fun s47 =>
  withCons r46 fun h48 r49 =>
  withInt .i64 h48 fun x50 =>
  withCons r49 fun h51 r52 =>
  withStr h51 fun s53 =>
  chk (decide (2 + s47.size ≤ 9223372036854775807)) (let y54 : ByteArray := (⟨#[70, 32]⟩ : ByteArray) ++ s47
  chk (decide (y54.size + 1 ≤ 9223372036854775807)) ((Q4e.F n x50).bind fun p55 =>
  chk (decide ((y54 ++ (⟨#[32]⟩ : ByteArray)).size + p55.size ≤ 9223372036854775807)) (let y56 : ByteArray := (y54 ++ (⟨#[32]⟩ : ByteArray)) ++ p55
  chk (decide (y56.size + 1 ≤ 9223372036854775807)) (chk (decide ((y56 ++ (⟨#[32]⟩ : ByteArray)).size + s53.size ≤ 9223372036854775807)) (let y57 : ByteArray := (y56 ++ (⟨#[32]⟩ : ByteArray)) ++ s53
  bif decide (z12.length + [vs y57].length ≤ most) then (c (.z25 z1 z2 (IntKind.i64.wrap (z3 + 1)) z4 z5 z6 z7 z8 z9 z10 z11 (z12 ++ [vs y57]))) else none)))))) else none) else ((Q0v.F n z9).bind fun p58 =>
  bif decide (z12.length + p58.length ≤ most) then (c (.z31 z11 ((z11.length : Nat) : Int) 0 (z12 ++ p58))) else none)
def Q0a.r31 (n : Nat) (c : Q0a.Z → Option (List AV × Int)) (z1 : List AV) (z2 z3 : Int) (z4 : List AV) : Option (List AV × Int) :=
  bif decide (z3 < z2) then (bif decide ((0 : Int) ≤ z3) && decide (z3 < ((z1.length : Nat) : Int)) then (withCons ((z1.getD ((z3).toNat) .undef).cells) fun h59 r60 =>
  withBool h59 fun b61 =>
  withCons r60 fun h62 r63 =>
  withSl ⟨true, 104⟩ 4 h62 fun xs64 =>
  (Q15.F n b61 xs64).bind fun p65 =>
  bif !p65.2 then (some ([], 39)) else (bif decide (z4.length + [vs p65.1].length ≤ most) then (c (.z31 z1 z2 (IntKind.i64.wrap (z3 + 1)) (z4 ++ [vs p65.1]))) else none)) else none) else ((Q46.F n z4).bind fun p66 =>
  bif p66 then (some ([], 2)) else (some (z4, 0)))
def Q0a.r (n : Nat) (c : Q0a.Z → Option (List AV × Int)) : Q0a.Z → Option (List AV × Int)
  | .z7 z1 z2 z3 z4 z5 z6 z7 z8 z9 z10 z11 z12 z13 z14 z15 z16 z17 z18 => Q0a.r7 n c z1 z2 z3 z4 z5 z6 z7 z8 z9 z10 z11 z12 z13 z14 z15 z16 z17 z18
  | .z15 z1 z2 z3 z4 z5 z6 z7 z8 z9 z10 z11 z12 => Q0a.r15 n c z1 z2 z3 z4 z5 z6 z7 z8 z9 z10 z11 z12
  | .z20 z1 z2 z3 z4 z5 z6 z7 z8 z9 z10 z11 z12 => Q0a.r20 n c z1 z2 z3 z4 z5 z6 z7 z8 z9 z10 z11 z12
  | .z25 z1 z2 z3 z4 z5 z6 z7 z8 z9 z10 z11 z12 => Q0a.r25 n c z1 z2 z3 z4 z5 z6 z7 z8 z9 z10 z11 z12
  | .z31 z1 z2 z3 z4 => Q0a.r31 n c z1 z2 z3 z4
def Q0a.e (n : Nat) (c : Q0a.Z → Option (List AV × Int)) (a0 : Bool) (a1 a2 : ByteArray) (a3 a4 : List AV) (a5 : Bool) (a6 a7 : ByteArray) (a8 a9 a10 a11 : List AV) (a12 : Bool) (a13 : List AV) : Option (List AV × Int) :=
  (Q0t.F n a0 a1 a2 a3 a4 a5 a6 a7 a8 a9 a10 a11 a12 a13).bind fun p1 =>
  (Q0f.F n (!p1) 5).bind fun p2 =>
  (Q0h.F n a0 a1 a2 a3 a4 a5 a6 a7 a8 a9 a10 a11 a12 a13).bind fun p3 =>
  (Q0m.F n [vi p2, vi p3]).bind fun p4 =>
  bif p4 != 0 then (some ([], p4)) else (bif !a0 then ((Q0n.F n (⟨#[80, 70]⟩ : ByteArray) a1 a2 a5).bind fun p5 =>
  c (.z7 a3 ((a3.length : Nat) : Int) 0 a0 a1 a2 a3 a4 a5 a6 a7 a8 a9 a10 a11 a12 a13 p5)) else ((Q0n.F n (⟨#[76, 70]⟩ : ByteArray) a6 a7 a12).bind fun p6 =>
  c (.z15 a8 ((a8.length : Nat) : Int) 0 a6 a7 a8 a9 a10 a11 a12 a13 p6)))
def Q0a.E (n : Nat) (c : Q0a.Z → Option (List AV × Int)) : Q0a.A → Option Q0a.T := fun (a0, a1, a2, a3, a4, a5, a6, a7, a8, a9, a10, a11, a12, a13) => Q0a.e n c a0 a1 a2 a3 a4 a5 a6 a7 a8 a9 a10 a11 a12 a13
def Q0a.l (n : Nat) : Nat → Q0a.Z → Option (List AV × Int) := loopL (Q0a.r n)
def Q0a.F (n : Nat) (a0 : Bool) (a1 a2 : ByteArray) (a3 a4 : List AV) (a5 : Bool) (a6 a7 : ByteArray) (a8 a9 a10 a11 : List AV) (a12 : Bool) (a13 : List AV) : Option (List AV × Int) := Q0a.e n (Q0a.l n n) a0 a1 a2 a3 a4 a5 a6 a7 a8 a9 a10 a11 a12 a13
def Q0a.FA (n : Nat) : Q0a.A → Option Q0a.T := Q0a.E n (Q0a.l n n)
theorem Q0a.hands (n : Nat) : ∀ a p, Q0a.FA n a = some p → HandsIn Tryz.prog 26 (Q0a.i a) (Q0a.p p) :=
  pf_hands (C := Q0a.C n) (cut := Q0a.cut) (t := Q0a.t) (s := Q0a.s) (e := Q0a.E n) (r := Q0a.r n) (n := n) cfg mixed globs rfl Q0a.qi (Q0a.tells n) Tryz.func26 (by kernel_rfl) (by kernel_rfl) (fun rec a => by kernel_rfl) (fun rec z => by cases z <;> kernel_rfl)
def Q0a.via {R : Type} (n : Nat) : List AV → (AV → Option R) → Option R := viaK (Q0a.FA n) Q0a.o Q0a.p
theorem Q0a.tells1 {R : Type} (n : Nat) (xs : List AV) : Tells1 (R := R) Tryz.prog 26 xs (Q0a.via n xs) := tells_via Q0a.oi (fun a => by kernel_rfl) (Q0a.hands n) xs
end Go.Proofs.YtmpglmcjoelciaaGreatDoor.Ev
namespace Go.Proofs.YtmpglmcjoelciaaGreatDoor.Ev
open Go Go.Proofs Go.Proofs.Ev
set_option linter.unusedVariables false
set_option maxRecDepth 100000
abbrev Q2y.A := ByteArray × ByteArray × List AV × List AV × Bool
abbrev Q2y.T := ByteArray × ByteArray × List AV × List AV × Bool
def Q2y.i : Q2y.A → List AV := fun (a0, a1, a2, a3, a4) => [AV.agg [vs a0, vs a1, .sl ⟨true, 125⟩ 4 a2, .sl ⟨true, 111⟩ 2 a3, vb a4]]
def Q2y.o (xs : List AV) : Option Q2y.A := match xs with | [.agg [.v (.string a0), .v (.string a1), .sl ⟨true, 125⟩ 4 a2, .sl ⟨true, 111⟩ 2 a3, .v (.bool a4)]] => some (a0, a1, a2, a3, a4) | _ => none
theorem Q2y.oi : ∀ xs a, Q2y.o xs = some a → xs = Q2y.i a := by
  intro xs a h
  unfold Q2y.o at h
  split at h
  · cases h; rfl
  · cases h
def Q2y.p (p : Q2y.T) : AV := AV.agg [vs p.1, vs p.2.1, .fr ⟨true, 125⟩ 4 p.2.2.1, .fr ⟨true, 111⟩ 2 p.2.2.2.1, vb p.2.2.2.2]
def Q2y.q (x : AV) : Option Q2y.T := match x with | .agg [.v (.string p0), .v (.string p1), .fr ⟨true, 125⟩ 4 p2, .fr ⟨true, 111⟩ 2 p3, .v (.bool p4)] => some (p0, p1, p2, p3, p4) | _ => none
theorem Q2y.qi : ∀ x p, Q2y.q x = some p → x = Q2y.p p := by
  intro x p h
  unfold Q2y.q at h
  split at h
  · cases h; rfl
  · cases h
def Q2y.C {R : Type} (n : Nat) (f : FuncId) (xs : List AV) : (AV → Option R) → Option R :=
  fun _ => none
theorem Q2y.tells {R : Type} (n : Nat) : Tells (R := R) Tryz.prog (Q2y.C n) := fun _ xs => Tells1.none
def Q2y.cut (r : Nat) : Option Keep := match r with  | _ => none
def Q2y.e (n : Nat) (a0 a1 : ByteArray) (a2 a3 : List AV) (a4 : Bool) : Option (ByteArray × ByteArray × List AV × List AV × Bool) :=
  bif decide (a2.length ≤ most) then (bif decide (a3.length ≤ most) then (some (a0, a1, a2, a3, a4)) else none) else none
def Q2y.E (n : Nat) : Q2y.A → Option Q2y.T := fun (a0, a1, a2, a3, a4) => Q2y.e n a0 a1 a2 a3 a4
def Q2y.F (n : Nat) (a0 a1 : ByteArray) (a2 a3 : List AV) (a4 : Bool) : Option (ByteArray × ByteArray × List AV × List AV × Bool) := Q2y.e n a0 a1 a2 a3 a4
def Q2y.FA (n : Nat) : Q2y.A → Option Q2y.T := Q2y.E n
theorem Q2y.hands (n : Nat) : ∀ a p, Q2y.FA n a = some p → HandsIn Tryz.prog 80 (Q2y.i a) (Q2y.p p) :=
  pf_hands (C := Q2y.C n) (cut := Q2y.cut) (Z := Empty) (t := nofun) (s := nofun) (e := fun _ => Q2y.E n) (r := fun _ z => nomatch z) (n := n) cfg mixed globs rfl Q2y.qi (Q2y.tells n) Tryz.func80 (by kernel_rfl) (by kernel_rfl) (fun rec a => by kernel_rfl) (fun rec z => nomatch z)
def Q2y.via {R : Type} (n : Nat) : List AV → (AV → Option R) → Option R := viaK (Q2y.FA n) Q2y.o Q2y.p
theorem Q2y.tells1 {R : Type} (n : Nat) (xs : List AV) : Tells1 (R := R) Tryz.prog 80 xs (Q2y.via n xs) := tells_via Q2y.oi (fun a => by kernel_rfl) (Q2y.hands n) xs
end Go.Proofs.YtmpglmcjoelciaaGreatDoor.Ev
namespace Go.Proofs.YtmpglmcjoelciaaGreatDoor.Ev
open Go Go.Proofs Go.Proofs.Ev
set_option linter.unusedVariables false
set_option maxRecDepth 100000
abbrev Q31.A := Bool × ByteArray × ByteArray × List AV × List AV × Bool × ByteArray × ByteArray × List AV × List AV × List AV × List AV × Bool × List AV
abbrev Q31.T := Bool × ByteArray × ByteArray × List AV × List AV × Bool × ByteArray × ByteArray × List AV × List AV × List AV × List AV × Bool × List AV
def Q31.i : Q31.A → List AV := fun (a0, a1, a2, a3, a4, a5, a6, a7, a8, a9, a10, a11, a12, a13) => [AV.agg [vb a0, vs a1, vs a2, .sl ⟨true, 125⟩ 4 a3, .sl ⟨true, 111⟩ 2 a4, vb a5, vs a6, vs a7, .sl ⟨true, 9⟩ 1 a8, .sl ⟨true, 95⟩ 3 a9, .sl ⟨true, 97⟩ 4 a10, .sl ⟨true, 111⟩ 2 a11, vb a12, .sl ⟨false, 100⟩ 2 a13]]
def Q31.o (xs : List AV) : Option Q31.A := match xs with | [.agg [.v (.bool a0), .v (.string a1), .v (.string a2), .sl ⟨true, 125⟩ 4 a3, .sl ⟨true, 111⟩ 2 a4, .v (.bool a5), .v (.string a6), .v (.string a7), .sl ⟨true, 9⟩ 1 a8, .sl ⟨true, 95⟩ 3 a9, .sl ⟨true, 97⟩ 4 a10, .sl ⟨true, 111⟩ 2 a11, .v (.bool a12), .sl ⟨false, 100⟩ 2 a13]] => some (a0, a1, a2, a3, a4, a5, a6, a7, a8, a9, a10, a11, a12, a13) | _ => none
theorem Q31.oi : ∀ xs a, Q31.o xs = some a → xs = Q31.i a := by
  intro xs a h
  unfold Q31.o at h
  split at h
  · cases h; rfl
  · cases h
def Q31.p (p : Q31.T) : AV := AV.agg [vb p.1, vs p.2.1, vs p.2.2.1, .fr ⟨true, 125⟩ 4 p.2.2.2.1, .fr ⟨true, 111⟩ 2 p.2.2.2.2.1, vb p.2.2.2.2.2.1, vs p.2.2.2.2.2.2.1, vs p.2.2.2.2.2.2.2.1, .fr ⟨true, 9⟩ 1 p.2.2.2.2.2.2.2.2.1, .fr ⟨true, 95⟩ 3 p.2.2.2.2.2.2.2.2.2.1, .fr ⟨true, 97⟩ 4 p.2.2.2.2.2.2.2.2.2.2.1, .fr ⟨true, 111⟩ 2 p.2.2.2.2.2.2.2.2.2.2.2.1, vb p.2.2.2.2.2.2.2.2.2.2.2.2.1, .fr ⟨false, 100⟩ 2 p.2.2.2.2.2.2.2.2.2.2.2.2.2]
def Q31.q (x : AV) : Option Q31.T := match x with | .agg [.v (.bool p0), .v (.string p1), .v (.string p2), .fr ⟨true, 125⟩ 4 p3, .fr ⟨true, 111⟩ 2 p4, .v (.bool p5), .v (.string p6), .v (.string p7), .fr ⟨true, 9⟩ 1 p8, .fr ⟨true, 95⟩ 3 p9, .fr ⟨true, 97⟩ 4 p10, .fr ⟨true, 111⟩ 2 p11, .v (.bool p12), .fr ⟨false, 100⟩ 2 p13] => some (p0, p1, p2, p3, p4, p5, p6, p7, p8, p9, p10, p11, p12, p13) | _ => none
theorem Q31.qi : ∀ x p, Q31.q x = some p → x = Q31.p p := by
  intro x p h
  unfold Q31.q at h
  split at h
  · cases h; rfl
  · cases h
def Q31.C {R : Type} (n : Nat) (f : FuncId) (xs : List AV) : (AV → Option R) → Option R :=
  bif Nat.beq f 18 then Q30.via n xs else bif Nat.beq f 80 then Q2y.via n xs else fun _ => none
theorem Q31.tells {R : Type} (n : Nat) : Tells (R := R) Tryz.prog (Q31.C n) := fun _ xs => tells_at (Q30.tells1 n xs) (tells_at (Q2y.tells1 n xs) (Tells1.none))
def Q31.cut (r : Nat) : Option Keep := match r with  | _ => none
def Q31.e (n : Nat) (a0 : Bool) (a1 a2 : ByteArray) (a3 a4 : List AV) (a5 : Bool) (a6 a7 : ByteArray) (a8 a9 a10 a11 : List AV) (a12 : Bool) (a13 : List AV) : Option Q31.T :=
  (Q2y.F n a1 a2 a3 a4 a5).bind fun p1 =>
  (Q30.F n a6 a7 a8 a9 a10 a11 a12 a13).bind fun p2 =>
  some (a0, p1.1, p1.2.1, p1.2.2.1, p1.2.2.2.1, p1.2.2.2.2, p2.1, p2.2.1, p2.2.2.1, p2.2.2.2.1, p2.2.2.2.2.1, p2.2.2.2.2.2.1, p2.2.2.2.2.2.2.1, p2.2.2.2.2.2.2.2)
def Q31.E (n : Nat) : Q31.A → Option Q31.T := fun (a0, a1, a2, a3, a4, a5, a6, a7, a8, a9, a10, a11, a12, a13) => Q31.e n a0 a1 a2 a3 a4 a5 a6 a7 a8 a9 a10 a11 a12 a13
def Q31.F (n : Nat) (a0 : Bool) (a1 a2 : ByteArray) (a3 a4 : List AV) (a5 : Bool) (a6 a7 : ByteArray) (a8 a9 a10 a11 : List AV) (a12 : Bool) (a13 : List AV) : Option Q31.T := Q31.e n a0 a1 a2 a3 a4 a5 a6 a7 a8 a9 a10 a11 a12 a13
def Q31.FA (n : Nat) : Q31.A → Option Q31.T := Q31.E n
theorem Q31.hands (n : Nat) : ∀ a p, Q31.FA n a = some p → HandsIn Tryz.prog 27 (Q31.i a) (Q31.p p) :=
  pf_hands (C := Q31.C n) (cut := Q31.cut) (Z := Empty) (t := nofun) (s := nofun) (e := fun _ => Q31.E n) (r := fun _ z => nomatch z) (n := n) cfg mixed globs rfl Q31.qi (Q31.tells n) Tryz.func27 (by kernel_rfl) (by kernel_rfl) (fun rec a => by kernel_rfl) (fun rec z => nomatch z)
def Q31.via {R : Type} (n : Nat) : List AV → (AV → Option R) → Option R := viaK (Q31.FA n) Q31.o Q31.p
theorem Q31.tells1 {R : Type} (n : Nat) (xs : List AV) : Tells1 (R := R) Tryz.prog 27 xs (Q31.via n xs) := tells_via Q31.oi (fun a => by kernel_rfl) (Q31.hands n) xs
end Go.Proofs.YtmpglmcjoelciaaGreatDoor.Ev
namespace Go.Proofs.YtmpglmcjoelciaaGreatDoor.Ev
open Go Go.Proofs Go.Proofs.Ev
set_option linter.unusedVariables false
set_option maxRecDepth 100000
abbrev Q3j.A := ByteArray
abbrev Q3j.T := ByteArray
def Q3j.i : Q3j.A → List AV := fun a0 => [vs a0]
def Q3j.o (xs : List AV) : Option Q3j.A := match xs with | [.v (.string a0)] => some a0 | _ => none
theorem Q3j.oi : ∀ xs a, Q3j.o xs = some a → xs = Q3j.i a := by
  intro xs a h
  unfold Q3j.o at h
  split at h
  · cases h; rfl
  · cases h
def Q3j.p (p : Q3j.T) : AV := vs p
def Q3j.q (x : AV) : Option Q3j.T := match x with | .v (.string p0) => some p0 | _ => none
theorem Q3j.qi : ∀ x p, Q3j.q x = some p → x = Q3j.p p := by
  intro x p h
  unfold Q3j.q at h
  split at h
  · cases h; rfl
  · cases h
inductive Q3j.Z where
  | z3 (z1 z2 : ByteArray) (z3 : Int)
def Q3j.C {R : Type} (n : Nat) (f : FuncId) (xs : List AV) : (AV → Option R) → Option R :=
  fun _ => none
theorem Q3j.tells {R : Type} (n : Nat) : Tells (R := R) Tryz.prog (Q3j.C n) := fun _ xs => Tells1.none
def Q3j.cut (r : Nat) : Option Keep := match r with | 3 => some ⟨[0, 3, 4], []⟩ | _ => none
def Q3j.t (z : Q3j.Z) : List Item := (todoOf (match z with | .z3 _ _ _ => 3) 1000 [.code (Tryz.f125.body.getD .skip)]).getD []
def Q3j.s : Q3j.Z → St
  | .z3 z1 z2 z3 => ⟨spr 26 0 [(0, vs z1), (3, vs z2), (4, vi z3)], Mem.ofList [], 0⟩
def Q3j.r3 (n : Nat) (c : Q3j.Z → Option ByteArray) (z1 z2 : ByteArray) (z3 : Int) : Option ByteArray :=
  let y1 : Bool := decide (z3 < ((z1.size : Nat) : Int))
  bif y1 then (bif decide ((0 : Int) ≤ z3) && decide (z3 < ((z1.size : Nat) : Int)) then (let y2 : Int := (((z1.data.getD ((z3).toNat) 0).toNat : Nat) : Int)
  bif y2 == 39 then (chk (decide (z2.size + 1 ≤ 9223372036854775807)) (bif decide ((0 : Int) ≤ IntKind.i64.wrap (z3 + 1)) && decide ((IntKind.i64.wrap (z3 + 1) : Int) ≤ ((z1.size : Nat) : Int)) then (bif decide ((0 : Int) ≤ z3) && decide ((z3 : Int) ≤ IntKind.i64.wrap (z3 + 1)) then (let y3 : ByteArray := z1.extract (z3).toNat (IntKind.i64.wrap (z3 + 1)).toNat
  chk (decide ((z2 ++ (⟨#[39]⟩ : ByteArray)).size + y3.size ≤ 9223372036854775807)) (let y4 : ByteArray := (z2 ++ (⟨#[39]⟩ : ByteArray)) ++ y3
  c (.z3 z1 y4 (IntKind.i64.wrap (z3 + 1))))) else none) else none)) else (bif decide ((0 : Int) ≤ IntKind.i64.wrap (z3 + 1)) && decide ((IntKind.i64.wrap (z3 + 1) : Int) ≤ ((z1.size : Nat) : Int)) then (bif decide ((0 : Int) ≤ z3) && decide ((z3 : Int) ≤ IntKind.i64.wrap (z3 + 1)) then (let y5 : ByteArray := z1.extract (z3).toNat (IntKind.i64.wrap (z3 + 1)).toNat
  chk (decide (z2.size + y5.size ≤ 9223372036854775807)) (c (.z3 z1 (z2 ++ y5) (IntKind.i64.wrap (z3 + 1))))) else none) else none)) else none) else (chk (decide (z2.size + 1 ≤ 9223372036854775807)) (some (z2 ++ (⟨#[39]⟩ : ByteArray))))
def Q3j.r (n : Nat) (c : Q3j.Z → Option ByteArray) : Q3j.Z → Option ByteArray
  | .z3 z1 z2 z3 => Q3j.r3 n c z1 z2 z3
def Q3j.e (n : Nat) (c : Q3j.Z → Option ByteArray) (a0 : ByteArray) : Option ByteArray :=
  c (.z3 a0 (⟨#[39]⟩ : ByteArray) 0)
def Q3j.E (n : Nat) (c : Q3j.Z → Option ByteArray) : Q3j.A → Option Q3j.T := fun a0 => Q3j.e n c a0
def Q3j.l (n : Nat) : Nat → Q3j.Z → Option ByteArray := loopL (Q3j.r n)
def Q3j.F (n : Nat) (a0 : ByteArray) : Option ByteArray := Q3j.e n (Q3j.l n n) a0
def Q3j.FA (n : Nat) : Q3j.A → Option Q3j.T := Q3j.E n (Q3j.l n n)
theorem Q3j.hands (n : Nat) : ∀ a p, Q3j.FA n a = some p → HandsIn Tryz.prog 125 (Q3j.i a) (Q3j.p p) :=
  pf_hands (C := Q3j.C n) (cut := Q3j.cut) (t := Q3j.t) (s := Q3j.s) (e := Q3j.E n) (r := Q3j.r n) (n := n) cfg mixed globs rfl Q3j.qi (Q3j.tells n) Tryz.func125 (by kernel_rfl) (by kernel_rfl) (fun rec a => by kernel_rfl) (fun rec z => by cases z <;> kernel_rfl)
def Q3j.via {R : Type} (n : Nat) : List AV → (AV → Option R) → Option R := viaK (Q3j.FA n) Q3j.o Q3j.p
theorem Q3j.tells1 {R : Type} (n : Nat) (xs : List AV) : Tells1 (R := R) Tryz.prog 125 xs (Q3j.via n xs) := tells_via Q3j.oi (fun a => by kernel_rfl) (Q3j.hands n) xs
end Go.Proofs.YtmpglmcjoelciaaGreatDoor.Ev
namespace Go.Proofs.YtmpglmcjoelciaaGreatDoor.Ev
open Go Go.Proofs Go.Proofs.Ev
set_option linter.unusedVariables false
set_option maxRecDepth 100000
abbrev Q3l.A := Bool × List AV
abbrev Q3l.T := ByteArray × Bool
def Q3l.i : Q3l.A → List AV := fun (a0, a1) => [AV.agg [vb a0, .sl ⟨true, 104⟩ 4 a1]]
def Q3l.o (xs : List AV) : Option Q3l.A := match xs with | [.agg [.v (.bool a0), .sl ⟨true, 104⟩ 4 a1]] => some (a0, a1) | _ => none
theorem Q3l.oi : ∀ xs a, Q3l.o xs = some a → xs = Q3l.i a := by
  intro xs a h
  unfold Q3l.o at h
  split at h
  · cases h; rfl
  · cases h
def Q3l.p (p : Q3l.T) : AV := .tup [vs p.1, vb p.2]
def Q3l.q (x : AV) : Option Q3l.T := match x with | .tup [.v (.string p0), .v (.bool p1)] => some (p0, p1) | _ => none
theorem Q3l.qi : ∀ x p, Q3l.q x = some p → x = Q3l.p p := by
  intro x p h
  unfold Q3l.q at h
  split at h
  · cases h; rfl
  · cases h
inductive Q3l.Z where
  | z5 (z1 : ByteArray) (z2 : Bool) (z3 : Int) (z4 : Bool) (z5 : List AV)
  | z14 (z1 : ByteArray) (z2 : Bool) (z3 : Int) (z4 : Bool) (z5 : List AV) (z6 : ByteArray) (z7 z8 : Int) (z9 : ByteArray)
  | z15 (z1 : ByteArray) (z2 : Bool) (z3 z4 : Int) (z5 : Bool) (z6 : List AV) (z7 : ByteArray) (z8 z9 : Int) (z10 : ByteArray)
def Q3l.C {R : Type} (n : Nat) (f : FuncId) (xs : List AV) : (AV → Option R) → Option R :=
  bif Nat.beq f 48 then Q1z.via n xs else bif Nat.beq f 81 then Q1q.via n xs else bif Nat.beq f 124 then Q3i.via n xs else bif Nat.beq f 125 then Q3j.via n xs else fun _ => none
theorem Q3l.tells {R : Type} (n : Nat) : Tells (R := R) Tryz.prog (Q3l.C n) := fun _ xs => tells_at (Q1z.tells1 n xs) (tells_at (Q1q.tells1 n xs) (tells_at (Q3i.tells1 n xs) (tells_at (Q3j.tells1 n xs) (Tells1.none))))
def Q3l.cut (r : Nat) : Option Keep := match r with | 5 => some ⟨[1, 4, 5, 6], []⟩ | 14 => some ⟨[1, 4, 5, 6, 7], []⟩ | 15 => some ⟨[1, 4, 5, 6, 7, 8], []⟩ | _ => none
def Q3l.t (z : Q3l.Z) : List Item := (todoOf (match z with | .z5 _ _ _ _ _ => 5 | .z14 _ _ _ _ _ _ _ _ _ => 14 | .z15 _ _ _ _ _ _ _ _ _ _ => 15) 1000 [.code (Tryz.f82.body.getD .skip)]).getD []
def Q3l.s : Q3l.Z → St
  | .z5 z1 z2 z3 z4 z5 => ⟨spr 76 0 [(1, .ptr 0 0), (4, vs z1), (5, vb z2), (6, vi z3)], Mem.ofList [.box 100 [vb z4, .sl ⟨true, 104⟩ 4 z5]], 1⟩
  | .z14 z1 z2 z3 z4 z5 z6 z7 z8 z9 => ⟨spr 76 0 [(1, .ptr 0 0), (4, vs z1), (5, vb z2), (6, vi z3), (7, .ptr 1 0)], Mem.ofList [.box 100 [vb z4, .sl ⟨true, 104⟩ 4 z5], .box 104 [vs z6, vi z7, vi z8, vs z9]], 2⟩
  | .z15 z1 z2 z3 z4 z5 z6 z7 z8 z9 z10 => ⟨spr 76 0 [(1, .ptr 0 0), (4, vs z1), (5, vb z2), (6, vi z3), (7, .ptr 1 0), (8, vi z4)], Mem.ofList [.box 100 [vb z5, .sl ⟨true, 104⟩ 4 z6], .box 104 [vs z7, vi z8, vi z9, vs z10]], 2⟩
def Q3l.r5 (n : Nat) (c : Q3l.Z → Option (ByteArray × Bool)) (z1 : ByteArray) (z2 : Bool) (z3 : Int) (z4 : Bool) (z5 : List AV) : Option (ByteArray × Bool) :=
  let y1 : Bool := decide (z3 < ((z5.length : Nat) : Int))
  bif y1 then (bif decide ((0 : Int) ≤ z3) && decide (z3 < ((z5.length : Nat) : Int)) then (withCons ((z5.getD ((z3).toNat) .undef).cells) fun h2 r3 =>
  withStr h2 fun s4 =>
  withCons r3 fun h5 r6 =>
  withInt .i64 h5 fun x7 =>
  withCons r6 fun h8 r9 =>
  withInt .i64 h8 fun x10 =>
  withCons r9 fun h11 r12 =>
  withStr h11 fun s13 =>
  bif decide (z3 > 0) then (chk (decide (z1.size + 4 ≤ 9223372036854775807)) (let y14 : ByteArray := z1 ++ (⟨#[32, 65, 78, 68]⟩ : ByteArray)
  chk (decide (y14.size + 1 ≤ 9223372036854775807)) (chk (decide ((y14 ++ (⟨#[32]⟩ : ByteArray)).size + s4.size ≤ 9223372036854775807)) (let y15 : ByteArray := (y14 ++ (⟨#[32]⟩ : ByteArray)) ++ s4
  chk (decide (y15.size + 1 ≤ 9223372036854775807)) ((Q3i.F n ).bind fun p16 =>
  bif decide ((0 : Int) ≤ x7) && decide (x7 < ((p16.length : Nat) : Int)) then (withCons ((p16.getD ((x7).toNat) .undef).cells) fun h17 r18 =>
  withStr h17 fun s19 =>
  chk (decide ((y15 ++ (⟨#[32]⟩ : ByteArray)).size + s19.size ≤ 9223372036854775807)) (let y20 : ByteArray := (y15 ++ (⟨#[32]⟩ : ByteArray)) ++ s19
  chk (decide (y20.size + 1 ≤ 9223372036854775807)) (let y21 : Bool := s13.toList == (⟨#[]⟩ : ByteArray).toList
  bif y21 then ((Q1q.F n x10).bind fun p22 =>
  chk (decide ((y20 ++ (⟨#[32]⟩ : ByteArray)).size + p22.size ≤ 9223372036854775807)) (let y23 : ByteArray := (y20 ++ (⟨#[32]⟩ : ByteArray)) ++ p22
  c (.z14 y23 z2 z3 z4 z5 s4 x7 x10 s13))) else ((Q3j.F n s13).bind fun p24 =>
  chk (decide ((y20 ++ (⟨#[32]⟩ : ByteArray)).size + p24.size ≤ 9223372036854775807)) (let y25 : ByteArray := (y20 ++ (⟨#[32]⟩ : ByteArray)) ++ p24
  c (.z14 y25 z2 z3 z4 z5 s4 x7 x10 s13)))))) else none))))) else (chk (decide (z1.size + 1 ≤ 9223372036854775807)) (chk (decide ((z1 ++ (⟨#[32]⟩ : ByteArray)).size + s4.size ≤ 9223372036854775807)) (let y26 : ByteArray := (z1 ++ (⟨#[32]⟩ : ByteArray)) ++ s4
  chk (decide (y26.size + 1 ≤ 9223372036854775807)) ((Q3i.F n ).bind fun p27 =>
  bif decide ((0 : Int) ≤ x7) && decide (x7 < ((p27.length : Nat) : Int)) then (withCons ((p27.getD ((x7).toNat) .undef).cells) fun h28 r29 =>
  withStr h28 fun s30 =>
  chk (decide ((y26 ++ (⟨#[32]⟩ : ByteArray)).size + s30.size ≤ 9223372036854775807)) (let y31 : ByteArray := (y26 ++ (⟨#[32]⟩ : ByteArray)) ++ s30
  chk (decide (y31.size + 1 ≤ 9223372036854775807)) (let y32 : Bool := s13.toList == (⟨#[]⟩ : ByteArray).toList
  bif y32 then ((Q1q.F n x10).bind fun p33 =>
  chk (decide ((y31 ++ (⟨#[32]⟩ : ByteArray)).size + p33.size ≤ 9223372036854775807)) (let y34 : ByteArray := (y31 ++ (⟨#[32]⟩ : ByteArray)) ++ p33
  c (.z14 y34 z2 z3 z4 z5 s4 x7 x10 s13))) else ((Q3j.F n s13).bind fun p35 =>
  chk (decide ((y31 ++ (⟨#[32]⟩ : ByteArray)).size + p35.size ≤ 9223372036854775807)) (let y36 : ByteArray := (y31 ++ (⟨#[32]⟩ : ByteArray)) ++ p35
  c (.z14 y36 z2 z3 z4 z5 s4 x7 x10 s13)))))) else none))))) else none) else (some (z1, z2))
def Q3l.r14 (n : Nat) (c : Q3l.Z → Option (ByteArray × Bool)) (z1 : ByteArray) (z2 : Bool) (z3 : Int) (z4 : Bool) (z5 : List AV) (z6 : ByteArray) (z7 z8 : Int) (z9 : ByteArray) : Option (ByteArray × Bool) :=
  c (.z15 z1 z2 z3 0 z4 z5 z6 z7 z8 z9)
def Q3l.r15 (n : Nat) (c : Q3l.Z → Option (ByteArray × Bool)) (z1 : ByteArray) (z2 : Bool) (z3 z4 : Int) (z5 : Bool) (z6 : List AV) (z7 : ByteArray) (z8 z9 : Int) (z10 : ByteArray) : Option (ByteArray × Bool) :=
  let y37 : Bool := decide (z4 < ((z10.size : Nat) : Int))
  bif y37 then (bif z2 then (bif decide ((0 : Int) ≤ z4) && decide (z4 < ((z10.size : Nat) : Int)) then (let y38 : Int := (((z10.data.getD ((z4).toNat) 0).toNat : Nat) : Int)
  (Q1z.F n (IntKind.i64.wrap y38) 32 126).bind fun p39 =>
  c (.z15 z1 p39 z3 (IntKind.i64.wrap (z4 + 1)) z5 z6 z7 z8 z9 z10)) else none) else (c (.z15 z1 false z3 (IntKind.i64.wrap (z4 + 1)) z5 z6 z7 z8 z9 z10))) else (c (.z5 z1 z2 (IntKind.i64.wrap (z3 + 1)) z5 z6))
def Q3l.r (n : Nat) (c : Q3l.Z → Option (ByteArray × Bool)) : Q3l.Z → Option (ByteArray × Bool)
  | .z5 z1 z2 z3 z4 z5 => Q3l.r5 n c z1 z2 z3 z4 z5
  | .z14 z1 z2 z3 z4 z5 z6 z7 z8 z9 => Q3l.r14 n c z1 z2 z3 z4 z5 z6 z7 z8 z9
  | .z15 z1 z2 z3 z4 z5 z6 z7 z8 z9 z10 => Q3l.r15 n c z1 z2 z3 z4 z5 z6 z7 z8 z9 z10
def Q3l.e (n : Nat) (c : Q3l.Z → Option (ByteArray × Bool)) (a0 : Bool) (a1 : List AV) : Option (ByteArray × Bool) :=
  bif a0 then (c (.z5 (⟨#[79]⟩ : ByteArray) true 0 a0 a1)) else (c (.z5 (⟨#[83]⟩ : ByteArray) true 0 a0 a1))
def Q3l.E (n : Nat) (c : Q3l.Z → Option (ByteArray × Bool)) : Q3l.A → Option Q3l.T := fun (a0, a1) => Q3l.e n c a0 a1
def Q3l.l (n : Nat) : Nat → Q3l.Z → Option (ByteArray × Bool) := loopL (Q3l.r n)
def Q3l.F (n : Nat) (a0 : Bool) (a1 : List AV) : Option (ByteArray × Bool) := Q3l.e n (Q3l.l n n) a0 a1
def Q3l.FA (n : Nat) : Q3l.A → Option Q3l.T := Q3l.E n (Q3l.l n n)
theorem Q3l.hands (n : Nat) : ∀ a p, Q3l.FA n a = some p → HandsIn Tryz.prog 82 (Q3l.i a) (Q3l.p p) :=
  pf_hands (C := Q3l.C n) (cut := Q3l.cut) (t := Q3l.t) (s := Q3l.s) (e := Q3l.E n) (r := Q3l.r n) (n := n) cfg mixed globs rfl Q3l.qi (Q3l.tells n) Tryz.func82 (by kernel_rfl) (by kernel_rfl) (fun rec a => by kernel_rfl) (fun rec z => by cases z <;> kernel_rfl)
def Q3l.via {R : Type} (n : Nat) : List AV → (AV → Option R) → Option R := viaK (Q3l.FA n) Q3l.o Q3l.p
theorem Q3l.tells1 {R : Type} (n : Nat) (xs : List AV) : Tells1 (R := R) Tryz.prog 82 xs (Q3l.via n xs) := tells_via Q3l.oi (fun a => by kernel_rfl) (Q3l.hands n) xs
end Go.Proofs.YtmpglmcjoelciaaGreatDoor.Ev
namespace Go.Proofs.YtmpglmcjoelciaaGreatDoor.Ev
open Go Go.Proofs Go.Proofs.Ev
set_option linter.unusedVariables false
set_option maxRecDepth 100000
abbrev Q2x.A := Bool × ByteArray × ByteArray × List AV × List AV × Bool × ByteArray × ByteArray × List AV × List AV × List AV × List AV × Bool × List AV
abbrev Q2x.T := List AV × Int
def Q2x.i : Q2x.A → List AV := fun (a0, a1, a2, a3, a4, a5, a6, a7, a8, a9, a10, a11, a12, a13) => [AV.agg [vb a0, vs a1, vs a2, .sl ⟨true, 125⟩ 4 a3, .sl ⟨true, 111⟩ 2 a4, vb a5, vs a6, vs a7, .sl ⟨true, 9⟩ 1 a8, .sl ⟨true, 95⟩ 3 a9, .sl ⟨true, 97⟩ 4 a10, .sl ⟨true, 111⟩ 2 a11, vb a12, .sl ⟨false, 100⟩ 2 a13]]
def Q2x.o (xs : List AV) : Option Q2x.A := match xs with | [.agg [.v (.bool a0), .v (.string a1), .v (.string a2), .sl ⟨true, 125⟩ 4 a3, .sl ⟨true, 111⟩ 2 a4, .v (.bool a5), .v (.string a6), .v (.string a7), .sl ⟨true, 9⟩ 1 a8, .sl ⟨true, 95⟩ 3 a9, .sl ⟨true, 97⟩ 4 a10, .sl ⟨true, 111⟩ 2 a11, .v (.bool a12), .sl ⟨false, 100⟩ 2 a13]] => some (a0, a1, a2, a3, a4, a5, a6, a7, a8, a9, a10, a11, a12, a13) | _ => none
theorem Q2x.oi : ∀ xs a, Q2x.o xs = some a → xs = Q2x.i a := by
  intro xs a h
  unfold Q2x.o at h
  split at h
  · cases h; rfl
  · cases h
def Q2x.p (p : Q2x.T) : AV := .tup [.fr ⟨true, 9⟩ 1 p.1, vi p.2]
def Q2x.q (x : AV) : Option Q2x.T := match x with | .tup [.fr ⟨true, 9⟩ 1 p0, .v (.int .i64 p1)] => some (p0, p1) | _ => none
theorem Q2x.qi : ∀ x p, Q2x.q x = some p → x = Q2x.p p := by
  intro x p h
  unfold Q2x.q at h
  split at h
  · cases h; rfl
  · cases h
inductive Q2x.Z where
  | z2
  | z3 (z1 : Bool) (z2 z3 : ByteArray) (z4 z5 : List AV) (z6 : Bool) (z7 z8 : ByteArray) (z9 z10 z11 z12 : List AV) (z13 : Bool) (z14 : List AV)
  | z13 (z1 : List AV) (z2 z3 : ByteArray) (z4 : Bool) (z5 z6 : ByteArray) (z7 z8 : List AV) (z9 : Bool) (z10 z11 : ByteArray) (z12 z13 z14 z15 : List AV) (z16 : Bool) (z17 : List AV) (z18 z19 : ByteArray) (z20 z21 z22 z23 : List AV) (z24 : Bool) (z25 : List AV)
  | z15 (z1 : List AV) (z2 : Int) (z3 : Bool) (z4 z5 : ByteArray) (z6 z7 : List AV) (z8 : Bool) (z9 z10 : ByteArray) (z11 z12 z13 z14 : List AV) (z15 : Bool) (z16 : List AV) (z17 z18 : ByteArray) (z19 z20 z21 z22 : List AV) (z23 : Bool) (z24 z25 : List AV)
  | z19 (z1 : List AV) (z2 : Int) (z3 : Bool) (z4 z5 : ByteArray) (z6 z7 : List AV) (z8 : Bool) (z9 z10 : ByteArray) (z11 z12 z13 z14 : List AV) (z15 : Bool) (z16 : List AV) (z17 z18 : ByteArray) (z19 z20 z21 z22 : List AV) (z23 : Bool) (z24 z25 : List AV)
  | z24 (z1 : List AV) (z2 : Int) (z3 : Bool) (z4 z5 : ByteArray) (z6 z7 : List AV) (z8 : Bool) (z9 z10 : ByteArray) (z11 z12 z13 z14 : List AV) (z15 : Bool) (z16 : List AV) (z17 z18 : ByteArray) (z19 z20 z21 z22 : List AV) (z23 : Bool) (z24 z25 : List AV)
  | z29 (z1 : List AV) (z2 : Int) (z3 z4 : ByteArray) (z5 z6 z7 z8 : List AV) (z9 : Bool) (z10 z11 : List AV)
  | z34 (z1 : List AV) (z2 : Int) (z3 z4 : ByteArray) (z5 z6 z7 z8 : List AV) (z9 : Bool) (z10 z11 : List AV)
  | z42 (z1 z2 : Bool) (z3 : Int) (z4 z5 : ByteArray) (z6 z7 z8 z9 : List AV) (z10 : Bool) (z11 z12 : List AV)
  | z43 (z1 z2 : Bool) (z3 : Int) (z4 z5 : ByteArray) (z6 z7 z8 z9 : List AV) (z10 : Bool) (z11 z12 : List AV)
  | z46 (z1 z2 : Bool) (z3 : Int) (z4 z5 z6 : ByteArray) (z7 z8 z9 z10 : List AV) (z11 : Bool) (z12 z13 : List AV)
def Q2x.C {R : Type} (n : Nat) (f : FuncId) (xs : List AV) : (AV → Option R) → Option R :=
  bif Nat.beq f 34 then Q38.via n xs else bif Nat.beq f 68 then Q3o.via n xs else bif Nat.beq f 69 then Q33.via n xs else bif Nat.beq f 70 then Q35.via n xs else bif Nat.beq f 81 then Q1q.via n xs else bif Nat.beq f 82 then Q3l.via n xs else fun _ => none
theorem Q2x.tells {R : Type} (n : Nat) : Tells (R := R) Tryz.prog (Q2x.C n) := fun _ xs => tells_at (Q38.tells1 n xs) (tells_at (Q3o.tells1 n xs) (tells_at (Q33.tells1 n xs) (tells_at (Q35.tells1 n xs) (tells_at (Q1q.tells1 n xs) (tells_at (Q3l.tells1 n xs) (Tells1.none))))))
def Q2x.cut (r : Nat) : Option Keep := match r with | 2 => some ⟨[], []⟩ | 3 => some ⟨[1], []⟩ | 13 => some ⟨[1, 5, 6, 7, 8], []⟩ | 15 => some ⟨[1, 5, 6, 10, 11], []⟩ | 19 => some ⟨[1, 5, 6, 10, 12], []⟩ | 24 => some ⟨[1, 5, 6, 10, 14], []⟩ | 29 => some ⟨[5, 6, 10, 16], []⟩ | 34 => some ⟨[5, 6, 10, 18], []⟩ | 42 => some ⟨[5, 10, 20, 21, 22], []⟩ | 43 => some ⟨[5, 10, 20, 21, 22], []⟩ | 46 => some ⟨[5, 10, 20, 21, 22, 23], []⟩ | _ => none
def Q2x.t (z : Q2x.Z) : List Item := (todoOf (match z with | .z2 => 2 | .z3 _ _ _ _ _ _ _ _ _ _ _ _ _ _ => 3 | .z13 _ _ _ _ _ _ _ _ _ _ _ _ _ _ _ _ _ _ _ _ _ _ _ _ _ => 13 | .z15 _ _ _ _ _ _ _ _ _ _ _ _ _ _ _ _ _ _ _ _ _ _ _ _ _ => 15 | .z19 _ _ _ _ _ _ _ _ _ _ _ _ _ _ _ _ _ _ _ _ _ _ _ _ _ => 19 | .z24 _ _ _ _ _ _ _ _ _ _ _ _ _ _ _ _ _ _ _ _ _ _ _ _ _ => 24 | .z29 _ _ _ _ _ _ _ _ _ _ _ => 29 | .z34 _ _ _ _ _ _ _ _ _ _ _ => 34 | .z42 _ _ _ _ _ _ _ _ _ _ _ _ => 42 | .z43 _ _ _ _ _ _ _ _ _ _ _ _ => 43 | .z46 _ _ _ _ _ _ _ _ _ _ _ _ _ => 46) 1000 [.code (Tryz.f28.body.getD .skip)]).getD []
def Q2x.s : Q2x.Z → St
  | .z2 => ⟨spr 244 0 [], Mem.ofList [], 0⟩
  | .z3 z1 z2 z3 z4 z5 z6 z7 z8 z9 z10 z11 z12 z13 z14 => ⟨spr 244 0 [(1, .ptr 0 0)], Mem.ofList [.box 50 [vb z1, vs z2, vs z3, .sl ⟨true, 125⟩ 4 z4, .sl ⟨true, 111⟩ 2 z5, vb z6, vs z7, vs z8, .sl ⟨true, 9⟩ 1 z9, .sl ⟨true, 95⟩ 3 z10, .sl ⟨true, 97⟩ 4 z11, .sl ⟨true, 111⟩ 2 z12, vb z13, .sl ⟨false, 100⟩ 2 z14]], 1⟩
  | .z13 z1 z2 z3 z4 z5 z6 z7 z8 z9 z10 z11 z12 z13 z14 z15 z16 z17 z18 z19 z20 z21 z22 z23 z24 z25 => ⟨spr 244 0 [(1, .ptr 0 0), (5, .ptr 1 0), (6, .sl ⟨true, 111⟩ 2 z1), (7, vs z2), (8, vs z3)], Mem.ofList [.box 50 [vb z4, vs z5, vs z6, .sl ⟨true, 125⟩ 4 z7, .sl ⟨true, 111⟩ 2 z8, vb z9, vs z10, vs z11, .sl ⟨true, 9⟩ 1 z12, .sl ⟨true, 95⟩ 3 z13, .sl ⟨true, 97⟩ 4 z14, .sl ⟨true, 111⟩ 2 z15, vb z16, .sl ⟨false, 100⟩ 2 z17], .box 36 [vs z18, vs z19, .sl ⟨true, 9⟩ 1 z20, .sl ⟨true, 95⟩ 3 z21, .sl ⟨true, 97⟩ 4 z22, .sl ⟨true, 111⟩ 2 z23, vb z24, .sl ⟨false, 100⟩ 2 z25]], 2⟩
  | .z15 z1 z2 z3 z4 z5 z6 z7 z8 z9 z10 z11 z12 z13 z14 z15 z16 z17 z18 z19 z20 z21 z22 z23 z24 z25 => ⟨spr 244 0 [(1, .ptr 0 0), (5, .ptr 1 0), (6, .sl ⟨true, 111⟩ 2 z1), (10, .own 2 0 none), (11, vi z2)], Mem.ofList [.box 50 [vb z3, vs z4, vs z5, .sl ⟨true, 125⟩ 4 z6, .sl ⟨true, 111⟩ 2 z7, vb z8, vs z9, vs z10, .sl ⟨true, 9⟩ 1 z11, .sl ⟨true, 95⟩ 3 z12, .sl ⟨true, 97⟩ 4 z13, .sl ⟨true, 111⟩ 2 z14, vb z15, .sl ⟨false, 100⟩ 2 z16], .box 36 [vs z17, vs z18, .sl ⟨true, 9⟩ 1 z19, .sl ⟨true, 95⟩ 3 z20, .sl ⟨true, 97⟩ 4 z21, .sl ⟨true, 111⟩ 2 z22, vb z23, .sl ⟨false, 100⟩ 2 z24], .row ⟨true, 9⟩ 1 z25], 3⟩
  | .z19 z1 z2 z3 z4 z5 z6 z7 z8 z9 z10 z11 z12 z13 z14 z15 z16 z17 z18 z19 z20 z21 z22 z23 z24 z25 => ⟨spr 244 0 [(1, .ptr 0 0), (5, .ptr 1 0), (6, .sl ⟨true, 111⟩ 2 z1), (10, .own 2 0 none), (12, vi z2)], Mem.ofList [.box 50 [vb z3, vs z4, vs z5, .sl ⟨true, 125⟩ 4 z6, .sl ⟨true, 111⟩ 2 z7, vb z8, vs z9, vs z10, .sl ⟨true, 9⟩ 1 z11, .sl ⟨true, 95⟩ 3 z12, .sl ⟨true, 97⟩ 4 z13, .sl ⟨true, 111⟩ 2 z14, vb z15, .sl ⟨false, 100⟩ 2 z16], .box 36 [vs z17, vs z18, .sl ⟨true, 9⟩ 1 z19, .sl ⟨true, 95⟩ 3 z20, .sl ⟨true, 97⟩ 4 z21, .sl ⟨true, 111⟩ 2 z22, vb z23, .sl ⟨false, 100⟩ 2 z24], .row ⟨true, 9⟩ 1 z25], 3⟩
  | .z24 z1 z2 z3 z4 z5 z6 z7 z8 z9 z10 z11 z12 z13 z14 z15 z16 z17 z18 z19 z20 z21 z22 z23 z24 z25 => ⟨spr 244 0 [(1, .ptr 0 0), (5, .ptr 1 0), (6, .sl ⟨true, 111⟩ 2 z1), (10, .own 2 0 none), (14, vi z2)], Mem.ofList [.box 50 [vb z3, vs z4, vs z5, .sl ⟨true, 125⟩ 4 z6, .sl ⟨true, 111⟩ 2 z7, vb z8, vs z9, vs z10, .sl ⟨true, 9⟩ 1 z11, .sl ⟨true, 95⟩ 3 z12, .sl ⟨true, 97⟩ 4 z13, .sl ⟨true, 111⟩ 2 z14, vb z15, .sl ⟨false, 100⟩ 2 z16], .box 36 [vs z17, vs z18, .sl ⟨true, 9⟩ 1 z19, .sl ⟨true, 95⟩ 3 z20, .sl ⟨true, 97⟩ 4 z21, .sl ⟨true, 111⟩ 2 z22, vb z23, .sl ⟨false, 100⟩ 2 z24], .row ⟨true, 9⟩ 1 z25], 3⟩
  | .z29 z1 z2 z3 z4 z5 z6 z7 z8 z9 z10 z11 => ⟨spr 244 0 [(5, .ptr 0 0), (6, .sl ⟨true, 111⟩ 2 z1), (10, .own 1 0 none), (16, vi z2)], Mem.ofList [.box 36 [vs z3, vs z4, .sl ⟨true, 9⟩ 1 z5, .sl ⟨true, 95⟩ 3 z6, .sl ⟨true, 97⟩ 4 z7, .sl ⟨true, 111⟩ 2 z8, vb z9, .sl ⟨false, 100⟩ 2 z10], .row ⟨true, 9⟩ 1 z11], 2⟩
  | .z34 z1 z2 z3 z4 z5 z6 z7 z8 z9 z10 z11 => ⟨spr 244 0 [(5, .ptr 0 0), (6, .sl ⟨true, 111⟩ 2 z1), (10, .own 1 0 none), (18, vi z2)], Mem.ofList [.box 36 [vs z3, vs z4, .sl ⟨true, 9⟩ 1 z5, .sl ⟨true, 95⟩ 3 z6, .sl ⟨true, 97⟩ 4 z7, .sl ⟨true, 111⟩ 2 z8, vb z9, .sl ⟨false, 100⟩ 2 z10], .row ⟨true, 9⟩ 1 z11], 2⟩
  | .z42 z1 z2 z3 z4 z5 z6 z7 z8 z9 z10 z11 z12 => ⟨spr 244 0 [(5, .ptr 0 0), (10, .own 1 0 none), (20, vb z1), (21, vb z2), (22, vi z3)], Mem.ofList [.box 36 [vs z4, vs z5, .sl ⟨true, 9⟩ 1 z6, .sl ⟨true, 95⟩ 3 z7, .sl ⟨true, 97⟩ 4 z8, .sl ⟨true, 111⟩ 2 z9, vb z10, .sl ⟨false, 100⟩ 2 z11], .row ⟨true, 9⟩ 1 z12], 2⟩
  | .z43 z1 z2 z3 z4 z5 z6 z7 z8 z9 z10 z11 z12 => ⟨spr 244 0 [(5, .ptr 0 0), (10, .own 1 0 none), (20, vb z1), (21, vb z2), (22, vi z3)], Mem.ofList [.box 36 [vs z4, vs z5, .sl ⟨true, 9⟩ 1 z6, .sl ⟨true, 95⟩ 3 z7, .sl ⟨true, 97⟩ 4 z8, .sl ⟨true, 111⟩ 2 z9, vb z10, .sl ⟨false, 100⟩ 2 z11], .row ⟨true, 9⟩ 1 z12], 2⟩
  | .z46 z1 z2 z3 z4 z5 z6 z7 z8 z9 z10 z11 z12 z13 => ⟨spr 244 0 [(5, .ptr 0 0), (10, .own 1 0 none), (20, vb z1), (21, vb z2), (22, vi z3), (23, vs z4)], Mem.ofList [.box 36 [vs z5, vs z6, .sl ⟨true, 9⟩ 1 z7, .sl ⟨true, 95⟩ 3 z8, .sl ⟨true, 97⟩ 4 z9, .sl ⟨true, 111⟩ 2 z10, vb z11, .sl ⟨false, 100⟩ 2 z12], .row ⟨true, 9⟩ 1 z13], 2⟩
def Q2x.r2 (n : Nat) (c : Q2x.Z → Option (List AV × Int))  : Option (List AV × Int) :=
  some ([], 5)
def Q2x.r3 (n : Nat) (c : Q2x.Z → Option (List AV × Int)) (z1 : Bool) (z2 z3 : ByteArray) (z4 z5 : List AV) (z6 : Bool) (z7 z8 : ByteArray) (z9 z10 z11 z12 : List AV) (z13 : Bool) (z14 : List AV) : Option (List AV × Int) :=
  (Q3o.F n z1 z2 z3 z4 z5 z6 z7 z8 z9 z10 z11 z12 z13 z14).bind fun p4 =>
  bif p4 != 0 then (some ([], p4)) else (chk (decide (3 + z2.size ≤ 9223372036854775807)) (let y5 : ByteArray := (⟨#[80, 70, 32]⟩ : ByteArray) ++ z2
  bif z1 then (chk (decide (3 + z7.size ≤ 9223372036854775807)) (let y6 : ByteArray := (⟨#[76, 70, 32]⟩ : ByteArray) ++ z7
  bif z13 then (chk (decide (y6.size + 7 ≤ 9223372036854775807)) (let y7 : ByteArray := y6 ++ (⟨#[32, 85, 78, 73, 81, 85, 69]⟩ : ByteArray)
  c (.z13 z12 y7 z8 z1 z2 z3 z4 z5 z6 z7 z8 z9 z10 z11 z12 z13 z14 z7 z8 z9 z10 z11 z12 z13 z14))) else (c (.z13 z12 y6 z8 z1 z2 z3 z4 z5 z6 z7 z8 z9 z10 z11 z12 z13 z14 z7 z8 z9 z10 z11 z12 z13 z14)))) else (bif z6 then (chk (decide (y5.size + 7 ≤ 9223372036854775807)) (let y8 : ByteArray := y5 ++ (⟨#[32, 85, 78, 73, 81, 85, 69]⟩ : ByteArray)
  c (.z13 z5 y8 z3 z1 z2 z3 z4 z5 z6 z7 z8 z9 z10 z11 z12 z13 z14 z7 z8 z9 z10 z11 z12 z13 z14))) else (c (.z13 z5 y5 z3 z1 z2 z3 z4 z5 z6 z7 z8 z9 z10 z11 z12 z13 z14 z7 z8 z9 z10 z11 z12 z13 z14)))))
def Q2x.r13 (n : Nat) (c : Q2x.Z → Option (List AV × Int)) (z1 : List AV) (z2 z3 : ByteArray) (z4 : Bool) (z5 z6 : ByteArray) (z7 z8 : List AV) (z9 : Bool) (z10 z11 : ByteArray) (z12 z13 z14 z15 : List AV) (z16 : Bool) (z17 : List AV) (z18 z19 : ByteArray) (z20 z21 z22 z23 : List AV) (z24 : Bool) (z25 : List AV) : Option (List AV × Int) :=
  chk (decide (2 + z3.size ≤ 9223372036854775807)) (let y9 : ByteArray := (⟨#[82, 32]⟩ : ByteArray) ++ z3
  c (.z15 z1 0 z4 z5 z6 z7 z8 z9 z10 z11 z12 z13 z14 z15 z16 z17 z18 z19 z20 z21 z22 z23 z24 z25 [vs z2, vs y9]))
def Q2x.r15 (n : Nat) (c : Q2x.Z → Option (List AV × Int)) (z1 : List AV) (z2 : Int) (z3 : Bool) (z4 z5 : ByteArray) (z6 z7 : List AV) (z8 : Bool) (z9 z10 : ByteArray) (z11 z12 z13 z14 : List AV) (z15 : Bool) (z16 : List AV) (z17 z18 : ByteArray) (z19 z20 z21 z22 : List AV) (z23 : Bool) (z24 z25 : List AV) : Option (List AV × Int) :=
  let y10 : Bool := decide (z2 < ((z19.length : Nat) : Int))
  bif y10 then (bif decide ((0 : Int) ≤ z2) && decide (z2 < ((z19.length : Nat) : Int)) then (withCons ((z19.getD ((z2).toNat) .undef).cells) fun h11 r12 =>
  withStr h11 fun s13 =>
  chk (decide (2 + s13.size ≤ 9223372036854775807)) (let y14 : ByteArray := (⟨#[66, 32]⟩ : ByteArray) ++ s13
  bif decide (z25.length + [vs y14].length ≤ most) then (c (.z15 z1 (IntKind.i64.wrap (z2 + 1)) z3 z4 z5 z6 z7 z8 z9 z10 z11 z12 z13 z14 z15 z16 z17 z18 z19 z20 z21 z22 z23 z24 (z25 ++ [vs y14]))) else none)) else none) else (c (.z19 z1 0 z3 z4 z5 z6 z7 z8 z9 z10 z11 z12 z13 z14 z15 z16 z17 z18 z19 z20 z21 z22 z23 z24 z25))
def Q2x.r19 (n : Nat) (c : Q2x.Z → Option (List AV × Int)) (z1 : List AV) (z2 : Int) (z3 : Bool) (z4 z5 : ByteArray) (z6 z7 : List AV) (z8 : Bool) (z9 z10 : ByteArray) (z11 z12 z13 z14 : List AV) (z15 : Bool) (z16 : List AV) (z17 z18 : ByteArray) (z19 z20 z21 z22 : List AV) (z23 : Bool) (z24 z25 : List AV) : Option (List AV × Int) :=
  let y15 : Bool := decide (z2 < ((z21.length : Nat) : Int))
  bif y15 then (bif decide ((0 : Int) ≤ z2) && decide (z2 < ((z21.length : Nat) : Int)) then (withCons ((z21.getD ((z2).toNat) .undef).cells) fun h16 r17 =>
  withInt .i64 h16 fun x18 =>
  withCons r17 fun h19 r20 =>
  withStr h19 fun s21 =>
  withCons r20 fun h22 r23 =>
  withInt .i64 h22 fun x24 =>
  withCons r23 fun h25 r26 =>
  withStr h25 fun s27 =>
  (Q1q.F n x18).bind fun p28 =>
  chk (decide (2 + p28.size ≤ 9223372036854775807)) (let y29 : ByteArray := (⟨#[74, 32]⟩ : ByteArray) ++ p28
  chk (decide (y29.size + 1 ≤ 9223372036854775807)) (chk (decide ((y29 ++ (⟨#[32]⟩ : ByteArray)).size + s21.size ≤ 9223372036854775807)) (let y30 : ByteArray := (y29 ++ (⟨#[32]⟩ : ByteArray)) ++ s21
  chk (decide (y30.size + 1 ≤ 9223372036854775807)) ((Q1q.F n x24).bind fun p31 =>
  chk (decide ((y30 ++ (⟨#[32]⟩ : ByteArray)).size + p31.size ≤ 9223372036854775807)) (let y32 : ByteArray := (y30 ++ (⟨#[32]⟩ : ByteArray)) ++ p31
  chk (decide (y32.size + 1 ≤ 9223372036854775807)) (chk (decide ((y32 ++ (⟨#[32]⟩ : ByteArray)).size + s27.size ≤ 9223372036854775807)) (let y33 : ByteArray := (y32 ++ (⟨#[32]⟩ : ByteArray)) ++ s27
  bif decide (z25.length + [vs y33].length ≤ most) then (c (.z19 z1 (IntKind.i64.wrap (z2 + 1)) z3 z4 z5 z6 z7 z8 z9 z10 z11 z12 z13 z14 z15 z16 z17 z18 z19 z20 z21 z22 z23 z24 (z25 ++ [vs y33]))) else none)))))))) else none) else (c (.z24 z1 0 z3 z4 z5 z6 z7 z8 z9 z10 z11 z12 z13 z14 z15 z16 z17 z18 z19 z20 z21 z22 z23 z24 z25))
def Q2x.r24 (n : Nat) (c : Q2x.Z → Option (List AV × Int)) (z1 : List AV) (z2 : Int) (z3 : Bool) (z4 z5 : ByteArray) (z6 z7 : List AV) (z8 : Bool) (z9 z10 : ByteArray) (z11 z12 z13 z14 : List AV) (z15 : Bool) (z16 : List AV) (z17 z18 : ByteArray) (z19 z20 z21 z22 : List AV) (z23 : Bool) (z24 z25 : List AV) : Option (List AV × Int) :=
  let y34 : Bool := decide (z2 < ((z6.length : Nat) : Int))
  bif y34 then (bif decide ((0 : Int) ≤ z2) && decide (z2 < ((z6.length : Nat) : Int)) then (withCons ((z6.getD ((z2).toNat) .undef).cells) fun h35 r36 =>
  withStr h35 fun s37 =>
  withCons r36 fun h38 r39 =>
  withInt .i64 h38 fun x40 =>
  withCons r39 fun h41 r42 =>
  withInt .i64 h41 fun x43 =>
  withCons r42 fun h44 r45 =>
  withInt .i64 h44 fun x46 =>
  chk (decide (2 + s37.size ≤ 9223372036854775807)) (let y47 : ByteArray := (⟨#[70, 32]⟩ : ByteArray) ++ s37
  chk (decide (y47.size + 1 ≤ 9223372036854775807)) ((Q38.F n x40 x43 x46).bind fun p48 =>
  chk (decide ((y47 ++ (⟨#[32]⟩ : ByteArray)).size + p48.size ≤ 9223372036854775807)) (let y49 : ByteArray := (y47 ++ (⟨#[32]⟩ : ByteArray)) ++ p48
  bif decide (z25.length + [vs y49].length ≤ most) then (c (.z24 z1 (IntKind.i64.wrap (z2 + 1)) z3 z4 z5 z6 z7 z8 z9 z10 z11 z12 z13 z14 z15 z16 z17 z18 z19 z20 z21 z22 z23 z24 (z25 ++ [vs y49]))) else none)))) else none) else (c (.z29 z1 0 z17 z18 z19 z20 z21 z22 z23 z24 z25))
def Q2x.r29 (n : Nat) (c : Q2x.Z → Option (List AV × Int)) (z1 : List AV) (z2 : Int) (z3 z4 : ByteArray) (z5 z6 z7 z8 : List AV) (z9 : Bool) (z10 z11 : List AV) : Option (List AV × Int) :=
  let y50 : Bool := decide (z2 < ((z6.length : Nat) : Int))
  bif y50 then (bif decide ((0 : Int) ≤ z2) && decide (z2 < ((z6.length : Nat) : Int)) then (withCons ((z6.getD ((z2).toNat) .undef).cells) fun h51 r52 =>
  withStr h51 fun s53 =>
  withCons r52 fun h54 r55 =>
  withInt .i64 h54 fun x56 =>
  withCons r55 fun h57 r58 =>
  withStr h57 fun s59 =>
  chk (decide (2 + s53.size ≤ 9223372036854775807)) (let y60 : ByteArray := (⟨#[70, 32]⟩ : ByteArray) ++ s53
  chk (decide (y60.size + 1 ≤ 9223372036854775807)) ((Q1q.F n x56).bind fun p61 =>
  chk (decide ((y60 ++ (⟨#[32]⟩ : ByteArray)).size + p61.size ≤ 9223372036854775807)) (let y62 : ByteArray := (y60 ++ (⟨#[32]⟩ : ByteArray)) ++ p61
  chk (decide (y62.size + 1 ≤ 9223372036854775807)) (chk (decide ((y62 ++ (⟨#[32]⟩ : ByteArray)).size + s59.size ≤ 9223372036854775807)) (let y63 : ByteArray := (y62 ++ (⟨#[32]⟩ : ByteArray)) ++ s59
  bif decide (z11.length + [vs y63].length ≤ most) then (c (.z29 z1 (IntKind.i64.wrap (z2 + 1)) z3 z4 z5 z6 z7 z8 z9 z10 (z11 ++ [vs y63]))) else none)))))) else none) else (c (.z34 z1 0 z3 z4 z5 z6 z7 z8 z9 z10 z11))
def Q2x.r34 (n : Nat) (c : Q2x.Z → Option (List AV × Int)) (z1 : List AV) (z2 : Int) (z3 z4 : ByteArray) (z5 z6 z7 z8 : List AV) (z9 : Bool) (z10 z11 : List AV) : Option (List AV × Int) :=
  let y64 : Bool := decide (z2 < ((z1.length : Nat) : Int))
  bif y64 then (bif decide ((0 : Int) ≤ z2) && decide (z2 < ((z1.length : Nat) : Int)) then (withCons ((z1.getD ((z2).toNat) .undef).cells) fun h65 r66 =>
  withStr h65 fun s67 =>
  chk (decide (2 + s67.size ≤ 9223372036854775807)) (let y68 : ByteArray := (⟨#[75, 32]⟩ : ByteArray) ++ s67
  bif decide ((0 : Int) ≤ z2) && decide (z2 < ((z1.length : Nat) : Int)) then (withCons (((z1.getD ((z2).toNat) .undef).cells).drop 1) fun h69 r70 =>
  withBool h69 fun b71 =>
  bif b71 then (chk (decide (y68.size + 8 ≤ 9223372036854775807)) (let y72 : ByteArray := y68 ++ (⟨#[32, 68, 69, 83, 67, 69, 78, 68]⟩ : ByteArray)
  bif decide (z11.length + [vs y72].length ≤ most) then (c (.z34 z1 (IntKind.i64.wrap (z2 + 1)) z3 z4 z5 z6 z7 z8 z9 z10 (z11 ++ [vs y72]))) else none)) else (bif decide (z11.length + [vs y68].length ≤ most) then (c (.z34 z1 (IntKind.i64.wrap (z2 + 1)) z3 z4 z5 z6 z7 z8 z9 z10 (z11 ++ [vs y68]))) else none)) else none)) else none) else (c (.z42 false false 0 z3 z4 z5 z6 z7 z8 z9 z10 z11))
def Q2x.r42 (n : Nat) (c : Q2x.Z → Option (List AV × Int)) (z1 z2 : Bool) (z3 : Int) (z4 z5 : ByteArray) (z6 z7 z8 z9 : List AV) (z10 : Bool) (z11 z12 : List AV) : Option (List AV × Int) :=
  let y73 : Bool := decide (z3 < ((z11.length : Nat) : Int))
  bif y73 then (bif decide ((0 : Int) ≤ z3) && decide (z3 < ((z11.length : Nat) : Int)) then (withCons ((z11.getD ((z3).toNat) .undef).cells) fun h74 r75 =>
  withBool h74 fun b76 =>
  withCons r75 fun h77 r78 =>
  withSl ⟨true, 104⟩ 4 h77 fun xs79 =>
  (Q3l.F n b76 xs79).bind fun p80 =>
  bif z1 then (bif z2 then (c (.z46 true true z3 p80.1 z4 z5 z6 z7 z8 z9 z10 z11 z12)) else (let y81 : Bool := decide (((p80.1.size : Nat) : Int) > 240)
  c (.z46 true y81 z3 p80.1 z4 z5 z6 z7 z8 z9 z10 z11 z12))) else (bif z2 then (c (.z46 (!p80.2) true z3 p80.1 z4 z5 z6 z7 z8 z9 z10 z11 z12)) else (let y82 : Bool := decide (((p80.1.size : Nat) : Int) > 240)
  c (.z46 (!p80.2) y82 z3 p80.1 z4 z5 z6 z7 z8 z9 z10 z11 z12)))) else none) else (bif z1 then (some ([], 39)) else (bif z2 then (some ([], 2)) else (some (z12, 0))))
def Q2x.r43 (n : Nat) (c : Q2x.Z → Option (List AV × Int)) (z1 z2 : Bool) (z3 : Int) (z4 z5 : ByteArray) (z6 z7 z8 z9 : List AV) (z10 : Bool) (z11 z12 : List AV) : Option (List AV × Int) :=
  c (.z42 z1 z2 (IntKind.i64.wrap (z3 + 1)) z4 z5 z6 z7 z8 z9 z10 z11 z12)
def Q2x.r46 (n : Nat) (c : Q2x.Z → Option (List AV × Int)) (z1 z2 : Bool) (z3 : Int) (z4 z5 z6 : ByteArray) (z7 z8 z9 z10 : List AV) (z11 : Bool) (z12 z13 : List AV) : Option (List AV × Int) :=
  bif decide (z13.length + [vs z4].length ≤ most) then (c (.z43 z1 z2 z3 z5 z6 z7 z8 z9 z10 z11 z12 (z13 ++ [vs z4]))) else none
def Q2x.r (n : Nat) (c : Q2x.Z → Option (List AV × Int)) : Q2x.Z → Option (List AV × Int)
  | .z2 => Q2x.r2 n c
  | .z3 z1 z2 z3 z4 z5 z6 z7 z8 z9 z10 z11 z12 z13 z14 => Q2x.r3 n c z1 z2 z3 z4 z5 z6 z7 z8 z9 z10 z11 z12 z13 z14
  | .z13 z1 z2 z3 z4 z5 z6 z7 z8 z9 z10 z11 z12 z13 z14 z15 z16 z17 z18 z19 z20 z21 z22 z23 z24 z25 => Q2x.r13 n c z1 z2 z3 z4 z5 z6 z7 z8 z9 z10 z11 z12 z13 z14 z15 z16 z17 z18 z19 z20 z21 z22 z23 z24 z25
  | .z15 z1 z2 z3 z4 z5 z6 z7 z8 z9 z10 z11 z12 z13 z14 z15 z16 z17 z18 z19 z20 z21 z22 z23 z24 z25 => Q2x.r15 n c z1 z2 z3 z4 z5 z6 z7 z8 z9 z10 z11 z12 z13 z14 z15 z16 z17 z18 z19 z20 z21 z22 z23 z24 z25
  | .z19 z1 z2 z3 z4 z5 z6 z7 z8 z9 z10 z11 z12 z13 z14 z15 z16 z17 z18 z19 z20 z21 z22 z23 z24 z25 => Q2x.r19 n c z1 z2 z3 z4 z5 z6 z7 z8 z9 z10 z11 z12 z13 z14 z15 z16 z17 z18 z19 z20 z21 z22 z23 z24 z25
  | .z24 z1 z2 z3 z4 z5 z6 z7 z8 z9 z10 z11 z12 z13 z14 z15 z16 z17 z18 z19 z20 z21 z22 z23 z24 z25 => Q2x.r24 n c z1 z2 z3 z4 z5 z6 z7 z8 z9 z10 z11 z12 z13 z14 z15 z16 z17 z18 z19 z20 z21 z22 z23 z24 z25
  | .z29 z1 z2 z3 z4 z5 z6 z7 z8 z9 z10 z11 => Q2x.r29 n c z1 z2 z3 z4 z5 z6 z7 z8 z9 z10 z11
  | .z34 z1 z2 z3 z4 z5 z6 z7 z8 z9 z10 z11 => Q2x.r34 n c z1 z2 z3 z4 z5 z6 z7 z8 z9 z10 z11
  | .z42 z1 z2 z3 z4 z5 z6 z7 z8 z9 z10 z11 z12 => Q2x.r42 n c z1 z2 z3 z4 z5 z6 z7 z8 z9 z10 z11 z12
  | .z43 z1 z2 z3 z4 z5 z6 z7 z8 z9 z10 z11 z12 => Q2x.r43 n c z1 z2 z3 z4 z5 z6 z7 z8 z9 z10 z11 z12
  | .z46 z1 z2 z3 z4 z5 z6 z7 z8 z9 z10 z11 z12 z13 => Q2x.r46 n c z1 z2 z3 z4 z5 z6 z7 z8 z9 z10 z11 z12 z13
def Q2x.e (n : Nat) (c : Q2x.Z → Option (List AV × Int)) (a0 : Bool) (a1 a2 : ByteArray) (a3 a4 : List AV) (a5 : Bool) (a6 a7 : ByteArray) (a8 a9 a10 a11 : List AV) (a12 : Bool) (a13 : List AV) : Option (List AV × Int) :=
  bif a0 then ((Q33.F n a1 a2 a3 a4 a5 (⟨#[]⟩ : ByteArray) (⟨#[]⟩ : ByteArray) [] [] false).bind fun p1 =>
  bif !p1 then (c .z2) else (bif !a0 then ((Q35.F n a6 a7 a8 a9 a10 a11 a12 a13 (⟨#[]⟩ : ByteArray) (⟨#[]⟩ : ByteArray) [] [] [] [] false []).bind fun p2 =>
  bif !p2 then (c .z2) else (c (.z3 a0 a1 a2 a3 a4 a5 a6 a7 a8 a9 a10 a11 a12 a13))) else (c (.z3 a0 a1 a2 a3 a4 a5 a6 a7 a8 a9 a10 a11 a12 a13)))) else (bif !a0 then ((Q35.F n a6 a7 a8 a9 a10 a11 a12 a13 (⟨#[]⟩ : ByteArray) (⟨#[]⟩ : ByteArray) [] [] [] [] false []).bind fun p3 =>
  bif !p3 then (c .z2) else (c (.z3 a0 a1 a2 a3 a4 a5 a6 a7 a8 a9 a10 a11 a12 a13))) else (c (.z3 a0 a1 a2 a3 a4 a5 a6 a7 a8 a9 a10 a11 a12 a13)))
def Q2x.E (n : Nat) (c : Q2x.Z → Option (List AV × Int)) : Q2x.A → Option Q2x.T := fun (a0, a1, a2, a3, a4, a5, a6, a7, a8, a9, a10, a11, a12, a13) => Q2x.e n c a0 a1 a2 a3 a4 a5 a6 a7 a8 a9 a10 a11 a12 a13
def Q2x.l (n : Nat) : Nat → Q2x.Z → Option (List AV × Int) := loopL (Q2x.r n)
def Q2x.F (n : Nat) (a0 : Bool) (a1 a2 : ByteArray) (a3 a4 : List AV) (a5 : Bool) (a6 a7 : ByteArray) (a8 a9 a10 a11 : List AV) (a12 : Bool) (a13 : List AV) : Option (List AV × Int) := Q2x.e n (Q2x.l n n) a0 a1 a2 a3 a4 a5 a6 a7 a8 a9 a10 a11 a12 a13
def Q2x.FA (n : Nat) : Q2x.A → Option Q2x.T := Q2x.E n (Q2x.l n n)
theorem Q2x.hands (n : Nat) : ∀ a p, Q2x.FA n a = some p → HandsIn Tryz.prog 28 (Q2x.i a) (Q2x.p p) :=
  pf_hands (C := Q2x.C n) (cut := Q2x.cut) (t := Q2x.t) (s := Q2x.s) (e := Q2x.E n) (r := Q2x.r n) (n := n) cfg mixed globs rfl Q2x.qi (Q2x.tells n) Tryz.func28 (by kernel_rfl) (by kernel_rfl) (fun rec a => by kernel_rfl) (fun rec z => by cases z <;> kernel_rfl)
def Q2x.via {R : Type} (n : Nat) : List AV → (AV → Option R) → Option R := viaK (Q2x.FA n) Q2x.o Q2x.p
theorem Q2x.tells1 {R : Type} (n : Nat) (xs : List AV) : Tells1 (R := R) Tryz.prog 28 xs (Q2x.via n xs) := tells_via Q2x.oi (fun a => by kernel_rfl) (Q2x.hands n) xs
end Go.Proofs.YtmpglmcjoelciaaGreatDoor.Ev
end
