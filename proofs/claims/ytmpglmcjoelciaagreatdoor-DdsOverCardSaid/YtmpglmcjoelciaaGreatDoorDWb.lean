import Derived.Test.YtmpglmcjoelciaaGreatDoorDWa
noncomputable section
namespace Go.Proofs.YtmpglmcjoelciaaGreatDoor.Ev
open Go Go.Proofs Go.Proofs.Ev
set_option linter.unusedVariables false
def nmL (c : UInt8) : Bool := (decide (65 ≤ c.toNat) && decide (c.toNat ≤ 90)) || (decide (c = 35) || (decide (c = 36) || decide (c = 64)))
def nmO (c : UInt8) : Bool := isD c || (decide (c = 95) || decide (c = 46))
def chkN : Nat → List UInt8 → Bool
  | _, [] => true
  | i, c :: r => (nmL c || (decide (i ≠ 0) && nmO c)) && chkN (i + 1) r
theorem chkN_cons (i : Nat) (c : UInt8) (r : List UInt8) : chkN i (c :: r) = ((nmL c || (decide (i ≠ 0) && nmO c)) && chkN (i + 1) r) := rfl
def isNm (l : List UInt8) : Bool := (decide (1 ≤ l.length) && decide (l.length ≤ 10)) && chkN 0 l
theorem let3 {α : Type} (f : Bool → α) (a b c d e : Bool) : (bif a then (bif b then f true else (bif c then f true else (bif d then f true else f e))) else (bif c then f true else (bif d then f true else f e))) = f ((a && b) || (c || (d || e))) := by
  cases a <;> cases b <;> cases c <;> cases d <;> rfl
theorem let2 {α : Type} (g : Bool → α) (a b c d : Bool) : (bif a then (bif b then g true else (bif c then g true else g d)) else (bif c then g true else g d)) = g ((a && b) || (c || d)) := by
  cases a <;> cases b <;> cases c <;> rfl
theorem le_byte (c : UInt8) (k : Nat) : decide ((k : Int) ≤ ((c.toNat : Nat) : Int)) = decide (k ≤ c.toNat) := by rw [decide_eq_decide]; omega
theorem byte_le2 (c : UInt8) (k : Nat) : decide (((c.toNat : Nat) : Int) ≤ (k : Int)) = decide (c.toNat ≤ k) := by rw [decide_eq_decide]; omega
theorem isName_l (n : Nat) (l : List UInt8) (hl : l.length ≤ 1000) : ∀ (d i m : Nat), i + d = l.length → 3 * d < m → Q0r.l n m (.z4 l.length i (l.map fun b => vu b.toNat)) = some (chkN i (l.drop i))
  | _, _, 0, _, h => absurd h (by omega)
  | 0, i, m + 1, h, _ => by
    rw [Q0r.at4]
    unfold Q0r.r4
    rw [cond_f (by omega), List.drop_of_length_le (by omega)]
    rfl
  | d + 1, i, m + 1, h, hm => by
    have hi : i < l.length := by omega
    obtain ⟨m, rfl⟩ : ∃ q, m = q + 2 := ⟨m - 2, by omega⟩
    have ih := isName_l n l hl d (i + 1) m (by omega) (by omega)
    have e : (l.map fun b => vu b.toNat).getD (((i : Nat) : Int)).toNat AV.undef = vu l[i].toNat := by simp [List.getD_eq_getElem?_getD, hi]
    have h8 : ∀ z2 z3, Q0r.l n (m + 1) (.z8 i z2 z3 l.length i (l.map fun b => vu b.toNat)) = some ((z2 || (decide (i ≠ 0) && z3)) && chkN (i + 1) (l.drop (i + 1))) := by
      intro z2 z3
      rw [Q0r.at8]
      unfold Q0r.r8
      rw [wsucc (by omega), ih, beq_int]
      cases z2 with
      | true => rfl
      | false =>
        by_cases h0 : i = 0
        · subst h0; rfl
        · rw [Bool.not_false, cond_true, cond_f (by omega)]
          cases z3 <;> simp [h0]
    have h7 : ∀ b, Q0r.l n (m + 2) (.z7 i ((l[i].toNat : Nat) : Int) b l.length i (l.map fun b => vu b.toNat)) = some ((b || (decide (i ≠ 0) && nmO l[i])) && chkN (i + 1) (l.drop (i + 1))) := by
      intro b
      rw [Q0r.at7]
      unfold Q0r.r7
      rw [let2 (fun q => Q0r.l n (m + 1) (.z8 i b q l.length i (l.map fun b => vu b.toNat))), h8]
      unfold nmO isD
      rw [show (48 : Int) = ((48 : Nat) : Int) from rfl, le_byte, show (57 : Int) = ((57 : Nat) : Int) from rfl, byte_le2, show (95 : Int) = ((95 : Nat) : Int) from rfl, byte_eq _ 95 95 rfl, show (46 : Int) = ((46 : Nat) : Int) from rfl, byte_eq _ 46 46 rfl]
    rw [Q0r.at4]
    unfold Q0r.r4
    rw [cond_t (by omega), List.length_map, within_t hi, cond_true, e, List.drop_eq_getElem_cons hi]
    show (bif decide ((65 : Int) ≤ ((l[i].toNat : Nat) : Int)) then _ else _) = _
    rw [let3 (fun q => Q0r.l n (m + 2) (.z7 i ((l[i].toNat : Nat) : Int) q l.length i (l.map fun b => vu b.toNat))), h7]
    rw [chkN_cons]
    unfold nmL
    rw [show (65 : Int) = ((65 : Nat) : Int) from rfl, le_byte, show (90 : Int) = ((90 : Nat) : Int) from rfl, byte_le2, show (35 : Int) = ((35 : Nat) : Int) from rfl, byte_eq _ 35 35 rfl, show (36 : Int) = ((36 : Nat) : Int) from rfl, byte_eq _ 36 36 rfl,
      show (64 : Int) = ((64 : Nat) : Int) from rfl, byte_eq _ 64 64 rfl]
theorem isName_eq {n : Nat} (hn : 1001 ≤ n) (l : List UInt8) : Q0r.F n (bs l) = some (isNm l) := by
  unfold Q0r.F Q0r.e isNm
  rw [empty_eq]
  simp only [bs_size, bs_toList, List.length_map]
  by_cases h0 : l = []
  · rw [cond_t h0]
    subst h0
    rfl
  · have hpos : 0 < l.length := List.length_pos_iff.2 h0
    rw [cond_f h0]
    by_cases h1 : l.length > 10
    · rw [cond_t (by omega)]
      have : decide (l.length ≤ 10) = false := by rw [decide_eq_false_iff_not]; omega
      rw [this]; simp
    · rw [cond_f (by omega)]
      have h2 : decide (l.length ≤ 10) = true := by rw [decide_eq_true_eq]; omega
      have h3 : decide (1 ≤ l.length) = true := by rw [decide_eq_true_eq]; omega
      rw [h2, h3]
      have := isName_l n l (by omega) l.length 0 n (by omega) (by omega)
      rw [List.drop_zero] at this
      exact this
theorem isUpper_eq (n : Nat) (c : UInt8) : Q1u.F n ((c.toNat : Nat) : Int) = some (decide (65 ≤ c.toNat) && decide (c.toNat ≤ 90)) := by
  unfold Q1u.F Q1u.e
  rw [show (65 : Int) = ((65 : Nat) : Int) from rfl, le_byte, show (90 : Int) = ((90 : Nat) : Int) from rfl, byte_le2]
  cases decide (65 ≤ c.toNat) <;> rfl
theorem isDig_eq (n : Nat) (c : UInt8) : Q1s.F n ((c.toNat : Nat) : Int) = some (isD c) := by
  unfold Q1s.F Q1s.e isD
  rw [show (48 : Int) = ((48 : Nat) : Int) from rfl, le_byte, show (57 : Int) = ((57 : Nat) : Int) from rfl, byte_le2]
  cases decide (48 ≤ c.toNat) <;> rfl
theorem let3' {α : Type} (f : Bool → α) (p c d e : Bool) : (bif p then f true else (bif c then f true else (bif d then f true else f e))) = f (p || (d || (c || e))) := by
  cases p <;> cases c <;> cases d <;> rfl
theorem isNameR_l (n : Nat) (l : List UInt8) (hl : l.length ≤ 1000) : ∀ (d i m : Nat), i + d = l.length → 3 * d < m → Q1t.l n m (.z4 (bs l) i) = some (chkN i (l.drop i))
  | _, _, 0, _, h => absurd h (by omega)
  | 0, i, m + 1, h, _ => by
    rw [Q1t.at4]
    unfold Q1t.r4
    simp only [bs_size]
    rw [cond_f (by omega), List.drop_of_length_le (by omega)]
    rfl
  | d + 1, i, m + 1, h, hm => by
    have hi : i < l.length := by omega
    obtain ⟨m, rfl⟩ : ∃ q, m = q + 2 := ⟨m - 2, by omega⟩
    have ih := isNameR_l n l hl d (i + 1) m (by omega) (by omega)
    have h5 : Q1t.l n (m + 1) (.z5 (bs l) i) = some (chkN (i + 1) (l.drop (i + 1))) := by
      rw [Q1t.at5]
      unfold Q1t.r5
      rw [wsucc (by omega), ih]
    have h8 : ∀ b, Q1t.l n (m + 2) (.z8 (bs l) i ((l[i].toNat : Nat) : Int) b) = some ((b || (decide (i ≠ 0) && nmO l[i])) && chkN (i + 1) (l.drop (i + 1))) := by
      intro b
      rw [Q1t.at8]
      unfold Q1t.r8
      rw [isDig_eq, Option.bind_some, h5, beq_int, show (95 : Int) = ((95 : Nat) : Int) from rfl, byte_ne _ 95 95 rfl, show (46 : Int) = ((46 : Nat) : Int) from rfl, byte_ne _ 46 46 rfl]
      unfold nmO
      cases b with
      | true => rfl
      | false =>
        by_cases h0 : i = 0
        · subst h0; rfl
        · rw [Bool.not_false, cond_true, cond_f (by omega)]
          by_cases h1 : l[i] = 95 <;> by_cases h2 : l[i] = 46 <;> cases isD l[i] <;> simp [h0, h1, h2]
    rw [Q1t.at4]
    unfold Q1t.r4
    simp only [bs_size, within_t hi, Int.toNat_natCast, getD_at hi, cond_true]
    rw [cond_t (by omega), isUpper_eq, Option.bind_some, let3' (fun q => Q1t.l n (m + 2) (.z8 (bs l) i ((l[i].toNat : Nat) : Int) q)), h8, List.drop_eq_getElem_cons hi]
    rw [chkN_cons]
    unfold nmL
    rw [show (35 : Int) = ((35 : Nat) : Int) from rfl, byte_eq _ 35 35 rfl, show (36 : Int) = ((36 : Nat) : Int) from rfl, byte_eq _ 36 36 rfl,
      show (64 : Int) = ((64 : Nat) : Int) from rfl, byte_eq _ 64 64 rfl]
theorem isNameR_eq {n : Nat} (hn : 1001 ≤ n) (l : List UInt8) : Q1t.F n (bs l) = some (isNm l) := by
  unfold Q1t.F Q1t.e isNm
  rw [Within_eq, Option.bind_some, bs_size]
  have e : decide ((1 : Int) ≤ ((l.length : Nat) : Int) ∧ ((l.length : Nat) : Int) ≤ 10) = (decide (1 ≤ l.length) && decide (l.length ≤ 10)) := by
    rw [← Bool.decide_and, decide_eq_decide]; omega
  rw [e]
  cases h : (decide (1 ≤ l.length) && decide (l.length ≤ 10)) with
  | false => rfl
  | true =>
    rw [Bool.and_eq_true, decide_eq_true_eq, decide_eq_true_eq] at h
    have := isNameR_l n l (by omega) l.length 0 n (by omega) (by omega)
    rw [List.drop_zero] at this
    exact this
def ixs : List (List UInt8) → List UInt8 → Nat → Int
  | [], _, _ => -1
  | w :: r, s, i => if w = s then (i : Int) else ixs r s (i + 1)
theorem ixs_cons (w : List UInt8) (r : List (List UInt8)) (s : List UInt8) (i : Nat) : ixs (w :: r) s i = if w = s then (i : Int) else ixs r s (i + 1) := rfl
theorem ixs_has : ∀ (ws : List (List UInt8)) (s : List UInt8) (i : Nat), decide (ixs ws s i ≥ 0) = ws.contains s
  | [], s, i => by simp [ixs]
  | w :: r, s, i => by
    unfold ixs
    rw [List.contains_cons]
    by_cases h : w = s
    · subst h; simp
    · have : (s == w) = false := by simpa using fun e => h e.symm
      rw [if_neg h, this, Bool.false_or, ixs_has r s (i + 1)]
theorem ixs_lt : ∀ (ws : List (List UInt8)) (s : List UInt8) (i k : Nat), k < ws.length → ws[k]? = some s → decide (ixs ws s i < ((i + k : Nat) : Int)) = (ws.take k).contains s
  | w :: r, s, i, 0, _, h => by
    simp at h
    subst h
    simp [ixs]
  | w :: r, s, i, k + 1, hk, h => by
    unfold ixs
    rw [List.take_succ_cons, List.contains_cons]
    by_cases e : w = s
    · subst e; simp; omega
    · have : (s == w) = false := by simpa using fun e' => e e'.symm
      rw [if_neg e, this, Bool.false_or, ← ixs_lt r s (i + 1) k (by simpa using hk) (by simpa using h), show i + (k + 1) = i + 1 + k by omega]
theorem Ws_getD {ws : List (List UInt8)} {i : Nat} (hi : i < ws.length) : (Ws ws).getD (((i : Nat) : Int)).toNat AV.undef = vs (bs ws[i]) := by simp [Ws, List.getD_eq_getElem?_getD, hi]
theorem str_eq (a b : List UInt8) : ((bs a).toList == (bs b).toList) = decide (a = b) := by
  rw [bs_toList, bs_toList]
  by_cases h : a = b <;> simp [h]
theorem index_l (n : Nat) (ws : List (List UInt8)) (hw : ws.length ≤ 1000) (s : List UInt8) : ∀ (d i m : Nat), i + d = ws.length → d < m → Q4c.l n m (.z2 (Ws ws) (bs s) ws.length i) = some (ixs (ws.drop i) s i)
  | _, _, 0, _, h => absurd h (by omega)
  | 0, i, m + 1, h, _ => by
    rw [Q4c.at2]
    unfold Q4c.r2
    rw [cond_f (by omega), List.drop_of_length_le (by omega)]
    rfl
  | d + 1, i, m + 1, h, hm => by
    have hi : i < ws.length := by omega
    have ih := index_l n ws hw s d (i + 1) m (by omega) (by omega)
    rw [Q4c.at2]
    unfold Q4c.r2
    rw [cond_t (by omega), Ws_length, within_t hi, cond_true, Ws_getD hi, List.drop_eq_getElem_cons hi]
    show (bif ((bs s).toList == (bs ws[i]).toList) then _ else _) = _
    rw [str_eq, wsucc (by omega), ih, ixs_cons]
    by_cases h : s = ws[i]
    · rw [cond_t h, if_pos h.symm]
    · rw [cond_f h, if_neg (fun e => h e.symm)]
theorem contains_str {n : Nat} (hn : 1001 ≤ n) (ws : List (List UInt8)) (hw : ws.length ≤ 1000) (s : List UInt8) : Q48.F n (Ws ws) (bs s) = some (ws.contains s) := by
  unfold Q48.F Q48.e Q4c.F Q4c.e
  have := index_l n ws hw s ws.length 0 n (by omega) (by omega)
  rw [List.drop_zero] at this
  rw [Ws_length, show (0 : Int) = ((0 : Nat) : Int) from rfl, this, Option.bind_some]
  show some (decide (ixs ws s 0 ≥ 0)) = _
  rw [ixs_has]
theorem indexOf_l (n : Nat) (ws : List (List UInt8)) (hw : ws.length ≤ 1000) (s : List UInt8) : ∀ (d i m : Nat), i + d = ws.length → d < m → Q1r.l n m (.z2 (Ws ws) (bs s) i) = some (ixs (ws.drop i) s i)
  | _, _, 0, _, h => absurd h (by omega)
  | 0, i, m + 1, h, _ => by
    rw [Q1r.at2]
    unfold Q1r.r2
    simp only [Ws_length]
    rw [cond_f (by omega), List.drop_of_length_le (by omega)]
    rfl
  | d + 1, i, m + 1, h, hm => by
    have hi : i < ws.length := by omega
    have ih := indexOf_l n ws hw s d (i + 1) m (by omega) (by omega)
    rw [Q1r.at2]
    unfold Q1r.r2
    simp only [Ws_length]
    rw [cond_t (by omega), within_t hi, cond_true, Ws_getD hi, List.drop_eq_getElem_cons hi]
    show (bif ((bs ws[i]).toList == (bs s).toList) then _ else _) = _
    rw [str_eq, wsucc (by omega), ih, ixs_cons]
    by_cases h : ws[i] = s
    · rw [cond_t h, if_pos h]
    · rw [cond_f h, if_neg h]
theorem indexOf_eq {n : Nat} (hn : 1001 ≤ n) (ws : List (List UInt8)) (hw : ws.length ≤ 1000) (s : List UInt8) : Q1r.F n (Ws ws) (bs s) = some (ixs ws s 0) := by
  unfold Q1r.F Q1r.e
  have := indexOf_l n ws hw s ws.length 0 n (by omega) (by omega)
  rw [List.drop_zero] at this
  exact this
theorem nameErr_eq {n : Nat} (hn : 1001 ≤ n) (ws : List (List UInt8)) (hw : ws.length ≤ 1000) (s : List UInt8) : Q0y.F n (bs s) (Ws ws) = some (if isNm s = false then 7 else if ws.contains s then 13 else 0) := by
  unfold Q0y.F Q0y.e
  rw [isName_eq hn, Option.bind_some, cond_eq, Option.bind_some, contains_str hn ws hw, Option.bind_some, cond_eq, Option.bind_some, first2 hn, Option.bind_some]
  cases isNm s <;> cases ws.contains s <;> rfl
theorem Ws_take (ws : List (List UInt8)) (i : Nat) : ((Ws ws).take i).drop 0 = Ws (ws.take i) := by simp [Ws, List.map_take]
theorem Ws_take2 (ws : List (List UInt8)) (i : Nat) : ((Ws ws).drop 0).take i = Ws (ws.take i) := by simp [Ws, List.map_take]
end Go.Proofs.YtmpglmcjoelciaaGreatDoor.Ev
namespace Go.Proofs.YtmpglmcjoelciaaGreatDoor.Ev
open Go Go.Proofs Go.Proofs.Ev
set_option linter.unusedVariables false
structure LF where
  nm : List UInt8
  b : Int
  fd : List UInt8
structure JP where
  fr : Int
  lf : List UInt8
  b : Int
  rt : List UInt8
structure KF where
  nm : List UInt8
  d : Bool
structure CN where
  fd : List UInt8
  op : Int
  n : Int
  s : List UInt8
structure RL where
  om : Bool
  cs : List CN
def LF.av (x : LF) : AV := .agg [vs (bs x.nm), vi x.b, vs (bs x.fd)]
def JP.av (x : JP) : AV := .agg [vi x.fr, vs (bs x.lf), vi x.b, vs (bs x.rt)]
def KF.av (x : KF) : AV := .agg [vs (bs x.nm), vb x.d]
def CN.av (x : CN) : AV := .agg [vs (bs x.fd), vi x.op, vi x.n, vs (bs x.s)]
def RL.av (x : RL) : AV := .agg [vb x.om, .sl ⟨true, 104⟩ 4 (x.cs.map CN.av)]
theorem at_map {α : Type} (f : α → AV) {l : List α} {i : Nat} (hi : i < l.length) : (l.map f).getD (((i : Nat) : Int)).toNat AV.undef = f l[i] := by simp [List.getD_eq_getElem?_getD, hi]
def names (fs : List LF) : List (List UInt8) := fs.map LF.nm
def knames (ks : List KF) : List (List UInt8) := ks.map KF.nm
def Bl (ts : List Bool) : List AV := ts.map vb
theorem Bl_length (ts : List Bool) : (Bl ts).length = ts.length := by simp [Bl]
def ne (before : List (List UInt8)) (s : List UInt8) : Int := if isNm s = false then 7 else if before.contains s then 13 else 0
def bErr (ws : List (List UInt8)) : List (List UInt8) → Nat → Int × Int
  | [], _ => (0, 0)
  | w :: r, i => if ne (ws.take i) w ≠ 0 then ((i : Int), ne (ws.take i) w) else bErr ws r (i + 1)
def fe (nb : Int) (before : List (List UInt8)) (f : LF) : Int := if ne before f.nm ≠ 0 then ne before f.nm else if ¬ (0 ≤ f.b ∧ f.b ≤ nb) then 3 else if isNm f.fd = false then 7 else 0
def fErr (nb : Int) (ns : List (List UInt8)) : List LF → Nat → Int × Int
  | [], _ => (0, 0)
  | f :: r, i => if fe nb (ns.take i) f ≠ 0 then ((i : Int), fe nb (ns.take i) f) else fErr nb ns r (i + 1)
def je (nb last : Int) (j : JP) : Int := if ¬ (1 ≤ j.b ∧ j.b ≤ nb) then 3 else if ¬ (0 ≤ j.fr ∧ j.fr ≤ j.b - 1) then 3 else if isNm j.lf = false then 7 else if isNm j.rt = false then 7 else if j.b < last then 14 else 0
def jErr (nb : Int) : List JP → Nat → Int → List Bool → Int × Int
  | [], _, _, ts => (0, if (ts.drop 1).contains false then 11 else 0)
  | j :: r, i, last, ts => if je nb last j ≠ 0 then ((i : Int), je nb last j) else jErr nb r (i + 1) j.b (ts.set j.b.toNat true)
def ke (ns before : List (List UInt8)) (k : KF) : Int := if ns.contains k.nm = false then 11 else if before.contains k.nm then 13 else 0
def kErr (ns ks : List (List UInt8)) : List KF → Nat → Int × Int
  | [], _ => (0, 0)
  | k :: r, i => if ke ns (ks.take i) k ≠ 0 then ((i : Int), ke ns (ks.take i) k) else kErr ns ks r (i + 1)
def ce (ns : List (List UInt8)) (c : CN) : Int := if ns.contains c.fd = false then 11 else if ¬ (0 ≤ c.op ∧ c.op ≤ 5) then 4 else if ¬ (-999999999999999 ≤ c.n ∧ c.n ≤ 999999999999999) then 3 else if c.s.length > 256 then 2 else if c.n ≠ 0 ∧ c.s ≠ [] then 5 else 0
def cErr (ns : List (List UInt8)) : List CN → Int
  | [] => 0
  | c :: r => if ce ns c ≠ 0 then ce ns c else cErr ns r
def re (ns : List (List UInt8)) (r : RL) : Int := if r.cs.length > 4 then 2 else cErr ns r.cs
def rErr (ns : List (List UInt8)) : List RL → Nat → Int × Int
  | [], _ => (0, 0)
  | r :: rs, i => if re ns r ≠ 0 then ((i : Int), re ns r) else rErr ns rs (i + 1)
theorem bErr_cons (ws : List (List UInt8)) (w : List UInt8) (r : List (List UInt8)) (i : Nat) : bErr ws (w :: r) i = if ne (ws.take i) w ≠ 0 then ((i : Int), ne (ws.take i) w) else bErr ws r (i + 1) := rfl
theorem fErr_cons (nb : Int) (ns : List (List UInt8)) (f : LF) (r : List LF) (i : Nat) : fErr nb ns (f :: r) i = if fe nb (ns.take i) f ≠ 0 then ((i : Int), fe nb (ns.take i) f) else fErr nb ns r (i + 1) := rfl
theorem jErr_cons (nb : Int) (j : JP) (r : List JP) (i : Nat) (last : Int) (ts : List Bool) : jErr nb (j :: r) i last ts = if je nb last j ≠ 0 then ((i : Int), je nb last j) else jErr nb r (i + 1) j.b (ts.set j.b.toNat true) := rfl
theorem kErr_cons (ns ks : List (List UInt8)) (k : KF) (r : List KF) (i : Nat) : kErr ns ks (k :: r) i = if ke ns (ks.take i) k ≠ 0 then ((i : Int), ke ns (ks.take i) k) else kErr ns ks r (i + 1) := rfl
theorem cErr_cons (ns : List (List UInt8)) (c : CN) (r : List CN) : cErr ns (c :: r) = if ce ns c ≠ 0 then ce ns c else cErr ns r := rfl
theorem rErr_cons (ns : List (List UInt8)) (r : RL) (rs : List RL) (i : Nat) : rErr ns (r :: rs) i = if re ns r ≠ 0 then ((i : Int), re ns r) else rErr ns rs (i + 1) := rfl
section
variable {n : Nat} {nm fm : ByteArray} {a2 a4 a5 a7 : List AV} {uq : Bool}
theorem namesOf_l (hn : 1001 ≤ n) (fs : List LF) (hf : fs.length ≤ 1000) : ∀ (d i m : Nat), i + d = fs.length → d < m → Q0z.l n m (.z3 (fs.map LF.av) fs.length i (Ws ((names fs).take i))) = some (Ws (names fs))
  | _, _, 0, _, h => absurd h (by omega)
  | 0, i, m + 1, h, _ => by
    rw [Q0z.at3]
    unfold Q0z.r3
    rw [cond_f (by omega), List.take_of_length_le (by simp [names]; omega)]
  | d + 1, i, m + 1, h, hm => by
    have hi : i < fs.length := by omega
    have ih := namesOf_l hn fs hf d (i + 1) m (by omega) (by omega)
    have hmost : most = 1000000000 := rfl
    have hni : i < (names fs).length := by simp [names]; omega
    have e2 : (names fs)[i] = fs[i].nm := by simp [names]
    rw [Q0z.at3]
    unfold Q0z.r3
    rw [cond_t (by omega), List.length_map, within_t hi, cond_true, at_map LF.av hi]
    show (bif decide ((Ws ((names fs).take i)).length + 1 ≤ most) then (Q0z.l n m (.z3 (fs.map LF.av) fs.length (IntKind.i64.wrap ((i : Int) + 1)) (Ws ((names fs).take i) ++ [vs (bs fs[i].nm)]))) else none) = _
    rw [cond_t (by rw [Ws_length, List.length_take]; omega), wsucc (by omega), Ws_snoc, ← e2, ← List.take_succ_eq_append_getElem hni]
    exact ih
theorem namesOf_eq (hn : 1001 ≤ n) (fs : List LF) (hf : fs.length ≤ 1000) : Q0z.F n nm fm a2 (fs.map LF.av) a4 a5 uq a7 = some (Ws (names fs)) := by
  unfold Q0z.F Q0z.e
  rw [List.length_map]
  exact namesOf_l hn fs hf fs.length 0 n (by omega) (by omega)
theorem basesErr_l (hn : 1001 ≤ n) (ws : List (List UInt8)) (hw : ws.length ≤ 1000) (a3 : List AV) : ∀ (d i m : Nat), i + d = ws.length → d < m → Q0e.l n m (.z5 (Ws ws) ws.length i nm fm (Ws ws) a3 a4 a5 uq a7) = some (bErr ws (ws.drop i) i)
  | _, _, 0, _, h => absurd h (by omega)
  | 0, i, m + 1, h, _ => by
    rw [Q0e.at5]
    unfold Q0e.r5
    rw [cond_f (by omega), List.drop_of_length_le (by omega)]
    rfl
  | d + 1, i, m + 1, h, hm => by
    have hi : i < ws.length := by omega
    have ih := basesErr_l hn ws hw a3 d (i + 1) m (by omega) (by omega)
    rw [Q0e.at5]
    unfold Q0e.r5
    rw [cond_t (by omega), Ws_length, within_t hi, cond_true, Ws_getD hi, upto_t (Nat.le_of_lt hi), List.drop_eq_getElem_cons hi]
    show (Q0y.F n (bs ws[i]) (((Ws ws).take i).drop 0)).bind _ = _
    rw [Ws_take, nameErr_eq hn _ (by rw [List.length_take]; omega), Option.bind_some, wsucc (by omega), ih]
    rw [bErr_cons]
    show (bif ne (ws.take i) ws[i] != 0 then some ((i : Int), ne (ws.take i) ws[i]) else _) = _
    by_cases h0 : ne (ws.take i) ws[i] = 0
    · have : (ne (ws.take i) ws[i] != 0) = false := by simp [h0]
      rw [this, cond_false, if_neg (by simp [h0])]
    · have : (ne (ws.take i) ws[i] != 0) = true := by simp [h0]
      rw [this, cond_true, if_pos h0]
def bErrT (ws : List (List UInt8)) : Int × Int := if ws.length = 0 then (0, 1) else if ws.length > 3 then (0, 2) else bErr ws ws 0
theorem sizes_first {n : Nat} (hn : 1001 ≤ n) (a b : Bool) : Q0m.F n [vi (if a then 1 else 0), vi (if b then 2 else 0)] = some (if a then 1 else if b then 2 else 0) := by
  rw [first2 hn]
  cases a <;> cases b <;> rfl
theorem basesErr_eq (hn : 1001 ≤ n) (ws : List (List UInt8)) (hw : ws.length ≤ 1000) (a3 : List AV) : Q0e.F n nm fm (Ws ws) a3 a4 a5 uq a7 = some (bErrT ws) := by
  unfold Q0e.F Q0e.e bErrT
  simp only [Ws_length]
  rw [cond_eq, Option.bind_some, cond_eq, Option.bind_some, sizes_first hn, Option.bind_some, beq_int]
  by_cases h0 : ws.length = 0
  · have : decide (((ws.length : Nat) : Int) = 0) = true := by rw [decide_eq_true_eq]; omega
    rw [this, if_pos h0]
    rfl
  · have : decide (((ws.length : Nat) : Int) = 0) = false := by rw [decide_eq_false_iff_not]; omega
    rw [this, if_neg h0]
    by_cases h3 : ws.length > 3
    · have : decide (((ws.length : Nat) : Int) > 3) = true := by rw [decide_eq_true_eq]; omega
      rw [this, if_pos h3]
      rfl
    · have : decide (((ws.length : Nat) : Int) > 3) = false := by rw [decide_eq_false_iff_not]; omega
      rw [this, if_neg h3]
      have := basesErr_l (nm := nm) (fm := fm) (a4 := a4) (a5 := a5) (uq := uq) (a7 := a7) hn ws hw a3 ws.length 0 n (by omega) (by omega)
      rw [List.drop_zero] at this
      exact this
theorem fieldsErr_l (hn : 1001 ≤ n) (ws : List (List UInt8)) (hw : ws.length ≤ 1000) (fs : List LF) (hf : fs.length ≤ 1000) : ∀ (d i m : Nat), i + d = fs.length → d < m →
    Q0i.l n m (.z6 (fs.map LF.av) fs.length i nm fm (Ws ws) (fs.map LF.av) a4 a5 uq a7 (Ws (names fs))) = some (fErr ((ws.length : Int) - 1) (names fs) (fs.drop i) i)
  | _, _, 0, _, h => absurd h (by omega)
  | 0, i, m + 1, h, _ => by
    rw [Q0i.at6]
    unfold Q0i.r6
    rw [cond_f (by omega), List.drop_of_length_le (by omega)]
    rfl
  | d + 1, i, m + 1, h, hm => by
    have hi : i < fs.length := by omega
    have hni : (names fs).length = fs.length := by simp [names]
    have ih := fieldsErr_l hn ws hw fs hf d (i + 1) m (by omega) (by omega)
    rw [Q0i.at6]
    unfold Q0i.r6
    rw [cond_t (by omega), List.length_map, within_t hi, cond_true, at_map LF.av hi, List.drop_eq_getElem_cons hi]
    show (bif decide ((0 : Int) ≤ (i : Int)) && decide ((i : Int) ≤ (((Ws (names fs)).length : Nat) : Int)) then ((Q0y.F n (bs fs[i].nm) (((Ws (names fs)).drop 0).take (((i : Int) - 0).toNat))).bind _) else none) = _
    rw [Ws_length, upto_t (by omega), cond_true, show ((i : Int) - 0).toNat = i by omega, Ws_take2, nameErr_eq hn _ (by rw [List.length_take]; omega), Option.bind_some]
    show ((Q0o.F n fs[i].b 0 (IntKind.i64.wrap ((((Ws ws).length : Nat) : Int) - 1))).bind _) = _
    rw [Ws_length, w64 (by omega) (by omega)]
    have hin : Q0o.F n fs[i].b 0 ((ws.length : Int) - 1) = some (decide (0 ≤ fs[i].b ∧ fs[i].b ≤ (ws.length : Int) - 1)) := by
      unfold Q0o.F Q0o.e
      by_cases h : 0 ≤ fs[i].b
      · rw [cond_t h]; simp [h]
      · rw [cond_f h]; simp [h]
    rw [hin, Option.bind_some, cond_eq, Option.bind_some, isName_eq hn, Option.bind_some, cond_eq, Option.bind_some, wsucc (by omega), ih]
    rw [fErr_cons]
    have hfz := first_eq (n := n) [ne ((names fs).take i) fs[i].nm, (if (!decide (0 ≤ fs[i].b ∧ fs[i].b ≤ (ws.length : Int) - 1)) = true then 3 else 0), (if (!isNm fs[i].fd) = true then 7 else 0)] (by simp) hn
    show ((Q0m.F n ([ne ((names fs).take i) fs[i].nm, (if (!decide (0 ≤ fs[i].b ∧ fs[i].b ≤ (ws.length : Int) - 1)) = true then 3 else 0), (if (!isNm fs[i].fd) = true then 7 else 0)].map vi)).bind _) = _
    rw [hfz, Option.bind_some]
    have e : fz [ne ((names fs).take i) fs[i].nm, (if (!decide (0 ≤ fs[i].b ∧ fs[i].b ≤ (ws.length : Int) - 1)) = true then 3 else 0), (if (!isNm fs[i].fd) = true then 7 else 0)] = fe ((ws.length : Int) - 1) ((names fs).take i) fs[i] := by
      unfold fe
      by_cases h1 : ne ((names fs).take i) fs[i].nm = 0
      · by_cases h2 : 0 ≤ fs[i].b ∧ fs[i].b ≤ (ws.length : Int) - 1
        · cases h3 : isNm fs[i].fd <;> simp [fz, h1, h2]
        · simp [fz, h1, h2]
      · simp [fz, h1]
    rw [e]
    by_cases h0 : fe ((ws.length : Int) - 1) ((names fs).take i) fs[i] = 0
    · have : (fe ((ws.length : Int) - 1) ((names fs).take i) fs[i] != 0) = false := by simp [h0]
      rw [this, cond_false, if_neg (by simp [h0])]
    · have : (fe ((ws.length : Int) - 1) ((names fs).take i) fs[i] != 0) = true := by simp [h0]
      rw [this, cond_true, if_pos h0]
def fErrT (ws : List (List UInt8)) (fs : List LF) : Int × Int := if fs.length = 0 then (0, 1) else if fs.length > 20 then (0, 2) else fErr ((ws.length : Int) - 1) (names fs) fs 0
theorem fieldsErr_eq (hn : 1001 ≤ n) (ws : List (List UInt8)) (hw : ws.length ≤ 1000) (fs : List LF) (hf : fs.length ≤ 1000) : Q0i.F n nm fm (Ws ws) (fs.map LF.av) a4 a5 uq a7 = some (fErrT ws fs) := by
  unfold Q0i.F Q0i.e fErrT
  simp only [List.length_map]
  rw [cond_eq, Option.bind_some, cond_eq, Option.bind_some, sizes_first hn, Option.bind_some, beq_int]
  by_cases h0 : fs.length = 0
  · have : decide (((fs.length : Nat) : Int) = 0) = true := by rw [decide_eq_true_eq]; omega
    rw [this, if_pos h0]
    rfl
  · have : decide (((fs.length : Nat) : Int) = 0) = false := by rw [decide_eq_false_iff_not]; omega
    rw [this, if_neg h0]
    by_cases h3 : fs.length > 20
    · have : decide (((fs.length : Nat) : Int) > 20) = true := by rw [decide_eq_true_eq]; omega
      rw [this, if_pos h3]
      rfl
    · have : decide (((fs.length : Nat) : Int) > 20) = false := by rw [decide_eq_false_iff_not]; omega
      rw [this, if_neg h3]
      show ((Q0z.F n nm fm (Ws ws) (fs.map LF.av) a4 a5 uq a7).bind _) = _
      rw [namesOf_eq hn fs hf, Option.bind_some]
      have := fieldsErr_l (nm := nm) (fm := fm) (a4 := a4) (a5 := a5) (uq := uq) (a7 := a7) hn ws hw fs hf fs.length 0 n (by omega) (by omega)
      rw [List.drop_zero] at this
      exact this
end
end Go.Proofs.YtmpglmcjoelciaaGreatDoor.Ev
namespace Go.Proofs.YtmpglmcjoelciaaGreatDoor.Ev
open Go Go.Proofs Go.Proofs.Ev
set_option linter.unusedVariables false
section
variable {R : Type}
theorem cells_agg (cs : List AV) : (AV.agg cs).cells = cs := rfl
theorem cells_v (x : Value) : (AV.v x).cells = [.v x] := rfl
theorem withCons_cons (c : AV) (r : List AV) (K : AV → List AV → Option R) : withCons (c :: r) K = K c r := rfl
theorem withInt_mk (k : IntKind) (n : Int) (K : Int → Option R) : withInt k (.v (.int k n)) K = K n := by simp [withInt]
theorem withStr_mk (s : ByteArray) (K : ByteArray → Option R) : withStr (.v (.string s)) K = K s := rfl
theorem withBool_mk (b : Bool) (K : Bool → Option R) : withBool (.v (.bool b)) K = K b := rfl
theorem withSl_mk (fl : Fl) (sz : Nat) (xs : List AV) (K : List AV → Option R) : withSl fl sz (.sl fl sz xs) K = K xs := by
  have : (fl == fl) = true := by simp
  simp [withSl]
theorem bif_ite {p : Prop} [Decidable p] (x y : R) : (bif decide p then x else y) = if p then x else y := by by_cases h : p <;> simp [h]
theorem bif_eq0 (a b : Int) (x y : R) : (bif a == b then x else y) = if a = b then x else y := by
  show (bif decide (a = b) then x else y) = _
  exact bif_ite x y
theorem at_mapN {α : Type} (f : α → AV) {l : List α} {i : Nat} (hi : i < l.length) : (l.map f).getD i AV.undef = f l[i] := by simp [List.getD_eq_getElem?_getD, hi]
theorem Ws_getDN {ws : List (List UInt8)} {i : Nat} (hi : i < ws.length) : (Ws ws).getD i AV.undef = vs (bs ws[i]) := by simp [Ws, List.getD_eq_getElem?_getD, hi]
end
end Go.Proofs.YtmpglmcjoelciaaGreatDoor.Ev
namespace Go.Proofs.YtmpglmcjoelciaaGreatDoor.Ev
open Go Go.Proofs Go.Proofs.Ev
set_option linter.unusedVariables false
section
variable {n : Nat} {nm fm : ByteArray} {a3 a4 a5 a7 : List AV} {uq : Bool}
theorem din_eq (n : Nat) (a b c : Int) : Q0o.F n a b c = some (decide (b ≤ a ∧ a ≤ c)) := by
  unfold Q0o.F Q0o.e
  by_cases h : b ≤ a
  · rw [cond_t h]; simp [h]
  · rw [cond_f h]; simp [h]
theorem bif_ne {α : Type} (e : Int) (x y : α) : (bif e != 0 then x else y) = if e ≠ 0 then x else y := by
  by_cases h : e = 0
  · have h1 : (e != 0) = false := by simp [h]
    rw [h1, if_neg (by simp [h])]; rfl
  · have h1 : (e != 0) = true := by simp [h]
    rw [h1, if_pos h]; rfl
theorem cond_yes {α : Type} {b : Bool} (h : b = true) (x y : α) : (bif b then x else y) = x := by rw [h]; rfl
theorem some_ite {α : Type} {p : Prop} [Decidable p] (x y : α) : (if p then some x else some y) = some (if p then x else y) := by split <;> rfl
theorem Bl_getD {ts : List Bool} {i : Nat} (hi : i < ts.length) : (Bl ts).getD (((i : Nat) : Int)).toNat AV.undef = vb ts[i] := by simp [Bl, List.getD_eq_getElem?_getD, hi]
theorem indexB_l (n : Nat) (ts : List Bool) (hw : ts.length ≤ 1000) : ∀ (d i m : Nat), i + d = ts.length → d < m → ∃ q, Q4b.l n m (.z2 (Bl ts) false ts.length i) = some q ∧ decide (q ≥ 0) = (ts.drop i).contains false
  | _, _, 0, _, h => absurd h (by omega)
  | 0, i, m + 1, h, _ => by
    refine ⟨-1, ?_, by rw [List.drop_of_length_le (by omega)]; rfl⟩
    rw [Q4b.at2]
    unfold Q4b.r2
    rw [cond_f (by omega)]
  | d + 1, i, m + 1, h, hm => by
    have hi : i < ts.length := by omega
    obtain ⟨q, h1, h2⟩ := indexB_l n ts hw d (i + 1) m (by omega) (by omega)
    rw [Q4b.at2]
    unfold Q4b.r2
    rw [cond_t (by omega), Bl_length, within_t hi, cond_true, Bl_getD hi, List.drop_eq_getElem_cons hi, List.contains_cons]
    show ∃ q, (bif (false == ts[i]) then some (i : Int) else _) = some q ∧ _
    cases ts[i] with
    | false => exact ⟨i, rfl, by simp⟩
    | true =>
      refine ⟨q, ?_, by rw [h2]; rfl⟩
      show Q4b.l n m (.z2 (Bl ts) false ts.length (IntKind.i64.wrap ((i : Int) + 1))) = _
      rw [wsucc (by omega)]
      exact h1
theorem containsB {n : Nat} (hn : 1001 ≤ n) (ts : List Bool) (hw : ts.length ≤ 1000) : Q47.F n (Bl ts) false = some (ts.contains false) := by
  unfold Q47.F Q47.e Q4b.F Q4b.e
  obtain ⟨q, h1, h2⟩ := indexB_l n ts hw ts.length 0 n (by omega) (by omega)
  rw [List.drop_zero] at h2
  rw [Bl_length, show (0 : Int) = ((0 : Nat) : Int) from rfl, h1, Option.bind_some]
  exact congrArg some h2
theorem Bl_drop (ts : List Bool) (k : Nat) : (Bl ts).drop k = Bl (ts.drop k) := by simp [Bl, List.map_drop]
theorem Bl_set (ts : List Bool) (k : Nat) (b : Bool) : (Bl ts).set k (vb b) = Bl (ts.set k b) := by simp [Bl, List.map_set]
theorem joins_l (hn : 1001 ≤ n) (ws : List (List UInt8)) (hw : 1 ≤ ws.length ∧ ws.length ≤ 1000) (js : List JP) (hj : js.length ≤ 1000) : ∀ (d i m : Nat) (last : Int) (ts : List Bool), i + d = js.length → d < m → ts.length = ws.length →
    Q0u.l n m (.z6 last (js.map JP.av) js.length i nm fm (Ws ws) a3 (js.map JP.av) a5 uq a7 (Bl ts)) = some (jErr ((ws.length : Int) - 1) (js.drop i) i last ts)
  | _, _, 0, _, _, _, h, _ => absurd h (by omega)
  | 0, i, m + 1, last, ts, h, _, ht => by
    rw [Q0u.at6]
    unfold Q0u.r6
    rw [cond_f (by omega), Bl_length, cond_yes (by rw [Bool.and_eq_true, decide_eq_true_eq, decide_eq_true_eq]; omega), Bl_drop, containsB hn _ (by rw [List.length_drop]; omega), Option.bind_some, cond_eq, Option.bind_some, List.drop_of_length_le (show js.length ≤ i by omega)]
    rfl
  | d + 1, i, m + 1, last, ts, h, hm, ht => by
    have hi : i < js.length := by omega
    rw [Q0u.at6]
    unfold Q0u.r6
    rw [cond_t (by omega), List.length_map, within_t hi, cond_true, at_map JP.av hi, List.drop_eq_getElem_cons hi]
    show ((Q0o.F n js[i].b 1 (IntKind.i64.wrap ((((Ws ws).length : Nat) : Int) - 1))).bind fun p16 => (Q0f.F n (!p16) 3).bind fun p17 => (Q0o.F n js[i].fr 0 (IntKind.i64.wrap (js[i].b - 1))).bind fun p18 =>
      (Q0f.F n (!p18) 3).bind fun p19 => (Q0r.F n (bs js[i].lf)).bind fun p20 => (Q0f.F n (!p20) 7).bind fun p21 => (Q0r.F n (bs js[i].rt)).bind fun p22 => (Q0f.F n (!p22) 7).bind fun p23 =>
      (Q0f.F n (decide (js[i].b < last)) 14).bind fun p24 => (Q0m.F n ([p17, p19, p21, p23, p24].map vi)).bind fun p25 =>
      bif p25 != 0 then (some ((i : Int), p25)) else (bif decide ((0 : Int) ≤ js[i].b) && decide (js[i].b < (((Bl ts).length : Nat) : Int)) then
        (Q0u.l n m (.z6 js[i].b (js.map JP.av) js.length (IntKind.i64.wrap ((i : Int) + 1)) nm fm (Ws ws) a3 (js.map JP.av) a5 uq a7 ((Bl ts).set ((js[i].b).toNat) (vb true)))) else none)) = _
    simp only [Ws_length, din_eq, Option.bind_some, cond_eq, isName_eq hn, first_eq (n := n) [_, _, _, _, _] (by simp) hn]
    rw [w64 (x := (ws.length : Int) - 1) (by omega) (by omega), bif_ne]
    rw [jErr_cons]
    have e : fz [(if (!decide (1 ≤ js[i].b ∧ js[i].b ≤ (ws.length : Int) - 1)) = true then 3 else 0), (if (!decide (0 ≤ js[i].fr ∧ js[i].fr ≤ IntKind.i64.wrap (js[i].b - 1))) = true then 3 else 0), (if (!isNm js[i].lf) = true then 7 else 0), (if (!isNm js[i].rt) = true then 7 else 0), (if decide (js[i].b < last) = true then 14 else 0)] = je ((ws.length : Int) - 1) last js[i] := by
      unfold je
      by_cases h1 : 1 ≤ js[i].b ∧ js[i].b ≤ (ws.length : Int) - 1
      · rw [w64 (x := js[i].b - 1) (by omega) (by omega)]
        by_cases h2 : 0 ≤ js[i].fr ∧ js[i].fr ≤ js[i].b - 1
        · cases h3 : isNm js[i].lf
          · simp [fz, h1, h2]
          · cases h4 : isNm js[i].rt
            · simp [fz, h1, h2]
            · simp [fz, h1, h2]
        · simp [fz, h1, h2]
      · simp [fz, h1]
    rw [e]
    by_cases h0 : je ((ws.length : Int) - 1) last js[i] = 0
    · rw [if_neg (by simp [h0]), if_neg (by simp [h0])]
      have hb : 1 ≤ js[i].b ∧ js[i].b ≤ (ws.length : Int) - 1 := by
        unfold je at h0
        by_cases h1 : 1 ≤ js[i].b ∧ js[i].b ≤ (ws.length : Int) - 1
        · exact h1
        · rw [if_pos h1] at h0; omega
      have e2 : (decide ((0 : Int) ≤ js[i].b) && decide (js[i].b < (((Bl ts).length : Nat) : Int))) = true := by
        rw [Bl_length, Bool.and_eq_true, decide_eq_true_eq, decide_eq_true_eq]; omega
      rw [e2, cond_true, wsucc (by omega), Bl_set]
      exact joins_l hn ws hw js hj d (i + 1) m js[i].b (ts.set js[i].b.toNat true) (by omega) (by omega) (by simp [ht])
    · rw [if_pos h0, if_pos h0]
def jErrT (ws : List (List UInt8)) (js : List JP) : Int × Int := if js.length > 20 then (0, 2) else jErr ((ws.length : Int) - 1) js 0 0 (List.replicate ws.length false)
theorem joins_eq (hn : 1001 ≤ n) (ws : List (List UInt8)) (hw : 1 ≤ ws.length ∧ ws.length ≤ 1000) (js : List JP) (hj : js.length ≤ 1000) : Q0u.F n nm fm (Ws ws) a3 (js.map JP.av) a5 uq a7 = some (jErrT ws js) := by
  unfold Q0u.F Q0u.e jErrT
  simp only [List.length_map, Ws_length]
  by_cases h : js.length > 20
  · rw [cond_t (by omega), if_pos h]
  · rw [cond_f (by omega), if_neg h, cond_yes (by have : most = 1000000000 := rfl; simp [this]; omega), Int.toNat_natCast]
    have e : List.replicate ws.length (vb false) = Bl (List.replicate ws.length false) := by simp [Bl]
    rw [e]
    have := joins_l (nm := nm) (fm := fm) (a3 := a3) (a5 := a5) (uq := uq) (a7 := a7) hn ws hw js hj js.length 0 n 0 (List.replicate ws.length false) (by omega) (by omega) (by simp)
    rw [List.drop_zero] at this
    exact this
theorem keys_l (hn : 1001 ≤ n) (ns : List (List UInt8)) (hs : ns.length ≤ 1000) (ks : List KF) (hk : ks.length ≤ 1000) : ∀ (d i m : Nat), i + d = ks.length → d < m →
    Q0w.l n m (.z5 (Ws ns) (ks.map KF.av) ks.length i (Ws ((knames ks).take i))) = some (kErr ns (knames ks) (ks.drop i) i)
  | _, _, 0, _, h => absurd h (by omega)
  | 0, i, m + 1, h, _ => by
    rw [Q0w.at5]
    unfold Q0w.r5
    rw [cond_f (by omega), List.drop_of_length_le (by omega)]
    rfl
  | d + 1, i, m + 1, h, hm => by
    have hi : i < ks.length := by omega
    have hni : (knames ks).length = ks.length := by simp [knames]
    have hni' : i < (knames ks).length := by omega
    have hmost : most = 1000000000 := rfl
    have e2 : (knames ks)[i] = ks[i].nm := by simp [knames]
    have ih := keys_l hn ns hs ks hk d (i + 1) m (by omega) (by omega)
    rw [Q0w.at5]
    unfold Q0w.r5
    rw [cond_t (by omega), List.length_map, within_t hi, cond_true, at_map KF.av hi, List.drop_eq_getElem_cons hi]
    show ((Q48.F n (Ws ns) (bs ks[i].nm)).bind fun p8 => (Q0f.F n (!p8) 11).bind fun p9 => (Q48.F n (Ws ((knames ks).take i)) (bs ks[i].nm)).bind fun p10 => (Q0f.F n p10 13).bind fun p11 =>
      (Q0m.F n [vi p9, vi p11]).bind fun p12 => bif p12 != 0 then (some ((i : Int), p12)) else (bif decide ((Ws ((knames ks).take i)).length + 1 ≤ most) then
        (Q0w.l n m (.z5 (Ws ns) (ks.map KF.av) ks.length (IntKind.i64.wrap ((i : Int) + 1)) (Ws ((knames ks).take i) ++ [vs (bs ks[i].nm)]))) else none)) = _
    rw [contains_str hn ns hs, Option.bind_some, cond_eq, Option.bind_some, contains_str hn _ (by rw [List.length_take]; omega), Option.bind_some, cond_eq, Option.bind_some, first2 hn, Option.bind_some, bif_ne,
      cond_t (by rw [Ws_length, List.length_take]; omega), wsucc (by omega), Ws_snoc, ← e2, ← List.take_succ_eq_append_getElem hni', ih]
    rw [kErr_cons]
    have e : (if (if (!ns.contains (knames ks)[i]) = true then (11 : Int) else 0) ≠ 0 then (if (!ns.contains (knames ks)[i]) = true then (11 : Int) else 0) else (if ((knames ks).take i).contains (knames ks)[i] = true then 13 else 0)) = ke ns ((knames ks).take i) ks[i] := by
      unfold ke
      rw [e2]
      cases ns.contains ks[i].nm <;> cases ((knames ks).take i).contains ks[i].nm <;> rfl
    rw [e, some_ite]
def kErrT (ns : List (List UInt8)) (ks : List KF) : Int × Int := if ks.length > 4 then (0, 2) else kErr ns (knames ks) ks 0
theorem keysErr_eq (hn : 1001 ≤ n) (ns : List (List UInt8)) (hs : ns.length ≤ 1000) (ks : List KF) (hk : ks.length ≤ 1000) : Q0w.F n (ks.map KF.av) (Ws ns) = some (kErrT ns ks) := by
  unfold Q0w.F Q0w.e kErrT
  simp only [List.length_map]
  by_cases h : ks.length > 4
  · rw [cond_t (by omega), if_pos h]
  · rw [cond_f (by omega), if_neg h]
    have := keys_l hn ns hs ks hk ks.length 0 n (by omega) (by omega)
    rw [List.drop_zero] at this
    exact this
theorem condErr_eq (hn : 1001 ≤ n) (ns : List (List UInt8)) (hs : ns.length ≤ 1000) (c : CN) : Q0g.F n (bs c.fd) c.op c.n (bs c.s) (Ws ns) = some (ce ns c) := by
  unfold Q0g.F Q0g.e
  simp only [contains_str hn ns hs, Option.bind_some, cond_eq, din_eq, bs_size, empty_eq]
  have e5 : ∀ a b c d e : Int, Q0m.F n [vi a, vi b, vi c, vi d, vi e] = some (fz [a, b, c, d, e]) := fun a b c d e => first_eq [a, b, c, d, e] (by simp) hn
  simp only [e5, Option.bind_some]
  rw [bif_ne]
  unfold ce
  have hsz : decide (((c.s.length : Nat) : Int) > 256) = decide (c.s.length > 256) := by rw [decide_eq_decide]; omega
  rw [hsz]
  cases h1 : ns.contains c.fd
  · by_cases h0 : c.n = 0 <;> simp [fz, h0]
  · by_cases h2 : 0 ≤ c.op ∧ c.op ≤ 5
    · by_cases h3 : -999999999999999 ≤ c.n ∧ c.n ≤ 999999999999999
      · by_cases h4 : c.s.length > 256
        · by_cases h0 : c.n = 0 <;> simp [fz, h0, h2, h3, h4]
        · by_cases h0 : c.n = 0 <;> by_cases h5 : c.s = [] <;> simp [fz, h0, h2, h3, h4, h5]
      · by_cases h0 : c.n = 0 <;> simp [fz, h0, h2, h3]
    · by_cases h0 : c.n = 0 <;> simp [fz, h0, h2]
theorem rules_l (hn : 1001 ≤ n) (ns : List (List UInt8)) (hs : ns.length ≤ 1000) (rs : List RL) (hr : rs.length ≤ 1000) : ∀ (d i m : Nat), i + d = rs.length → 10 * d + 1 ≤ m →
    Q16.l n m (.z5 (rs.map RL.av) rs.length i (Ws ns)) = some (rErr ns (rs.drop i) i)
  | 0, i, m, h, hm => by
    obtain ⟨m, rfl⟩ : ∃ q, m = q + 1 := ⟨m - 1, by omega⟩
    rw [Q16.at5]
    unfold Q16.r5
    rw [cond_f (by omega), List.drop_of_length_le (by omega)]
    rfl
  | d + 1, i, m, h, hm => by
    obtain ⟨m, rfl⟩ : ∃ q, m = q + 1 := ⟨m - 1, by omega⟩
    have hi : i < rs.length := by omega
    -- the conditions of a rule
    have inner : ∀ (e j q : Nat), rs[i].cs.length ≤ 4 → j + e = rs[i].cs.length → 10 * d + 2 + e ≤ q →
        Q16.l n q (.z10 i (rs.map RL.av) rs.length i (rs[i].cs.map CN.av) rs[i].cs.length j (Ws ns)) = some (if cErr ns (rs[i].cs.drop j) ≠ 0 then ((i : Int), cErr ns (rs[i].cs.drop j)) else rErr ns (rs.drop (i + 1)) (i + 1)) := by
      intro e
      induction e with
      | zero =>
        intro j q h4 hj hq
        obtain ⟨q, rfl⟩ : ∃ r, q = r + 1 := ⟨q - 1, by omega⟩
        rw [Q16.at10]
        unfold Q16.r10
        rw [cond_f (by omega), wsucc (by omega), rules_l hn ns hs rs hr d (i + 1) q (by omega) (by omega), List.drop_of_length_le (show rs[i].cs.length ≤ j by omega)]
        rfl
      | succ e ih =>
        intro j q h4 hj hq
        obtain ⟨q, rfl⟩ : ∃ r, q = r + 1 := ⟨q - 1, by omega⟩
        have hjl : j < rs[i].cs.length := by omega
        have ih' := ih (j + 1) q h4 (by omega) (by omega)
        rw [Q16.at10]
        unfold Q16.r10
        rw [cond_t (by omega), List.length_map, within_t hjl, cond_true, at_map CN.av hjl, List.drop_eq_getElem_cons hjl]
        show ((Q0g.F n (bs rs[i].cs[j].fd) rs[i].cs[j].op rs[i].cs[j].n (bs rs[i].cs[j].s) (Ws ns)).bind fun p22 => bif p22 != 0 then (some ((i : Int), p22)) else
          Q16.l n q (.z10 i (rs.map RL.av) rs.length i (rs[i].cs.map CN.av) rs[i].cs.length (IntKind.i64.wrap ((j : Int) + 1)) (Ws ns))) = _
        rw [condErr_eq hn ns hs, Option.bind_some, bif_ne, wsucc (by omega), ih']
        rw [cErr_cons]
        by_cases h0 : ce ns rs[i].cs[j] = 0
        · simp only [h0, ne_eq, not_true_eq_false, if_false]
        · simp only [h0, ne_eq, not_false_eq_true, if_true]
    rw [Q16.at5]
    unfold Q16.r5
    rw [cond_t (by omega), List.length_map, within_t hi, cond_true, at_map RL.av hi, List.drop_eq_getElem_cons hi]
    show (bif decide ((((rs[i].cs.map CN.av).length : Nat) : Int) > 4) then (some ((i : Int), 2)) else Q16.l n m (.z10 i (rs.map RL.av) rs.length i (rs[i].cs.map CN.av) (((rs[i].cs.map CN.av).length : Nat) : Int) 0 (Ws ns))) = _
    rw [List.length_map]
    rw [rErr_cons]
    unfold re
    by_cases h4 : rs[i].cs.length > 4
    · rw [cond_t (by omega), if_pos h4, if_pos (by decide)]
    · rw [cond_f (by omega), if_neg h4]
      have := inner rs[i].cs.length 0 m (by omega) (by omega) (by omega)
      rw [List.drop_zero] at this
      exact this
def rErrT (ns : List (List UInt8)) (rs : List RL) : Int × Int := if rs.length > 8 then (0, 2) else rErr ns rs 0
theorem rulesErr_eq (hn : 20001 ≤ n) (fs : List LF) (hf : fs.length ≤ 1000) (rs : List RL) (hr : rs.length ≤ 1000) {a2 : List AV} : Q16.F n nm fm a2 (fs.map LF.av) a4 a5 uq (rs.map RL.av) = some (rErrT (names fs) rs) := by
  unfold Q16.F Q16.e rErrT
  simp only [List.length_map]
  by_cases h : rs.length > 8
  · rw [cond_t (by omega), if_pos h]
  · rw [cond_f (by omega), if_neg h, namesOf_eq (by omega) fs hf, Option.bind_some]
    have := rules_l (n := n) (by omega) (names fs) (by simp [names]; omega) rs hr rs.length 0 n (by omega) (by omega)
    rw [List.drop_zero] at this
    exact this
def chkL (nm fm : List UInt8) (ws : List (List UInt8)) (fs : List LF) (js : List JP) (ks : List KF) (uq : Bool) (rs : List RL) : Int × Int :=
  if isNm nm = false then (0, 7) else if isNm fm = false then (0, 7)
  else if (bErrT ws).2 ≠ 0 then bErrT ws
  else if (fErrT ws fs).2 ≠ 0 then fErrT ws fs
  else if (jErrT ws js).2 ≠ 0 then jErrT ws js
  else if (kErrT (names fs) ks).2 ≠ 0 then kErrT (names fs) ks
  else if (rErrT (names fs) rs).2 ≠ 0 then rErrT (names fs) rs
  else (0, if ws.length > 1 ∧ (rs.length > 0 ∨ uq = true) then 15 else 0)
theorem checkLogical_eq (hn : 20010 ≤ n) (nm fm : List UInt8) (ws : List (List UInt8)) (hw : ws.length ≤ 1000) (fs : List LF) (hf : fs.length ≤ 1000) (js : List JP) (hj : js.length ≤ 1000) (ks : List KF) (hk : ks.length ≤ 1000) (uq : Bool) (rs : List RL) (hr : rs.length ≤ 1000) :
    Q04.F n (bs nm) (bs fm) (Ws ws) (fs.map LF.av) (js.map JP.av) (ks.map KF.av) uq (rs.map RL.av) = some (chkL nm fm ws fs js ks uq rs) := by
  have hnl : (names fs).length ≤ 1000 := by simp [names]; omega
  -- behind a part
  have h7 : ∀ (m : Nat) (p : Int × Int) (i : Nat), i ≤ 5 → Q04.l n (m + 1) (.z7 p.1 p.2 5 i (bs nm) (bs fm) (Ws ws) (fs.map LF.av) (js.map JP.av) (ks.map KF.av) uq (rs.map RL.av)) =
      if p.2 ≠ 0 then some p else Q04.l n m (.z4 5 ((i + 1 : Nat) : Int) (bs nm) (bs fm) (Ws ws) (fs.map LF.av) (js.map JP.av) (ks.map KF.av) uq (rs.map RL.av)) := by
    intro m p i hi
    rw [Q04.at7]
    unfold Q04.r7
    rw [bif_ne, wsucc (by omega)]
  have h5 : ∀ m, Q04.l n (m + 1) (.z4 5 ((5 : Nat) : Int) (bs nm) (bs fm) (Ws ws) (fs.map LF.av) (js.map JP.av) (ks.map KF.av) uq (rs.map RL.av)) = some (0, if ws.length > 1 ∧ (rs.length > 0 ∨ uq = true) then 15 else 0) := by
    intro m
    rw [Q04.at4]
    unfold Q04.r4
    simp only [Ws_length, List.length_map, cond_eq, Option.bind_some]
    rw [cond_f (by omega)]
    by_cases h1 : ws.length > 1
    · rw [cond_t (by omega)]
      by_cases h2 : rs.length > 0
      · rw [cond_t (by omega)]; simp [h1, h2]
      · rw [cond_f (by omega)]; simp [h1, h2]
    · rw [cond_f (by omega)]; simp [h1]
  have h4 : ∀ m, Q04.l n (m + 4) (.z4 5 ((4 : Nat) : Int) (bs nm) (bs fm) (Ws ws) (fs.map LF.av) (js.map JP.av) (ks.map KF.av) uq (rs.map RL.av)) = if (rErrT (names fs) rs).2 ≠ 0 then some (rErrT (names fs) rs) else some (0, if ws.length > 1 ∧ (rs.length > 0 ∨ uq = true) then 15 else 0) := by
    intro m
    rw [Q04.at4]
    unfold Q04.r4
    rw [cond_t (by omega), cond_t (by omega), Q04.at6]
    unfold Q04.r6
    rw [rulesErr_eq (by omega) fs hf rs hr, Option.bind_some, h7 _ _ 4 (by omega), h5]
  have h3 : ∀ m, Q04.l n (m + 7) (.z4 5 ((3 : Nat) : Int) (bs nm) (bs fm) (Ws ws) (fs.map LF.av) (js.map JP.av) (ks.map KF.av) uq (rs.map RL.av)) = if (kErrT (names fs) ks).2 ≠ 0 then some (kErrT (names fs) ks) else
      if (rErrT (names fs) rs).2 ≠ 0 then some (rErrT (names fs) rs) else some (0, if ws.length > 1 ∧ (rs.length > 0 ∨ uq = true) then 15 else 0) := by
    intro m
    rw [Q04.at4]
    unfold Q04.r4
    rw [cond_t (by omega), cond_f (by omega), cond_t (by omega), Q04.at6x1]
    unfold Q04.r6x1 Q05.F Q05.e
    rw [namesOf_eq (by omega) fs hf, Option.bind_some, keysErr_eq (by omega) _ hnl ks hk, Option.bind_some, Option.bind_some, h7 _ _ 3 (by omega), h4]
  have h2 : 1 ≤ ws.length → ∀ m, Q04.l n (m + 10) (.z4 5 ((2 : Nat) : Int) (bs nm) (bs fm) (Ws ws) (fs.map LF.av) (js.map JP.av) (ks.map KF.av) uq (rs.map RL.av)) = if (jErrT ws js).2 ≠ 0 then some (jErrT ws js) else
      if (kErrT (names fs) ks).2 ≠ 0 then some (kErrT (names fs) ks) else if (rErrT (names fs) rs).2 ≠ 0 then some (rErrT (names fs) rs) else some (0, if ws.length > 1 ∧ (rs.length > 0 ∨ uq = true) then 15 else 0) := by
    intro h1 m
    rw [Q04.at4]
    unfold Q04.r4
    rw [cond_t (by omega), cond_f (by omega), cond_f (by omega), cond_t (by omega), Q04.at6x2]
    unfold Q04.r6x2
    rw [joins_eq (by omega) ws ⟨h1, hw⟩ js hj, Option.bind_some, h7 _ _ 2 (by omega), h3]
  have h1 : 1 ≤ ws.length → ∀ m, Q04.l n (m + 13) (.z4 5 ((1 : Nat) : Int) (bs nm) (bs fm) (Ws ws) (fs.map LF.av) (js.map JP.av) (ks.map KF.av) uq (rs.map RL.av)) = if (fErrT ws fs).2 ≠ 0 then some (fErrT ws fs) else if (jErrT ws js).2 ≠ 0 then some (jErrT ws js) else
      if (kErrT (names fs) ks).2 ≠ 0 then some (kErrT (names fs) ks) else if (rErrT (names fs) rs).2 ≠ 0 then some (rErrT (names fs) rs) else some (0, if ws.length > 1 ∧ (rs.length > 0 ∨ uq = true) then 15 else 0) := by
    intro h1 m
    rw [Q04.at4]
    unfold Q04.r4
    rw [cond_t (by omega), cond_f (by omega), cond_f (by omega), cond_f (by omega), cond_t (by omega), Q04.at6x3]
    unfold Q04.r6x3
    rw [fieldsErr_eq (by omega) ws hw fs hf, Option.bind_some, h7 _ _ 1 (by omega), h2 h1]
  unfold Q04.F Q04.e chkL
  rw [isName_eq (by omega), Option.bind_some, isName_eq (by omega), Option.bind_some]
  cases hnm : isNm nm with
  | false => rfl
  | true =>
    cases hfm : isNm fm with
    | false => rfl
    | true =>
      simp only [Bool.not_true, cond_false, Bool.true_eq_false, if_false]
      obtain ⟨m, rfl⟩ : ∃ m, n = m + 16 := ⟨n - 16, by omega⟩
      rw [show (0 : Int) = ((0 : Nat) : Int) from rfl, Q04.at4]
      unfold Q04.r4
      rw [cond_t (by omega), cond_f (by omega), cond_f (by omega), cond_f (by omega), cond_f (by omega), cond_t (by omega), Q04.at6x4]
      unfold Q04.r6x4
      rw [basesErr_eq (by omega) ws hw, Option.bind_some, h7 _ _ 0 (by omega)]
      by_cases hb : (bErrT ws).2 = 0
      · have hlen : 1 ≤ ws.length := by
          unfold bErrT at hb
          by_cases h0 : ws.length = 0
          · rw [if_pos h0] at hb; cases hb
          · omega
        rw [if_neg (by simp [hb]), if_neg (by simp [hb]), h1 hlen]
        simp only [some_ite, if_false]
        rfl
      · rw [if_pos hb]
        show _ = some (if (bErrT ws).2 ≠ 0 then _ else _)
        rw [if_pos hb]
end
end Go.Proofs.YtmpglmcjoelciaaGreatDoor.Ev
namespace Go.Proofs.YtmpglmcjoelciaaGreatDoor.Ev
open Go Go.Proofs Go.Proofs.Ev
set_option linter.unusedVariables false
section
variable {n : Nat} {nm fm : ByteArray} {a2 a3 a4 a5 a7 : List AV} {uq : Bool}
theorem fieldOf_l (fs : List LF) (hf : fs.length ≤ 1000) (s : List UInt8) : ∀ (d i m : Nat), i + d = fs.length → d < m → Q2u.l n m (.z2 (bs s) i nm fm a2 (fs.map LF.av) a4 a5 uq a7) = some (ixs ((names fs).drop i) s i)
  | _, _, 0, _, h => absurd h (by omega)
  | 0, i, m + 1, h, _ => by
    rw [Q2u.at2]
    unfold Q2u.r2
    simp only [List.length_map]
    rw [cond_f (by omega), List.drop_of_length_le (by simp [names]; omega)]
    rfl
  | d + 1, i, m + 1, h, hm => by
    have hi : i < fs.length := by omega
    have hni : i < (names fs).length := by simp [names]; omega
    have e2 : (names fs)[i] = fs[i].nm := by simp [names]
    have ih := fieldOf_l fs hf s d (i + 1) m (by omega) (by omega)
    rw [Q2u.at2]
    unfold Q2u.r2
    simp only [List.length_map]
    rw [cond_t (by omega), within_t hi, cond_true, at_map LF.av hi, List.drop_eq_getElem_cons hni]
    show (bif ((bs fs[i].nm).toList == (bs s).toList) then _ else _) = _
    rw [str_eq, wsucc (by omega), ih, ixs_cons, e2]
    by_cases h : fs[i].nm = s
    · rw [cond_t h, if_pos h]
    · rw [cond_f h, if_neg h]
theorem fieldOf_eq (hn : 1001 ≤ n) (fs : List LF) (hf : fs.length ≤ 1000) (s : List UInt8) : Q2u.F n nm fm a2 (fs.map LF.av) a4 a5 uq a7 (bs s) = some (ixs (names fs) s 0) := by
  unfold Q2u.F Q2u.e
  have := fieldOf_l (n := n) (nm := nm) (fm := fm) (a2 := a2) (a4 := a4) (a5 := a5) (uq := uq) (a7 := a7) fs hf s fs.length 0 n (by omega) (by omega)
  rw [List.drop_zero] at this
  exact this
theorem ixs_ge : ∀ (ws : List (List UInt8)) (s : List UInt8) (i : Nat), -1 ≤ ixs ws s i
  | [], _, _ => by simp [ixs]
  | w :: r, s, i => by
    unfold ixs
    split
    · omega
    · exact ixs_ge r s (i + 1)
theorem ixs_none (ws : List (List UInt8)) (s : List UInt8) : (ixs ws s 0 == -1) = !ws.contains s := by
  have h1 := ixs_has ws s 0
  have h2 := ixs_ge ws s 0
  rw [← h1, beq_int]
  by_cases h : ixs ws s 0 ≥ 0
  · have : ¬ ixs ws s 0 = -1 := by omega
    simp [h, this]
  · have : ixs ws s 0 = -1 := by omega
    simp [this]
theorem ruleErr_l (hn : 1001 ≤ n) (fs : List LF) (hf : fs.length ≤ 1000) (om : Bool) (cs : List CN) (hc : cs.length ≤ 1000) : ∀ (d i m : Nat), i + d = cs.length → d < m →
    Q3k.l n m (.z4 i nm fm a2 (fs.map LF.av) a4 a5 uq a7 om (cs.map CN.av)) = some (cErr (names fs) (cs.drop i))
  | _, _, 0, _, h => absurd h (by omega)
  | 0, i, m + 1, h, _ => by
    rw [Q3k.at4]
    unfold Q3k.r4
    simp only [List.length_map]
    rw [cond_f (by omega), List.drop_of_length_le (by omega)]
    rfl
  | d + 1, i, m + 1, h, hm => by
    have hi : i < cs.length := by omega
    have ih := ruleErr_l hn fs hf om cs hc d (i + 1) m (by omega) (by omega)
    rw [Q3k.at4]
    unfold Q3k.r4
    simp only [List.length_map]
    rw [cond_t (by omega), within_t hi, cond_true, at_map CN.av hi, List.drop_eq_getElem_cons hi]
    show ((Q2u.F n nm fm a2 (fs.map LF.av) a4 a5 uq a7 (bs cs[i].fd)).bind fun p15 => bif p15 == (-1) then (some 11) else ((Q1z.F n cs[i].op 0 5).bind fun p16 => bif !p16 then (some 4) else
      ((Q1z.F n cs[i].n (-999999999999999) 999999999999999).bind fun p17 => bif !p17 then (some 3) else (bif decide ((((bs cs[i].s).size : Nat) : Int) > 256) then (some 2) else
      (bif cs[i].n != 0 then (bif !((bs cs[i].s).toList == (⟨#[]⟩ : ByteArray).toList) then (some 5) else (Q3k.l n m (.z4 (IntKind.i64.wrap ((i : Int) + 1)) nm fm a2 (fs.map LF.av) a4 a5 uq a7 om (cs.map CN.av)))) else
        (Q3k.l n m (.z4 (IntKind.i64.wrap ((i : Int) + 1)) nm fm a2 (fs.map LF.av) a4 a5 uq a7 om (cs.map CN.av)))))))) = _
    rw [fieldOf_eq hn fs hf, Option.bind_some, ixs_none, Within_eq, Option.bind_some, Within_eq, Option.bind_some, bs_size, empty_eq, wsucc (by omega), ih]
    rw [cErr_cons]
    unfold ce
    cases h1 : (names fs).contains cs[i].fd
    · simp
    · by_cases h2 : 0 ≤ cs[i].op ∧ cs[i].op ≤ 5
      · by_cases h3 : -999999999999999 ≤ cs[i].n ∧ cs[i].n ≤ 999999999999999
        · by_cases h4 : cs[i].s.length > 256
          · have : decide (((cs[i].s.length : Nat) : Int) > 256) = true := by rw [decide_eq_true_eq]; omega
            simp [h2, h3, h4, this]
          · have : decide (((cs[i].s.length : Nat) : Int) > 256) = false := by rw [decide_eq_false_iff_not]; omega
            rw [this]
            rw [bif_ne]
            by_cases h0 : cs[i].n = 0 <;> by_cases h5 : cs[i].s = [] <;> simp [h0, h2, h3, h4, h5]
        · simp [h2, h3]
      · simp [h2]
theorem ruleErr_eq (hn : 1001 ≤ n) (fs : List LF) (hf : fs.length ≤ 1000) (r : RL) (hc : r.cs.length ≤ 1000) : Q3k.F n nm fm a2 (fs.map LF.av) a4 a5 uq a7 r.om (r.cs.map CN.av) = some (re (names fs) r) := by
  unfold Q3k.F Q3k.e re
  simp only [List.length_map]
  by_cases h : r.cs.length > 4
  · rw [cond_t (by omega), if_pos h]
  · rw [cond_f (by omega), if_neg h]
    have := ruleErr_l (n := n) (nm := nm) (fm := fm) (a2 := a2) (a4 := a4) (a5 := a5) (uq := uq) (a7 := a7) hn fs hf r.om r.cs hc r.cs.length 0 n (by omega) (by omega)
    rw [List.drop_zero] at this
    exact this
theorem joinsC_l (ts : List Bool) (ht : ts.length ≤ 1000) : ∀ (d i m : Nat), i + d = ts.length → d < m → Q3f.l n m (.z18 i (Bl ts)) = some (0, if (ts.drop i).contains false then 11 else 0)
  | _, _, 0, _, h => absurd h (by omega)
  | 0, i, m + 1, h, _ => by
    rw [Q3f.at18]
    unfold Q3f.r18
    simp only [Bl_length]
    rw [cond_f (by omega), List.drop_of_length_le (by omega)]
    rfl
  | d + 1, i, m + 1, h, hm => by
    have hi : i < ts.length := by omega
    have ih := joinsC_l ts ht d (i + 1) m (by omega) (by omega)
    rw [Q3f.at18]
    unfold Q3f.r18
    simp only [Bl_length]
    rw [cond_t (by omega), within_t hi, cond_true, Bl_getD hi, List.drop_eq_getElem_cons hi, List.contains_cons]
    show (bif !ts[i] then some (0, 11) else Q3f.l n m (.z18 (IntKind.i64.wrap ((i : Int) + 1)) (Bl ts))) = _
    rw [wsucc (by omega), ih]
    cases ts[i] <;> simp
theorem joinsR_l (hn : 1001 ≤ n) (ws : List (List UInt8)) (hw : 1 ≤ ws.length ∧ ws.length ≤ 1000) (js : List JP) (hj : js.length ≤ 1000) : ∀ (d i m : Nat) (last : Int) (ts : List Bool), i + d = js.length → d + 1001 < m → ts.length = ws.length →
    ((i = 0 ∧ last = 0) ∨ ∃ h : i - 1 < js.length, 0 < i ∧ last = js[i - 1].b) →
    Q3f.l n m (.z5 i nm fm (Ws ws) a3 (js.map JP.av) a5 uq a7 (Bl ts)) = some (jErr ((ws.length : Int) - 1) (js.drop i) i last ts)
  | _, _, 0, _, _, _, h, _, _ => absurd h (by omega)
  | 0, i, m + 1, last, ts, h, hm, ht, hl => by
    rw [Q3f.at5]
    unfold Q3f.r5
    simp only [List.length_map]
    rw [cond_f (by omega), List.drop_of_length_le (by omega)]
    exact joinsC_l ts (by omega) (ts.length - 1) 1 m (by omega) (by omega)
  | d + 1, i, m + 1, last, ts, h, hm, ht, hl => by
    have hi : i < js.length := by omega
    rw [Q3f.at5]
    unfold Q3f.r5
    simp only [List.length_map]
    rw [cond_t (by omega), within_t hi, cond_true, at_map JP.av hi, List.drop_eq_getElem_cons hi]
    show ((Q1z.F n js[i].b 1 (IntKind.i64.wrap ((((Ws ws).length : Nat) : Int) - 1))).bind fun p17 => bif !p17 then (some ((i : Int), 3)) else ((Q1z.F n js[i].fr 0 (IntKind.i64.wrap (js[i].b - 1))).bind fun p18 =>
      bif !p18 then (some ((i : Int), 3)) else ((Q1t.F n (bs js[i].lf)).bind fun p19 => bif !p19 then (some ((i : Int), 7)) else ((Q1t.F n (bs js[i].rt)).bind fun p20 => bif !p20 then (some ((i : Int), 7)) else
      (bif decide ((i : Int) > 0) then (bif decide ((0 : Int) ≤ IntKind.i64.wrap ((i : Int) - 1)) && decide (IntKind.i64.wrap ((i : Int) - 1) < ((js.length : Nat) : Int)) then (withCons ((((js.map JP.av).getD ((IntKind.i64.wrap ((i : Int) - 1)).toNat) .undef).cells).drop 2) fun h21 r22 =>
        withInt .i64 h21 fun x23 => bif decide (js[i].b < x23) then (some ((i : Int), 14)) else (bif decide ((0 : Int) ≤ js[i].b) && decide (js[i].b < (((Bl ts).length : Nat) : Int)) then
          (Q3f.l n m (.z5 (IntKind.i64.wrap ((i : Int) + 1)) nm fm (Ws ws) a3 (js.map JP.av) a5 uq a7 ((Bl ts).set ((js[i].b).toNat) (vb true)))) else none)) else none)
      else (bif decide ((0 : Int) ≤ js[i].b) && decide (js[i].b < (((Bl ts).length : Nat) : Int)) then
          (Q3f.l n m (.z5 (IntKind.i64.wrap ((i : Int) + 1)) nm fm (Ws ws) a3 (js.map JP.av) a5 uq a7 ((Bl ts).set ((js[i].b).toNat) (vb true)))) else none)))))) = _
    rw [Ws_length, Within_eq, Option.bind_some, Within_eq, Option.bind_some, isNameR_eq hn, Option.bind_some, isNameR_eq hn, Option.bind_some, w64 (x := (ws.length : Int) - 1) (by omega) (by omega), wsucc (by omega), Bl_set]
    rw [jErr_cons]
    unfold je
    by_cases h1 : 1 ≤ js[i].b ∧ js[i].b ≤ (ws.length : Int) - 1
    · rw [w64 (x := js[i].b - 1) (by omega) (by omega)]
      have e2 : (decide ((0 : Int) ≤ js[i].b) && decide (js[i].b < (((Bl ts).length : Nat) : Int))) = true := by
        rw [Bl_length, Bool.and_eq_true, decide_eq_true_eq, decide_eq_true_eq]; omega
      have ih := joinsR_l hn ws hw js hj d (i + 1) m js[i].b (ts.set js[i].b.toNat true) (by omega) (by omega) (by simp [ht]) (.inr ⟨by simpa using hi, by omega, by simp⟩)
      by_cases h2 : 0 ≤ js[i].fr ∧ js[i].fr ≤ js[i].b - 1
      · cases h3 : isNm js[i].lf
        · simp [h1, h2]
        · cases h4 : isNm js[i].rt
          · simp [h1, h2]
          · rw [e2, cond_true, ih]
            rcases hl with ⟨h0, hl0⟩ | ⟨hlt, h0, hl0⟩
            · subst h0 hl0
              have : ¬ js[0].b < 0 := by omega
              simp [h1, h2, this]
            · have e3 : IntKind.i64.wrap ((i : Int) - 1) = ((i - 1 : Nat) : Int) := by rw [w64] <;> omega
              have hg : decide ((i : Int) > 0) = true := by rw [decide_eq_true_eq]; omega
              rw [e3, within_t hlt, cond_true, at_map JP.av hlt, hg, cond_true]
              simp only [h1, h2, and_self, decide_true, Bool.not_true, cond_false, not_true_eq_false, if_false, Bool.true_eq_false]
              show (bif decide (js[i].b < js[i - 1].b) then some ((i : Int), (14 : Int)) else _) = _
              rw [← hl0]
              by_cases h5 : js[i].b < last
              · rw [cond_t h5, if_pos h5]; simp
              · rw [cond_f h5, if_neg h5]; simp
      · simp [h1, h2]
    · simp [h1]
theorem joinsR_eq (hn : 3001 ≤ n) (ws : List (List UInt8)) (hw : 1 ≤ ws.length ∧ ws.length ≤ 1000) (js : List JP) (hj : js.length ≤ 1000) : Q3f.F n nm fm (Ws ws) a3 (js.map JP.av) a5 uq a7 = some (jErrT ws js) := by
  unfold Q3f.F Q3f.e jErrT
  simp only [List.length_map, Ws_length]
  by_cases h : js.length > 20
  · rw [cond_t (by omega), if_pos h]
  · rw [cond_f (by omega), if_neg h, cond_yes (by have : most = 1000000000 := rfl; simp [this]; omega), Int.toNat_natCast]
    have e : List.replicate ws.length (vb false) = Bl (List.replicate ws.length false) := by simp [Bl]
    rw [e]
    have := joinsR_l (nm := nm) (fm := fm) (a3 := a3) (a5 := a5) (uq := uq) (a7 := a7) (n := n) (by omega) ws hw js hj js.length 0 n 0 (List.replicate ws.length false) (by omega) (by omega) (by simp) (.inl ⟨rfl, rfl⟩)
    rw [List.drop_zero] at this
    exact this
end
section
variable {n : Nat} {nm fm : ByteArray} {ws : List (List UInt8)} {fs : List LF} {js : List JP} {ks : List KF} {uq : Bool} {rs : List RL}
def tailR (ws : List (List UInt8)) (fs : List LF) (uq : Bool) (rs : List RL) (i : Nat) : Int × Int :=
  if (rErr (names fs) (rs.drop i) i).2 ≠ 0 then rErr (names fs) (rs.drop i) i else (0, if ws.length > 1 ∧ (rs.length > 0 ∨ uq = true) then 15 else 0)
theorem checkR48 (hn : 1001 ≤ n) (hf : fs.length ≤ 1000) (hr : rs.length ≤ 1000) (hc : ∀ r ∈ rs, r.cs.length ≤ 1000) : ∀ (d i m : Nat), i + d = rs.length → d < m →
    Q2s.l n m (.z48 i nm fm (Ws ws) (fs.map LF.av) (js.map JP.av) (ks.map KF.av) uq (rs.map RL.av)) = some (tailR ws fs uq rs i)
  | _, _, 0, _, h => absurd h (by omega)
  | 0, i, m + 1, h, _ => by
    rw [Q2s.at48]
    unfold Q2s.r48 tailR
    simp only [List.length_map, Ws_length]
    rw [cond_f (by omega), List.drop_of_length_le (by omega)]
    show _ = some (if (0 : Int) ≠ 0 then _ else _)
    rw [if_neg (by simp)]
    by_cases h1 : ws.length > 1
    · rw [cond_t (by omega)]
      by_cases h2 : rs.length > 0
      · rw [cond_t (by omega)]; simp [h1, h2]
      · rw [cond_f (by omega)]; cases uq <;> simp [h1, h2]
    · rw [cond_f (by omega)]; simp [h1]
  | d + 1, i, m + 1, h, hm => by
    have hi : i < rs.length := by omega
    have ih := checkR48 hn hf hr hc d (i + 1) m (by omega) (by omega)
    rw [Q2s.at48]
    unfold Q2s.r48
    simp only [List.length_map]
    rw [cond_t (by omega), within_t hi, cond_true, at_map RL.av hi]
    show ((Q3k.F n nm fm (Ws ws) (fs.map LF.av) (js.map JP.av) (ks.map KF.av) uq (rs.map RL.av) rs[i].om (rs[i].cs.map CN.av)).bind fun p52 => bif p52 != 0 then (some ((i : Int), p52)) else
      Q2s.l n m (.z48 (IntKind.i64.wrap ((i : Int) + 1)) nm fm (Ws ws) (fs.map LF.av) (js.map JP.av) (ks.map KF.av) uq (rs.map RL.av))) = _
    rw [ruleErr_eq hn fs hf rs[i] (hc _ (List.getElem_mem _)), Option.bind_some, bif_ne, wsucc (by omega), ih]
    unfold tailR
    rw [List.drop_eq_getElem_cons hi]
    rw [rErr_cons]
    by_cases h0 : re (names fs) rs[i] = 0
    · simp only [h0, ne_eq, not_true_eq_false, if_false]
    · simp only [h0, ne_eq, not_false_eq_true, if_true]
def tailK (ws : List (List UInt8)) (fs : List LF) (ks : List KF) (uq : Bool) (rs : List RL) (i : Nat) : Int × Int :=
  if (kErr (names fs) (knames ks) (ks.drop i) i).2 ≠ 0 then kErr (names fs) (knames ks) (ks.drop i) i else if rs.length > 8 then (0, 2) else tailR ws fs uq rs 0
theorem checkR36 (hn : 1001 ≤ n) (hf : fs.length ≤ 1000) (hk : ks.length ≤ 1000) (hr : rs.length ≤ 1000) (hc : ∀ r ∈ rs, r.cs.length ≤ 1000) : ∀ (d i m : Nat), i + d = ks.length → 1010 * d + 1002 ≤ m →
    Q2s.l n m (.z36 i nm fm (Ws ws) (fs.map LF.av) (js.map JP.av) (ks.map KF.av) uq (rs.map RL.av)) = some (tailK ws fs ks uq rs i)
  | 0, i, m, h, hm => by
    obtain ⟨m, rfl⟩ : ∃ q, m = q + 1 := ⟨m - 1, by omega⟩
    rw [Q2s.at36]
    unfold Q2s.r36 tailK
    simp only [List.length_map]
    rw [cond_f (by omega), List.drop_of_length_le (by omega)]
    show _ = some (if (0 : Int) ≠ 0 then _ else _)
    rw [if_neg (by simp)]
    by_cases h8 : rs.length > 8
    · rw [cond_t (by omega), if_pos h8]
    · rw [cond_f (by omega), if_neg h8]
      exact checkR48 hn hf hr hc rs.length 0 m (by omega) (by omega)
  | d + 1, i, m, h, hm => by
    obtain ⟨m, rfl⟩ : ∃ q, m = q + 1 := ⟨m - 1, by omega⟩
    have hi : i < ks.length := by omega
    have hkl : (knames ks).length = ks.length := by simp [knames]
    -- whether it stood before
    have inner : ∀ (e j q : Nat), j + e = i → 1010 * d + 1003 + e ≤ q → Q2s.l n q (.z41 i j nm fm (Ws ws) (fs.map LF.av) (js.map JP.av) (ks.map KF.av) uq (rs.map RL.av)) =
        some (if (((knames ks).take i).drop j).contains ks[i].nm then ((i : Int), 13) else tailK ws fs ks uq rs (i + 1)) := by
      intro e
      induction e with
      | zero =>
        intro j q hj hq
        obtain ⟨q, rfl⟩ : ∃ r, q = r + 1 := ⟨q - 1, by omega⟩
        rw [Q2s.at41]
        unfold Q2s.r41
        rw [cond_f (by omega), wsucc (by omega), checkR36 hn hf hk hr hc d (i + 1) q (by omega) (by omega), List.drop_of_length_le (by rw [List.length_take]; omega)]
        simp
      | succ e ih =>
        intro j q hj hq
        obtain ⟨q, rfl⟩ : ∃ r, q = r + 1 := ⟨q - 1, by omega⟩
        have ih' := ih (j + 1) q (by omega) (by omega)
        have hjl : j < ks.length := by omega
        have hjt : j < ((knames ks).take i).length := by rw [List.length_take]; omega
        have e2 : ((knames ks).take i)[j] = ks[j].nm := by simp [knames]
        rw [Q2s.at41]
        unfold Q2s.r41
        simp only [List.length_map]
        rw [cond_t (by omega), within_t hjl, cond_true, at_map KF.av hjl, List.drop_eq_getElem_cons hjt, List.contains_cons, e2]
        show (bif decide ((0 : Int) ≤ (i : Int)) && decide ((i : Int) < ((ks.length : Nat) : Int)) then (withCons (((ks.map KF.av).getD (((i : Nat) : Int)).toNat .undef).cells) fun h42 r43 => withStr h42 fun s44 => bif (bs ks[j].nm).toList == s44.toList then (some ((i : Int), 13)) else
          Q2s.l n q (.z41 i (IntKind.i64.wrap ((j : Int) + 1)) nm fm (Ws ws) (fs.map LF.av) (js.map JP.av) (ks.map KF.av) uq (rs.map RL.av))) else none) = _
        rw [within_t hi, cond_true, at_map KF.av hi]
        show (bif (bs ks[j].nm).toList == (bs ks[i].nm).toList then (some ((i : Int), 13)) else
          Q2s.l n q (.z41 i (IntKind.i64.wrap ((j : Int) + 1)) nm fm (Ws ws) (fs.map LF.av) (js.map JP.av) (ks.map KF.av) uq (rs.map RL.av))) = _
        rw [str_eq, wsucc (by omega), ih']
        by_cases h : ks[j].nm = ks[i].nm
        · rw [cond_t h]; simp [h]
        · have : (ks[i].nm == ks[j].nm) = false := by simpa using fun e => h e.symm
          rw [cond_f h, this, Bool.false_or]
    rw [Q2s.at36]
    unfold Q2s.r36
    simp only [List.length_map]
    rw [cond_t (by omega), within_t hi, cond_true, at_map KF.av hi]
    show ((Q2u.F n nm fm (Ws ws) (fs.map LF.av) (js.map JP.av) (ks.map KF.av) uq (rs.map RL.av) (bs ks[i].nm)).bind fun p37 => bif p37 == (-1) then (some ((i : Int), 11)) else
      Q2s.l n m (.z41 i 0 nm fm (Ws ws) (fs.map LF.av) (js.map JP.av) (ks.map KF.av) uq (rs.map RL.av))) = _
    have hin := inner i 0 m (by omega) (by omega)
    rw [List.drop_zero] at hin
    rw [fieldOf_eq hn fs hf, Option.bind_some, ixs_none, show (0 : Int) = ((0 : Nat) : Int) from rfl, hin]
    unfold tailK
    rw [List.drop_eq_getElem_cons hi]
    rw [kErr_cons]
    unfold ke
    cases h1 : (names fs).contains ks[i].nm
    · simp
    · cases h2 : ((knames ks).take i).contains ks[i].nm
      · simp
      · simp
def tailF (ws : List (List UInt8)) (fs : List LF) (js : List JP) (ks : List KF) (uq : Bool) (rs : List RL) (i : Nat) : Int × Int :=
  if (fErr ((ws.length : Int) - 1) (names fs) (fs.drop i) i).2 ≠ 0 then fErr ((ws.length : Int) - 1) (names fs) (fs.drop i) i else if (jErrT ws js).2 ≠ 0 then jErrT ws js else if ks.length > 4 then (0, 2) else tailK ws fs ks uq rs 0
end
end Go.Proofs.YtmpglmcjoelciaaGreatDoor.Ev
namespace Go.Proofs.YtmpglmcjoelciaaGreatDoor.Ev
open Go Go.Proofs Go.Proofs.Ev
set_option linter.unusedVariables false
set_option maxRecDepth 100000
abbrev Q44.A := Int × Int × Int
abbrev Q44.T := Int
def Q44.i : Q44.A → List AV := fun (a0, a1, a2) => [AV.agg [vi a0, vi a1, vi a2]]
def Q44.o (xs : List AV) : Option Q44.A := match xs with | [.agg [.v (.int .i64 a0), .v (.int .i64 a1), .v (.int .i64 a2)]] => some (a0, a1, a2) | _ => none
theorem Q44.oi : ∀ xs a, Q44.o xs = some a → xs = Q44.i a := by
  intro xs a h
  unfold Q44.o at h
  split at h
  · cases h; rfl
  · cases h
def Q44.p (p : Q44.T) : AV := vi p
def Q44.q (x : AV) : Option Q44.T := match x with | .v (.int .i64 p0) => some p0 | _ => none
theorem Q44.qi : ∀ x p, Q44.q x = some p → x = Q44.p p := by
  intro x p h
  unfold Q44.q at h
  split at h
  · cases h; rfl
  · cases h
def Q44.C {R : Type} (n : Nat) (f : FuncId) (xs : List AV) : (AV → Option R) → Option R :=
  fun _ => none
theorem Q44.tells {R : Type} (n : Nat) : Tells (R := R) Tryz.prog (Q44.C n) := fun _ xs => Tells1.none
def Q44.cut (r : Nat) : Option Keep := match r with  | _ => none
def Q44.e (n : Nat) (a0 a1 a2 : Int) : Option Int :=
  bif a0 == 1 then (let y1 : Int := IntKind.i64.wrap (Int.tdiv a1 2)
  some (IntKind.i64.wrap (y1 + 1))) else (bif a0 == 3 then (let y2 : Int := IntKind.i64.wrap (Int.tdiv a1 9)
  let y3 : Int := IntKind.i64.wrap ((2 : Int) + (IntKind.i64.wrap (y2 * 2)))
  some y3) else (bif a0 == 4 then (some 16) else (some a1)))
def Q44.E (n : Nat) : Q44.A → Option Q44.T := fun (a0, a1, a2) => Q44.e n a0 a1 a2
def Q44.F (n : Nat) (a0 a1 a2 : Int) : Option Int := Q44.e n a0 a1 a2
def Q44.FA (n : Nat) : Q44.A → Option Q44.T := Q44.E n
theorem Q44.hands (n : Nat) : ∀ a p, Q44.FA n a = some p → HandsIn Tryz.prog 180 (Q44.i a) (Q44.p p) :=
  pf_hands (C := Q44.C n) (cut := Q44.cut) (Z := Empty) (t := nofun) (s := nofun) (e := fun _ => Q44.E n) (r := fun _ z => nomatch z) (n := n) cfg mixed globs rfl Q44.qi (Q44.tells n) Tryz.func180 (by kernel_rfl) (by kernel_rfl) (fun rec a => by kernel_rfl) (fun rec z => nomatch z)
def Q44.via {R : Type} (n : Nat) : List AV → (AV → Option R) → Option R := viaK (Q44.FA n) Q44.o Q44.p
theorem Q44.tells1 {R : Type} (n : Nat) (xs : List AV) : Tells1 (R := R) Tryz.prog 180 xs (Q44.via n xs) := tells_via Q44.oi (fun a => by kernel_rfl) (Q44.hands n) xs
end Go.Proofs.YtmpglmcjoelciaaGreatDoor.Ev
namespace Go.Proofs.YtmpglmcjoelciaaGreatDoor.Ev
open Go Go.Proofs Go.Proofs.Ev
set_option linter.unusedVariables false
set_option maxRecDepth 100000
abbrev Q3w.A := Int × Int × Int
abbrev Q3w.T := Int × Int
def Q3w.i : Q3w.A → List AV := fun (a0, a1, a2) => [AV.agg [vi a0, vi a1, vi a2]]
def Q3w.o (xs : List AV) : Option Q3w.A := match xs with | [.agg [.v (.int .i64 a0), .v (.int .i64 a1), .v (.int .i64 a2)]] => some (a0, a1, a2) | _ => none
theorem Q3w.oi : ∀ xs a, Q3w.o xs = some a → xs = Q3w.i a := by
  intro xs a h
  unfold Q3w.o at h
  split at h
  · cases h; rfl
  · cases h
def Q3w.p (p : Q3w.T) : AV := .tup [vi p.1, vi p.2]
def Q3w.q (x : AV) : Option Q3w.T := match x with | .tup [.v (.int .i64 p0), .v (.int .i64 p1)] => some (p0, p1) | _ => none
theorem Q3w.qi : ∀ x p, Q3w.q x = some p → x = Q3w.p p := by
  intro x p h
  unfold Q3w.q at h
  split at h
  · cases h; rfl
  · cases h
def Q3w.C {R : Type} (n : Nat) (f : FuncId) (xs : List AV) : (AV → Option R) → Option R :=
  bif Nat.beq f 84 then Q3t.via n xs else bif Nat.beq f 180 then Q44.via n xs else fun _ => none
theorem Q3w.tells {R : Type} (n : Nat) : Tells (R := R) Tryz.prog (Q3w.C n) := fun _ xs => tells_at (Q3t.tells1 n xs) (tells_at (Q44.tells1 n xs) (Tells1.none))
def Q3w.cut (r : Nat) : Option Keep := match r with  | _ => none
def Q3w.e (n : Nat) (a0 a1 a2 : Int) : Option (Int × Int) :=
  (Q3t.F n a0 a1 a2).bind fun p1 =>
  bif p1 != 0 then (some (0, p1)) else ((Q44.F n a0 a1 a2).bind fun p2 =>
  some (p2, 0))
def Q3w.E (n : Nat) : Q3w.A → Option Q3w.T := fun (a0, a1, a2) => Q3w.e n a0 a1 a2
def Q3w.F (n : Nat) (a0 a1 a2 : Int) : Option (Int × Int) := Q3w.e n a0 a1 a2
def Q3w.FA (n : Nat) : Q3w.A → Option Q3w.T := Q3w.E n
theorem Q3w.hands (n : Nat) : ∀ a p, Q3w.FA n a = some p → HandsIn Tryz.prog 159 (Q3w.i a) (Q3w.p p) :=
  pf_hands (C := Q3w.C n) (cut := Q3w.cut) (Z := Empty) (t := nofun) (s := nofun) (e := fun _ => Q3w.E n) (r := fun _ z => nomatch z) (n := n) cfg mixed globs rfl Q3w.qi (Q3w.tells n) Tryz.func159 (by kernel_rfl) (by kernel_rfl) (fun rec a => by kernel_rfl) (fun rec z => nomatch z)
def Q3w.via {R : Type} (n : Nat) : List AV → (AV → Option R) → Option R := viaK (Q3w.FA n) Q3w.o Q3w.p
theorem Q3w.tells1 {R : Type} (n : Nat) (xs : List AV) : Tells1 (R := R) Tryz.prog 159 xs (Q3w.via n xs) := tells_via Q3w.oi (fun a => by kernel_rfl) (Q3w.hands n) xs
end Go.Proofs.YtmpglmcjoelciaaGreatDoor.Ev
namespace Go.Proofs.YtmpglmcjoelciaaGreatDoor.Ev
open Go Go.Proofs Go.Proofs.Ev
set_option linter.unusedVariables false
set_option maxRecDepth 100000
abbrev Q17.A := List AV
abbrev Q17.T := Int
def Q17.i : Q17.A → List AV := fun a0 => [.sl ⟨true, 125⟩ 4 a0]
def Q17.o (xs : List AV) : Option Q17.A := match xs with | [.sl ⟨true, 125⟩ 4 a0] => some a0 | _ => none
theorem Q17.oi : ∀ xs a, Q17.o xs = some a → xs = Q17.i a := by
  intro xs a h
  unfold Q17.o at h
  split at h
  · cases h; rfl
  · cases h
def Q17.p (p : Q17.T) : AV := vi p
def Q17.q (x : AV) : Option Q17.T := match x with | .v (.int .i64 p0) => some p0 | _ => none
theorem Q17.qi : ∀ x p, Q17.q x = some p → x = Q17.p p := by
  intro x p h
  unfold Q17.q at h
  split at h
  · cases h; rfl
  · cases h
inductive Q17.Z where
  | z3 (z1 : Int) (z2 : List AV) (z3 z4 : Int)
def Q17.C {R : Type} (n : Nat) (f : FuncId) (xs : List AV) : (AV → Option R) → Option R :=
  bif Nat.beq f 159 then Q3w.via n xs else fun _ => none
theorem Q17.tells {R : Type} (n : Nat) : Tells (R := R) Tryz.prog (Q17.C n) := fun _ xs => tells_at (Q3w.tells1 n xs) (Tells1.none)
def Q17.cut (r : Nat) : Option Keep := match r with | 3 => some ⟨[3, 8, 9, 10], []⟩ | _ => none
def Q17.t (z : Q17.Z) : List Item := (todoOf (match z with | .z3 _ _ _ _ => 3) 1000 [.code (Tryz.f137.body.getD .skip)]).getD []
def Q17.s : Q17.Z → St
  | .z3 z1 z2 z3 z4 => ⟨spr 25 0 [(3, vi z1), (8, .sl ⟨true, 125⟩ 4 z2), (9, vi z3), (10, vi z4)], Mem.ofList [], 0⟩
def Q17.r3 (n : Nat) (c : Q17.Z → Option Int) (z1 : Int) (z2 : List AV) (z3 z4 : Int) : Option Int :=
  bif decide (z4 < z3) then (bif decide ((0 : Int) ≤ z4) && decide (z4 < ((z2.length : Nat) : Int)) then (withCons ((z2.getD ((z4).toNat) .undef).cells) fun h1 r2 =>
  withStr h1 fun s3 =>
  withCons r2 fun h4 r5 =>
  withInt .i64 h4 fun x6 =>
  withCons r5 fun h7 r8 =>
  withInt .i64 h7 fun x9 =>
  withCons r8 fun h10 r11 =>
  withInt .i64 h10 fun x12 =>
  (Q3w.F n x6 x9 x12).bind fun p13 =>
  let y14 : Int := IntKind.i64.wrap (z1 + p13.1)
  c (.z3 y14 z2 z3 (IntKind.i64.wrap (z4 + 1)))) else none) else (some z1)
def Q17.r (n : Nat) (c : Q17.Z → Option Int) : Q17.Z → Option Int
  | .z3 z1 z2 z3 z4 => Q17.r3 n c z1 z2 z3 z4
def Q17.e (n : Nat) (c : Q17.Z → Option Int) (a0 : List AV) : Option Int :=
  c (.z3 0 a0 ((a0.length : Nat) : Int) 0)
def Q17.E (n : Nat) (c : Q17.Z → Option Int) : Q17.A → Option Q17.T := fun a0 => Q17.e n c a0
def Q17.l (n : Nat) : Nat → Q17.Z → Option Int := loopL (Q17.r n)
def Q17.F (n : Nat) (a0 : List AV) : Option Int := Q17.e n (Q17.l n n) a0
def Q17.FA (n : Nat) : Q17.A → Option Q17.T := Q17.E n (Q17.l n n)
theorem Q17.hands (n : Nat) : ∀ a p, Q17.FA n a = some p → HandsIn Tryz.prog 137 (Q17.i a) (Q17.p p) :=
  pf_hands (C := Q17.C n) (cut := Q17.cut) (t := Q17.t) (s := Q17.s) (e := Q17.E n) (r := Q17.r n) (n := n) cfg mixed globs rfl Q17.qi (Q17.tells n) Tryz.func137 (by kernel_rfl) (by kernel_rfl) (fun rec a => by kernel_rfl) (fun rec z => by cases z <;> kernel_rfl)
def Q17.via {R : Type} (n : Nat) : List AV → (AV → Option R) → Option R := viaK (Q17.FA n) Q17.o Q17.p
theorem Q17.tells1 {R : Type} (n : Nat) (xs : List AV) : Tells1 (R := R) Tryz.prog 137 xs (Q17.via n xs) := tells_via Q17.oi (fun a => by kernel_rfl) (Q17.hands n) xs
end Go.Proofs.YtmpglmcjoelciaaGreatDoor.Ev
namespace Go.Proofs.YtmpglmcjoelciaaGreatDoor.Ev
open Go Go.Proofs Go.Proofs.Ev
set_option linter.unusedVariables false
set_option maxRecDepth 100000
abbrev Q0j.A := ByteArray × ByteArray × List AV × List AV × Bool
abbrev Q0j.T := Int
def Q0j.i : Q0j.A → List AV := fun (a0, a1, a2, a3, a4) => [AV.agg [vs a0, vs a1, .sl ⟨true, 125⟩ 4 a2, .sl ⟨true, 111⟩ 2 a3, vb a4]]
def Q0j.o (xs : List AV) : Option Q0j.A := match xs with | [.agg [.v (.string a0), .v (.string a1), .sl ⟨true, 125⟩ 4 a2, .sl ⟨true, 111⟩ 2 a3, .v (.bool a4)]] => some (a0, a1, a2, a3, a4) | _ => none
theorem Q0j.oi : ∀ xs a, Q0j.o xs = some a → xs = Q0j.i a := by
  intro xs a h
  unfold Q0j.o at h
  split at h
  · cases h; rfl
  · cases h
def Q0j.p (p : Q0j.T) : AV := vi p
def Q0j.q (x : AV) : Option Q0j.T := match x with | .v (.int .i64 p0) => some p0 | _ => none
theorem Q0j.qi : ∀ x p, Q0j.q x = some p → x = Q0j.p p := by
  intro x p h
  unfold Q0j.q at h
  split at h
  · cases h; rfl
  · cases h
inductive Q0j.Z where
  | z7 (z1 z2 : List AV) (z3 z4 : Int) (z5 z6 : ByteArray) (z7 z8 : List AV) (z9 : Bool) (z10 : List AV)
def Q0j.C {R : Type} (n : Nat) (f : FuncId) (xs : List AV) : (AV → Option R) → Option R :=
  bif Nat.beq f 44 then Q0m.via n xs else bif Nat.beq f 45 then Q0f.via n xs else bif Nat.beq f 51 then Q0r.via n xs else bif Nat.beq f 56 then Q0w.via n xs else bif Nat.beq f 84 then Q3t.via n xs else bif Nat.beq f 99 then Q0y.via n xs else bif Nat.beq f 137 then Q17.via n xs else fun _ => none
theorem Q0j.tells {R : Type} (n : Nat) : Tells (R := R) Tryz.prog (Q0j.C n) := fun _ xs => tells_at (Q0m.tells1 n xs) (tells_at (Q0f.tells1 n xs) (tells_at (Q0r.tells1 n xs) (tells_at (Q0w.tells1 n xs) (tells_at (Q3t.tells1 n xs) (tells_at (Q0y.tells1 n xs) (tells_at (Q17.tells1 n xs) (Tells1.none)))))))
def Q0j.cut (r : Nat) : Option Keep := match r with | 7 => some ⟨[1, 3, 5, 38, 39, 40], [(5, none, ⟨true, 9⟩, 1)]⟩ | _ => none
def Q0j.t (z : Q0j.Z) : List Item := (todoOf (match z with | .z7 _ _ _ _ _ _ _ _ _ _ => 7) 1000 [.code (Tryz.f115.body.getD .skip)]).getD []
def Q0j.s : Q0j.Z → St
  | .z7 z1 z2 z3 z4 z5 z6 z7 z8 z9 z10 => ⟨spr 78 0 [(1, .ptr 0 0), (3, .sl ⟨true, 125⟩ 4 z1), (5, .own 1 0 none), (38, .sl ⟨true, 125⟩ 4 z2), (39, vi z3), (40, vi z4)], Mem.ofList [.box 48 [vs z5, vs z6, .sl ⟨true, 125⟩ 4 z7, .sl ⟨true, 111⟩ 2 z8, vb z9], .row ⟨true, 9⟩ 1 z10], 2⟩
def Q0j.r7 (n : Nat) (c : Q0j.Z → Option Int) (z1 z2 : List AV) (z3 z4 : Int) (z5 z6 : ByteArray) (z7 z8 : List AV) (z9 : Bool) (z10 : List AV) : Option Int :=
  bif decide (z4 < z3) then (bif decide ((0 : Int) ≤ z4) && decide (z4 < ((z2.length : Nat) : Int)) then (withCons ((z2.getD ((z4).toNat) .undef).cells) fun h10 r11 =>
  withStr h10 fun s12 =>
  withCons r11 fun h13 r14 =>
  withInt .i64 h13 fun x15 =>
  withCons r14 fun h16 r17 =>
  withInt .i64 h16 fun x18 =>
  withCons r17 fun h19 r20 =>
  withInt .i64 h19 fun x21 =>
  (Q0y.F n s12 z10).bind fun p22 =>
  (Q3t.F n x15 x18 x21).bind fun p23 =>
  (Q0f.F n (x15 == 4) 17).bind fun p24 =>
  (Q0m.F n [vi p22, vi p23, vi p24]).bind fun p25 =>
  bif p25 != 0 then (some p25) else (bif decide (z10.length + [vs s12].length ≤ most) then (c (.z7 z1 z2 z3 (IntKind.i64.wrap (z4 + 1)) z5 z6 z7 z8 z9 (z10 ++ [vs s12]))) else none)) else none) else ((Q17.F n z1).bind fun p26 =>
  bif decide (p26 > 200) then (some 18) else ((Q0w.F n z8 z10).bind fun p27 =>
  some p27.2))
def Q0j.r (n : Nat) (c : Q0j.Z → Option Int) : Q0j.Z → Option Int
  | .z7 z1 z2 z3 z4 z5 z6 z7 z8 z9 z10 => Q0j.r7 n c z1 z2 z3 z4 z5 z6 z7 z8 z9 z10
def Q0j.e (n : Nat) (c : Q0j.Z → Option Int) (a0 a1 : ByteArray) (a2 a3 : List AV) (a4 : Bool) : Option Int :=
  (Q0r.F n a0).bind fun p1 =>
  (Q0f.F n (!p1) 7).bind fun p2 =>
  (Q0r.F n a1).bind fun p3 =>
  (Q0f.F n (!p3) 7).bind fun p4 =>
  let y5 : Bool := ((a2.length : Nat) : Int) == 0
  (Q0f.F n y5 1).bind fun p6 =>
  let y7 : Bool := decide (((a2.length : Nat) : Int) > 20)
  (Q0f.F n y7 2).bind fun p8 =>
  (Q0m.F n [vi p2, vi p4, vi p6, vi p8]).bind fun p9 =>
  bif p9 != 0 then (some p9) else (c (.z7 a2 a2 ((a2.length : Nat) : Int) 0 a0 a1 a2 a3 a4 []))
def Q0j.E (n : Nat) (c : Q0j.Z → Option Int) : Q0j.A → Option Q0j.T := fun (a0, a1, a2, a3, a4) => Q0j.e n c a0 a1 a2 a3 a4
def Q0j.l (n : Nat) : Nat → Q0j.Z → Option Int := loopL (Q0j.r n)
def Q0j.F (n : Nat) (a0 a1 : ByteArray) (a2 a3 : List AV) (a4 : Bool) : Option Int := Q0j.e n (Q0j.l n n) a0 a1 a2 a3 a4
def Q0j.FA (n : Nat) : Q0j.A → Option Q0j.T := Q0j.E n (Q0j.l n n)
theorem Q0j.hands (n : Nat) : ∀ a p, Q0j.FA n a = some p → HandsIn Tryz.prog 115 (Q0j.i a) (Q0j.p p) :=
  pf_hands (C := Q0j.C n) (cut := Q0j.cut) (t := Q0j.t) (s := Q0j.s) (e := Q0j.E n) (r := Q0j.r n) (n := n) cfg mixed globs rfl Q0j.qi (Q0j.tells n) Tryz.func115 (by kernel_rfl) (by kernel_rfl) (fun rec a => by kernel_rfl) (fun rec z => by cases z <;> kernel_rfl)
def Q0j.via {R : Type} (n : Nat) : List AV → (AV → Option R) → Option R := viaK (Q0j.FA n) Q0j.o Q0j.p
theorem Q0j.tells1 {R : Type} (n : Nat) (xs : List AV) : Tells1 (R := R) Tryz.prog 115 xs (Q0j.via n xs) := tells_via Q0j.oi (fun a => by kernel_rfl) (Q0j.hands n) xs
end Go.Proofs.YtmpglmcjoelciaaGreatDoor.Ev
namespace Go.Proofs.YtmpglmcjoelciaaGreatDoor.Ev
open Go Go.Proofs Go.Proofs.Ev
set_option linter.unusedVariables false
set_option maxRecDepth 100000
abbrev Q1x.A := Int × Int × Int
abbrev Q1x.T := Int
def Q1x.i : Q1x.A → List AV := fun (a0, a1, a2) => [AV.agg [vi a0, vi a1, vi a2]]
def Q1x.o (xs : List AV) : Option Q1x.A := match xs with | [.agg [.v (.int .i64 a0), .v (.int .i64 a1), .v (.int .i64 a2)]] => some (a0, a1, a2) | _ => none
theorem Q1x.oi : ∀ xs a, Q1x.o xs = some a → xs = Q1x.i a := by
  intro xs a h
  unfold Q1x.o at h
  split at h
  · cases h; rfl
  · cases h
def Q1x.p (p : Q1x.T) : AV := vi p
def Q1x.q (x : AV) : Option Q1x.T := match x with | .v (.int .i64 p0) => some p0 | _ => none
theorem Q1x.qi : ∀ x p, Q1x.q x = some p → x = Q1x.p p := by
  intro x p h
  unfold Q1x.q at h
  split at h
  · cases h; rfl
  · cases h
def Q1x.C {R : Type} (n : Nat) (f : FuncId) (xs : List AV) : (AV → Option R) → Option R :=
  bif Nat.beq f 88 then Q1p.via n xs else fun _ => none
theorem Q1x.tells {R : Type} (n : Nat) : Tells (R := R) Tryz.prog (Q1x.C n) := fun _ xs => tells_at (Q1p.tells1 n xs) (Tells1.none)
def Q1x.cut (r : Nat) : Option Keep := match r with  | _ => none
def Q1x.e (n : Nat) (a0 a1 a2 : Int) : Option Int :=
  bif a0 == 1 then (let y1 : Int := IntKind.i64.wrap (Int.tdiv a1 2)
  some (IntKind.i64.wrap (y1 + 1))) else (bif a0 == 3 then ((Q1p.F n (a1 == 9)).bind fun p2 =>
  let y3 : Int := IntKind.i64.wrap ((2 : Int) * p2)
  let y4 : Int := IntKind.i64.wrap ((2 : Int) + y3)
  some y4) else (bif a0 == 4 then (some 16) else (some a1)))
def Q1x.E (n : Nat) : Q1x.A → Option Q1x.T := fun (a0, a1, a2) => Q1x.e n a0 a1 a2
def Q1x.F (n : Nat) (a0 a1 a2 : Int) : Option Int := Q1x.e n a0 a1 a2
def Q1x.FA (n : Nat) : Q1x.A → Option Q1x.T := Q1x.E n
theorem Q1x.hands (n : Nat) : ∀ a p, Q1x.FA n a = some p → HandsIn Tryz.prog 142 (Q1x.i a) (Q1x.p p) :=
  pf_hands (C := Q1x.C n) (cut := Q1x.cut) (Z := Empty) (t := nofun) (s := nofun) (e := fun _ => Q1x.E n) (r := fun _ z => nomatch z) (n := n) cfg mixed globs rfl Q1x.qi (Q1x.tells n) Tryz.func142 (by kernel_rfl) (by kernel_rfl) (fun rec a => by kernel_rfl) (fun rec z => nomatch z)
def Q1x.via {R : Type} (n : Nat) : List AV → (AV → Option R) → Option R := viaK (Q1x.FA n) Q1x.o Q1x.p
theorem Q1x.tells1 {R : Type} (n : Nat) (xs : List AV) : Tells1 (R := R) Tryz.prog 142 xs (Q1x.via n xs) := tells_via Q1x.oi (fun a => by kernel_rfl) (Q1x.hands n) xs
end Go.Proofs.YtmpglmcjoelciaaGreatDoor.Ev
namespace Go.Proofs.YtmpglmcjoelciaaGreatDoor.Ev
open Go Go.Proofs Go.Proofs.Ev
set_option linter.unusedVariables false
set_option maxRecDepth 100000
abbrev Q27.A := ByteArray × List AV
abbrev Q27.T := Int
def Q27.i : Q27.A → List AV := fun (a0, a1) => [AV.agg [vs a0, .sl ⟨true, 125⟩ 4 a1]]
def Q27.o (xs : List AV) : Option Q27.A := match xs with | [.agg [.v (.string a0), .sl ⟨true, 125⟩ 4 a1]] => some (a0, a1) | _ => none
theorem Q27.oi : ∀ xs a, Q27.o xs = some a → xs = Q27.i a := by
  intro xs a h
  unfold Q27.o at h
  split at h
  · cases h; rfl
  · cases h
def Q27.p (p : Q27.T) : AV := vi p
def Q27.q (x : AV) : Option Q27.T := match x with | .v (.int .i64 p0) => some p0 | _ => none
theorem Q27.qi : ∀ x p, Q27.q x = some p → x = Q27.p p := by
  intro x p h
  unfold Q27.q at h
  split at h
  · cases h; rfl
  · cases h
inductive Q27.Z where
  | z3 (z1 z2 : Int) (z3 : ByteArray) (z4 : List AV)
def Q27.C {R : Type} (n : Nat) (f : FuncId) (xs : List AV) : (AV → Option R) → Option R :=
  bif Nat.beq f 142 then Q1x.via n xs else fun _ => none
theorem Q27.tells {R : Type} (n : Nat) : Tells (R := R) Tryz.prog (Q27.C n) := fun _ xs => tells_at (Q1x.tells1 n xs) (Tells1.none)
def Q27.cut (r : Nat) : Option Keep := match r with | 3 => some ⟨[1, 3, 4], []⟩ | _ => none
def Q27.t (z : Q27.Z) : List Item := (todoOf (match z with | .z3 _ _ _ _ => 3) 1000 [.code (Tryz.f95.body.getD .skip)]).getD []
def Q27.s : Q27.Z → St
  | .z3 z1 z2 z3 z4 => ⟨spr 22 0 [(1, .ptr 0 0), (3, vi z1), (4, vi z2)], Mem.ofList [.box 46 [vs z3, .sl ⟨true, 125⟩ 4 z4]], 1⟩
def Q27.r3 (n : Nat) (c : Q27.Z → Option Int) (z1 z2 : Int) (z3 : ByteArray) (z4 : List AV) : Option Int :=
  let y1 : Bool := decide (z2 < ((z4.length : Nat) : Int))
  bif y1 then (bif decide ((0 : Int) ≤ z2) && decide (z2 < ((z4.length : Nat) : Int)) then (withCons (((z4.getD ((z2).toNat) .undef).cells).drop 1) fun h2 r3 =>
  withInt .i64 h2 fun x4 =>
  withCons r3 fun h5 r6 =>
  withInt .i64 h5 fun x7 =>
  withCons r6 fun h8 r9 =>
  withInt .i64 h8 fun x10 =>
  (Q1x.F n x4 x7 x10).bind fun p11 =>
  c (.z3 (IntKind.i64.wrap (z1 + p11)) (IntKind.i64.wrap (z2 + 1)) z3 z4)) else none) else (some z1)
def Q27.r (n : Nat) (c : Q27.Z → Option Int) : Q27.Z → Option Int
  | .z3 z1 z2 z3 z4 => Q27.r3 n c z1 z2 z3 z4
def Q27.e (n : Nat) (c : Q27.Z → Option Int) (a0 : ByteArray) (a1 : List AV) : Option Int :=
  c (.z3 0 0 a0 a1)
def Q27.E (n : Nat) (c : Q27.Z → Option Int) : Q27.A → Option Q27.T := fun (a0, a1) => Q27.e n c a0 a1
def Q27.l (n : Nat) : Nat → Q27.Z → Option Int := loopL (Q27.r n)
def Q27.F (n : Nat) (a0 : ByteArray) (a1 : List AV) : Option Int := Q27.e n (Q27.l n n) a0 a1
def Q27.FA (n : Nat) : Q27.A → Option Q27.T := Q27.E n (Q27.l n n)
theorem Q27.hands (n : Nat) : ∀ a p, Q27.FA n a = some p → HandsIn Tryz.prog 95 (Q27.i a) (Q27.p p) :=
  pf_hands (C := Q27.C n) (cut := Q27.cut) (t := Q27.t) (s := Q27.s) (e := Q27.E n) (r := Q27.r n) (n := n) cfg mixed globs rfl Q27.qi (Q27.tells n) Tryz.func95 (by kernel_rfl) (by kernel_rfl) (fun rec a => by kernel_rfl) (fun rec z => by cases z <;> kernel_rfl)
def Q27.via {R : Type} (n : Nat) : List AV → (AV → Option R) → Option R := viaK (Q27.FA n) Q27.o Q27.p
theorem Q27.tells1 {R : Type} (n : Nat) (xs : List AV) : Tells1 (R := R) Tryz.prog 95 xs (Q27.via n xs) := tells_via Q27.oi (fun a => by kernel_rfl) (Q27.hands n) xs
end Go.Proofs.YtmpglmcjoelciaaGreatDoor.Ev
namespace Go.Proofs.YtmpglmcjoelciaaGreatDoor.Ev
open Go Go.Proofs Go.Proofs.Ev
set_option linter.unusedVariables false
set_option maxRecDepth 100000
abbrev Q21.A := ByteArray × List AV × ByteArray
abbrev Q21.T := Int
def Q21.i : Q21.A → List AV := fun (a0, a1, a2) => [AV.agg [vs a0, .sl ⟨true, 125⟩ 4 a1], vs a2]
def Q21.o (xs : List AV) : Option Q21.A := match xs with | [.agg [.v (.string a0), .sl ⟨true, 125⟩ 4 a1], .v (.string a2)] => some (a0, a1, a2) | _ => none
theorem Q21.oi : ∀ xs a, Q21.o xs = some a → xs = Q21.i a := by
  intro xs a h
  unfold Q21.o at h
  split at h
  · cases h; rfl
  · cases h
def Q21.p (p : Q21.T) : AV := vi p
def Q21.q (x : AV) : Option Q21.T := match x with | .v (.int .i64 p0) => some p0 | _ => none
theorem Q21.qi : ∀ x p, Q21.q x = some p → x = Q21.p p := by
  intro x p h
  unfold Q21.q at h
  split at h
  · cases h; rfl
  · cases h
inductive Q21.Z where
  | z2 (z1 : ByteArray) (z2 : Int) (z3 : ByteArray) (z4 : List AV)
def Q21.C {R : Type} (n : Nat) (f : FuncId) (xs : List AV) : (AV → Option R) → Option R :=
  fun _ => none
theorem Q21.tells {R : Type} (n : Nat) : Tells (R := R) Tryz.prog (Q21.C n) := fun _ xs => Tells1.none
def Q21.cut (r : Nat) : Option Keep := match r with | 2 => some ⟨[1, 2, 5], []⟩ | _ => none
def Q21.t (z : Q21.Z) : List Item := (todoOf (match z with | .z2 _ _ _ _ => 2) 1000 [.code (Tryz.f140.body.getD .skip)]).getD []
def Q21.s : Q21.Z → St
  | .z2 z1 z2 z3 z4 => ⟨spr 22 0 [(1, vs z1), (2, .ptr 0 0), (5, vi z2)], Mem.ofList [.box 46 [vs z3, .sl ⟨true, 125⟩ 4 z4]], 1⟩
def Q21.r2 (n : Nat) (c : Q21.Z → Option Int) (z1 : ByteArray) (z2 : Int) (z3 : ByteArray) (z4 : List AV) : Option Int :=
  let y1 : Bool := decide (z2 < ((z4.length : Nat) : Int))
  bif y1 then (bif decide ((0 : Int) ≤ z2) && decide (z2 < ((z4.length : Nat) : Int)) then (withCons ((z4.getD ((z2).toNat) .undef).cells) fun h2 r3 =>
  withStr h2 fun s4 =>
  bif s4.toList == z1.toList then (some z2) else (c (.z2 z1 (IntKind.i64.wrap (z2 + 1)) z3 z4))) else none) else (some (-1))
def Q21.r (n : Nat) (c : Q21.Z → Option Int) : Q21.Z → Option Int
  | .z2 z1 z2 z3 z4 => Q21.r2 n c z1 z2 z3 z4
def Q21.e (n : Nat) (c : Q21.Z → Option Int) (a0 : ByteArray) (a1 : List AV) (a2 : ByteArray) : Option Int :=
  c (.z2 a2 0 a0 a1)
def Q21.E (n : Nat) (c : Q21.Z → Option Int) : Q21.A → Option Q21.T := fun (a0, a1, a2) => Q21.e n c a0 a1 a2
def Q21.l (n : Nat) : Nat → Q21.Z → Option Int := loopL (Q21.r n)
def Q21.F (n : Nat) (a0 : ByteArray) (a1 : List AV) (a2 : ByteArray) : Option Int := Q21.e n (Q21.l n n) a0 a1 a2
def Q21.FA (n : Nat) : Q21.A → Option Q21.T := Q21.E n (Q21.l n n)
theorem Q21.hands (n : Nat) : ∀ a p, Q21.FA n a = some p → HandsIn Tryz.prog 140 (Q21.i a) (Q21.p p) :=
  pf_hands (C := Q21.C n) (cut := Q21.cut) (t := Q21.t) (s := Q21.s) (e := Q21.E n) (r := Q21.r n) (n := n) cfg mixed globs rfl Q21.qi (Q21.tells n) Tryz.func140 (by kernel_rfl) (by kernel_rfl) (fun rec a => by kernel_rfl) (fun rec z => by cases z <;> kernel_rfl)
def Q21.via {R : Type} (n : Nat) : List AV → (AV → Option R) → Option R := viaK (Q21.FA n) Q21.o Q21.p
theorem Q21.tells1 {R : Type} (n : Nat) (xs : List AV) : Tells1 (R := R) Tryz.prog 140 xs (Q21.via n xs) := tells_via Q21.oi (fun a => by kernel_rfl) (Q21.hands n) xs
end Go.Proofs.YtmpglmcjoelciaaGreatDoor.Ev
namespace Go.Proofs.YtmpglmcjoelciaaGreatDoor.Ev
open Go Go.Proofs Go.Proofs.Ev
set_option linter.unusedVariables false
set_option maxRecDepth 100000
abbrev Q22.A := ByteArray × List AV
abbrev Q22.T := Int × Int
def Q22.i : Q22.A → List AV := fun (a0, a1) => [AV.agg [vs a0, .sl ⟨true, 125⟩ 4 a1]]
def Q22.o (xs : List AV) : Option Q22.A := match xs with | [.agg [.v (.string a0), .sl ⟨true, 125⟩ 4 a1]] => some (a0, a1) | _ => none
theorem Q22.oi : ∀ xs a, Q22.o xs = some a → xs = Q22.i a := by
  intro xs a h
  unfold Q22.o at h
  split at h
  · cases h; rfl
  · cases h
def Q22.p (p : Q22.T) : AV := .tup [vi p.1, vi p.2]
def Q22.q (x : AV) : Option Q22.T := match x with | .tup [.v (.int .i64 p0), .v (.int .i64 p1)] => some (p0, p1) | _ => none
theorem Q22.qi : ∀ x p, Q22.q x = some p → x = Q22.p p := by
  intro x p h
  unfold Q22.q at h
  split at h
  · cases h; rfl
  · cases h
inductive Q22.Z where
  | z6 (z1 : Int) (z2 : ByteArray) (z3 : List AV)
def Q22.C {R : Type} (n : Nat) (f : FuncId) (xs : List AV) : (AV → Option R) → Option R :=
  bif Nat.beq f 32 then Q2q.via n xs else bif Nat.beq f 59 then Q1t.via n xs else bif Nat.beq f 88 then Q1p.via n xs else bif Nat.beq f 95 then Q27.via n xs else bif Nat.beq f 140 then Q21.via n xs else fun _ => none
theorem Q22.tells {R : Type} (n : Nat) : Tells (R := R) Tryz.prog (Q22.C n) := fun _ xs => tells_at (Q2q.tells1 n xs) (tells_at (Q1t.tells1 n xs) (tells_at (Q1p.tells1 n xs) (tells_at (Q27.tells1 n xs) (tells_at (Q21.tells1 n xs) (Tells1.none)))))
def Q22.cut (r : Nat) : Option Keep := match r with | 6 => some ⟨[1, 4], []⟩ | _ => none
def Q22.t (z : Q22.Z) : List Item := (todoOf (match z with | .z6 _ _ _ => 6) 1000 [.code (Tryz.f160.body.getD .skip)]).getD []
def Q22.s : Q22.Z → St
  | .z6 z1 z2 z3 => ⟨spr 66 0 [(1, .ptr 0 0), (4, vi z1)], Mem.ofList [.box 46 [vs z2, .sl ⟨true, 125⟩ 4 z3]], 1⟩
def Q22.r6 (n : Nat) (c : Q22.Z → Option (Int × Int)) (z1 : Int) (z2 : ByteArray) (z3 : List AV) : Option (Int × Int) :=
  let y3 : Bool := decide (z1 < ((z3.length : Nat) : Int))
  bif y3 then (bif decide ((0 : Int) ≤ z1) && decide (z1 < ((z3.length : Nat) : Int)) then (withCons ((z3.getD ((z1).toNat) .undef).cells) fun h4 r5 =>
  withStr h4 fun s6 =>
  (Q1t.F n s6).bind fun p7 =>
  bif !p7 then (some (z1, 7)) else (bif decide ((0 : Int) ≤ z1) && decide (z1 < ((z3.length : Nat) : Int)) then (withCons ((z3.getD ((z1).toNat) .undef).cells) fun h8 r9 =>
  withStr h8 fun s10 =>
  (Q21.F n z2 z3 s10).bind fun p11 =>
  bif decide (p11 < z1) then (some (z1, 13)) else (bif decide ((0 : Int) ≤ z1) && decide (z1 < ((z3.length : Nat) : Int)) then (withCons (((z3.getD ((z1).toNat) .undef).cells).drop 1) fun h12 r13 =>
  withInt .i64 h12 fun x14 =>
  withCons r13 fun h15 r16 =>
  withInt .i64 h15 fun x17 =>
  withCons r16 fun h18 r19 =>
  withInt .i64 h18 fun x20 =>
  (Q2q.F n x14 x17 x20).bind fun p21 =>
  bif p21 != 0 then (some (z1, p21)) else (bif decide ((0 : Int) ≤ z1) && decide (z1 < ((z3.length : Nat) : Int)) then (withCons (((z3.getD ((z1).toNat) .undef).cells).drop 1) fun h22 r23 =>
  withInt .i64 h22 fun x24 =>
  bif x24 == 4 then (some (z1, 17)) else (c (.z6 (IntKind.i64.wrap (z1 + 1)) z2 z3))) else none)) else none)) else none)) else none) else ((Q27.F n z2 z3).bind fun p25 =>
  (Q1p.F n (decide (p25 > 200))).bind fun p26 =>
  let y27 : Int := IntKind.i64.wrap ((18 : Int) * p26)
  some (0, y27))
def Q22.r (n : Nat) (c : Q22.Z → Option (Int × Int)) : Q22.Z → Option (Int × Int)
  | .z6 z1 z2 z3 => Q22.r6 n c z1 z2 z3
def Q22.e (n : Nat) (c : Q22.Z → Option (Int × Int)) (a0 : ByteArray) (a1 : List AV) : Option (Int × Int) :=
  let y1 : Bool := ((a1.length : Nat) : Int) == 0
  bif y1 then (some (0, 1)) else (let y2 : Bool := decide (((a1.length : Nat) : Int) > 20)
  bif y2 then (some (0, 2)) else (c (.z6 0 a0 a1)))
def Q22.E (n : Nat) (c : Q22.Z → Option (Int × Int)) : Q22.A → Option Q22.T := fun (a0, a1) => Q22.e n c a0 a1
def Q22.l (n : Nat) : Nat → Q22.Z → Option (Int × Int) := loopL (Q22.r n)
def Q22.F (n : Nat) (a0 : ByteArray) (a1 : List AV) : Option (Int × Int) := Q22.e n (Q22.l n n) a0 a1
def Q22.FA (n : Nat) : Q22.A → Option Q22.T := Q22.E n (Q22.l n n)
theorem Q22.hands (n : Nat) : ∀ a p, Q22.FA n a = some p → HandsIn Tryz.prog 160 (Q22.i a) (Q22.p p) :=
  pf_hands (C := Q22.C n) (cut := Q22.cut) (t := Q22.t) (s := Q22.s) (e := Q22.E n) (r := Q22.r n) (n := n) cfg mixed globs rfl Q22.qi (Q22.tells n) Tryz.func160 (by kernel_rfl) (by kernel_rfl) (fun rec a => by kernel_rfl) (fun rec z => by cases z <;> kernel_rfl)
def Q22.via {R : Type} (n : Nat) : List AV → (AV → Option R) → Option R := viaK (Q22.FA n) Q22.o Q22.p
theorem Q22.tells1 {R : Type} (n : Nat) (xs : List AV) : Tells1 (R := R) Tryz.prog 160 xs (Q22.via n xs) := tells_via Q22.oi (fun a => by kernel_rfl) (Q22.hands n) xs
end Go.Proofs.YtmpglmcjoelciaaGreatDoor.Ev
namespace Go.Proofs.YtmpglmcjoelciaaGreatDoor.Ev
open Go Go.Proofs Go.Proofs.Ev
set_option linter.unusedVariables false
set_option maxRecDepth 100000
abbrev Q24.A := ByteArray × List AV
abbrev Q24.T := Int × Int
def Q24.i : Q24.A → List AV := fun (a0, a1) => [AV.agg [vs a0, .sl ⟨true, 125⟩ 4 a1]]
def Q24.o (xs : List AV) : Option Q24.A := match xs with | [.agg [.v (.string a0), .sl ⟨true, 125⟩ 4 a1]] => some (a0, a1) | _ => none
theorem Q24.oi : ∀ xs a, Q24.o xs = some a → xs = Q24.i a := by
  intro xs a h
  unfold Q24.o at h
  split at h
  · cases h; rfl
  · cases h
def Q24.p (p : Q24.T) : AV := .tup [vi p.1, vi p.2]
def Q24.q (x : AV) : Option Q24.T := match x with | .tup [.v (.int .i64 p0), .v (.int .i64 p1)] => some (p0, p1) | _ => none
theorem Q24.qi : ∀ x p, Q24.q x = some p → x = Q24.p p := by
  intro x p h
  unfold Q24.q at h
  split at h
  · cases h; rfl
  · cases h
def Q24.C {R : Type} (n : Nat) (f : FuncId) (xs : List AV) : (AV → Option R) → Option R :=
  bif Nat.beq f 59 then Q1t.via n xs else bif Nat.beq f 160 then Q22.via n xs else fun _ => none
theorem Q24.tells {R : Type} (n : Nat) : Tells (R := R) Tryz.prog (Q24.C n) := fun _ xs => tells_at (Q1t.tells1 n xs) (tells_at (Q22.tells1 n xs) (Tells1.none))
def Q24.cut (r : Nat) : Option Keep := match r with  | _ => none
def Q24.e (n : Nat) (a0 : ByteArray) (a1 : List AV) : Option (Int × Int) :=
  (Q1t.F n a0).bind fun p1 =>
  bif !p1 then (some (0, 7)) else ((Q22.F n a0 a1).bind fun p2 =>
  some (p2.1, p2.2))
def Q24.E (n : Nat) : Q24.A → Option Q24.T := fun (a0, a1) => Q24.e n a0 a1
def Q24.F (n : Nat) (a0 : ByteArray) (a1 : List AV) : Option (Int × Int) := Q24.e n a0 a1
def Q24.FA (n : Nat) : Q24.A → Option Q24.T := Q24.E n
theorem Q24.hands (n : Nat) : ∀ a p, Q24.FA n a = some p → HandsIn Tryz.prog 138 (Q24.i a) (Q24.p p) :=
  pf_hands (C := Q24.C n) (cut := Q24.cut) (Z := Empty) (t := nofun) (s := nofun) (e := fun _ => Q24.E n) (r := fun _ z => nomatch z) (n := n) cfg mixed globs rfl Q24.qi (Q24.tells n) Tryz.func138 (by kernel_rfl) (by kernel_rfl) (fun rec a => by kernel_rfl) (fun rec z => nomatch z)
def Q24.via {R : Type} (n : Nat) : List AV → (AV → Option R) → Option R := viaK (Q24.FA n) Q24.o Q24.p
theorem Q24.tells1 {R : Type} (n : Nat) (xs : List AV) : Tells1 (R := R) Tryz.prog 138 xs (Q24.via n xs) := tells_via Q24.oi (fun a => by kernel_rfl) (Q24.hands n) xs
end Go.Proofs.YtmpglmcjoelciaaGreatDoor.Ev
namespace Go.Proofs.YtmpglmcjoelciaaGreatDoor.Ev
open Go Go.Proofs Go.Proofs.Ev
set_option linter.unusedVariables false
set_option maxRecDepth 100000
abbrev Q25.A := ByteArray × ByteArray × List AV × List AV × Bool
abbrev Q25.T := Int × Int
def Q25.i : Q25.A → List AV := fun (a0, a1, a2, a3, a4) => [AV.agg [vs a0, vs a1, .sl ⟨true, 125⟩ 4 a2, .sl ⟨true, 111⟩ 2 a3, vb a4]]
def Q25.o (xs : List AV) : Option Q25.A := match xs with | [.agg [.v (.string a0), .v (.string a1), .sl ⟨true, 125⟩ 4 a2, .sl ⟨true, 111⟩ 2 a3, .v (.bool a4)]] => some (a0, a1, a2, a3, a4) | _ => none
theorem Q25.oi : ∀ xs a, Q25.o xs = some a → xs = Q25.i a := by
  intro xs a h
  unfold Q25.o at h
  split at h
  · cases h; rfl
  · cases h
def Q25.p (p : Q25.T) : AV := .tup [vi p.1, vi p.2]
def Q25.q (x : AV) : Option Q25.T := match x with | .tup [.v (.int .i64 p0), .v (.int .i64 p1)] => some (p0, p1) | _ => none
theorem Q25.qi : ∀ x p, Q25.q x = some p → x = Q25.p p := by
  intro x p h
  unfold Q25.q at h
  split at h
  · cases h; rfl
  · cases h
inductive Q25.Z where
  | z4 (z1 : Int) (z2 z3 : ByteArray) (z4 z5 : List AV) (z6 : Bool)
  | z9 (z1 z2 : Int) (z3 z4 : ByteArray) (z5 z6 : List AV) (z7 : Bool)
def Q25.C {R : Type} (n : Nat) (f : FuncId) (xs : List AV) : (AV → Option R) → Option R :=
  bif Nat.beq f 140 then Q21.via n xs else fun _ => none
theorem Q25.tells {R : Type} (n : Nat) : Tells (R := R) Tryz.prog (Q25.C n) := fun _ xs => tells_at (Q21.tells1 n xs) (Tells1.none)
def Q25.cut (r : Nat) : Option Keep := match r with | 4 => some ⟨[1, 4], []⟩ | 9 => some ⟨[1, 4, 5], []⟩ | _ => none
def Q25.t (z : Q25.Z) : List Item := (todoOf (match z with | .z4 _ _ _ _ _ _ => 4 | .z9 _ _ _ _ _ _ _ => 9) 1000 [.code (Tryz.f139.body.getD .skip)]).getD []
def Q25.s : Q25.Z → St
  | .z4 z1 z2 z3 z4 z5 z6 => ⟨spr 47 0 [(1, .ptr 0 0), (4, vi z1)], Mem.ofList [.box 48 [vs z2, vs z3, .sl ⟨true, 125⟩ 4 z4, .sl ⟨true, 111⟩ 2 z5, vb z6]], 1⟩
  | .z9 z1 z2 z3 z4 z5 z6 z7 => ⟨spr 47 0 [(1, .ptr 0 0), (4, vi z1), (5, vi z2)], Mem.ofList [.box 48 [vs z3, vs z4, .sl ⟨true, 125⟩ 4 z5, .sl ⟨true, 111⟩ 2 z6, vb z7]], 1⟩
def Q25.r4 (n : Nat) (c : Q25.Z → Option (Int × Int)) (z1 : Int) (z2 z3 : ByteArray) (z4 z5 : List AV) (z6 : Bool) : Option (Int × Int) :=
  let y2 : Bool := decide (z1 < ((z5.length : Nat) : Int))
  bif y2 then (bif decide ((0 : Int) ≤ z1) && decide (z1 < ((z5.length : Nat) : Int)) then (withCons ((z5.getD ((z1).toNat) .undef).cells) fun h3 r4 =>
  withStr h3 fun s5 =>
  (Q21.F n z3 z4 s5).bind fun p6 =>
  bif p6 == (-1) then (some (z1, 11)) else (c (.z9 z1 0 z2 z3 z4 z5 z6))) else none) else (some (0, 0))
def Q25.r9 (n : Nat) (c : Q25.Z → Option (Int × Int)) (z1 z2 : Int) (z3 z4 : ByteArray) (z5 z6 : List AV) (z7 : Bool) : Option (Int × Int) :=
  bif decide (z2 < z1) then (bif decide ((0 : Int) ≤ z2) && decide (z2 < ((z6.length : Nat) : Int)) then (withCons ((z6.getD ((z2).toNat) .undef).cells) fun h7 r8 =>
  withStr h7 fun s9 =>
  bif decide ((0 : Int) ≤ z1) && decide (z1 < ((z6.length : Nat) : Int)) then (withCons ((z6.getD ((z1).toNat) .undef).cells) fun h10 r11 =>
  withStr h10 fun s12 =>
  bif s9.toList == s12.toList then (some (z1, 13)) else (c (.z9 z1 (IntKind.i64.wrap (z2 + 1)) z3 z4 z5 z6 z7))) else none) else none) else (c (.z4 (IntKind.i64.wrap (z1 + 1)) z3 z4 z5 z6 z7))
def Q25.r (n : Nat) (c : Q25.Z → Option (Int × Int)) : Q25.Z → Option (Int × Int)
  | .z4 z1 z2 z3 z4 z5 z6 => Q25.r4 n c z1 z2 z3 z4 z5 z6
  | .z9 z1 z2 z3 z4 z5 z6 z7 => Q25.r9 n c z1 z2 z3 z4 z5 z6 z7
def Q25.e (n : Nat) (c : Q25.Z → Option (Int × Int)) (a0 a1 : ByteArray) (a2 a3 : List AV) (a4 : Bool) : Option (Int × Int) :=
  let y1 : Bool := decide (((a3.length : Nat) : Int) > 4)
  bif y1 then (some (0, 2)) else (c (.z4 0 a0 a1 a2 a3 a4))
def Q25.E (n : Nat) (c : Q25.Z → Option (Int × Int)) : Q25.A → Option Q25.T := fun (a0, a1, a2, a3, a4) => Q25.e n c a0 a1 a2 a3 a4
def Q25.l (n : Nat) : Nat → Q25.Z → Option (Int × Int) := loopL (Q25.r n)
def Q25.F (n : Nat) (a0 a1 : ByteArray) (a2 a3 : List AV) (a4 : Bool) : Option (Int × Int) := Q25.e n (Q25.l n n) a0 a1 a2 a3 a4
def Q25.FA (n : Nat) : Q25.A → Option Q25.T := Q25.E n (Q25.l n n)
theorem Q25.hands (n : Nat) : ∀ a p, Q25.FA n a = some p → HandsIn Tryz.prog 139 (Q25.i a) (Q25.p p) :=
  pf_hands (C := Q25.C n) (cut := Q25.cut) (t := Q25.t) (s := Q25.s) (e := Q25.E n) (r := Q25.r n) (n := n) cfg mixed globs rfl Q25.qi (Q25.tells n) Tryz.func139 (by kernel_rfl) (by kernel_rfl) (fun rec a => by kernel_rfl) (fun rec z => by cases z <;> kernel_rfl)
def Q25.via {R : Type} (n : Nat) : List AV → (AV → Option R) → Option R := viaK (Q25.FA n) Q25.o Q25.p
theorem Q25.tells1 {R : Type} (n : Nat) (xs : List AV) : Tells1 (R := R) Tryz.prog 139 xs (Q25.via n xs) := tells_via Q25.oi (fun a => by kernel_rfl) (Q25.hands n) xs
end Go.Proofs.YtmpglmcjoelciaaGreatDoor.Ev
namespace Go.Proofs.YtmpglmcjoelciaaGreatDoor.Ev
open Go Go.Proofs Go.Proofs.Ev
set_option linter.unusedVariables false
set_option maxRecDepth 100000
abbrev Q23.A := ByteArray × ByteArray × List AV × List AV × Bool
abbrev Q23.T := Int × Int
def Q23.i : Q23.A → List AV := fun (a0, a1, a2, a3, a4) => [AV.agg [vs a0, vs a1, .sl ⟨true, 125⟩ 4 a2, .sl ⟨true, 111⟩ 2 a3, vb a4]]
def Q23.o (xs : List AV) : Option Q23.A := match xs with | [.agg [.v (.string a0), .v (.string a1), .sl ⟨true, 125⟩ 4 a2, .sl ⟨true, 111⟩ 2 a3, .v (.bool a4)]] => some (a0, a1, a2, a3, a4) | _ => none
theorem Q23.oi : ∀ xs a, Q23.o xs = some a → xs = Q23.i a := by
  intro xs a h
  unfold Q23.o at h
  split at h
  · cases h; rfl
  · cases h
def Q23.p (p : Q23.T) : AV := .tup [vi p.1, vi p.2]
def Q23.q (x : AV) : Option Q23.T := match x with | .tup [.v (.int .i64 p0), .v (.int .i64 p1)] => some (p0, p1) | _ => none
theorem Q23.qi : ∀ x p, Q23.q x = some p → x = Q23.p p := by
  intro x p h
  unfold Q23.q at h
  split at h
  · cases h; rfl
  · cases h
def Q23.C {R : Type} (n : Nat) (f : FuncId) (xs : List AV) : (AV → Option R) → Option R :=
  bif Nat.beq f 59 then Q1t.via n xs else bif Nat.beq f 138 then Q24.via n xs else bif Nat.beq f 139 then Q25.via n xs else fun _ => none
theorem Q23.tells {R : Type} (n : Nat) : Tells (R := R) Tryz.prog (Q23.C n) := fun _ xs => tells_at (Q1t.tells1 n xs) (tells_at (Q24.tells1 n xs) (tells_at (Q25.tells1 n xs) (Tells1.none)))
def Q23.cut (r : Nat) : Option Keep := match r with  | _ => none
def Q23.e (n : Nat) (a0 a1 : ByteArray) (a2 a3 : List AV) (a4 : Bool) : Option (Int × Int) :=
  (Q1t.F n a0).bind fun p1 =>
  bif !p1 then (some (0, 7)) else ((Q24.F n a1 a2).bind fun p2 =>
  bif p2.2 != 0 then (some (0, p2.2)) else ((Q25.F n a0 a1 a2 a3 a4).bind fun p3 =>
  some (p3.1, p3.2)))
def Q23.E (n : Nat) : Q23.A → Option Q23.T := fun (a0, a1, a2, a3, a4) => Q23.e n a0 a1 a2 a3 a4
def Q23.F (n : Nat) (a0 a1 : ByteArray) (a2 a3 : List AV) (a4 : Bool) : Option (Int × Int) := Q23.e n a0 a1 a2 a3 a4
def Q23.FA (n : Nat) : Q23.A → Option Q23.T := Q23.E n
theorem Q23.hands (n : Nat) : ∀ a p, Q23.FA n a = some p → HandsIn Tryz.prog 90 (Q23.i a) (Q23.p p) :=
  pf_hands (C := Q23.C n) (cut := Q23.cut) (Z := Empty) (t := nofun) (s := nofun) (e := fun _ => Q23.E n) (r := fun _ z => nomatch z) (n := n) cfg mixed globs rfl Q23.qi (Q23.tells n) Tryz.func90 (by kernel_rfl) (by kernel_rfl) (fun rec a => by kernel_rfl) (fun rec z => nomatch z)
def Q23.via {R : Type} (n : Nat) : List AV → (AV → Option R) → Option R := viaK (Q23.FA n) Q23.o Q23.p
theorem Q23.tells1 {R : Type} (n : Nat) (xs : List AV) : Tells1 (R := R) Tryz.prog 90 xs (Q23.via n xs) := tells_via Q23.oi (fun a => by kernel_rfl) (Q23.hands n) xs
end Go.Proofs.YtmpglmcjoelciaaGreatDoor.Ev
namespace Go.Proofs.YtmpglmcjoelciaaGreatDoor.Ev
open Go Go.Proofs Go.Proofs.Ev
set_option linter.unusedVariables false
set_option maxRecDepth 100000
abbrev Q20.A := ByteArray × ByteArray × List AV × List AV × Bool
abbrev Q20.T := Int
def Q20.i : Q20.A → List AV := fun (a0, a1, a2, a3, a4) => [AV.agg [vs a0, vs a1, .sl ⟨true, 125⟩ 4 a2, .sl ⟨true, 111⟩ 2 a3, vb a4]]
def Q20.o (xs : List AV) : Option Q20.A := match xs with | [.agg [.v (.string a0), .v (.string a1), .sl ⟨true, 125⟩ 4 a2, .sl ⟨true, 111⟩ 2 a3, .v (.bool a4)]] => some (a0, a1, a2, a3, a4) | _ => none
theorem Q20.oi : ∀ xs a, Q20.o xs = some a → xs = Q20.i a := by
  intro xs a h
  unfold Q20.o at h
  split at h
  · cases h; rfl
  · cases h
def Q20.p (p : Q20.T) : AV := vi p
def Q20.q (x : AV) : Option Q20.T := match x with | .v (.int .i64 p0) => some p0 | _ => none
theorem Q20.qi : ∀ x p, Q20.q x = some p → x = Q20.p p := by
  intro x p h
  unfold Q20.q at h
  split at h
  · cases h; rfl
  · cases h
def Q20.C {R : Type} (n : Nat) (f : FuncId) (xs : List AV) : (AV → Option R) → Option R :=
  bif Nat.beq f 90 then Q23.via n xs else fun _ => none
theorem Q20.tells {R : Type} (n : Nat) : Tells (R := R) Tryz.prog (Q20.C n) := fun _ xs => tells_at (Q23.tells1 n xs) (Tells1.none)
def Q20.cut (r : Nat) : Option Keep := match r with  | _ => none
def Q20.e (n : Nat) (a0 a1 : ByteArray) (a2 a3 : List AV) (a4 : Bool) : Option Int :=
  (Q23.F n a0 a1 a2 a3 a4).bind fun p1 =>
  some p1.2
def Q20.E (n : Nat) : Q20.A → Option Q20.T := fun (a0, a1, a2, a3, a4) => Q20.e n a0 a1 a2 a3 a4
def Q20.F (n : Nat) (a0 a1 : ByteArray) (a2 a3 : List AV) (a4 : Bool) : Option Int := Q20.e n a0 a1 a2 a3 a4
def Q20.FA (n : Nat) : Q20.A → Option Q20.T := Q20.E n
theorem Q20.hands (n : Nat) : ∀ a p, Q20.FA n a = some p → HandsIn Tryz.prog 38 (Q20.i a) (Q20.p p) :=
  pf_hands (C := Q20.C n) (cut := Q20.cut) (Z := Empty) (t := nofun) (s := nofun) (e := fun _ => Q20.E n) (r := fun _ z => nomatch z) (n := n) cfg mixed globs rfl Q20.qi (Q20.tells n) Tryz.func38 (by kernel_rfl) (by kernel_rfl) (fun rec a => by kernel_rfl) (fun rec z => nomatch z)
def Q20.via {R : Type} (n : Nat) : List AV → (AV → Option R) → Option R := viaK (Q20.FA n) Q20.o Q20.p
theorem Q20.tells1 {R : Type} (n : Nat) (xs : List AV) : Tells1 (R := R) Tryz.prog 38 xs (Q20.via n xs) := tells_via Q20.oi (fun a => by kernel_rfl) (Q20.hands n) xs
end Go.Proofs.YtmpglmcjoelciaaGreatDoor.Ev
namespace Go.Proofs.YtmpglmcjoelciaaGreatDoor.Ev
open Go Go.Proofs Go.Proofs.Ev
set_option linter.unusedVariables false
set_option maxRecDepth 100000
abbrev Q26.A := ByteArray × ByteArray × List AV × List AV × Bool
abbrev Q26.T := Int
def Q26.i : Q26.A → List AV := fun (a0, a1, a2, a3, a4) => [AV.agg [vs a0, vs a1, .sl ⟨true, 125⟩ 4 a2, .sl ⟨true, 111⟩ 2 a3, vb a4]]
def Q26.o (xs : List AV) : Option Q26.A := match xs with | [.agg [.v (.string a0), .v (.string a1), .sl ⟨true, 125⟩ 4 a2, .sl ⟨true, 111⟩ 2 a3, .v (.bool a4)]] => some (a0, a1, a2, a3, a4) | _ => none
theorem Q26.oi : ∀ xs a, Q26.o xs = some a → xs = Q26.i a := by
  intro xs a h
  unfold Q26.o at h
  split at h
  · cases h; rfl
  · cases h
def Q26.p (p : Q26.T) : AV := vi p
def Q26.q (x : AV) : Option Q26.T := match x with | .v (.int .i64 p0) => some p0 | _ => none
theorem Q26.qi : ∀ x p, Q26.q x = some p → x = Q26.p p := by
  intro x p h
  unfold Q26.q at h
  split at h
  · cases h; rfl
  · cases h
def Q26.C {R : Type} (n : Nat) (f : FuncId) (xs : List AV) : (AV → Option R) → Option R :=
  bif Nat.beq f 38 then Q20.via n xs else bif Nat.beq f 59 then Q1t.via n xs else fun _ => none
theorem Q26.tells {R : Type} (n : Nat) : Tells (R := R) Tryz.prog (Q26.C n) := fun _ xs => tells_at (Q20.tells1 n xs) (tells_at (Q1t.tells1 n xs) (Tells1.none))
def Q26.cut (r : Nat) : Option Keep := match r with  | _ => none
def Q26.e (n : Nat) (a0 a1 : ByteArray) (a2 a3 : List AV) (a4 : Bool) : Option Int :=
  (Q1t.F n a0).bind fun p1 =>
  bif !p1 then (some 7) else ((Q1t.F n a1).bind fun p2 =>
  bif !p2 then (some 7) else ((Q20.F n a0 a1 a2 a3 a4).bind fun p3 =>
  some p3))
def Q26.E (n : Nat) : Q26.A → Option Q26.T := fun (a0, a1, a2, a3, a4) => Q26.e n a0 a1 a2 a3 a4
def Q26.F (n : Nat) (a0 a1 : ByteArray) (a2 a3 : List AV) (a4 : Bool) : Option Int := Q26.e n a0 a1 a2 a3 a4
def Q26.FA (n : Nat) : Q26.A → Option Q26.T := Q26.E n
theorem Q26.hands (n : Nat) : ∀ a p, Q26.FA n a = some p → HandsIn Tryz.prog 91 (Q26.i a) (Q26.p p) :=
  pf_hands (C := Q26.C n) (cut := Q26.cut) (Z := Empty) (t := nofun) (s := nofun) (e := fun _ => Q26.E n) (r := fun _ z => nomatch z) (n := n) cfg mixed globs rfl Q26.qi (Q26.tells n) Tryz.func91 (by kernel_rfl) (by kernel_rfl) (fun rec a => by kernel_rfl) (fun rec z => nomatch z)
def Q26.via {R : Type} (n : Nat) : List AV → (AV → Option R) → Option R := viaK (Q26.FA n) Q26.o Q26.p
theorem Q26.tells1 {R : Type} (n : Nat) (xs : List AV) : Tells1 (R := R) Tryz.prog 91 xs (Q26.via n xs) := tells_via Q26.oi (fun a => by kernel_rfl) (Q26.hands n) xs
end Go.Proofs.YtmpglmcjoelciaaGreatDoor.Ev
namespace Go.Proofs.YtmpglmcjoelciaaGreatDoor.Ev
open Go Go.Proofs Go.Proofs.Ev
set_option linter.unusedVariables false
set_option maxRecDepth 100000
abbrev Q34.A := ByteArray × List AV × ByteArray × List AV
abbrev Q34.T := Bool
def Q34.i : Q34.A → List AV := fun (a0, a1, a2, a3) => [AV.agg [vs a0, .sl ⟨true, 125⟩ 4 a1], AV.agg [vs a2, .sl ⟨true, 125⟩ 4 a3]]
def Q34.o (xs : List AV) : Option Q34.A := match xs with | [.agg [.v (.string a0), .sl ⟨true, 125⟩ 4 a1], .agg [.v (.string a2), .sl ⟨true, 125⟩ 4 a3]] => some (a0, a1, a2, a3) | _ => none
theorem Q34.oi : ∀ xs a, Q34.o xs = some a → xs = Q34.i a := by
  intro xs a h
  unfold Q34.o at h
  split at h
  · cases h; rfl
  · cases h
def Q34.p (p : Q34.T) : AV := vb p
def Q34.q (x : AV) : Option Q34.T := match x with | .v (.bool p0) => some p0 | _ => none
theorem Q34.qi : ∀ x p, Q34.q x = some p → x = Q34.p p := by
  intro x p h
  unfold Q34.q at h
  split at h
  · cases h; rfl
  · cases h
inductive Q34.Z where
  | z4 (z1 : Int) (z2 : ByteArray) (z3 : List AV) (z4 : ByteArray) (z5 : List AV)
def Q34.C {R : Type} (n : Nat) (f : FuncId) (xs : List AV) : (AV → Option R) → Option R :=
  fun _ => none
theorem Q34.tells {R : Type} (n : Nat) : Tells (R := R) Tryz.prog (Q34.C n) := fun _ xs => Tells1.none
def Q34.cut (r : Nat) : Option Keep := match r with | 4 => some ⟨[2, 3, 5], []⟩ | _ => none
def Q34.t (z : Q34.Z) : List Item := (todoOf (match z with | .z4 _ _ _ _ _ => 4) 1000 [.code (Tryz.f41.body.getD .skip)]).getD []
def Q34.s : Q34.Z → St
  | .z4 z1 z2 z3 z4 z5 => ⟨spr 38 0 [(2, .ptr 0 0), (3, .ptr 1 0), (5, vi z1)], Mem.ofList [.box 46 [vs z2, .sl ⟨true, 125⟩ 4 z3], .box 46 [vs z4, .sl ⟨true, 125⟩ 4 z5]], 2⟩
def Q34.r4 (n : Nat) (c : Q34.Z → Option Bool) (z1 : Int) (z2 : ByteArray) (z3 : List AV) (z4 : ByteArray) (z5 : List AV) : Option Bool :=
  let y2 : Bool := decide (z1 < ((z3.length : Nat) : Int))
  bif y2 then (bif decide ((0 : Int) ≤ z1) && decide (z1 < ((z3.length : Nat) : Int)) then (withCons ((z3.getD ((z1).toNat) .undef).cells) fun h3 r4 =>
  withStr h3 fun s5 =>
  withCons r4 fun h6 r7 =>
  withInt .i64 h6 fun x8 =>
  withCons r7 fun h9 r10 =>
  withInt .i64 h9 fun x11 =>
  withCons r10 fun h12 r13 =>
  withInt .i64 h12 fun x14 =>
  bif decide ((0 : Int) ≤ z1) && decide (z1 < ((z5.length : Nat) : Int)) then (withCons ((z5.getD ((z1).toNat) .undef).cells) fun h15 r16 =>
  withStr h15 fun s17 =>
  withCons r16 fun h18 r19 =>
  withInt .i64 h18 fun x20 =>
  withCons r19 fun h21 r22 =>
  withInt .i64 h21 fun x23 =>
  withCons r22 fun h24 r25 =>
  withInt .i64 h24 fun x26 =>
  let y27 : Bool := !((s5 == s17) && ((x8 == x20) && ((x11 == x23) && ((x14 == x26) && true))))
  bif y27 then (some false) else (c (.z4 (IntKind.i64.wrap (z1 + 1)) z2 z3 z4 z5))) else none) else none) else (some true)
def Q34.r (n : Nat) (c : Q34.Z → Option Bool) : Q34.Z → Option Bool
  | .z4 z1 z2 z3 z4 z5 => Q34.r4 n c z1 z2 z3 z4 z5
def Q34.e (n : Nat) (c : Q34.Z → Option Bool) (a0 : ByteArray) (a1 : List AV) (a2 : ByteArray) (a3 : List AV) : Option Bool :=
  bif !(a0.toList == a2.toList) then (some false) else (let y1 : Bool := ((a1.length : Nat) : Int) != ((a3.length : Nat) : Int)
  bif y1 then (some false) else (c (.z4 0 a0 a1 a2 a3)))
def Q34.E (n : Nat) (c : Q34.Z → Option Bool) : Q34.A → Option Q34.T := fun (a0, a1, a2, a3) => Q34.e n c a0 a1 a2 a3
def Q34.l (n : Nat) : Nat → Q34.Z → Option Bool := loopL (Q34.r n)
def Q34.F (n : Nat) (a0 : ByteArray) (a1 : List AV) (a2 : ByteArray) (a3 : List AV) : Option Bool := Q34.e n (Q34.l n n) a0 a1 a2 a3
def Q34.FA (n : Nat) : Q34.A → Option Q34.T := Q34.E n (Q34.l n n)
theorem Q34.hands (n : Nat) : ∀ a p, Q34.FA n a = some p → HandsIn Tryz.prog 41 (Q34.i a) (Q34.p p) :=
  pf_hands (C := Q34.C n) (cut := Q34.cut) (t := Q34.t) (s := Q34.s) (e := Q34.E n) (r := Q34.r n) (n := n) cfg mixed globs rfl Q34.qi (Q34.tells n) Tryz.func41 (by kernel_rfl) (by kernel_rfl) (fun rec a => by kernel_rfl) (fun rec z => by cases z <;> kernel_rfl)
def Q34.via {R : Type} (n : Nat) : List AV → (AV → Option R) → Option R := viaK (Q34.FA n) Q34.o Q34.p
theorem Q34.tells1 {R : Type} (n : Nat) (xs : List AV) : Tells1 (R := R) Tryz.prog 41 xs (Q34.via n xs) := tells_via Q34.oi (fun a => by kernel_rfl) (Q34.hands n) xs
end Go.Proofs.YtmpglmcjoelciaaGreatDoor.Ev
namespace Go.Proofs.YtmpglmcjoelciaaGreatDoor.Ev
open Go Go.Proofs Go.Proofs.Ev
set_option linter.unusedVariables false
set_option maxRecDepth 100000
abbrev Q2g.A := ByteArray × ByteArray × List AV × List AV × Bool
abbrev Q2g.T := Bool
def Q2g.i : Q2g.A → List AV := fun (a0, a1, a2, a3, a4) => [AV.agg [vs a0, vs a1, .sl ⟨true, 125⟩ 4 a2, .sl ⟨true, 111⟩ 2 a3, vb a4]]
def Q2g.o (xs : List AV) : Option Q2g.A := match xs with | [.agg [.v (.string a0), .v (.string a1), .sl ⟨true, 125⟩ 4 a2, .sl ⟨true, 111⟩ 2 a3, .v (.bool a4)]] => some (a0, a1, a2, a3, a4) | _ => none
theorem Q2g.oi : ∀ xs a, Q2g.o xs = some a → xs = Q2g.i a := by
  intro xs a h
  unfold Q2g.o at h
  split at h
  · cases h; rfl
  · cases h
def Q2g.p (p : Q2g.T) : AV := vb p
def Q2g.q (x : AV) : Option Q2g.T := match x with | .v (.bool p0) => some p0 | _ => none
theorem Q2g.qi : ∀ x p, Q2g.q x = some p → x = Q2g.p p := by
  intro x p h
  unfold Q2g.q at h
  split at h
  · cases h; rfl
  · cases h
inductive Q2g.Z where
  | z2
  | z4 (z1 : Int) (z2 z3 : ByteArray) (z4 z5 : List AV) (z6 : Bool)
def Q2g.C {R : Type} (n : Nat) (f : FuncId) (xs : List AV) : (AV → Option R) → Option R :=
  bif Nat.beq f 50 then Q2k.via n xs else fun _ => none
theorem Q2g.tells {R : Type} (n : Nat) : Tells (R := R) Tryz.prog (Q2g.C n) := fun _ xs => tells_at (Q2k.tells1 n xs) (Tells1.none)
def Q2g.cut (r : Nat) : Option Keep := match r with | 2 => some ⟨[], []⟩ | 4 => some ⟨[1, 3], []⟩ | _ => none
def Q2g.t (z : Q2g.Z) : List Item := (todoOf (match z with | .z2 => 2 | .z4 _ _ _ _ _ _ => 4) 1000 [.code (Tryz.f71.body.getD .skip)]).getD []
def Q2g.s : Q2g.Z → St
  | .z2 => ⟨spr 48 0 [], Mem.ofList [], 0⟩
  | .z4 z1 z2 z3 z4 z5 z6 => ⟨spr 48 0 [(1, .ptr 0 0), (3, vi z1)], Mem.ofList [.box 48 [vs z2, vs z3, .sl ⟨true, 125⟩ 4 z4, .sl ⟨true, 111⟩ 2 z5, vb z6]], 1⟩
def Q2g.r2 (n : Nat) (c : Q2g.Z → Option Bool)  : Option Bool :=
  some false
def Q2g.r4 (n : Nat) (c : Q2g.Z → Option Bool) (z1 : Int) (z2 z3 : ByteArray) (z4 z5 : List AV) (z6 : Bool) : Option Bool :=
  let y5 : Bool := decide (z1 < ((z4.length : Nat) : Int))
  bif y5 then (bif decide ((0 : Int) ≤ z1) && decide (z1 < ((z4.length : Nat) : Int)) then (withCons ((z4.getD ((z1).toNat) .undef).cells) fun h6 r7 =>
  withStr h6 fun s8 =>
  let y9 : Bool := decide (((s8.size : Nat) : Int) > 100)
  bif y9 then (some false) else (c (.z4 (IntKind.i64.wrap (z1 + 1)) z2 z3 z4 z5 z6))) else none) else ((Q2k.F n z5).bind fun p10 =>
  some p10)
def Q2g.r (n : Nat) (c : Q2g.Z → Option Bool) : Q2g.Z → Option Bool
  | .z2 => Q2g.r2 n c
  | .z4 z1 z2 z3 z4 z5 z6 => Q2g.r4 n c z1 z2 z3 z4 z5 z6
def Q2g.e (n : Nat) (c : Q2g.Z → Option Bool) (a0 a1 : ByteArray) (a2 a3 : List AV) (a4 : Bool) : Option Bool :=
  let y1 : Bool := decide (((a0.size : Nat) : Int) > 100)
  bif y1 then (c .z2) else (let y2 : Bool := decide (((a1.size : Nat) : Int) > 100)
  bif y2 then (c .z2) else (let y3 : Bool := decide (((a2.length : Nat) : Int) > 40)
  bif y3 then (c .z2) else (let y4 : Bool := decide (((a3.length : Nat) : Int) > 40)
  bif y4 then (c .z2) else (c (.z4 0 a0 a1 a2 a3 a4)))))
def Q2g.E (n : Nat) (c : Q2g.Z → Option Bool) : Q2g.A → Option Q2g.T := fun (a0, a1, a2, a3, a4) => Q2g.e n c a0 a1 a2 a3 a4
def Q2g.l (n : Nat) : Nat → Q2g.Z → Option Bool := loopL (Q2g.r n)
def Q2g.F (n : Nat) (a0 a1 : ByteArray) (a2 a3 : List AV) (a4 : Bool) : Option Bool := Q2g.e n (Q2g.l n n) a0 a1 a2 a3 a4
def Q2g.FA (n : Nat) : Q2g.A → Option Q2g.T := Q2g.E n (Q2g.l n n)
theorem Q2g.hands (n : Nat) : ∀ a p, Q2g.FA n a = some p → HandsIn Tryz.prog 71 (Q2g.i a) (Q2g.p p) :=
  pf_hands (C := Q2g.C n) (cut := Q2g.cut) (t := Q2g.t) (s := Q2g.s) (e := Q2g.E n) (r := Q2g.r n) (n := n) cfg mixed globs rfl Q2g.qi (Q2g.tells n) Tryz.func71 (by kernel_rfl) (by kernel_rfl) (fun rec a => by kernel_rfl) (fun rec z => by cases z <;> kernel_rfl)
def Q2g.via {R : Type} (n : Nat) : List AV → (AV → Option R) → Option R := viaK (Q2g.FA n) Q2g.o Q2g.p
theorem Q2g.tells1 {R : Type} (n : Nat) (xs : List AV) : Tells1 (R := R) Tryz.prog 71 xs (Q2g.via n xs) := tells_via Q2g.oi (fun a => by kernel_rfl) (Q2g.hands n) xs
end Go.Proofs.YtmpglmcjoelciaaGreatDoor.Ev
namespace Go.Proofs.YtmpglmcjoelciaaGreatDoor.Ev
open Go Go.Proofs Go.Proofs.Ev
set_option linter.unusedVariables false
set_option maxRecDepth 100000
abbrev Q2y.A := ByteArray × ByteArray × List AV × List AV × Bool
abbrev Q2y.T := ByteArray × ByteArray × List AV × List AV × Bool
def Q2y.i : Q2y.A → List AV := fun (a0, a1, a2, a3, a4) => [AV.agg [vs a0, vs a1, .sl ⟨true, 125⟩ 4 a2, .sl ⟨true, 111⟩ 2 a3, vb a4]]
def Q2y.o (xs : List AV) : Option Q2y.A := match xs with | [.agg [.v (.string a0), .v (.string a1), .sl ⟨true, 125⟩ 4 a2, .sl ⟨true, 111⟩ 2 a3, .v (.bool a4)]] => some (a0, a1, a2, a3, a4) | _ => none
theorem Q2y.oi : ∀ xs a, Q2y.o xs = some a → xs = Q2y.i a := by
  intro xs a h
  unfold Q2y.o at h
  split at h
  · cases h; rfl
  · cases h
def Q2y.p (p : Q2y.T) : AV := AV.agg [vs p.1, vs p.2.1, .fr ⟨true, 125⟩ 4 p.2.2.1, .fr ⟨true, 111⟩ 2 p.2.2.2.1, vb p.2.2.2.2]
def Q2y.q (x : AV) : Option Q2y.T := match x with | .agg [.v (.string p0), .v (.string p1), .fr ⟨true, 125⟩ 4 p2, .fr ⟨true, 111⟩ 2 p3, .v (.bool p4)] => some (p0, p1, p2, p3, p4) | _ => none
theorem Q2y.qi : ∀ x p, Q2y.q x = some p → x = Q2y.p p := by
  intro x p h
  unfold Q2y.q at h
  split at h
  · cases h; rfl
  · cases h
def Q2y.C {R : Type} (n : Nat) (f : FuncId) (xs : List AV) : (AV → Option R) → Option R :=
  fun _ => none
theorem Q2y.tells {R : Type} (n : Nat) : Tells (R := R) Tryz.prog (Q2y.C n) := fun _ xs => Tells1.none
def Q2y.cut (r : Nat) : Option Keep := match r with  | _ => none
def Q2y.e (n : Nat) (a0 a1 : ByteArray) (a2 a3 : List AV) (a4 : Bool) : Option (ByteArray × ByteArray × List AV × List AV × Bool) :=
  bif decide (a2.length ≤ most) then (bif decide (a3.length ≤ most) then (some (a0, a1, a2, a3, a4)) else none) else none
def Q2y.E (n : Nat) : Q2y.A → Option Q2y.T := fun (a0, a1, a2, a3, a4) => Q2y.e n a0 a1 a2 a3 a4
def Q2y.F (n : Nat) (a0 a1 : ByteArray) (a2 a3 : List AV) (a4 : Bool) : Option (ByteArray × ByteArray × List AV × List AV × Bool) := Q2y.e n a0 a1 a2 a3 a4
def Q2y.FA (n : Nat) : Q2y.A → Option Q2y.T := Q2y.E n
theorem Q2y.hands (n : Nat) : ∀ a p, Q2y.FA n a = some p → HandsIn Tryz.prog 80 (Q2y.i a) (Q2y.p p) :=
  pf_hands (C := Q2y.C n) (cut := Q2y.cut) (Z := Empty) (t := nofun) (s := nofun) (e := fun _ => Q2y.E n) (r := fun _ z => nomatch z) (n := n) cfg mixed globs rfl Q2y.qi (Q2y.tells n) Tryz.func80 (by kernel_rfl) (by kernel_rfl) (fun rec a => by kernel_rfl) (fun rec z => nomatch z)
def Q2y.via {R : Type} (n : Nat) : List AV → (AV → Option R) → Option R := viaK (Q2y.FA n) Q2y.o Q2y.p
theorem Q2y.tells1 {R : Type} (n : Nat) (xs : List AV) : Tells1 (R := R) Tryz.prog 80 xs (Q2y.via n xs) := tells_via Q2y.oi (fun a => by kernel_rfl) (Q2y.hands n) xs
end Go.Proofs.YtmpglmcjoelciaaGreatDoor.Ev
namespace Go.Proofs.YtmpglmcjoelciaaGreatDoor.Ev
open Go Go.Proofs Go.Proofs.Ev
set_option linter.unusedVariables false
set_option maxRecDepth 100000
abbrev Q2h.A := List AV
abbrev Q2h.T := Bool
def Q2h.i : Q2h.A → List AV := fun a0 => [.sl ⟨false, 48⟩ 5 a0]
def Q2h.o (xs : List AV) : Option Q2h.A := match xs with | [.sl ⟨false, 48⟩ 5 a0] => some a0 | _ => none
theorem Q2h.oi : ∀ xs a, Q2h.o xs = some a → xs = Q2h.i a := by
  intro xs a h
  unfold Q2h.o at h
  split at h
  · cases h; rfl
  · cases h
def Q2h.p (p : Q2h.T) : AV := vb p
def Q2h.q (x : AV) : Option Q2h.T := match x with | .v (.bool p0) => some p0 | _ => none
theorem Q2h.qi : ∀ x p, Q2h.q x = some p → x = Q2h.p p := by
  intro x p h
  unfold Q2h.q at h
  split at h
  · cases h; rfl
  · cases h
inductive Q2h.Z where
  | z4 (z1 : List AV) (z2 : Int)
def Q2h.C {R : Type} (n : Nat) (f : FuncId) (xs : List AV) : (AV → Option R) → Option R :=
  bif Nat.beq f 71 then Q2g.via n xs else fun _ => none
theorem Q2h.tells {R : Type} (n : Nat) : Tells (R := R) Tryz.prog (Q2h.C n) := fun _ xs => tells_at (Q2g.tells1 n xs) (Tells1.none)
def Q2h.cut (r : Nat) : Option Keep := match r with | 4 => some ⟨[0, 3], []⟩ | _ => none
def Q2h.t (z : Q2h.Z) : List Item := (todoOf (match z with | .z4 _ _ => 4) 1000 [.code (Tryz.f35.body.getD .skip)]).getD []
def Q2h.s : Q2h.Z → St
  | .z4 z1 z2 => ⟨spr 19 0 [(0, .sl ⟨false, 48⟩ 5 z1), (3, vi z2)], Mem.ofList [], 0⟩
def Q2h.r4 (n : Nat) (c : Q2h.Z → Option Bool) (z1 : List AV) (z2 : Int) : Option Bool :=
  let y2 : Bool := decide (z2 < ((z1.length : Nat) : Int))
  bif y2 then (bif decide ((0 : Int) ≤ z2) && decide (z2 < ((z1.length : Nat) : Int)) then (withCons ((z1.getD ((z2).toNat) .undef).cells) fun h3 r4 =>
  withStr h3 fun s5 =>
  withCons r4 fun h6 r7 =>
  withStr h6 fun s8 =>
  withCons r7 fun h9 r10 =>
  withSl ⟨true, 125⟩ 4 h9 fun xs11 =>
  withCons r10 fun h12 r13 =>
  withSl ⟨true, 111⟩ 2 h12 fun xs14 =>
  withCons r13 fun h15 r16 =>
  withBool h15 fun b17 =>
  (Q2g.F n s5 s8 xs11 xs14 b17).bind fun p18 =>
  bif !p18 then (some false) else (c (.z4 z1 (IntKind.i64.wrap (z2 + 1))))) else none) else (some true)
def Q2h.r (n : Nat) (c : Q2h.Z → Option Bool) : Q2h.Z → Option Bool
  | .z4 z1 z2 => Q2h.r4 n c z1 z2
def Q2h.e (n : Nat) (c : Q2h.Z → Option Bool) (a0 : List AV) : Option Bool :=
  let y1 : Bool := decide (((a0.length : Nat) : Int) > 20)
  bif y1 then (some false) else (c (.z4 a0 0))
def Q2h.E (n : Nat) (c : Q2h.Z → Option Bool) : Q2h.A → Option Q2h.T := fun a0 => Q2h.e n c a0
def Q2h.l (n : Nat) : Nat → Q2h.Z → Option Bool := loopL (Q2h.r n)
def Q2h.F (n : Nat) (a0 : List AV) : Option Bool := Q2h.e n (Q2h.l n n) a0
def Q2h.FA (n : Nat) : Q2h.A → Option Q2h.T := Q2h.E n (Q2h.l n n)
theorem Q2h.hands (n : Nat) : ∀ a p, Q2h.FA n a = some p → HandsIn Tryz.prog 35 (Q2h.i a) (Q2h.p p) :=
  pf_hands (C := Q2h.C n) (cut := Q2h.cut) (t := Q2h.t) (s := Q2h.s) (e := Q2h.E n) (r := Q2h.r n) (n := n) cfg mixed globs rfl Q2h.qi (Q2h.tells n) Tryz.func35 (by kernel_rfl) (by kernel_rfl) (fun rec a => by kernel_rfl) (fun rec z => by cases z <;> kernel_rfl)
def Q2h.via {R : Type} (n : Nat) : List AV → (AV → Option R) → Option R := viaK (Q2h.FA n) Q2h.o Q2h.p
theorem Q2h.tells1 {R : Type} (n : Nat) (xs : List AV) : Tells1 (R := R) Tryz.prog 35 xs (Q2h.via n xs) := tells_via Q2h.oi (fun a => by kernel_rfl) (Q2h.hands n) xs
end Go.Proofs.YtmpglmcjoelciaaGreatDoor.Ev
namespace Go.Proofs.YtmpglmcjoelciaaGreatDoor.Ev
open Go Go.Proofs Go.Proofs.Ev
set_option linter.unusedVariables false
set_option maxRecDepth 100000
abbrev Q0l.A := ByteArray × ByteArray × List AV × List AV × Bool × ByteArray × ByteArray × List AV × List AV × Bool
abbrev Q0l.T := Bool × ByteArray × ByteArray × List AV × List AV × Bool
def Q0l.i : Q0l.A → List AV := fun (a0, a1, a2, a3, a4, a5, a6, a7, a8, a9) => [AV.agg [vs a0, vs a1, .sl ⟨true, 125⟩ 4 a2, .sl ⟨true, 111⟩ 2 a3, vb a4], .ptr 0 0]
def Q0l.b : Q0l.A → List AV := fun (a0, a1, a2, a3, a4, a5, a6, a7, a8, a9) => [.fn 48 [vs a5, vs a6, .sl ⟨true, 125⟩ 4 a7, .sl ⟨true, 111⟩ 2 a8, vb a9]]
def Q0l.o (xs : List AV) : Option Q0l.A := match xs with | [.agg [.v (.string a0), .v (.string a1), .sl ⟨true, 125⟩ 4 a2, .sl ⟨true, 111⟩ 2 a3, .v (.bool a4)], .ptr 0 0, .tup [.fn 48 [.v (.string a5), .v (.string a6), .sl ⟨true, 125⟩ 4 a7, .sl ⟨true, 111⟩ 2 a8, .v (.bool a9)]]] => some (a0, a1, a2, a3, a4, a5, a6, a7, a8, a9) | _ => none
theorem Q0l.oi : ∀ xs a, Q0l.o xs = some a → xs = Q0l.i a ++ [.tup (Q0l.b a)] := by
  intro xs a h
  unfold Q0l.o at h
  split at h
  · cases h; rfl
  · cases h
def Q0l.y (p : Q0l.T) : AV := vb p.1
def Q0l.w (p : Q0l.T) : List AV := [.fn 48 [vs p.2.1, vs p.2.2.1, .sl ⟨true, 125⟩ 4 p.2.2.2.1, .sl ⟨true, 111⟩ 2 p.2.2.2.2.1, vb p.2.2.2.2.2]]
def Q0l.p (p : Q0l.T) : AV := .tup [Q0l.y p, .tup (Q0l.w p)]
def Q0l.q (x : AV) : Option Q0l.T := match x with | .tup [.v (.bool p0), .tup [.fn 48 [.v (.string p1), .v (.string p2), .sl ⟨true, 125⟩ 4 p3, .sl ⟨true, 111⟩ 2 p4, .v (.bool p5)]]] => some (p0, p1, p2, p3, p4, p5) | _ => none
theorem Q0l.qi : ∀ x p, Q0l.q x = some p → x = Q0l.p p := by
  intro x p h
  unfold Q0l.q at h
  split at h
  · cases h; rfl
  · cases h
def Q0l.C {R : Type} (n : Nat) (f : FuncId) (xs : List AV) : (AV → Option R) → Option R :=
  fun _ => none
theorem Q0l.tells {R : Type} (n : Nat) : Tells (R := R) Tryz.prog (Q0l.C n) := fun _ xs => Tells1.none
def Q0l.cut (r : Nat) : Option Keep := match r with  | _ => none
def Q0l.e (n : Nat) (a0 a1 : ByteArray) (a2 a3 : List AV) (a4 : Bool) (a5 a6 : ByteArray) (a7 a8 : List AV) (a9 : Bool) : Option (Bool × ByteArray × ByteArray × List AV × List AV × Bool) :=
  some (a0.toList == a5.toList, a5, a6, a7, a8, a9)
def Q0l.E (n : Nat) : Q0l.A → Option Q0l.T := fun (a0, a1, a2, a3, a4, a5, a6, a7, a8, a9) => Q0l.e n a0 a1 a2 a3 a4 a5 a6 a7 a8 a9
def Q0l.F (n : Nat) (a0 a1 : ByteArray) (a2 a3 : List AV) (a4 : Bool) (a5 a6 : ByteArray) (a7 a8 : List AV) (a9 : Bool) : Option (Bool × ByteArray × ByteArray × List AV × List AV × Bool) := Q0l.e n a0 a1 a2 a3 a4 a5 a6 a7 a8 a9
def Q0l.FA (n : Nat) : Q0l.A → Option Q0l.T := Q0l.E n
def Q0l.nils : List (Nat × Nat × Fl × Nat) := []
theorem Q0l.hands (n : Nat) : ∀ a p, Q0l.FA n a = some p → HandsMIn Tryz.prog 155 (Q0l.i a) (Q0l.b a) (Q0l.y p) (Q0l.w p) :=
  pfM_hands (G := Gk 1) (C := Q0l.C n) (cut := Q0l.cut) (Z := Empty) (t := nofun) (s := nofun) (nils := Q0l.nils) (e := fun _ => Q0l.E n) (r := fun _ z => nomatch z) (n := n) (cfg.kb 1) mixed globs Q0l.qi (fun a => by kernel_rfl) (Q0l.tells n) Tryz.func155 (by kernel_rfl) (by kernel_rfl) (fun rec a => by kernel_rfl) (fun rec z => nomatch z)
def Q0l.via {R : Type} (n : Nat) : List AV → (AV → Option R) → Option R := viaK (Q0l.FA n) Q0l.o Q0l.p
theorem Q0l.tells1 {R : Type} (n : Nat) (xs : List AV) : Tells1 (R := R) Tryz.prog 155 xs (Q0l.via n xs) := tells_viaM (fun _ => rfl) Q0l.oi (Q0l.hands n) xs
end Go.Proofs.YtmpglmcjoelciaaGreatDoor.Ev
namespace Go.Proofs.YtmpglmcjoelciaaGreatDoor.Ev
open Go Go.Proofs Go.Proofs.Ev
set_option linter.unusedVariables false
set_option maxRecDepth 100000
abbrev Q02.A := List AV × ByteArray × ByteArray × List AV × List AV × Bool
abbrev Q02.T := Int × ByteArray × ByteArray × List AV × List AV × Bool
def Q02.i : Q02.A → List AV := fun (a0, a1, a2, a3, a4, a5) => [.sl ⟨false, 48⟩ 5 a0, .fn 155 [.ptr 0 0]]
def Q02.b : Q02.A → List AV := fun (a0, a1, a2, a3, a4, a5) => [.fn 48 [vs a1, vs a2, .sl ⟨true, 125⟩ 4 a3, .sl ⟨true, 111⟩ 2 a4, vb a5]]
def Q02.o (xs : List AV) : Option Q02.A := match xs with | [.sl ⟨false, 48⟩ 5 a0, .fn 155 [.ptr 0 0], .tup [.fn 48 [.v (.string a1), .v (.string a2), .sl ⟨true, 125⟩ 4 a3, .sl ⟨true, 111⟩ 2 a4, .v (.bool a5)]]] => some (a0, a1, a2, a3, a4, a5) | _ => none
theorem Q02.oi : ∀ xs a, Q02.o xs = some a → xs = Q02.i a ++ [.tup (Q02.b a)] := by
  intro xs a h
  unfold Q02.o at h
  split at h
  · cases h; rfl
  · cases h
def Q02.y (p : Q02.T) : AV := vi p.1
def Q02.w (p : Q02.T) : List AV := [.fn 48 [vs p.2.1, vs p.2.2.1, .sl ⟨true, 125⟩ 4 p.2.2.2.1, .sl ⟨true, 111⟩ 2 p.2.2.2.2.1, vb p.2.2.2.2.2]]
def Q02.p (p : Q02.T) : AV := .tup [Q02.y p, .tup (Q02.w p)]
def Q02.q (x : AV) : Option Q02.T := match x with | .tup [.v (.int .i64 p0), .tup [.fn 48 [.v (.string p1), .v (.string p2), .sl ⟨true, 125⟩ 4 p3, .sl ⟨true, 111⟩ 2 p4, .v (.bool p5)]]] => some (p0, p1, p2, p3, p4, p5) | _ => none
theorem Q02.qi : ∀ x p, Q02.q x = some p → x = Q02.p p := by
  intro x p h
  unfold Q02.q at h
  split at h
  · cases h; rfl
  · cases h
inductive Q02.Z where
  | z2 (z1 : List AV) (z2 z3 : Int) (z4 z5 : ByteArray) (z6 z7 : List AV) (z8 : Bool)
def Q02.C {R : Type} (n : Nat) (f : FuncId) (xs : List AV) : (AV → Option R) → Option R :=
  bif Nat.beq f 155 then Q0l.via n xs else fun _ => none
theorem Q02.tells {R : Type} (n : Nat) : Tells (R := R) Tryz.prog (Q02.C n) := fun _ xs => tells_at (Q0l.tells1 n xs) (Tells1.none)
def Q02.cut (r : Nat) : Option Keep := match r with | 2 => some ⟨[0, 1, 7, 8], []⟩ | _ => none
def Q02.t (z : Q02.Z) : List Item := (todoOf (match z with | .z2 _ _ _ _ _ _ _ _ => 2) 1000 [.code (Tryz.f132.body.getD .skip)]).getD []
def Q02.s : Q02.Z → St
  | .z2 z1 z2 z3 z4 z5 z6 z7 z8 => ⟨spr 19 0 [(0, .sl ⟨false, 48⟩ 5 z1), (1, .fn 155 [.ptr 0 0]), (7, vi z2), (8, vi z3)], Mem.ofList [.box 48 [vs z4, vs z5, .sl ⟨true, 125⟩ 4 z6, .sl ⟨true, 111⟩ 2 z7, vb z8]], 1⟩
def Q02.r2 (n : Nat) (c : Q02.Z → Option (Int × ByteArray × ByteArray × List AV × List AV × Bool)) (z1 : List AV) (z2 z3 : Int) (z4 z5 : ByteArray) (z6 z7 : List AV) (z8 : Bool) : Option (Int × ByteArray × ByteArray × List AV × List AV × Bool) :=
  bif decide (z3 < z2) then (bif decide ((0 : Int) ≤ z3) && decide (z3 < ((z1.length : Nat) : Int)) then (withCons ((z1.getD ((z3).toNat) .undef).cells) fun h1 r2 =>
  withStr h1 fun s3 =>
  withCons r2 fun h4 r5 =>
  withStr h4 fun s6 =>
  withCons r5 fun h7 r8 =>
  withSl ⟨true, 125⟩ 4 h7 fun xs9 =>
  withCons r8 fun h10 r11 =>
  withSl ⟨true, 111⟩ 2 h10 fun xs12 =>
  withCons r11 fun h13 r14 =>
  withBool h13 fun b15 =>
  (Q0l.F n s3 s6 xs9 xs12 b15 z4 z5 z6 z7 z8).bind fun p16 =>
  bif p16.1 then (some (z3, p16.2.1, p16.2.2.1, p16.2.2.2.1, p16.2.2.2.2.1, p16.2.2.2.2.2)) else (c (.z2 z1 z2 (IntKind.i64.wrap (z3 + 1)) p16.2.1 p16.2.2.1 p16.2.2.2.1 p16.2.2.2.2.1 p16.2.2.2.2.2))) else none) else (some ((-1), z4, z5, z6, z7, z8))
def Q02.r (n : Nat) (c : Q02.Z → Option (Int × ByteArray × ByteArray × List AV × List AV × Bool)) : Q02.Z → Option (Int × ByteArray × ByteArray × List AV × List AV × Bool)
  | .z2 z1 z2 z3 z4 z5 z6 z7 z8 => Q02.r2 n c z1 z2 z3 z4 z5 z6 z7 z8
def Q02.e (n : Nat) (c : Q02.Z → Option (Int × ByteArray × ByteArray × List AV × List AV × Bool)) (a0 : List AV) (a1 a2 : ByteArray) (a3 a4 : List AV) (a5 : Bool) : Option (Int × ByteArray × ByteArray × List AV × List AV × Bool) :=
  c (.z2 a0 ((a0.length : Nat) : Int) 0 a1 a2 a3 a4 a5)
def Q02.E (n : Nat) (c : Q02.Z → Option (Int × ByteArray × ByteArray × List AV × List AV × Bool)) : Q02.A → Option Q02.T := fun (a0, a1, a2, a3, a4, a5) => Q02.e n c a0 a1 a2 a3 a4 a5
def Q02.l (n : Nat) : Nat → Q02.Z → Option (Int × ByteArray × ByteArray × List AV × List AV × Bool) := loopL (Q02.r n)
def Q02.F (n : Nat) (a0 : List AV) (a1 a2 : ByteArray) (a3 a4 : List AV) (a5 : Bool) : Option (Int × ByteArray × ByteArray × List AV × List AV × Bool) := Q02.e n (Q02.l n n) a0 a1 a2 a3 a4 a5
def Q02.FA (n : Nat) : Q02.A → Option Q02.T := Q02.E n (Q02.l n n)
def Q02.nils : List (Nat × Nat × Fl × Nat) := []
theorem Q02.hands (n : Nat) : ∀ a p, Q02.FA n a = some p → HandsMIn Tryz.prog 132 (Q02.i a) (Q02.b a) (Q02.y p) (Q02.w p) :=
  pfM_hands (G := Gk 1) (C := Q02.C n) (cut := Q02.cut) (t := Q02.t) (s := Q02.s) (nils := Q02.nils) (e := Q02.E n) (r := Q02.r n) (n := n) (cfg.kb 1) mixed globs Q02.qi (fun a => by kernel_rfl) (Q02.tells n) Tryz.func132 (by kernel_rfl) (by kernel_rfl) (fun rec a => by kernel_rfl) (fun rec z => by cases z <;> kernel_rfl)
def Q02.via {R : Type} (n : Nat) : List AV → (AV → Option R) → Option R := viaK (Q02.FA n) Q02.o Q02.p
theorem Q02.tells1 {R : Type} (n : Nat) (xs : List AV) : Tells1 (R := R) Tryz.prog 132 xs (Q02.via n xs) := tells_viaM (fun _ => rfl) Q02.oi (Q02.hands n) xs
end Go.Proofs.YtmpglmcjoelciaaGreatDoor.Ev
namespace Go.Proofs.YtmpglmcjoelciaaGreatDoor.Ev
open Go Go.Proofs Go.Proofs.Ev
set_option linter.unusedVariables false
set_option maxRecDepth 100000
abbrev Q01.A := List AV × ByteArray × ByteArray × List AV × List AV × Bool
abbrev Q01.T := Bool × ByteArray × ByteArray × List AV × List AV × Bool
def Q01.i : Q01.A → List AV := fun (a0, a1, a2, a3, a4, a5) => [.sl ⟨false, 48⟩ 5 a0, .fn 155 [.ptr 0 0]]
def Q01.b : Q01.A → List AV := fun (a0, a1, a2, a3, a4, a5) => [.fn 48 [vs a1, vs a2, .sl ⟨true, 125⟩ 4 a3, .sl ⟨true, 111⟩ 2 a4, vb a5]]
def Q01.o (xs : List AV) : Option Q01.A := match xs with | [.sl ⟨false, 48⟩ 5 a0, .fn 155 [.ptr 0 0], .tup [.fn 48 [.v (.string a1), .v (.string a2), .sl ⟨true, 125⟩ 4 a3, .sl ⟨true, 111⟩ 2 a4, .v (.bool a5)]]] => some (a0, a1, a2, a3, a4, a5) | _ => none
theorem Q01.oi : ∀ xs a, Q01.o xs = some a → xs = Q01.i a ++ [.tup (Q01.b a)] := by
  intro xs a h
  unfold Q01.o at h
  split at h
  · cases h; rfl
  · cases h
def Q01.y (p : Q01.T) : AV := vb p.1
def Q01.w (p : Q01.T) : List AV := [.fn 48 [vs p.2.1, vs p.2.2.1, .sl ⟨true, 125⟩ 4 p.2.2.2.1, .sl ⟨true, 111⟩ 2 p.2.2.2.2.1, vb p.2.2.2.2.2]]
def Q01.p (p : Q01.T) : AV := .tup [Q01.y p, .tup (Q01.w p)]
def Q01.q (x : AV) : Option Q01.T := match x with | .tup [.v (.bool p0), .tup [.fn 48 [.v (.string p1), .v (.string p2), .sl ⟨true, 125⟩ 4 p3, .sl ⟨true, 111⟩ 2 p4, .v (.bool p5)]]] => some (p0, p1, p2, p3, p4, p5) | _ => none
theorem Q01.qi : ∀ x p, Q01.q x = some p → x = Q01.p p := by
  intro x p h
  unfold Q01.q at h
  split at h
  · cases h; rfl
  · cases h
def Q01.C {R : Type} (n : Nat) (f : FuncId) (xs : List AV) : (AV → Option R) → Option R :=
  bif Nat.beq f 132 then Q02.via n xs else fun _ => none
theorem Q01.tells {R : Type} (n : Nat) : Tells (R := R) Tryz.prog (Q01.C n) := fun _ xs => tells_at (Q02.tells1 n xs) (Tells1.none)
def Q01.cut (r : Nat) : Option Keep := match r with  | _ => none
def Q01.e (n : Nat) (a0 : List AV) (a1 a2 : ByteArray) (a3 a4 : List AV) (a5 : Bool) : Option (Bool × ByteArray × ByteArray × List AV × List AV × Bool) :=
  (Q02.F n a0 a1 a2 a3 a4 a5).bind fun p1 =>
  some (decide (p1.1 ≥ 0), p1.2.1, p1.2.2.1, p1.2.2.2.1, p1.2.2.2.2.1, p1.2.2.2.2.2)
def Q01.E (n : Nat) : Q01.A → Option Q01.T := fun (a0, a1, a2, a3, a4, a5) => Q01.e n a0 a1 a2 a3 a4 a5
def Q01.F (n : Nat) (a0 : List AV) (a1 a2 : ByteArray) (a3 a4 : List AV) (a5 : Bool) : Option (Bool × ByteArray × ByteArray × List AV × List AV × Bool) := Q01.e n a0 a1 a2 a3 a4 a5
def Q01.FA (n : Nat) : Q01.A → Option Q01.T := Q01.E n
def Q01.nils : List (Nat × Nat × Fl × Nat) := []
theorem Q01.hands (n : Nat) : ∀ a p, Q01.FA n a = some p → HandsMIn Tryz.prog 154 (Q01.i a) (Q01.b a) (Q01.y p) (Q01.w p) :=
  pfM_hands (G := Gk 1) (C := Q01.C n) (cut := Q01.cut) (Z := Empty) (t := nofun) (s := nofun) (nils := Q01.nils) (e := fun _ => Q01.E n) (r := fun _ z => nomatch z) (n := n) (cfg.kb 1) mixed globs Q01.qi (fun a => by kernel_rfl) (Q01.tells n) Tryz.func154 (by kernel_rfl) (by kernel_rfl) (fun rec a => by kernel_rfl) (fun rec z => nomatch z)
def Q01.via {R : Type} (n : Nat) : List AV → (AV → Option R) → Option R := viaK (Q01.FA n) Q01.o Q01.p
theorem Q01.tells1 {R : Type} (n : Nat) (xs : List AV) : Tells1 (R := R) Tryz.prog 154 xs (Q01.via n xs) := tells_viaM (fun _ => rfl) Q01.oi (Q01.hands n) xs
end Go.Proofs.YtmpglmcjoelciaaGreatDoor.Ev
namespace Go.Proofs.YtmpglmcjoelciaaGreatDoor.Ev
open Go Go.Proofs Go.Proofs.Ev
set_option linter.unusedVariables false
set_option maxRecDepth 100000
abbrev Q0k.A := List AV
abbrev Q0k.T := Int
def Q0k.i : Q0k.A → List AV := fun a0 => [.sl ⟨false, 48⟩ 5 a0]
def Q0k.o (xs : List AV) : Option Q0k.A := match xs with | [.sl ⟨false, 48⟩ 5 a0] => some a0 | _ => none
theorem Q0k.oi : ∀ xs a, Q0k.o xs = some a → xs = Q0k.i a := by
  intro xs a h
  unfold Q0k.o at h
  split at h
  · cases h; rfl
  · cases h
def Q0k.p (p : Q0k.T) : AV := vi p
def Q0k.q (x : AV) : Option Q0k.T := match x with | .v (.int .i64 p0) => some p0 | _ => none
theorem Q0k.qi : ∀ x p, Q0k.q x = some p → x = Q0k.p p := by
  intro x p h
  unfold Q0k.q at h
  split at h
  · cases h; rfl
  · cases h
inductive Q0k.Z where
  | z4 (z1 z2 : List AV) (z3 z4 : Int)
def Q0k.C {R : Type} (n : Nat) (f : FuncId) (xs : List AV) : (AV → Option R) → Option R :=
  bif Nat.beq f 44 then Q0m.via n xs else bif Nat.beq f 45 then Q0f.via n xs else bif Nat.beq f 115 then Q0j.via n xs else bif Nat.beq f 154 then Q01.via n xs else fun _ => none
theorem Q0k.tells {R : Type} (n : Nat) : Tells (R := R) Tryz.prog (Q0k.C n) := fun _ xs => tells_at (Q0m.tells1 n xs) (tells_at (Q0f.tells1 n xs) (tells_at (Q0j.tells1 n xs) (tells_at (Q01.tells1 n xs) (Tells1.none))))
def Q0k.cut (r : Nat) : Option Keep := match r with | 4 => some ⟨[0, 10, 11, 12], []⟩ | _ => none
def Q0k.t (z : Q0k.Z) : List Item := (todoOf (match z with | .z4 _ _ _ _ => 4) 1000 [.code (Tryz.f131.body.getD .skip)]).getD []
def Q0k.s : Q0k.Z → St
  | .z4 z1 z2 z3 z4 => ⟨spr 32 0 [(0, .sl ⟨false, 48⟩ 5 z1), (10, .sl ⟨false, 48⟩ 5 z2), (11, vi z3), (12, vi z4)], Mem.ofList [], 0⟩
def Q0k.r4 (n : Nat) (c : Q0k.Z → Option Int) (z1 z2 : List AV) (z3 z4 : Int) : Option Int :=
  bif decide (z4 < z3) then (bif decide ((0 : Int) ≤ z4) && decide (z4 < ((z2.length : Nat) : Int)) then (withCons ((z2.getD ((z4).toNat) .undef).cells) fun h2 r3 =>
  withStr h2 fun s4 =>
  withCons r3 fun h5 r6 =>
  withStr h5 fun s7 =>
  withCons r6 fun h8 r9 =>
  withSl ⟨true, 125⟩ 4 h8 fun xs10 =>
  withCons r9 fun h11 r12 =>
  withSl ⟨true, 111⟩ 2 h11 fun xs13 =>
  withCons r12 fun h14 r15 =>
  withBool h14 fun b16 =>
  bif decide ((0 : Int) ≤ z4) && decide ((z4 : Int) ≤ ((z1.length : Nat) : Int)) then ((Q01.F n ((z1.take (z4).toNat).drop 0) s4 s7 xs10 xs13 b16).bind fun p17 =>
  (Q0j.F n p17.2.1 p17.2.2.1 p17.2.2.2.1 p17.2.2.2.2.1 p17.2.2.2.2.2).bind fun p18 =>
  (Q0f.F n p17.1 13).bind fun p19 =>
  (Q0m.F n [vi p18, vi p19]).bind fun p20 =>
  bif p20 != 0 then (some p20) else (c (.z4 z1 z2 z3 (IntKind.i64.wrap (z4 + 1))))) else none) else none) else (some 0)
def Q0k.r (n : Nat) (c : Q0k.Z → Option Int) : Q0k.Z → Option Int
  | .z4 z1 z2 z3 z4 => Q0k.r4 n c z1 z2 z3 z4
def Q0k.e (n : Nat) (c : Q0k.Z → Option Int) (a0 : List AV) : Option Int :=
  let y1 : Bool := decide (((a0.length : Nat) : Int) > 8)
  bif y1 then (some 2) else (c (.z4 a0 a0 ((a0.length : Nat) : Int) 0))
def Q0k.E (n : Nat) (c : Q0k.Z → Option Int) : Q0k.A → Option Q0k.T := fun a0 => Q0k.e n c a0
def Q0k.l (n : Nat) : Nat → Q0k.Z → Option Int := loopL (Q0k.r n)
def Q0k.F (n : Nat) (a0 : List AV) : Option Int := Q0k.e n (Q0k.l n n) a0
def Q0k.FA (n : Nat) : Q0k.A → Option Q0k.T := Q0k.E n (Q0k.l n n)
theorem Q0k.hands (n : Nat) : ∀ a p, Q0k.FA n a = some p → HandsIn Tryz.prog 131 (Q0k.i a) (Q0k.p p) :=
  pf_hands (C := Q0k.C n) (cut := Q0k.cut) (t := Q0k.t) (s := Q0k.s) (e := Q0k.E n) (r := Q0k.r n) (n := n) cfg mixed globs rfl Q0k.qi (Q0k.tells n) Tryz.func131 (by kernel_rfl) (by kernel_rfl) (fun rec a => by kernel_rfl) (fun rec z => by cases z <;> kernel_rfl)
def Q0k.via {R : Type} (n : Nat) : List AV → (AV → Option R) → Option R := viaK (Q0k.FA n) Q0k.o Q0k.p
theorem Q0k.tells1 {R : Type} (n : Nat) (xs : List AV) : Tells1 (R := R) Tryz.prog 131 xs (Q0k.via n xs) := tells_via Q0k.oi (fun a => by kernel_rfl) (Q0k.hands n) xs
end Go.Proofs.YtmpglmcjoelciaaGreatDoor.Ev
namespace Go.Proofs.YtmpglmcjoelciaaGreatDoor.Ev
open Go Go.Proofs Go.Proofs.Ev
set_option linter.unusedVariables false
set_option maxRecDepth 100000
abbrev Q12.A := ByteArray × ByteArray × List AV × List AV × Bool × ByteArray
abbrev Q12.T := Bool × ByteArray
def Q12.i : Q12.A → List AV := fun (a0, a1, a2, a3, a4, a5) => [AV.agg [vs a0, vs a1, .sl ⟨true, 125⟩ 4 a2, .sl ⟨true, 111⟩ 2 a3, vb a4], .ptr 0 0]
def Q12.b : Q12.A → List AV := fun (a0, a1, a2, a3, a4, a5) => [.fn 9 [vs a5]]
def Q12.o (xs : List AV) : Option Q12.A := match xs with | [.agg [.v (.string a0), .v (.string a1), .sl ⟨true, 125⟩ 4 a2, .sl ⟨true, 111⟩ 2 a3, .v (.bool a4)], .ptr 0 0, .tup [.fn 9 [.v (.string a5)]]] => some (a0, a1, a2, a3, a4, a5) | _ => none
theorem Q12.oi : ∀ xs a, Q12.o xs = some a → xs = Q12.i a ++ [.tup (Q12.b a)] := by
  intro xs a h
  unfold Q12.o at h
  split at h
  · cases h; rfl
  · cases h
def Q12.y (p : Q12.T) : AV := vb p.1
def Q12.w (p : Q12.T) : List AV := [.fn 9 [vs p.2]]
def Q12.p (p : Q12.T) : AV := .tup [Q12.y p, .tup (Q12.w p)]
def Q12.q (x : AV) : Option Q12.T := match x with | .tup [.v (.bool p0), .tup [.fn 9 [.v (.string p1)]]] => some (p0, p1) | _ => none
theorem Q12.qi : ∀ x p, Q12.q x = some p → x = Q12.p p := by
  intro x p h
  unfold Q12.q at h
  split at h
  · cases h; rfl
  · cases h
def Q12.C {R : Type} (n : Nat) (f : FuncId) (xs : List AV) : (AV → Option R) → Option R :=
  fun _ => none
theorem Q12.tells {R : Type} (n : Nat) : Tells (R := R) Tryz.prog (Q12.C n) := fun _ xs => Tells1.none
def Q12.cut (r : Nat) : Option Keep := match r with  | _ => none
def Q12.e (n : Nat) (a0 a1 : ByteArray) (a2 a3 : List AV) (a4 : Bool) (a5 : ByteArray) : Option (Bool × ByteArray) :=
  some (a0.toList == a5.toList, a5)
def Q12.E (n : Nat) : Q12.A → Option Q12.T := fun (a0, a1, a2, a3, a4, a5) => Q12.e n a0 a1 a2 a3 a4 a5
def Q12.F (n : Nat) (a0 a1 : ByteArray) (a2 a3 : List AV) (a4 : Bool) (a5 : ByteArray) : Option (Bool × ByteArray) := Q12.e n a0 a1 a2 a3 a4 a5
def Q12.FA (n : Nat) : Q12.A → Option Q12.T := Q12.E n
def Q12.nils : List (Nat × Nat × Fl × Nat) := []
theorem Q12.hands (n : Nat) : ∀ a p, Q12.FA n a = some p → HandsMIn Tryz.prog 133 (Q12.i a) (Q12.b a) (Q12.y p) (Q12.w p) :=
  pfM_hands (G := Gk 1) (C := Q12.C n) (cut := Q12.cut) (Z := Empty) (t := nofun) (s := nofun) (nils := Q12.nils) (e := fun _ => Q12.E n) (r := fun _ z => nomatch z) (n := n) (cfg.kb 1) mixed globs Q12.qi (fun a => by kernel_rfl) (Q12.tells n) Tryz.func133 (by kernel_rfl) (by kernel_rfl) (fun rec a => by kernel_rfl) (fun rec z => nomatch z)
def Q12.via {R : Type} (n : Nat) : List AV → (AV → Option R) → Option R := viaK (Q12.FA n) Q12.o Q12.p
theorem Q12.tells1 {R : Type} (n : Nat) (xs : List AV) : Tells1 (R := R) Tryz.prog 133 xs (Q12.via n xs) := tells_viaM (fun _ => rfl) Q12.oi (Q12.hands n) xs
end Go.Proofs.YtmpglmcjoelciaaGreatDoor.Ev
namespace Go.Proofs.YtmpglmcjoelciaaGreatDoor.Ev
open Go Go.Proofs Go.Proofs.Ev
set_option linter.unusedVariables false
set_option maxRecDepth 100000
abbrev Q03.A := List AV × ByteArray
abbrev Q03.T := Int × ByteArray
def Q03.i : Q03.A → List AV := fun (a0, a1) => [.sl ⟨false, 48⟩ 5 a0, .fn 133 [.ptr 0 0]]
def Q03.b : Q03.A → List AV := fun (a0, a1) => [.fn 9 [vs a1]]
def Q03.o (xs : List AV) : Option Q03.A := match xs with | [.sl ⟨false, 48⟩ 5 a0, .fn 133 [.ptr 0 0], .tup [.fn 9 [.v (.string a1)]]] => some (a0, a1) | _ => none
theorem Q03.oi : ∀ xs a, Q03.o xs = some a → xs = Q03.i a ++ [.tup (Q03.b a)] := by
  intro xs a h
  unfold Q03.o at h
  split at h
  · cases h; rfl
  · cases h
def Q03.y (p : Q03.T) : AV := vi p.1
def Q03.w (p : Q03.T) : List AV := [.fn 9 [vs p.2]]
def Q03.p (p : Q03.T) : AV := .tup [Q03.y p, .tup (Q03.w p)]
def Q03.q (x : AV) : Option Q03.T := match x with | .tup [.v (.int .i64 p0), .tup [.fn 9 [.v (.string p1)]]] => some (p0, p1) | _ => none
theorem Q03.qi : ∀ x p, Q03.q x = some p → x = Q03.p p := by
  intro x p h
  unfold Q03.q at h
  split at h
  · cases h; rfl
  · cases h
inductive Q03.Z where
  | z2 (z1 : List AV) (z2 z3 : Int) (z4 : ByteArray)
def Q03.C {R : Type} (n : Nat) (f : FuncId) (xs : List AV) : (AV → Option R) → Option R :=
  bif Nat.beq f 133 then Q12.via n xs else fun _ => none
theorem Q03.tells {R : Type} (n : Nat) : Tells (R := R) Tryz.prog (Q03.C n) := fun _ xs => tells_at (Q12.tells1 n xs) (Tells1.none)
def Q03.cut (r : Nat) : Option Keep := match r with | 2 => some ⟨[0, 1, 7, 8], []⟩ | _ => none
def Q03.t (z : Q03.Z) : List Item := (todoOf (match z with | .z2 _ _ _ _ => 2) 1000 [.code (Tryz.f132.body.getD .skip)]).getD []
def Q03.s : Q03.Z → St
  | .z2 z1 z2 z3 z4 => ⟨spr 19 0 [(0, .sl ⟨false, 48⟩ 5 z1), (1, .fn 133 [.ptr 0 0]), (7, vi z2), (8, vi z3)], Mem.ofList [.box 9 [vs z4]], 1⟩
def Q03.r2 (n : Nat) (c : Q03.Z → Option (Int × ByteArray)) (z1 : List AV) (z2 z3 : Int) (z4 : ByteArray) : Option (Int × ByteArray) :=
  bif decide (z3 < z2) then (bif decide ((0 : Int) ≤ z3) && decide (z3 < ((z1.length : Nat) : Int)) then (withCons ((z1.getD ((z3).toNat) .undef).cells) fun h1 r2 =>
  withStr h1 fun s3 =>
  withCons r2 fun h4 r5 =>
  withStr h4 fun s6 =>
  withCons r5 fun h7 r8 =>
  withSl ⟨true, 125⟩ 4 h7 fun xs9 =>
  withCons r8 fun h10 r11 =>
  withSl ⟨true, 111⟩ 2 h10 fun xs12 =>
  withCons r11 fun h13 r14 =>
  withBool h13 fun b15 =>
  (Q12.F n s3 s6 xs9 xs12 b15 z4).bind fun p16 =>
  bif p16.1 then (some (z3, p16.2)) else (c (.z2 z1 z2 (IntKind.i64.wrap (z3 + 1)) p16.2))) else none) else (some ((-1), z4))
def Q03.r (n : Nat) (c : Q03.Z → Option (Int × ByteArray)) : Q03.Z → Option (Int × ByteArray)
  | .z2 z1 z2 z3 z4 => Q03.r2 n c z1 z2 z3 z4
def Q03.e (n : Nat) (c : Q03.Z → Option (Int × ByteArray)) (a0 : List AV) (a1 : ByteArray) : Option (Int × ByteArray) :=
  c (.z2 a0 ((a0.length : Nat) : Int) 0 a1)
def Q03.E (n : Nat) (c : Q03.Z → Option (Int × ByteArray)) : Q03.A → Option Q03.T := fun (a0, a1) => Q03.e n c a0 a1
def Q03.l (n : Nat) : Nat → Q03.Z → Option (Int × ByteArray) := loopL (Q03.r n)
def Q03.F (n : Nat) (a0 : List AV) (a1 : ByteArray) : Option (Int × ByteArray) := Q03.e n (Q03.l n n) a0 a1
def Q03.FA (n : Nat) : Q03.A → Option Q03.T := Q03.E n (Q03.l n n)
def Q03.nils : List (Nat × Nat × Fl × Nat) := []
theorem Q03.hands (n : Nat) : ∀ a p, Q03.FA n a = some p → HandsMIn Tryz.prog 132 (Q03.i a) (Q03.b a) (Q03.y p) (Q03.w p) :=
  pfM_hands (G := Gk 1) (C := Q03.C n) (cut := Q03.cut) (t := Q03.t) (s := Q03.s) (nils := Q03.nils) (e := Q03.E n) (r := Q03.r n) (n := n) (cfg.kb 1) mixed globs Q03.qi (fun a => by kernel_rfl) (Q03.tells n) Tryz.func132 (by kernel_rfl) (by kernel_rfl) (fun rec a => by kernel_rfl) (fun rec z => by cases z <;> kernel_rfl)
def Q03.via {R : Type} (n : Nat) : List AV → (AV → Option R) → Option R := viaK (Q03.FA n) Q03.o Q03.p
theorem Q03.tells1 {R : Type} (n : Nat) (xs : List AV) : Tells1 (R := R) Tryz.prog 132 xs (Q03.via n xs) := tells_viaM (fun _ => rfl) Q03.oi (Q03.hands n) xs
end Go.Proofs.YtmpglmcjoelciaaGreatDoor.Ev
namespace Go.Proofs.YtmpglmcjoelciaaGreatDoor.Ev
open Go Go.Proofs Go.Proofs.Ev
set_option linter.unusedVariables false
set_option maxRecDepth 100000
abbrev Q1h.A := ByteArray × Int × Int × Int × ByteArray
abbrev Q1h.T := Bool × ByteArray
def Q1h.i : Q1h.A → List AV := fun (a0, a1, a2, a3, a4) => [AV.agg [vs a0, vi a1, vi a2, vi a3], .ptr 0 0]
def Q1h.b : Q1h.A → List AV := fun (a0, a1, a2, a3, a4) => [.fn 9 [vs a4]]
def Q1h.o (xs : List AV) : Option Q1h.A := match xs with | [.agg [.v (.string a0), .v (.int .i64 a1), .v (.int .i64 a2), .v (.int .i64 a3)], .ptr 0 0, .tup [.fn 9 [.v (.string a4)]]] => some (a0, a1, a2, a3, a4) | _ => none
theorem Q1h.oi : ∀ xs a, Q1h.o xs = some a → xs = Q1h.i a ++ [.tup (Q1h.b a)] := by
  intro xs a h
  unfold Q1h.o at h
  split at h
  · cases h; rfl
  · cases h
def Q1h.y (p : Q1h.T) : AV := vb p.1
def Q1h.w (p : Q1h.T) : List AV := [.fn 9 [vs p.2]]
def Q1h.p (p : Q1h.T) : AV := .tup [Q1h.y p, .tup (Q1h.w p)]
def Q1h.q (x : AV) : Option Q1h.T := match x with | .tup [.v (.bool p0), .tup [.fn 9 [.v (.string p1)]]] => some (p0, p1) | _ => none
theorem Q1h.qi : ∀ x p, Q1h.q x = some p → x = Q1h.p p := by
  intro x p h
  unfold Q1h.q at h
  split at h
  · cases h; rfl
  · cases h
def Q1h.C {R : Type} (n : Nat) (f : FuncId) (xs : List AV) : (AV → Option R) → Option R :=
  fun _ => none
theorem Q1h.tells {R : Type} (n : Nat) : Tells (R := R) Tryz.prog (Q1h.C n) := fun _ xs => Tells1.none
def Q1h.cut (r : Nat) : Option Keep := match r with  | _ => none
def Q1h.e (n : Nat) (a0 : ByteArray) (a1 a2 a3 : Int) (a4 : ByteArray) : Option (Bool × ByteArray) :=
  some (a0.toList == a4.toList, a4)
def Q1h.E (n : Nat) : Q1h.A → Option Q1h.T := fun (a0, a1, a2, a3, a4) => Q1h.e n a0 a1 a2 a3 a4
def Q1h.F (n : Nat) (a0 : ByteArray) (a1 a2 a3 : Int) (a4 : ByteArray) : Option (Bool × ByteArray) := Q1h.e n a0 a1 a2 a3 a4
def Q1h.FA (n : Nat) : Q1h.A → Option Q1h.T := Q1h.E n
def Q1h.nils : List (Nat × Nat × Fl × Nat) := []
theorem Q1h.hands (n : Nat) : ∀ a p, Q1h.FA n a = some p → HandsMIn Tryz.prog 157 (Q1h.i a) (Q1h.b a) (Q1h.y p) (Q1h.w p) :=
  pfM_hands (G := Gk 1) (C := Q1h.C n) (cut := Q1h.cut) (Z := Empty) (t := nofun) (s := nofun) (nils := Q1h.nils) (e := fun _ => Q1h.E n) (r := fun _ z => nomatch z) (n := n) (cfg.kb 1) mixed globs Q1h.qi (fun a => by kernel_rfl) (Q1h.tells n) Tryz.func157 (by kernel_rfl) (by kernel_rfl) (fun rec a => by kernel_rfl) (fun rec z => nomatch z)
def Q1h.via {R : Type} (n : Nat) : List AV → (AV → Option R) → Option R := viaK (Q1h.FA n) Q1h.o Q1h.p
theorem Q1h.tells1 {R : Type} (n : Nat) (xs : List AV) : Tells1 (R := R) Tryz.prog 157 xs (Q1h.via n xs) := tells_viaM (fun _ => rfl) Q1h.oi (Q1h.hands n) xs
end Go.Proofs.YtmpglmcjoelciaaGreatDoor.Ev
namespace Go.Proofs.YtmpglmcjoelciaaGreatDoor.Ev
open Go Go.Proofs Go.Proofs.Ev
set_option linter.unusedVariables false
set_option maxRecDepth 100000
abbrev Q00.A := List AV × ByteArray
abbrev Q00.T := Int × ByteArray
def Q00.i : Q00.A → List AV := fun (a0, a1) => [.sl ⟨true, 125⟩ 4 a0, .fn 157 [.ptr 0 0]]
def Q00.b : Q00.A → List AV := fun (a0, a1) => [.fn 9 [vs a1]]
def Q00.o (xs : List AV) : Option Q00.A := match xs with | [.sl ⟨true, 125⟩ 4 a0, .fn 157 [.ptr 0 0], .tup [.fn 9 [.v (.string a1)]]] => some (a0, a1) | _ => none
theorem Q00.oi : ∀ xs a, Q00.o xs = some a → xs = Q00.i a ++ [.tup (Q00.b a)] := by
  intro xs a h
  unfold Q00.o at h
  split at h
  · cases h; rfl
  · cases h
def Q00.y (p : Q00.T) : AV := vi p.1
def Q00.w (p : Q00.T) : List AV := [.fn 9 [vs p.2]]
def Q00.p (p : Q00.T) : AV := .tup [Q00.y p, .tup (Q00.w p)]
def Q00.q (x : AV) : Option Q00.T := match x with | .tup [.v (.int .i64 p0), .tup [.fn 9 [.v (.string p1)]]] => some (p0, p1) | _ => none
theorem Q00.qi : ∀ x p, Q00.q x = some p → x = Q00.p p := by
  intro x p h
  unfold Q00.q at h
  split at h
  · cases h; rfl
  · cases h
inductive Q00.Z where
  | z2 (z1 : List AV) (z2 z3 : Int) (z4 : ByteArray)
def Q00.C {R : Type} (n : Nat) (f : FuncId) (xs : List AV) : (AV → Option R) → Option R :=
  bif Nat.beq f 157 then Q1h.via n xs else fun _ => none
theorem Q00.tells {R : Type} (n : Nat) : Tells (R := R) Tryz.prog (Q00.C n) := fun _ xs => tells_at (Q1h.tells1 n xs) (Tells1.none)
def Q00.cut (r : Nat) : Option Keep := match r with | 2 => some ⟨[0, 1, 7, 8], []⟩ | _ => none
def Q00.t (z : Q00.Z) : List Item := (todoOf (match z with | .z2 _ _ _ _ => 2) 1000 [.code (Tryz.f156.body.getD .skip)]).getD []
def Q00.s : Q00.Z → St
  | .z2 z1 z2 z3 z4 => ⟨spr 19 0 [(0, .sl ⟨true, 125⟩ 4 z1), (1, .fn 157 [.ptr 0 0]), (7, vi z2), (8, vi z3)], Mem.ofList [.box 9 [vs z4]], 1⟩
def Q00.r2 (n : Nat) (c : Q00.Z → Option (Int × ByteArray)) (z1 : List AV) (z2 z3 : Int) (z4 : ByteArray) : Option (Int × ByteArray) :=
  bif decide (z3 < z2) then (bif decide ((0 : Int) ≤ z3) && decide (z3 < ((z1.length : Nat) : Int)) then (withCons ((z1.getD ((z3).toNat) .undef).cells) fun h1 r2 =>
  withStr h1 fun s3 =>
  withCons r2 fun h4 r5 =>
  withInt .i64 h4 fun x6 =>
  withCons r5 fun h7 r8 =>
  withInt .i64 h7 fun x9 =>
  withCons r8 fun h10 r11 =>
  withInt .i64 h10 fun x12 =>
  (Q1h.F n s3 x6 x9 x12 z4).bind fun p13 =>
  bif p13.1 then (some (z3, p13.2)) else (c (.z2 z1 z2 (IntKind.i64.wrap (z3 + 1)) p13.2))) else none) else (some ((-1), z4))
def Q00.r (n : Nat) (c : Q00.Z → Option (Int × ByteArray)) : Q00.Z → Option (Int × ByteArray)
  | .z2 z1 z2 z3 z4 => Q00.r2 n c z1 z2 z3 z4
def Q00.e (n : Nat) (c : Q00.Z → Option (Int × ByteArray)) (a0 : List AV) (a1 : ByteArray) : Option (Int × ByteArray) :=
  c (.z2 a0 ((a0.length : Nat) : Int) 0 a1)
def Q00.E (n : Nat) (c : Q00.Z → Option (Int × ByteArray)) : Q00.A → Option Q00.T := fun (a0, a1) => Q00.e n c a0 a1
def Q00.l (n : Nat) : Nat → Q00.Z → Option (Int × ByteArray) := loopL (Q00.r n)
def Q00.F (n : Nat) (a0 : List AV) (a1 : ByteArray) : Option (Int × ByteArray) := Q00.e n (Q00.l n n) a0 a1
def Q00.FA (n : Nat) : Q00.A → Option Q00.T := Q00.E n (Q00.l n n)
def Q00.nils : List (Nat × Nat × Fl × Nat) := []
theorem Q00.hands (n : Nat) : ∀ a p, Q00.FA n a = some p → HandsMIn Tryz.prog 156 (Q00.i a) (Q00.b a) (Q00.y p) (Q00.w p) :=
  pfM_hands (G := Gk 1) (C := Q00.C n) (cut := Q00.cut) (t := Q00.t) (s := Q00.s) (nils := Q00.nils) (e := Q00.E n) (r := Q00.r n) (n := n) (cfg.kb 1) mixed globs Q00.qi (fun a => by kernel_rfl) (Q00.tells n) Tryz.func156 (by kernel_rfl) (by kernel_rfl) (fun rec a => by kernel_rfl) (fun rec z => by cases z <;> kernel_rfl)
def Q00.via {R : Type} (n : Nat) : List AV → (AV → Option R) → Option R := viaK (Q00.FA n) Q00.o Q00.p
theorem Q00.tells1 {R : Type} (n : Nat) (xs : List AV) : Tells1 (R := R) Tryz.prog 156 xs (Q00.via n xs) := tells_viaM (fun _ => rfl) Q00.oi (Q00.hands n) xs
end Go.Proofs.YtmpglmcjoelciaaGreatDoor.Ev
namespace Go.Proofs.YtmpglmcjoelciaaGreatDoor.Ev
open Go Go.Proofs Go.Proofs.Ev
set_option linter.unusedVariables false
set_option maxRecDepth 100000
abbrev Q1g.A := ByteArray × ByteArray × List AV × List AV × Bool × ByteArray
abbrev Q1g.T := Int × Int × Int × Bool
def Q1g.i : Q1g.A → List AV := fun (a0, a1, a2, a3, a4, a5) => [AV.agg [vs a0, vs a1, .sl ⟨true, 125⟩ 4 a2, .sl ⟨true, 111⟩ 2 a3, vb a4], vs a5]
def Q1g.o (xs : List AV) : Option Q1g.A := match xs with | [.agg [.v (.string a0), .v (.string a1), .sl ⟨true, 125⟩ 4 a2, .sl ⟨true, 111⟩ 2 a3, .v (.bool a4)], .v (.string a5)] => some (a0, a1, a2, a3, a4, a5) | _ => none
theorem Q1g.oi : ∀ xs a, Q1g.o xs = some a → xs = Q1g.i a := by
  intro xs a h
  unfold Q1g.o at h
  split at h
  · cases h; rfl
  · cases h
def Q1g.p (p : Q1g.T) : AV := .tup [AV.agg [vi p.1, vi p.2.1, vi p.2.2.1], vb p.2.2.2]
def Q1g.q (x : AV) : Option Q1g.T := match x with | .tup [.agg [.v (.int .i64 p0), .v (.int .i64 p1), .v (.int .i64 p2)], .v (.bool p3)] => some (p0, p1, p2, p3) | _ => none
theorem Q1g.qi : ∀ x p, Q1g.q x = some p → x = Q1g.p p := by
  intro x p h
  unfold Q1g.q at h
  split at h
  · cases h; rfl
  · cases h
def Q1g.C {R : Type} (n : Nat) (f : FuncId) (xs : List AV) : (AV → Option R) → Option R :=
  bif Nat.beq f 156 then Q00.via n xs else fun _ => none
theorem Q1g.tells {R : Type} (n : Nat) : Tells (R := R) Tryz.prog (Q1g.C n) := fun _ xs => tells_at (Q00.tells1 n xs) (Tells1.none)
def Q1g.cut (r : Nat) : Option Keep := match r with  | _ => none
def Q1g.e (n : Nat) (a0 a1 : ByteArray) (a2 a3 : List AV) (a4 : Bool) (a5 : ByteArray) : Option (Int × Int × Int × Bool) :=
  (Q00.F n a2 a5).bind fun p1 =>
  bif decide (p1.1 < 0) then (some (0, 0, 0, false)) else (bif decide ((0 : Int) ≤ p1.1) && decide (p1.1 < ((a2.length : Nat) : Int)) then (withCons (((a2.getD ((p1.1).toNat) .undef).cells).drop 1) fun h2 r3 =>
  withInt .i64 h2 fun x4 =>
  withCons r3 fun h5 r6 =>
  withInt .i64 h5 fun x7 =>
  withCons r6 fun h8 r9 =>
  withInt .i64 h8 fun x10 =>
  some (x4, x7, x10, true)) else none)
def Q1g.E (n : Nat) : Q1g.A → Option Q1g.T := fun (a0, a1, a2, a3, a4, a5) => Q1g.e n a0 a1 a2 a3 a4 a5
def Q1g.F (n : Nat) (a0 a1 : ByteArray) (a2 a3 : List AV) (a4 : Bool) (a5 : ByteArray) : Option (Int × Int × Int × Bool) := Q1g.e n a0 a1 a2 a3 a4 a5
def Q1g.FA (n : Nat) : Q1g.A → Option Q1g.T := Q1g.E n
theorem Q1g.hands (n : Nat) : ∀ a p, Q1g.FA n a = some p → HandsIn Tryz.prog 134 (Q1g.i a) (Q1g.p p) :=
  pf_hands (C := Q1g.C n) (cut := Q1g.cut) (Z := Empty) (t := nofun) (s := nofun) (e := fun _ => Q1g.E n) (r := fun _ z => nomatch z) (n := n) cfg mixed globs rfl Q1g.qi (Q1g.tells n) Tryz.func134 (by kernel_rfl) (by kernel_rfl) (fun rec a => by kernel_rfl) (fun rec z => nomatch z)
def Q1g.via {R : Type} (n : Nat) : List AV → (AV → Option R) → Option R := viaK (Q1g.FA n) Q1g.o Q1g.p
theorem Q1g.tells1 {R : Type} (n : Nat) (xs : List AV) : Tells1 (R := R) Tryz.prog 134 xs (Q1g.via n xs) := tells_via Q1g.oi (fun a => by kernel_rfl) (Q1g.hands n) xs
end Go.Proofs.YtmpglmcjoelciaaGreatDoor.Ev
namespace Go.Proofs.YtmpglmcjoelciaaGreatDoor.Ev
open Go Go.Proofs Go.Proofs.Ev
set_option linter.unusedVariables false
set_option maxRecDepth 100000
abbrev Q13.A := Int × ByteArray × Int × ByteArray × List AV
abbrev Q13.T := Int
def Q13.i : Q13.A → List AV := fun (a0, a1, a2, a3, a4) => [AV.agg [vi a0, vs a1, vi a2, vs a3], .sl ⟨false, 48⟩ 5 a4]
def Q13.o (xs : List AV) : Option Q13.A := match xs with | [.agg [.v (.int .i64 a0), .v (.string a1), .v (.int .i64 a2), .v (.string a3)], .sl ⟨false, 48⟩ 5 a4] => some (a0, a1, a2, a3, a4) | _ => none
theorem Q13.oi : ∀ xs a, Q13.o xs = some a → xs = Q13.i a := by
  intro xs a h
  unfold Q13.o at h
  split at h
  · cases h; rfl
  · cases h
def Q13.p (p : Q13.T) : AV := vi p
def Q13.q (x : AV) : Option Q13.T := match x with | .v (.int .i64 p0) => some p0 | _ => none
theorem Q13.qi : ∀ x p, Q13.q x = some p → x = Q13.p p := by
  intro x p h
  unfold Q13.q at h
  split at h
  · cases h; rfl
  · cases h
def Q13.C {R : Type} (n : Nat) (f : FuncId) (xs : List AV) : (AV → Option R) → Option R :=
  bif Nat.beq f 44 then Q0m.via n xs else bif Nat.beq f 45 then Q0f.via n xs else bif Nat.beq f 134 then Q1g.via n xs else fun _ => none
theorem Q13.tells {R : Type} (n : Nat) : Tells (R := R) Tryz.prog (Q13.C n) := fun _ xs => tells_at (Q0m.tells1 n xs) (tells_at (Q0f.tells1 n xs) (tells_at (Q1g.tells1 n xs) (Tells1.none)))
def Q13.cut (r : Nat) : Option Keep := match r with  | _ => none
def Q13.e (n : Nat) (a0 : Int) (a1 : ByteArray) (a2 : Int) (a3 : ByteArray) (a4 : List AV) : Option Int :=
  bif decide ((0 : Int) ≤ a0) && decide (a0 < ((a4.length : Nat) : Int)) then (withCons ((a4.getD ((a0).toNat) .undef).cells) fun h1 r2 =>
  withStr h1 fun s3 =>
  withCons r2 fun h4 r5 =>
  withStr h4 fun s6 =>
  withCons r5 fun h7 r8 =>
  withSl ⟨true, 125⟩ 4 h7 fun xs9 =>
  withCons r8 fun h10 r11 =>
  withSl ⟨true, 111⟩ 2 h10 fun xs12 =>
  withCons r11 fun h13 r14 =>
  withBool h13 fun b15 =>
  (Q1g.F n s3 s6 xs9 xs12 b15 a1).bind fun p16 =>
  bif decide ((0 : Int) ≤ a2) && decide (a2 < ((a4.length : Nat) : Int)) then (withCons ((a4.getD ((a2).toNat) .undef).cells) fun h17 r18 =>
  withStr h17 fun s19 =>
  withCons r18 fun h20 r21 =>
  withStr h20 fun s22 =>
  withCons r21 fun h23 r24 =>
  withSl ⟨true, 125⟩ 4 h23 fun xs25 =>
  withCons r24 fun h26 r27 =>
  withSl ⟨true, 111⟩ 2 h26 fun xs28 =>
  withCons r27 fun h29 r30 =>
  withBool h29 fun b31 =>
  (Q1g.F n s19 s22 xs25 xs28 b31 a3).bind fun p32 =>
  (Q0f.F n (!p16.2.2.2) 11).bind fun p33 =>
  (Q0f.F n (!p32.2.2.2) 11).bind fun p34 =>
  let y35 : Bool := !((p16.1 == p32.1) && ((p16.2.1 == p32.2.1) && ((p16.2.2.1 == p32.2.2.1) && true)))
  (Q0f.F n y35 17).bind fun p36 =>
  (Q0m.F n [vi p33, vi p34, vi p36]).bind fun p37 =>
  some p37) else none) else none
def Q13.E (n : Nat) : Q13.A → Option Q13.T := fun (a0, a1, a2, a3, a4) => Q13.e n a0 a1 a2 a3 a4
def Q13.F (n : Nat) (a0 : Int) (a1 : ByteArray) (a2 : Int) (a3 : ByteArray) (a4 : List AV) : Option Int := Q13.e n a0 a1 a2 a3 a4
def Q13.FA (n : Nat) : Q13.A → Option Q13.T := Q13.E n
theorem Q13.hands (n : Nat) : ∀ a p, Q13.FA n a = some p → HandsIn Tryz.prog 135 (Q13.i a) (Q13.p p) :=
  pf_hands (C := Q13.C n) (cut := Q13.cut) (Z := Empty) (t := nofun) (s := nofun) (e := fun _ => Q13.E n) (r := fun _ z => nomatch z) (n := n) cfg mixed globs rfl Q13.qi (Q13.tells n) Tryz.func135 (by kernel_rfl) (by kernel_rfl) (fun rec a => by kernel_rfl) (fun rec z => nomatch z)
def Q13.via {R : Type} (n : Nat) : List AV → (AV → Option R) → Option R := viaK (Q13.FA n) Q13.o Q13.p
theorem Q13.tells1 {R : Type} (n : Nat) (xs : List AV) : Tells1 (R := R) Tryz.prog 135 xs (Q13.via n xs) := tells_via Q13.oi (fun a => by kernel_rfl) (Q13.hands n) xs
end Go.Proofs.YtmpglmcjoelciaaGreatDoor.Ev
namespace Go.Proofs.YtmpglmcjoelciaaGreatDoor.Ev
open Go Go.Proofs Go.Proofs.Ev
set_option linter.unusedVariables false
set_option maxRecDepth 100000
abbrev Q42.A := Int
abbrev Q42.T := Int
def Q42.i : Q42.A → List AV := fun a0 => [vi a0]
def Q42.o (xs : List AV) : Option Q42.A := match xs with | [.v (.int .i64 a0)] => some a0 | _ => none
theorem Q42.oi : ∀ xs a, Q42.o xs = some a → xs = Q42.i a := by
  intro xs a h
  unfold Q42.o at h
  split at h
  · cases h; rfl
  · cases h
def Q42.p (p : Q42.T) : AV := vi p
def Q42.q (x : AV) : Option Q42.T := match x with | .v (.int .i64 p0) => some p0 | _ => none
theorem Q42.qi : ∀ x p, Q42.q x = some p → x = Q42.p p := by
  intro x p h
  unfold Q42.q at h
  split at h
  · cases h; rfl
  · cases h
inductive Q42.Z where
  | z3 (z1 z2 z3 : Int)
def Q42.C {R : Type} (n : Nat) (f : FuncId) (xs : List AV) : (AV → Option R) → Option R :=
  fun _ => none
theorem Q42.tells {R : Type} (n : Nat) : Tells (R := R) Tryz.prog (Q42.C n) := fun _ xs => Tells1.none
def Q42.cut (r : Nat) : Option Keep := match r with | 3 => some ⟨[3, 5, 6], []⟩ | _ => none
def Q42.t (z : Q42.Z) : List Item := (todoOf (match z with | .z3 _ _ _ => 3) 1000 [.code (Tryz.f179.body.getD .skip)]).getD []
def Q42.s : Q42.Z → St
  | .z3 z1 z2 z3 => ⟨spr 12 0 [(3, vi z1), (5, vi z2), (6, vi z3)], Mem.ofList [], 0⟩
def Q42.r3 (n : Nat) (c : Q42.Z → Option Int) (z1 z2 z3 : Int) : Option Int :=
  bif decide (z3 < z2) then (c (.z3 (IntKind.i64.wrap (z1 * 10)) z2 (IntKind.i64.wrap (z3 + 1)))) else (some z1)
def Q42.r (n : Nat) (c : Q42.Z → Option Int) : Q42.Z → Option Int
  | .z3 z1 z2 z3 => Q42.r3 n c z1 z2 z3
def Q42.e (n : Nat) (c : Q42.Z → Option Int) (a0 : Int) : Option Int :=
  c (.z3 1 (if 18 < a0 then 18 else a0) 0)
def Q42.E (n : Nat) (c : Q42.Z → Option Int) : Q42.A → Option Q42.T := fun a0 => Q42.e n c a0
def Q42.l (n : Nat) : Nat → Q42.Z → Option Int := loopL (Q42.r n)
def Q42.F (n : Nat) (a0 : Int) : Option Int := Q42.e n (Q42.l n n) a0
def Q42.FA (n : Nat) : Q42.A → Option Q42.T := Q42.E n (Q42.l n n)
theorem Q42.hands (n : Nat) : ∀ a p, Q42.FA n a = some p → HandsIn Tryz.prog 179 (Q42.i a) (Q42.p p) :=
  pf_hands (C := Q42.C n) (cut := Q42.cut) (t := Q42.t) (s := Q42.s) (e := Q42.E n) (r := Q42.r n) (n := n) cfg mixed globs rfl Q42.qi (Q42.tells n) Tryz.func179 (by kernel_rfl) (by kernel_rfl) (fun rec a => by kernel_rfl) (fun rec z => by cases z <;> kernel_rfl)
def Q42.via {R : Type} (n : Nat) : List AV → (AV → Option R) → Option R := viaK (Q42.FA n) Q42.o Q42.p
theorem Q42.tells1 {R : Type} (n : Nat) (xs : List AV) : Tells1 (R := R) Tryz.prog 179 xs (Q42.via n xs) := tells_via Q42.oi (fun a => by kernel_rfl) (Q42.hands n) xs
end Go.Proofs.YtmpglmcjoelciaaGreatDoor.Ev
namespace Go.Proofs.YtmpglmcjoelciaaGreatDoor.Ev
open Go Go.Proofs Go.Proofs.Ev
set_option linter.unusedVariables false
set_option maxRecDepth 100000
abbrev Q3u.A := Int × Int × Int × Int × ByteArray
abbrev Q3u.T := Int
def Q3u.i : Q3u.A → List AV := fun (a0, a1, a2, a3, a4) => [AV.agg [vi a0, vi a1, vi a2], AV.agg [vi a3, vs a4]]
def Q3u.o (xs : List AV) : Option Q3u.A := match xs with | [.agg [.v (.int .i64 a0), .v (.int .i64 a1), .v (.int .i64 a2)], .agg [.v (.int .i64 a3), .v (.string a4)]] => some (a0, a1, a2, a3, a4) | _ => none
theorem Q3u.oi : ∀ xs a, Q3u.o xs = some a → xs = Q3u.i a := by
  intro xs a h
  unfold Q3u.o at h
  split at h
  · cases h; rfl
  · cases h
def Q3u.p (p : Q3u.T) : AV := vi p
def Q3u.q (x : AV) : Option Q3u.T := match x with | .v (.int .i64 p0) => some p0 | _ => none
theorem Q3u.qi : ∀ x p, Q3u.q x = some p → x = Q3u.p p := by
  intro x p h
  unfold Q3u.q at h
  split at h
  · cases h; rfl
  · cases h
def Q3u.C {R : Type} (n : Nat) (f : FuncId) (xs : List AV) : (AV → Option R) → Option R :=
  bif Nat.beq f 84 then Q3t.via n xs else bif Nat.beq f 127 then Q3z.via n xs else bif Nat.beq f 128 then Q3y.via n xs else bif Nat.beq f 129 then Q3x.via n xs else bif Nat.beq f 179 then Q42.via n xs else fun _ => none
theorem Q3u.tells {R : Type} (n : Nat) : Tells (R := R) Tryz.prog (Q3u.C n) := fun _ xs => tells_at (Q3t.tells1 n xs) (tells_at (Q3z.tells1 n xs) (tells_at (Q3y.tells1 n xs) (tells_at (Q3x.tells1 n xs) (tells_at (Q42.tells1 n xs) (Tells1.none)))))
def Q3u.cut (r : Nat) : Option Keep := match r with  | _ => none
def Q3u.e (n : Nat) (a0 a1 a2 a3 : Int) (a4 : ByteArray) : Option Int :=
  (Q3t.F n a0 a1 a2).bind fun p1 =>
  (Q3x.F n (a0 == 4) 17).bind fun p2 =>
  (Q3y.F n [vi p1, vi p2]).bind fun p3 =>
  bif p3 != 0 then (some p3) else (bif a0 == 0 then ((Q3x.F n (a3 != 0) 5).bind fun p4 =>
  let y5 : Bool := ((a4.size : Nat) : Int) != a1
  (Q3x.F n y5 18).bind fun p6 =>
  (Q3y.F n [vi p4, vi p6]).bind fun p7 =>
  some p7) else ((Q42.F n a1).bind fun p8 =>
  let y9 : Bool := !(a4.toList == (⟨#[]⟩ : ByteArray).toList)
  (Q3x.F n y9 5).bind fun p10 =>
  (Q3z.F n a3 (IntKind.i64.wrap (0 - (IntKind.i64.wrap (p8 - 1)))) (IntKind.i64.wrap (p8 - 1))).bind fun p11 =>
  (Q3x.F n (!p11) 19).bind fun p12 =>
  (Q3y.F n [vi p10, vi p12]).bind fun p13 =>
  some p13))
def Q3u.E (n : Nat) : Q3u.A → Option Q3u.T := fun (a0, a1, a2, a3, a4) => Q3u.e n a0 a1 a2 a3 a4
def Q3u.F (n : Nat) (a0 a1 a2 a3 : Int) (a4 : ByteArray) : Option Int := Q3u.e n a0 a1 a2 a3 a4
def Q3u.FA (n : Nat) : Q3u.A → Option Q3u.T := Q3u.E n
theorem Q3u.hands (n : Nat) : ∀ a p, Q3u.FA n a = some p → HandsIn Tryz.prog 158 (Q3u.i a) (Q3u.p p) :=
  pf_hands (C := Q3u.C n) (cut := Q3u.cut) (Z := Empty) (t := nofun) (s := nofun) (e := fun _ => Q3u.E n) (r := fun _ z => nomatch z) (n := n) cfg mixed globs rfl Q3u.qi (Q3u.tells n) Tryz.func158 (by kernel_rfl) (by kernel_rfl) (fun rec a => by kernel_rfl) (fun rec z => nomatch z)
def Q3u.via {R : Type} (n : Nat) : List AV → (AV → Option R) → Option R := viaK (Q3u.FA n) Q3u.o Q3u.p
theorem Q3u.tells1 {R : Type} (n : Nat) (xs : List AV) : Tells1 (R := R) Tryz.prog 158 xs (Q3u.via n xs) := tells_via Q3u.oi (fun a => by kernel_rfl) (Q3u.hands n) xs
end Go.Proofs.YtmpglmcjoelciaaGreatDoor.Ev
namespace Go.Proofs.YtmpglmcjoelciaaGreatDoor.Ev
open Go Go.Proofs Go.Proofs.Ev
set_option linter.unusedVariables false
set_option maxRecDepth 100000
abbrev Q1k.A := Int × ByteArray × Int × Int × Int
abbrev Q1k.T := Int
def Q1k.i : Q1k.A → List AV := fun (a0, a1, a2, a3, a4) => [AV.agg [vi a0, vs a1], AV.agg [vi a2, vi a3, vi a4]]
def Q1k.o (xs : List AV) : Option Q1k.A := match xs with | [.agg [.v (.int .i64 a0), .v (.string a1)], .agg [.v (.int .i64 a2), .v (.int .i64 a3), .v (.int .i64 a4)]] => some (a0, a1, a2, a3, a4) | _ => none
theorem Q1k.oi : ∀ xs a, Q1k.o xs = some a → xs = Q1k.i a := by
  intro xs a h
  unfold Q1k.o at h
  split at h
  · cases h; rfl
  · cases h
def Q1k.p (p : Q1k.T) : AV := vi p
def Q1k.q (x : AV) : Option Q1k.T := match x with | .v (.int .i64 p0) => some p0 | _ => none
theorem Q1k.qi : ∀ x p, Q1k.q x = some p → x = Q1k.p p := by
  intro x p h
  unfold Q1k.q at h
  split at h
  · cases h; rfl
  · cases h
def Q1k.C {R : Type} (n : Nat) (f : FuncId) (xs : List AV) : (AV → Option R) → Option R :=
  bif Nat.beq f 44 then Q0m.via n xs else bif Nat.beq f 45 then Q0f.via n xs else bif Nat.beq f 158 then Q3u.via n xs else fun _ => none
theorem Q1k.tells {R : Type} (n : Nat) : Tells (R := R) Tryz.prog (Q1k.C n) := fun _ xs => tells_at (Q0m.tells1 n xs) (tells_at (Q0f.tells1 n xs) (tells_at (Q3u.tells1 n xs) (Tells1.none)))
def Q1k.cut (r : Nat) : Option Keep := match r with  | _ => none
def Q1k.e (n : Nat) (a0 : Int) (a1 : ByteArray) (a2 a3 a4 : Int) : Option Int :=
  bif a2 == 0 then ((Q0f.F n (a0 != 0) 17).bind fun p1 =>
  let y2 : Bool := decide (((a1.size : Nat) : Int) > a3)
  (Q0f.F n y2 18).bind fun p3 =>
  (Q0m.F n [vi p1, vi p3]).bind fun p4 =>
  some p4) else (let y5 : Bool := !(a1.toList == (⟨#[]⟩ : ByteArray).toList)
  (Q0f.F n y5 17).bind fun p6 =>
  (Q3u.F n a2 a3 a4 a0 a1).bind fun p7 =>
  (Q0m.F n [vi p6, vi p7]).bind fun p8 =>
  some p8)
def Q1k.E (n : Nat) : Q1k.A → Option Q1k.T := fun (a0, a1, a2, a3, a4) => Q1k.e n a0 a1 a2 a3 a4
def Q1k.F (n : Nat) (a0 : Int) (a1 : ByteArray) (a2 a3 a4 : Int) : Option Int := Q1k.e n a0 a1 a2 a3 a4
def Q1k.FA (n : Nat) : Q1k.A → Option Q1k.T := Q1k.E n
theorem Q1k.hands (n : Nat) : ∀ a p, Q1k.FA n a = some p → HandsIn Tryz.prog 136 (Q1k.i a) (Q1k.p p) :=
  pf_hands (C := Q1k.C n) (cut := Q1k.cut) (Z := Empty) (t := nofun) (s := nofun) (e := fun _ => Q1k.E n) (r := fun _ z => nomatch z) (n := n) cfg mixed globs rfl Q1k.qi (Q1k.tells n) Tryz.func136 (by kernel_rfl) (by kernel_rfl) (fun rec a => by kernel_rfl) (fun rec z => nomatch z)
def Q1k.via {R : Type} (n : Nat) : List AV → (AV → Option R) → Option R := viaK (Q1k.FA n) Q1k.o Q1k.p
theorem Q1k.tells1 {R : Type} (n : Nat) (xs : List AV) : Tells1 (R := R) Tryz.prog 136 xs (Q1k.via n xs) := tells_via Q1k.oi (fun a => by kernel_rfl) (Q1k.hands n) xs
end Go.Proofs.YtmpglmcjoelciaaGreatDoor.Ev
namespace Go.Proofs.YtmpglmcjoelciaaGreatDoor.Ev
open Go Go.Proofs Go.Proofs.Ev
set_option linter.unusedVariables false
set_option maxRecDepth 100000
abbrev Q11.A := ByteArray × ByteArray × List AV × List AV × List AV × List AV × Bool × List AV × List AV
abbrev Q11.T := ByteArray × List AV × Int × Int
def Q11.i : Q11.A → List AV := fun (a0, a1, a2, a3, a4, a5, a6, a7, a8) => [AV.agg [vs a0, vs a1, .sl ⟨true, 9⟩ 1 a2, .sl ⟨true, 95⟩ 3 a3, .sl ⟨true, 97⟩ 4 a4, .sl ⟨true, 111⟩ 2 a5, vb a6, .sl ⟨false, 100⟩ 2 a7], .sl ⟨false, 48⟩ 5 a8]
def Q11.o (xs : List AV) : Option Q11.A := match xs with | [.agg [.v (.string a0), .v (.string a1), .sl ⟨true, 9⟩ 1 a2, .sl ⟨true, 95⟩ 3 a3, .sl ⟨true, 97⟩ 4 a4, .sl ⟨true, 111⟩ 2 a5, .v (.bool a6), .sl ⟨false, 100⟩ 2 a7], .sl ⟨false, 48⟩ 5 a8] => some (a0, a1, a2, a3, a4, a5, a6, a7, a8) | _ => none
theorem Q11.oi : ∀ xs a, Q11.o xs = some a → xs = Q11.i a := by
  intro xs a h
  unfold Q11.o at h
  split at h
  · cases h; rfl
  · cases h
def Q11.p (p : Q11.T) : AV := .tup [AV.agg [vs p.1, .fr ⟨true, 125⟩ 4 p.2.1], vi p.2.2.1, vi p.2.2.2]
def Q11.q (x : AV) : Option Q11.T := match x with | .tup [.agg [.v (.string p0), .fr ⟨true, 125⟩ 4 p1], .v (.int .i64 p2), .v (.int .i64 p3)] => some (p0, p1, p2, p3) | _ => none
theorem Q11.qi : ∀ x p, Q11.q x = some p → x = Q11.p p := by
  intro x p h
  unfold Q11.q at h
  split at h
  · cases h; rfl
  · cases h
inductive Q11.Z where
  | z6 (z1 z2 : List AV) (z3 z4 : Int) (z5 z6 : ByteArray) (z7 z8 z9 z10 : List AV) (z11 : Bool) (z12 : List AV) (z13 : ByteArray) (z14 : List AV)
  | z15 (z1 : List AV) (z2 z3 : Int) (z4 z5 : ByteArray) (z6 z7 z8 z9 : List AV) (z10 : Bool) (z11 : List AV) (z12 : ByteArray) (z13 : List AV) (z14 : ByteArray) (z15 : List AV)
  | z23 (z1 : List AV) (z2 z3 : Int) (z4 z5 : ByteArray) (z6 z7 z8 z9 : List AV) (z10 : Bool) (z11 : List AV) (z12 : ByteArray) (z13 : List AV) (z14 : ByteArray) (z15 : List AV)
  | z30 (z1 : List AV) (z2 z3 : Int) (z4 z5 : ByteArray) (z6 : List AV)
  | z33 (z1 : Int) (z2 : List AV) (z3 z4 : Int) (z5 : List AV) (z6 z7 : Int) (z8 z9 : ByteArray) (z10 : List AV)
def Q11.C {R : Type} (n : Nat) (f : FuncId) (xs : List AV) : (AV → Option R) → Option R :=
  bif Nat.beq f 45 then Q0f.via n xs else bif Nat.beq f 131 then Q0k.via n xs else bif Nat.beq f 132 then Q03.via n xs else bif Nat.beq f 134 then Q1g.via n xs else bif Nat.beq f 135 then Q13.via n xs else bif Nat.beq f 136 then Q1k.via n xs else bif Nat.beq f 137 then Q17.via n xs else fun _ => none
theorem Q11.tells {R : Type} (n : Nat) : Tells (R := R) Tryz.prog (Q11.C n) := fun _ xs => tells_at (Q0f.tells1 n xs) (tells_at (Q0k.tells1 n xs) (tells_at (Q03.tells1 n xs) (tells_at (Q1g.tells1 n xs) (tells_at (Q13.tells1 n xs) (tells_at (Q1k.tells1 n xs) (tells_at (Q17.tells1 n xs) (Tells1.none)))))))
def Q11.cut (r : Nat) : Option Keep := match r with | 6 => some ⟨[1, 2, 4, 8, 34, 35, 36], [(8, none, ⟨false, 48⟩, 5)]⟩ | 15 => some ⟨[2, 4, 8, 12, 60, 61, 62], [(12, some 1, ⟨true, 125⟩, 4)]⟩ | 23 => some ⟨[2, 4, 8, 12, 93, 94, 95], []⟩ | 30 => some ⟨[4, 12, 110, 111, 112], []⟩ | 33 => some ⟨[4, 12, 20, 110, 111, 112, 118, 119, 120], []⟩ | _ => none
def Q11.t (z : Q11.Z) : List Item := (todoOf (match z with | .z6 _ _ _ _ _ _ _ _ _ _ _ _ _ _ => 6 | .z15 _ _ _ _ _ _ _ _ _ _ _ _ _ _ _ => 15 | .z23 _ _ _ _ _ _ _ _ _ _ _ _ _ _ _ => 23 | .z30 _ _ _ _ _ _ => 30 | .z33 _ _ _ _ _ _ _ _ _ _ => 33) 1000 [.code (Tryz.f89.body.getD .skip)]).getD []
def Q11.s : Q11.Z → St
  | .z6 z1 z2 z3 z4 z5 z6 z7 z8 z9 z10 z11 z12 z13 z14 => ⟨spr 149 0 [(1, .sl ⟨false, 48⟩ 5 z1), (2, .ptr 0 0), (4, .ptr 1 0), (8, .own 2 0 none), (34, .sl ⟨true, 9⟩ 1 z2), (35, vi z3), (36, vi z4)], Mem.ofList [.box 36 [vs z5, vs z6, .sl ⟨true, 9⟩ 1 z7, .sl ⟨true, 95⟩ 3 z8, .sl ⟨true, 97⟩ 4 z9, .sl ⟨true, 111⟩ 2 z10, vb z11, .sl ⟨false, 100⟩ 2 z12], .box 46 [vs z13, .v (.slice none 0 0)], .row ⟨false, 48⟩ 5 z14], 3⟩
  | .z15 z1 z2 z3 z4 z5 z6 z7 z8 z9 z10 z11 z12 z13 z14 z15 => ⟨spr 149 0 [(2, .ptr 0 0), (4, .ptr 1 0), (8, .own 2 0 none), (12, .ptr 3 0), (60, .sl ⟨true, 95⟩ 3 z1), (61, vi z2), (62, vi z3)], Mem.ofList [.box 36 [vs z4, vs z5, .sl ⟨true, 9⟩ 1 z6, .sl ⟨true, 95⟩ 3 z7, .sl ⟨true, 97⟩ 4 z8, .sl ⟨true, 111⟩ 2 z9, vb z10, .sl ⟨false, 100⟩ 2 z11], .box 46 [vs z12, .v (.slice none 0 0)], .row ⟨false, 48⟩ 5 z13, .box 46 [vs z14, .own 4 0 none], .row ⟨true, 125⟩ 4 z15], 5⟩
  | .z23 z1 z2 z3 z4 z5 z6 z7 z8 z9 z10 z11 z12 z13 z14 z15 => ⟨spr 149 0 [(2, .ptr 0 0), (4, .ptr 1 0), (8, .own 2 0 none), (12, .ptr 3 0), (93, .sl ⟨true, 97⟩ 4 z1), (94, vi z2), (95, vi z3)], Mem.ofList [.box 36 [vs z4, vs z5, .sl ⟨true, 9⟩ 1 z6, .sl ⟨true, 95⟩ 3 z7, .sl ⟨true, 97⟩ 4 z8, .sl ⟨true, 111⟩ 2 z9, vb z10, .sl ⟨false, 100⟩ 2 z11], .box 46 [vs z12, .v (.slice none 0 0)], .row ⟨false, 48⟩ 5 z13, .box 46 [vs z14, .own 4 0 none], .row ⟨true, 125⟩ 4 z15], 5⟩
  | .z30 z1 z2 z3 z4 z5 z6 => ⟨spr 149 0 [(4, .ptr 0 0), (12, .ptr 1 0), (110, .sl ⟨false, 100⟩ 2 z1), (111, vi z2), (112, vi z3)], Mem.ofList [.box 46 [vs z4, .v (.slice none 0 0)], .box 46 [vs z5, .own 2 0 none], .row ⟨true, 125⟩ 4 z6], 3⟩
  | .z33 z1 z2 z3 z4 z5 z6 z7 z8 z9 z10 => ⟨spr 149 0 [(4, .ptr 0 0), (12, .ptr 1 0), (20, vi z1), (110, .sl ⟨false, 100⟩ 2 z2), (111, vi z3), (112, vi z4), (118, .sl ⟨true, 104⟩ 4 z5), (119, vi z6), (120, vi z7)], Mem.ofList [.box 46 [vs z8, .v (.slice none 0 0)], .box 46 [vs z9, .own 2 0 none], .row ⟨true, 125⟩ 4 z10], 3⟩
def Q11.r6 (n : Nat) (c : Q11.Z → Option (ByteArray × List AV × Int × Int)) (z1 z2 : List AV) (z3 z4 : Int) (z5 z6 : ByteArray) (z7 z8 z9 z10 : List AV) (z11 : Bool) (z12 : List AV) (z13 : ByteArray) (z14 : List AV) : Option (ByteArray × List AV × Int × Int) :=
  bif decide (z4 < z3) then (bif decide ((0 : Int) ≤ z4) && decide (z4 < ((z2.length : Nat) : Int)) then (withCons ((z2.getD ((z4).toNat) .undef).cells) fun h2 r3 =>
  withStr h2 fun s4 =>
  (Q03.F n z1 s4).bind fun p5 =>
  bif decide (p5.1 < 0) then (some ((⟨#[]⟩ : ByteArray), [], z4, 11)) else (bif decide ((0 : Int) ≤ p5.1) && decide (p5.1 < ((z1.length : Nat) : Int)) then (withCons ((z1.getD ((p5.1).toNat) .undef).cells) fun h6 r7 =>
  withStr h6 fun s8 =>
  withCons r7 fun h9 r10 =>
  withStr h9 fun s11 =>
  withCons r10 fun h12 r13 =>
  withSl ⟨true, 125⟩ 4 h12 fun xs14 =>
  withCons r13 fun h15 r16 =>
  withSl ⟨true, 111⟩ 2 h15 fun xs17 =>
  withCons r16 fun h18 r19 =>
  withBool h18 fun b20 =>
  let y21 : List AV := [AV.agg [vs s8, vs s11, .sl ⟨true, 125⟩ 4 xs14, .sl ⟨true, 111⟩ 2 xs17, vb b20]]
  bif decide (z14.length + y21.length ≤ most) then (c (.z6 z1 z2 z3 (IntKind.i64.wrap (z4 + 1)) z5 z6 z7 z8 z9 z10 z11 z12 z13 (z14 ++ y21))) else none) else none)) else none) else (c (.z15 z8 ((z8.length : Nat) : Int) 0 z5 z6 z7 z8 z9 z10 z11 z12 z13 z14 z6 []))
def Q11.r15 (n : Nat) (c : Q11.Z → Option (ByteArray × List AV × Int × Int)) (z1 : List AV) (z2 z3 : Int) (z4 z5 : ByteArray) (z6 z7 z8 z9 : List AV) (z10 : Bool) (z11 : List AV) (z12 : ByteArray) (z13 : List AV) (z14 : ByteArray) (z15 : List AV) : Option (ByteArray × List AV × Int × Int) :=
  bif decide (z3 < z2) then (bif decide ((0 : Int) ≤ z3) && decide (z3 < ((z1.length : Nat) : Int)) then (withCons ((z1.getD ((z3).toNat) .undef).cells) fun h22 r23 =>
  withStr h22 fun s24 =>
  withCons r23 fun h25 r26 =>
  withInt .i64 h25 fun x27 =>
  withCons r26 fun h28 r29 =>
  withStr h28 fun s30 =>
  bif decide ((0 : Int) ≤ x27) && decide (x27 < ((z13.length : Nat) : Int)) then (withCons ((z13.getD ((x27).toNat) .undef).cells) fun h31 r32 =>
  withStr h31 fun s33 =>
  withCons r32 fun h34 r35 =>
  withStr h34 fun s36 =>
  withCons r35 fun h37 r38 =>
  withSl ⟨true, 125⟩ 4 h37 fun xs39 =>
  withCons r38 fun h40 r41 =>
  withSl ⟨true, 111⟩ 2 h40 fun xs42 =>
  withCons r41 fun h43 r44 =>
  withBool h43 fun b45 =>
  (Q1g.F n s33 s36 xs39 xs42 b45 s30).bind fun p46 =>
  bif !p46.2.2.2 then (some ((⟨#[]⟩ : ByteArray), [], z3, 11)) else (let y47 : List AV := [AV.agg [vs s24, vi p46.1, vi p46.2.1, vi p46.2.2.1]]
  bif decide (z15.length + y47.length ≤ most) then (c (.z15 z1 z2 (IntKind.i64.wrap (z3 + 1)) z4 z5 z6 z7 z8 z9 z10 z11 z12 z13 z14 (z15 ++ y47))) else none)) else none) else none) else (c (.z23 z8 ((z8.length : Nat) : Int) 0 z4 z5 z6 z7 z8 z9 z10 z11 z12 z13 z14 z15))
def Q11.r23 (n : Nat) (c : Q11.Z → Option (ByteArray × List AV × Int × Int)) (z1 : List AV) (z2 z3 : Int) (z4 z5 : ByteArray) (z6 z7 z8 z9 : List AV) (z10 : Bool) (z11 : List AV) (z12 : ByteArray) (z13 : List AV) (z14 : ByteArray) (z15 : List AV) : Option (ByteArray × List AV × Int × Int) :=
  bif decide (z3 < z2) then (bif decide ((0 : Int) ≤ z3) && decide (z3 < ((z1.length : Nat) : Int)) then (withCons ((z1.getD ((z3).toNat) .undef).cells) fun h48 r49 =>
  withInt .i64 h48 fun x50 =>
  withCons r49 fun h51 r52 =>
  withStr h51 fun s53 =>
  withCons r52 fun h54 r55 =>
  withInt .i64 h54 fun x56 =>
  withCons r55 fun h57 r58 =>
  withStr h57 fun s59 =>
  (Q13.F n x50 s53 x56 s59 z13).bind fun p60 =>
  bif p60 != 0 then (some ((⟨#[]⟩ : ByteArray), [], z3, p60)) else (c (.z23 z1 z2 (IntKind.i64.wrap (z3 + 1)) z4 z5 z6 z7 z8 z9 z10 z11 z12 z13 z14 z15))) else none) else (c (.z30 z11 ((z11.length : Nat) : Int) 0 z12 z14 z15))
def Q11.r30 (n : Nat) (c : Q11.Z → Option (ByteArray × List AV × Int × Int)) (z1 : List AV) (z2 z3 : Int) (z4 z5 : ByteArray) (z6 : List AV) : Option (ByteArray × List AV × Int × Int) :=
  bif decide (z3 < z2) then (bif decide ((0 : Int) ≤ z3) && decide (z3 < ((z1.length : Nat) : Int)) then (withCons ((z1.getD ((z3).toNat) .undef).cells) fun h61 r62 =>
  withBool h61 fun b63 =>
  withCons r62 fun h64 r65 =>
  withSl ⟨true, 104⟩ 4 h64 fun xs66 =>
  c (.z33 z3 z1 z2 z3 xs66 ((xs66.length : Nat) : Int) 0 z4 z5 z6)) else none) else ((Q17.F n z6).bind fun p67 =>
  (Q0f.F n (decide (p67 > 200)) 18).bind fun p68 =>
  some (z5, z6, 0, p68))
def Q11.r33 (n : Nat) (c : Q11.Z → Option (ByteArray × List AV × Int × Int)) (z1 : Int) (z2 : List AV) (z3 z4 : Int) (z5 : List AV) (z6 z7 : Int) (z8 z9 : ByteArray) (z10 : List AV) : Option (ByteArray × List AV × Int × Int) :=
  bif decide (z7 < z6) then (bif decide ((0 : Int) ≤ z7) && decide (z7 < ((z5.length : Nat) : Int)) then (withCons ((z5.getD ((z7).toNat) .undef).cells) fun h69 r70 =>
  withStr h69 fun s71 =>
  withCons r70 fun h72 r73 =>
  withInt .i64 h72 fun x74 =>
  withCons r73 fun h75 r76 =>
  withInt .i64 h75 fun x77 =>
  withCons r76 fun h78 r79 =>
  withStr h78 fun s80 =>
  (Q1g.F n (⟨#[]⟩ : ByteArray) z9 z10 [] false s71).bind fun p81 =>
  (Q1k.F n x77 s80 p81.1 p81.2.1 p81.2.2.1).bind fun p82 =>
  bif p82 != 0 then (some ((⟨#[]⟩ : ByteArray), [], z1, p82)) else (c (.z33 z1 z2 z3 z4 z5 z6 (IntKind.i64.wrap (z7 + 1)) z8 z9 z10))) else none) else (c (.z30 z2 z3 (IntKind.i64.wrap (z4 + 1)) z8 z9 z10))
def Q11.r (n : Nat) (c : Q11.Z → Option (ByteArray × List AV × Int × Int)) : Q11.Z → Option (ByteArray × List AV × Int × Int)
  | .z6 z1 z2 z3 z4 z5 z6 z7 z8 z9 z10 z11 z12 z13 z14 => Q11.r6 n c z1 z2 z3 z4 z5 z6 z7 z8 z9 z10 z11 z12 z13 z14
  | .z15 z1 z2 z3 z4 z5 z6 z7 z8 z9 z10 z11 z12 z13 z14 z15 => Q11.r15 n c z1 z2 z3 z4 z5 z6 z7 z8 z9 z10 z11 z12 z13 z14 z15
  | .z23 z1 z2 z3 z4 z5 z6 z7 z8 z9 z10 z11 z12 z13 z14 z15 => Q11.r23 n c z1 z2 z3 z4 z5 z6 z7 z8 z9 z10 z11 z12 z13 z14 z15
  | .z30 z1 z2 z3 z4 z5 z6 => Q11.r30 n c z1 z2 z3 z4 z5 z6
  | .z33 z1 z2 z3 z4 z5 z6 z7 z8 z9 z10 => Q11.r33 n c z1 z2 z3 z4 z5 z6 z7 z8 z9 z10
def Q11.e (n : Nat) (c : Q11.Z → Option (ByteArray × List AV × Int × Int)) (a0 a1 : ByteArray) (a2 a3 a4 a5 : List AV) (a6 : Bool) (a7 a8 : List AV) : Option (ByteArray × List AV × Int × Int) :=
  (Q0k.F n a8).bind fun p1 =>
  bif p1 != 0 then (some ((⟨#[]⟩ : ByteArray), [], 0, p1)) else (c (.z6 a8 a2 ((a2.length : Nat) : Int) 0 a0 a1 a2 a3 a4 a5 a6 a7 (⟨#[]⟩ : ByteArray) []))
def Q11.E (n : Nat) (c : Q11.Z → Option (ByteArray × List AV × Int × Int)) : Q11.A → Option Q11.T := fun (a0, a1, a2, a3, a4, a5, a6, a7, a8) => Q11.e n c a0 a1 a2 a3 a4 a5 a6 a7 a8
def Q11.l (n : Nat) : Nat → Q11.Z → Option (ByteArray × List AV × Int × Int) := loopL (Q11.r n)
def Q11.F (n : Nat) (a0 a1 : ByteArray) (a2 a3 a4 a5 : List AV) (a6 : Bool) (a7 a8 : List AV) : Option (ByteArray × List AV × Int × Int) := Q11.e n (Q11.l n n) a0 a1 a2 a3 a4 a5 a6 a7 a8
def Q11.FA (n : Nat) : Q11.A → Option Q11.T := Q11.E n (Q11.l n n)
theorem Q11.hands (n : Nat) : ∀ a p, Q11.FA n a = some p → HandsIn Tryz.prog 89 (Q11.i a) (Q11.p p) :=
  pf_hands (C := Q11.C n) (cut := Q11.cut) (t := Q11.t) (s := Q11.s) (e := Q11.E n) (r := Q11.r n) (n := n) cfg mixed globs rfl Q11.qi (Q11.tells n) Tryz.func89 (by kernel_rfl) (by kernel_rfl) (fun rec a => by kernel_rfl) (fun rec z => by cases z <;> kernel_rfl)
def Q11.via {R : Type} (n : Nat) : List AV → (AV → Option R) → Option R := viaK (Q11.FA n) Q11.o Q11.p
theorem Q11.tells1 {R : Type} (n : Nat) (xs : List AV) : Tells1 (R := R) Tryz.prog 89 xs (Q11.via n xs) := tells_via Q11.oi (fun a => by kernel_rfl) (Q11.hands n) xs
end Go.Proofs.YtmpglmcjoelciaaGreatDoor.Ev
namespace Go.Proofs.YtmpglmcjoelciaaGreatDoor.Ev
open Go Go.Proofs Go.Proofs.Ev
set_option linter.unusedVariables false
set_option maxRecDepth 100000
abbrev Q08.A := ByteArray × ByteArray × List AV × List AV × List AV × List AV × Bool × List AV × List AV
abbrev Q08.T := ByteArray × List AV × Int
def Q08.i : Q08.A → List AV := fun (a0, a1, a2, a3, a4, a5, a6, a7, a8) => [AV.agg [vs a0, vs a1, .sl ⟨true, 9⟩ 1 a2, .sl ⟨true, 95⟩ 3 a3, .sl ⟨true, 97⟩ 4 a4, .sl ⟨true, 111⟩ 2 a5, vb a6, .sl ⟨false, 100⟩ 2 a7], .sl ⟨false, 48⟩ 5 a8]
def Q08.o (xs : List AV) : Option Q08.A := match xs with | [.agg [.v (.string a0), .v (.string a1), .sl ⟨true, 9⟩ 1 a2, .sl ⟨true, 95⟩ 3 a3, .sl ⟨true, 97⟩ 4 a4, .sl ⟨true, 111⟩ 2 a5, .v (.bool a6), .sl ⟨false, 100⟩ 2 a7], .sl ⟨false, 48⟩ 5 a8] => some (a0, a1, a2, a3, a4, a5, a6, a7, a8) | _ => none
theorem Q08.oi : ∀ xs a, Q08.o xs = some a → xs = Q08.i a := by
  intro xs a h
  unfold Q08.o at h
  split at h
  · cases h; rfl
  · cases h
def Q08.p (p : Q08.T) : AV := .tup [AV.agg [vs p.1, .fr ⟨true, 125⟩ 4 p.2.1], vi p.2.2]
def Q08.q (x : AV) : Option Q08.T := match x with | .tup [.agg [.v (.string p0), .fr ⟨true, 125⟩ 4 p1], .v (.int .i64 p2)] => some (p0, p1, p2) | _ => none
theorem Q08.qi : ∀ x p, Q08.q x = some p → x = Q08.p p := by
  intro x p h
  unfold Q08.q at h
  split at h
  · cases h; rfl
  · cases h
def Q08.C {R : Type} (n : Nat) (f : FuncId) (xs : List AV) : (AV → Option R) → Option R :=
  bif Nat.beq f 17 then Q04.via n xs else bif Nat.beq f 89 then Q11.via n xs else fun _ => none
theorem Q08.tells {R : Type} (n : Nat) : Tells (R := R) Tryz.prog (Q08.C n) := fun _ xs => tells_at (Q04.tells1 n xs) (tells_at (Q11.tells1 n xs) (Tells1.none))
def Q08.cut (r : Nat) : Option Keep := match r with  | _ => none
def Q08.e (n : Nat) (a0 a1 : ByteArray) (a2 a3 a4 a5 : List AV) (a6 : Bool) (a7 a8 : List AV) : Option (ByteArray × List AV × Int) :=
  (Q04.F n a0 a1 a2 a3 a4 a5 a6 a7).bind fun p1 =>
  bif p1.2 != 0 then (some ((⟨#[]⟩ : ByteArray), [], p1.2)) else ((Q11.F n a0 a1 a2 a3 a4 a5 a6 a7 a8).bind fun p2 =>
  bif p2.2.2.2 != 0 then (some ((⟨#[]⟩ : ByteArray), [], p2.2.2.2)) else (some (p2.1, p2.2.1, 0)))
def Q08.E (n : Nat) : Q08.A → Option Q08.T := fun (a0, a1, a2, a3, a4, a5, a6, a7, a8) => Q08.e n a0 a1 a2 a3 a4 a5 a6 a7 a8
def Q08.F (n : Nat) (a0 a1 : ByteArray) (a2 a3 a4 a5 : List AV) (a6 : Bool) (a7 a8 : List AV) : Option (ByteArray × List AV × Int) := Q08.e n a0 a1 a2 a3 a4 a5 a6 a7 a8
def Q08.FA (n : Nat) : Q08.A → Option Q08.T := Q08.E n
theorem Q08.hands (n : Nat) : ∀ a p, Q08.FA n a = some p → HandsIn Tryz.prog 36 (Q08.i a) (Q08.p p) :=
  pf_hands (C := Q08.C n) (cut := Q08.cut) (Z := Empty) (t := nofun) (s := nofun) (e := fun _ => Q08.E n) (r := fun _ z => nomatch z) (n := n) cfg mixed globs rfl Q08.qi (Q08.tells n) Tryz.func36 (by kernel_rfl) (by kernel_rfl) (fun rec a => by kernel_rfl) (fun rec z => nomatch z)
def Q08.via {R : Type} (n : Nat) : List AV → (AV → Option R) → Option R := viaK (Q08.FA n) Q08.o Q08.p
theorem Q08.tells1 {R : Type} (n : Nat) (xs : List AV) : Tells1 (R := R) Tryz.prog 36 xs (Q08.via n xs) := tells_via Q08.oi (fun a => by kernel_rfl) (Q08.hands n) xs
end Go.Proofs.YtmpglmcjoelciaaGreatDoor.Ev
namespace Go.Proofs.YtmpglmcjoelciaaGreatDoor.Ev
open Go Go.Proofs Go.Proofs.Ev
set_option linter.unusedVariables false
set_option maxRecDepth 100000
abbrev Q2z.A := List AV
abbrev Q2z.T := List AV
def Q2z.i : Q2z.A → List AV := fun a0 => [.sl ⟨false, 48⟩ 5 a0]
def Q2z.o (xs : List AV) : Option Q2z.A := match xs with | [.sl ⟨false, 48⟩ 5 a0] => some a0 | _ => none
theorem Q2z.oi : ∀ xs a, Q2z.o xs = some a → xs = Q2z.i a := by
  intro xs a h
  unfold Q2z.o at h
  split at h
  · cases h; rfl
  · cases h
def Q2z.p (p : Q2z.T) : AV := .fr ⟨false, 48⟩ 5 p
def Q2z.q (x : AV) : Option Q2z.T := match x with | .fr ⟨false, 48⟩ 5 p0 => some p0 | _ => none
theorem Q2z.qi : ∀ x p, Q2z.q x = some p → x = Q2z.p p := by
  intro x p h
  unfold Q2z.q at h
  split at h
  · cases h; rfl
  · cases h
inductive Q2z.Z where
  | z3 (z1 : List AV) (z2 : Int) (z3 : List AV)
def Q2z.C {R : Type} (n : Nat) (f : FuncId) (xs : List AV) : (AV → Option R) → Option R :=
  bif Nat.beq f 80 then Q2y.via n xs else fun _ => none
theorem Q2z.tells {R : Type} (n : Nat) : Tells (R := R) Tryz.prog (Q2z.C n) := fun _ xs => tells_at (Q2y.tells1 n xs) (Tells1.none)
def Q2z.cut (r : Nat) : Option Keep := match r with | 3 => some ⟨[0, 3, 4], [(3, none, ⟨false, 48⟩, 5)]⟩ | _ => none
def Q2z.t (z : Q2z.Z) : List Item := (todoOf (match z with | .z3 _ _ _ => 3) 1000 [.code (Tryz.f37.body.getD .skip)]).getD []
def Q2z.s : Q2z.Z → St
  | .z3 z1 z2 z3 => ⟨spr 20 0 [(0, .sl ⟨false, 48⟩ 5 z1), (3, .own 0 0 none), (4, vi z2)], Mem.ofList [.row ⟨false, 48⟩ 5 z3], 1⟩
def Q2z.r3 (n : Nat) (c : Q2z.Z → Option (List AV)) (z1 : List AV) (z2 : Int) (z3 : List AV) : Option (List AV) :=
  let y1 : Bool := decide (z2 < ((z1.length : Nat) : Int))
  bif y1 then (bif decide ((0 : Int) ≤ z2) && decide (z2 < ((z1.length : Nat) : Int)) then (withCons ((z1.getD ((z2).toNat) .undef).cells) fun h2 r3 =>
  withStr h2 fun s4 =>
  withCons r3 fun h5 r6 =>
  withStr h5 fun s7 =>
  withCons r6 fun h8 r9 =>
  withSl ⟨true, 125⟩ 4 h8 fun xs10 =>
  withCons r9 fun h11 r12 =>
  withSl ⟨true, 111⟩ 2 h11 fun xs13 =>
  withCons r12 fun h14 r15 =>
  withBool h14 fun b16 =>
  (Q2y.F n s4 s7 xs10 xs13 b16).bind fun p17 =>
  let y18 : List AV := [AV.agg [vs p17.1, vs p17.2.1, .sl ⟨true, 125⟩ 4 p17.2.2.1, .sl ⟨true, 111⟩ 2 p17.2.2.2.1, vb p17.2.2.2.2]]
  bif decide (z3.length + y18.length ≤ most) then (c (.z3 z1 (IntKind.i64.wrap (z2 + 1)) (z3 ++ y18))) else none) else none) else (some z3)
def Q2z.r (n : Nat) (c : Q2z.Z → Option (List AV)) : Q2z.Z → Option (List AV)
  | .z3 z1 z2 z3 => Q2z.r3 n c z1 z2 z3
def Q2z.e (n : Nat) (c : Q2z.Z → Option (List AV)) (a0 : List AV) : Option (List AV) :=
  c (.z3 a0 0 [])
def Q2z.E (n : Nat) (c : Q2z.Z → Option (List AV)) : Q2z.A → Option Q2z.T := fun a0 => Q2z.e n c a0
def Q2z.l (n : Nat) : Nat → Q2z.Z → Option (List AV) := loopL (Q2z.r n)
def Q2z.F (n : Nat) (a0 : List AV) : Option (List AV) := Q2z.e n (Q2z.l n n) a0
def Q2z.FA (n : Nat) : Q2z.A → Option Q2z.T := Q2z.E n (Q2z.l n n)
theorem Q2z.hands (n : Nat) : ∀ a p, Q2z.FA n a = some p → HandsIn Tryz.prog 37 (Q2z.i a) (Q2z.p p) :=
  pf_hands (C := Q2z.C n) (cut := Q2z.cut) (t := Q2z.t) (s := Q2z.s) (e := Q2z.E n) (r := Q2z.r n) (n := n) cfg mixed globs rfl Q2z.qi (Q2z.tells n) Tryz.func37 (by kernel_rfl) (by kernel_rfl) (fun rec a => by kernel_rfl) (fun rec z => by cases z <;> kernel_rfl)
def Q2z.via {R : Type} (n : Nat) : List AV → (AV → Option R) → Option R := viaK (Q2z.FA n) Q2z.o Q2z.p
theorem Q2z.tells1 {R : Type} (n : Nat) (xs : List AV) : Tells1 (R := R) Tryz.prog 37 xs (Q2z.via n xs) := tells_via Q2z.oi (fun a => by kernel_rfl) (Q2z.hands n) xs
end Go.Proofs.YtmpglmcjoelciaaGreatDoor.Ev
namespace Go.Proofs.YtmpglmcjoelciaaGreatDoor.Ev
open Go Go.Proofs Go.Proofs.Ev
set_option linter.unusedVariables false
set_option maxRecDepth 100000
abbrev Q06.A := ByteArray × ByteArray × List AV × List AV × List AV × List AV × Bool × List AV × List AV
abbrev Q06.T := Int × Int
def Q06.i : Q06.A → List AV := fun (a0, a1, a2, a3, a4, a5, a6, a7, a8) => [AV.agg [vs a0, vs a1, .sl ⟨true, 9⟩ 1 a2, .sl ⟨true, 95⟩ 3 a3, .sl ⟨true, 97⟩ 4 a4, .sl ⟨true, 111⟩ 2 a5, vb a6, .sl ⟨false, 100⟩ 2 a7], .sl ⟨false, 48⟩ 5 a8]
def Q06.o (xs : List AV) : Option Q06.A := match xs with | [.agg [.v (.string a0), .v (.string a1), .sl ⟨true, 9⟩ 1 a2, .sl ⟨true, 95⟩ 3 a3, .sl ⟨true, 97⟩ 4 a4, .sl ⟨true, 111⟩ 2 a5, .v (.bool a6), .sl ⟨false, 100⟩ 2 a7], .sl ⟨false, 48⟩ 5 a8] => some (a0, a1, a2, a3, a4, a5, a6, a7, a8) | _ => none
theorem Q06.oi : ∀ xs a, Q06.o xs = some a → xs = Q06.i a := by
  intro xs a h
  unfold Q06.o at h
  split at h
  · cases h; rfl
  · cases h
def Q06.p (p : Q06.T) : AV := .tup [vi p.1, vi p.2]
def Q06.q (x : AV) : Option Q06.T := match x with | .tup [.v (.int .i64 p0), .v (.int .i64 p1)] => some (p0, p1) | _ => none
theorem Q06.qi : ∀ x p, Q06.q x = some p → x = Q06.p p := by
  intro x p h
  unfold Q06.q at h
  split at h
  · cases h; rfl
  · cases h
def Q06.C {R : Type} (n : Nat) (f : FuncId) (xs : List AV) : (AV → Option R) → Option R :=
  bif Nat.beq f 17 then Q04.via n xs else bif Nat.beq f 89 then Q11.via n xs else fun _ => none
theorem Q06.tells {R : Type} (n : Nat) : Tells (R := R) Tryz.prog (Q06.C n) := fun _ xs => tells_at (Q04.tells1 n xs) (tells_at (Q11.tells1 n xs) (Tells1.none))
def Q06.cut (r : Nat) : Option Keep := match r with  | _ => none
def Q06.e (n : Nat) (a0 a1 : ByteArray) (a2 a3 a4 a5 : List AV) (a6 : Bool) (a7 a8 : List AV) : Option (Int × Int) :=
  (Q04.F n a0 a1 a2 a3 a4 a5 a6 a7).bind fun p1 =>
  bif p1.2 != 0 then (some (p1.1, p1.2)) else ((Q11.F n a0 a1 a2 a3 a4 a5 a6 a7 a8).bind fun p2 =>
  some (p2.2.2.1, p2.2.2.2))
def Q06.E (n : Nat) : Q06.A → Option Q06.T := fun (a0, a1, a2, a3, a4, a5, a6, a7, a8) => Q06.e n a0 a1 a2 a3 a4 a5 a6 a7 a8
def Q06.F (n : Nat) (a0 a1 : ByteArray) (a2 a3 a4 a5 : List AV) (a6 : Bool) (a7 a8 : List AV) : Option (Int × Int) := Q06.e n a0 a1 a2 a3 a4 a5 a6 a7 a8
def Q06.FA (n : Nat) : Q06.A → Option Q06.T := Q06.E n
theorem Q06.hands (n : Nat) : ∀ a p, Q06.FA n a = some p → HandsIn Tryz.prog 39 (Q06.i a) (Q06.p p) :=
  pf_hands (C := Q06.C n) (cut := Q06.cut) (Z := Empty) (t := nofun) (s := nofun) (e := fun _ => Q06.E n) (r := fun _ z => nomatch z) (n := n) cfg mixed globs rfl Q06.qi (Q06.tells n) Tryz.func39 (by kernel_rfl) (by kernel_rfl) (fun rec a => by kernel_rfl) (fun rec z => nomatch z)
def Q06.via {R : Type} (n : Nat) : List AV → (AV → Option R) → Option R := viaK (Q06.FA n) Q06.o Q06.p
theorem Q06.tells1 {R : Type} (n : Nat) (xs : List AV) : Tells1 (R := R) Tryz.prog 39 xs (Q06.via n xs) := tells_via Q06.oi (fun a => by kernel_rfl) (Q06.hands n) xs
end Go.Proofs.YtmpglmcjoelciaaGreatDoor.Ev
namespace Go.Proofs.YtmpglmcjoelciaaGreatDoor.Ev
open Go Go.Proofs Go.Proofs.Ev
set_option linter.unusedVariables false
set_option maxRecDepth 100000
abbrev Q2v.A := List AV × ByteArray
abbrev Q2v.T := Int
def Q2v.i : Q2v.A → List AV := fun (a0, a1) => [.sl ⟨false, 48⟩ 5 a0, vs a1]
def Q2v.o (xs : List AV) : Option Q2v.A := match xs with | [.sl ⟨false, 48⟩ 5 a0, .v (.string a1)] => some (a0, a1) | _ => none
theorem Q2v.oi : ∀ xs a, Q2v.o xs = some a → xs = Q2v.i a := by
  intro xs a h
  unfold Q2v.o at h
  split at h
  · cases h; rfl
  · cases h
def Q2v.p (p : Q2v.T) : AV := vi p
def Q2v.q (x : AV) : Option Q2v.T := match x with | .v (.int .i64 p0) => some p0 | _ => none
theorem Q2v.qi : ∀ x p, Q2v.q x = some p → x = Q2v.p p := by
  intro x p h
  unfold Q2v.q at h
  split at h
  · cases h; rfl
  · cases h
inductive Q2v.Z where
  | z2 (z1 : List AV) (z2 : ByteArray) (z3 : Int)
def Q2v.C {R : Type} (n : Nat) (f : FuncId) (xs : List AV) : (AV → Option R) → Option R :=
  fun _ => none
theorem Q2v.tells {R : Type} (n : Nat) : Tells (R := R) Tryz.prog (Q2v.C n) := fun _ xs => Tells1.none
def Q2v.cut (r : Nat) : Option Keep := match r with | 2 => some ⟨[0, 1, 5], []⟩ | _ => none
def Q2v.t (z : Q2v.Z) : List Item := (todoOf (match z with | .z2 _ _ _ => 2) 1000 [.code (Tryz.f92.body.getD .skip)]).getD []
def Q2v.s : Q2v.Z → St
  | .z2 z1 z2 z3 => ⟨spr 20 0 [(0, .sl ⟨false, 48⟩ 5 z1), (1, vs z2), (5, vi z3)], Mem.ofList [], 0⟩
def Q2v.r2 (n : Nat) (c : Q2v.Z → Option Int) (z1 : List AV) (z2 : ByteArray) (z3 : Int) : Option Int :=
  let y1 : Bool := decide (z3 < ((z1.length : Nat) : Int))
  bif y1 then (bif decide ((0 : Int) ≤ z3) && decide (z3 < ((z1.length : Nat) : Int)) then (withCons ((z1.getD ((z3).toNat) .undef).cells) fun h2 r3 =>
  withStr h2 fun s4 =>
  bif s4.toList == z2.toList then (some z3) else (c (.z2 z1 z2 (IntKind.i64.wrap (z3 + 1))))) else none) else (some (-1))
def Q2v.r (n : Nat) (c : Q2v.Z → Option Int) : Q2v.Z → Option Int
  | .z2 z1 z2 z3 => Q2v.r2 n c z1 z2 z3
def Q2v.e (n : Nat) (c : Q2v.Z → Option Int) (a0 : List AV) (a1 : ByteArray) : Option Int :=
  c (.z2 a0 a1 0)
def Q2v.E (n : Nat) (c : Q2v.Z → Option Int) : Q2v.A → Option Q2v.T := fun (a0, a1) => Q2v.e n c a0 a1
def Q2v.l (n : Nat) : Nat → Q2v.Z → Option Int := loopL (Q2v.r n)
def Q2v.F (n : Nat) (a0 : List AV) (a1 : ByteArray) : Option Int := Q2v.e n (Q2v.l n n) a0 a1
def Q2v.FA (n : Nat) : Q2v.A → Option Q2v.T := Q2v.E n (Q2v.l n n)
theorem Q2v.hands (n : Nat) : ∀ a p, Q2v.FA n a = some p → HandsIn Tryz.prog 92 (Q2v.i a) (Q2v.p p) :=
  pf_hands (C := Q2v.C n) (cut := Q2v.cut) (t := Q2v.t) (s := Q2v.s) (e := Q2v.E n) (r := Q2v.r n) (n := n) cfg mixed globs rfl Q2v.qi (Q2v.tells n) Tryz.func92 (by kernel_rfl) (by kernel_rfl) (fun rec a => by kernel_rfl) (fun rec z => by cases z <;> kernel_rfl)
def Q2v.via {R : Type} (n : Nat) : List AV → (AV → Option R) → Option R := viaK (Q2v.FA n) Q2v.o Q2v.p
theorem Q2v.tells1 {R : Type} (n : Nat) (xs : List AV) : Tells1 (R := R) Tryz.prog 92 xs (Q2v.via n xs) := tells_via Q2v.oi (fun a => by kernel_rfl) (Q2v.hands n) xs
end Go.Proofs.YtmpglmcjoelciaaGreatDoor.Ev
namespace Go.Proofs.YtmpglmcjoelciaaGreatDoor.Ev
open Go Go.Proofs Go.Proofs.Ev
set_option linter.unusedVariables false
set_option maxRecDepth 100000
abbrev Q3p.A := ByteArray × ByteArray × List AV × List AV × List AV × List AV × Bool × List AV × List AV × Int × ByteArray
abbrev Q3p.T := Int × Int × Int × Bool
def Q3p.i : Q3p.A → List AV := fun (a0, a1, a2, a3, a4, a5, a6, a7, a8, a9, a10) => [AV.agg [vs a0, vs a1, .sl ⟨true, 9⟩ 1 a2, .sl ⟨true, 95⟩ 3 a3, .sl ⟨true, 97⟩ 4 a4, .sl ⟨true, 111⟩ 2 a5, vb a6, .sl ⟨false, 100⟩ 2 a7], .sl ⟨false, 48⟩ 5 a8, vi a9, vs a10]
def Q3p.o (xs : List AV) : Option Q3p.A := match xs with | [.agg [.v (.string a0), .v (.string a1), .sl ⟨true, 9⟩ 1 a2, .sl ⟨true, 95⟩ 3 a3, .sl ⟨true, 97⟩ 4 a4, .sl ⟨true, 111⟩ 2 a5, .v (.bool a6), .sl ⟨false, 100⟩ 2 a7], .sl ⟨false, 48⟩ 5 a8, .v (.int .i64 a9), .v (.string a10)] => some (a0, a1, a2, a3, a4, a5, a6, a7, a8, a9, a10) | _ => none
theorem Q3p.oi : ∀ xs a, Q3p.o xs = some a → xs = Q3p.i a := by
  intro xs a h
  unfold Q3p.o at h
  split at h
  · cases h; rfl
  · cases h
def Q3p.p (p : Q3p.T) : AV := .tup [AV.agg [vi p.1, vi p.2.1, vi p.2.2.1], vb p.2.2.2]
def Q3p.q (x : AV) : Option Q3p.T := match x with | .tup [.agg [.v (.int .i64 p0), .v (.int .i64 p1), .v (.int .i64 p2)], .v (.bool p3)] => some (p0, p1, p2, p3) | _ => none
theorem Q3p.qi : ∀ x p, Q3p.q x = some p → x = Q3p.p p := by
  intro x p h
  unfold Q3p.q at h
  split at h
  · cases h; rfl
  · cases h
def Q3p.C {R : Type} (n : Nat) (f : FuncId) (xs : List AV) : (AV → Option R) → Option R :=
  bif Nat.beq f 92 then Q2v.via n xs else bif Nat.beq f 140 then Q21.via n xs else fun _ => none
theorem Q3p.tells {R : Type} (n : Nat) : Tells (R := R) Tryz.prog (Q3p.C n) := fun _ xs => tells_at (Q2v.tells1 n xs) (tells_at (Q21.tells1 n xs) (Tells1.none))
def Q3p.cut (r : Nat) : Option Keep := match r with  | _ => none
def Q3p.e (n : Nat) (a0 a1 : ByteArray) (a2 a3 a4 a5 : List AV) (a6 : Bool) (a7 a8 : List AV) (a9 : Int) (a10 : ByteArray) : Option (Int × Int × Int × Bool) :=
  bif decide ((0 : Int) ≤ a9) && decide (a9 < ((a2.length : Nat) : Int)) then (withCons ((a2.getD ((a9).toNat) .undef).cells) fun h1 r2 =>
  withStr h1 fun s3 =>
  (Q2v.F n a8 s3).bind fun p4 =>
  bif decide ((0 : Int) ≤ p4) && decide (p4 < ((a8.length : Nat) : Int)) then (withCons (((a8.getD ((p4).toNat) .undef).cells).drop 1) fun h5 r6 =>
  withStr h5 fun s7 =>
  withCons r6 fun h8 r9 =>
  withSl ⟨true, 125⟩ 4 h8 fun xs10 =>
  (Q21.F n s7 xs10 a10).bind fun p11 =>
  bif p11 == (-1) then (some (0, 0, 0, false)) else (bif decide ((0 : Int) ≤ p11) && decide (p11 < ((xs10.length : Nat) : Int)) then (withCons (((xs10.getD ((p11).toNat) .undef).cells).drop 1) fun h12 r13 =>
  withInt .i64 h12 fun x14 =>
  withCons r13 fun h15 r16 =>
  withInt .i64 h15 fun x17 =>
  withCons r16 fun h18 r19 =>
  withInt .i64 h18 fun x20 =>
  some (x14, x17, x20, true)) else none)) else none) else none
def Q3p.E (n : Nat) : Q3p.A → Option Q3p.T := fun (a0, a1, a2, a3, a4, a5, a6, a7, a8, a9, a10) => Q3p.e n a0 a1 a2 a3 a4 a5 a6 a7 a8 a9 a10
def Q3p.F (n : Nat) (a0 a1 : ByteArray) (a2 a3 a4 a5 : List AV) (a6 : Bool) (a7 a8 : List AV) (a9 : Int) (a10 : ByteArray) : Option (Int × Int × Int × Bool) := Q3p.e n a0 a1 a2 a3 a4 a5 a6 a7 a8 a9 a10
def Q3p.FA (n : Nat) : Q3p.A → Option Q3p.T := Q3p.E n
theorem Q3p.hands (n : Nat) : ∀ a p, Q3p.FA n a = some p → HandsIn Tryz.prog 93 (Q3p.i a) (Q3p.p p) :=
  pf_hands (C := Q3p.C n) (cut := Q3p.cut) (Z := Empty) (t := nofun) (s := nofun) (e := fun _ => Q3p.E n) (r := fun _ z => nomatch z) (n := n) cfg mixed globs rfl Q3p.qi (Q3p.tells n) Tryz.func93 (by kernel_rfl) (by kernel_rfl) (fun rec a => by kernel_rfl) (fun rec z => nomatch z)
def Q3p.via {R : Type} (n : Nat) : List AV → (AV → Option R) → Option R := viaK (Q3p.FA n) Q3p.o Q3p.p
theorem Q3p.tells1 {R : Type} (n : Nat) (xs : List AV) : Tells1 (R := R) Tryz.prog 93 xs (Q3p.via n xs) := tells_via Q3p.oi (fun a => by kernel_rfl) (Q3p.hands n) xs
end Go.Proofs.YtmpglmcjoelciaaGreatDoor.Ev
namespace Go.Proofs.YtmpglmcjoelciaaGreatDoor.Ev
open Go Go.Proofs Go.Proofs.Ev
set_option linter.unusedVariables false
set_option maxRecDepth 100000
abbrev Q2w.A := ByteArray × ByteArray × List AV × List AV × List AV × List AV × Bool × List AV × List AV
abbrev Q2w.T := ByteArray × List AV
def Q2w.i : Q2w.A → List AV := fun (a0, a1, a2, a3, a4, a5, a6, a7, a8) => [AV.agg [vs a0, vs a1, .sl ⟨true, 9⟩ 1 a2, .sl ⟨true, 95⟩ 3 a3, .sl ⟨true, 97⟩ 4 a4, .sl ⟨true, 111⟩ 2 a5, vb a6, .sl ⟨false, 100⟩ 2 a7], .sl ⟨false, 48⟩ 5 a8]
def Q2w.o (xs : List AV) : Option Q2w.A := match xs with | [.agg [.v (.string a0), .v (.string a1), .sl ⟨true, 9⟩ 1 a2, .sl ⟨true, 95⟩ 3 a3, .sl ⟨true, 97⟩ 4 a4, .sl ⟨true, 111⟩ 2 a5, .v (.bool a6), .sl ⟨false, 100⟩ 2 a7], .sl ⟨false, 48⟩ 5 a8] => some (a0, a1, a2, a3, a4, a5, a6, a7, a8) | _ => none
theorem Q2w.oi : ∀ xs a, Q2w.o xs = some a → xs = Q2w.i a := by
  intro xs a h
  unfold Q2w.o at h
  split at h
  · cases h; rfl
  · cases h
def Q2w.p (p : Q2w.T) : AV := AV.agg [vs p.1, .fr ⟨true, 125⟩ 4 p.2]
def Q2w.q (x : AV) : Option Q2w.T := match x with | .agg [.v (.string p0), .fr ⟨true, 125⟩ 4 p1] => some (p0, p1) | _ => none
theorem Q2w.qi : ∀ x p, Q2w.q x = some p → x = Q2w.p p := by
  intro x p h
  unfold Q2w.q at h
  split at h
  · cases h; rfl
  · cases h
inductive Q2w.Z where
  | z3 (z1 : List AV) (z2 : Int) (z3 z4 : ByteArray) (z5 z6 z7 z8 : List AV) (z9 : Bool) (z10 : List AV) (z11 z12 : ByteArray) (z13 : List AV)
def Q2w.C {R : Type} (n : Nat) (f : FuncId) (xs : List AV) : (AV → Option R) → Option R :=
  bif Nat.beq f 93 then Q3p.via n xs else fun _ => none
theorem Q2w.tells {R : Type} (n : Nat) : Tells (R := R) Tryz.prog (Q2w.C n) := fun _ xs => tells_at (Q3p.tells1 n xs) (Tells1.none)
def Q2w.cut (r : Nat) : Option Keep := match r with | 3 => some ⟨[1, 2, 4, 5, 6], [(5, some 1, ⟨true, 125⟩, 4)]⟩ | _ => none
def Q2w.t (z : Q2w.Z) : List Item := (todoOf (match z with | .z3 _ _ _ _ _ _ _ _ _ _ _ _ _ => 3) 1000 [.code (Tryz.f42.body.getD .skip)]).getD []
def Q2w.s : Q2w.Z → St
  | .z3 z1 z2 z3 z4 z5 z6 z7 z8 z9 z10 z11 z12 z13 => ⟨spr 51 0 [(1, .sl ⟨false, 48⟩ 5 z1), (2, .ptr 0 0), (4, .ptr 1 0), (5, .ptr 2 0), (6, vi z2)], Mem.ofList [.box 36 [vs z3, vs z4, .sl ⟨true, 9⟩ 1 z5, .sl ⟨true, 95⟩ 3 z6, .sl ⟨true, 97⟩ 4 z7, .sl ⟨true, 111⟩ 2 z8, vb z9, .sl ⟨false, 100⟩ 2 z10], .box 46 [vs z11, .v (.slice none 0 0)], .box 46 [vs z12, .own 3 0 none], .row ⟨true, 125⟩ 4 z13], 4⟩
def Q2w.r3 (n : Nat) (c : Q2w.Z → Option (ByteArray × List AV)) (z1 : List AV) (z2 : Int) (z3 z4 : ByteArray) (z5 z6 z7 z8 : List AV) (z9 : Bool) (z10 : List AV) (z11 z12 : ByteArray) (z13 : List AV) : Option (ByteArray × List AV) :=
  let y1 : Bool := decide (z2 < ((z6.length : Nat) : Int))
  bif y1 then (bif decide ((0 : Int) ≤ z2) && decide (z2 < ((z6.length : Nat) : Int)) then (withCons (((z6.getD ((z2).toNat) .undef).cells).drop 1) fun h2 r3 =>
  withInt .i64 h2 fun x4 =>
  bif decide ((0 : Int) ≤ z2) && decide (z2 < ((z6.length : Nat) : Int)) then (withCons (((z6.getD ((z2).toNat) .undef).cells).drop 2) fun h5 r6 =>
  withStr h5 fun s7 =>
  (Q3p.F n z3 z4 z5 z6 z7 z8 z9 z10 z1 x4 s7).bind fun p8 =>
  bif decide ((0 : Int) ≤ z2) && decide (z2 < ((z6.length : Nat) : Int)) then (withCons ((z6.getD ((z2).toNat) .undef).cells) fun h9 r10 =>
  withStr h9 fun s11 =>
  let y12 : List AV := [AV.agg [vs s11, vi p8.1, vi p8.2.1, vi p8.2.2.1]]
  bif decide (z13.length + y12.length ≤ most) then (c (.z3 z1 (IntKind.i64.wrap (z2 + 1)) z3 z4 z5 z6 z7 z8 z9 z10 z11 z12 (z13 ++ y12))) else none) else none) else none) else none) else (some (z12, z13))
def Q2w.r (n : Nat) (c : Q2w.Z → Option (ByteArray × List AV)) : Q2w.Z → Option (ByteArray × List AV)
  | .z3 z1 z2 z3 z4 z5 z6 z7 z8 z9 z10 z11 z12 z13 => Q2w.r3 n c z1 z2 z3 z4 z5 z6 z7 z8 z9 z10 z11 z12 z13
def Q2w.e (n : Nat) (c : Q2w.Z → Option (ByteArray × List AV)) (a0 a1 : ByteArray) (a2 a3 a4 a5 : List AV) (a6 : Bool) (a7 a8 : List AV) : Option (ByteArray × List AV) :=
  c (.z3 a8 0 a0 a1 a2 a3 a4 a5 a6 a7 (⟨#[]⟩ : ByteArray) a1 [])
def Q2w.E (n : Nat) (c : Q2w.Z → Option (ByteArray × List AV)) : Q2w.A → Option Q2w.T := fun (a0, a1, a2, a3, a4, a5, a6, a7, a8) => Q2w.e n c a0 a1 a2 a3 a4 a5 a6 a7 a8
def Q2w.l (n : Nat) : Nat → Q2w.Z → Option (ByteArray × List AV) := loopL (Q2w.r n)
def Q2w.F (n : Nat) (a0 a1 : ByteArray) (a2 a3 a4 a5 : List AV) (a6 : Bool) (a7 a8 : List AV) : Option (ByteArray × List AV) := Q2w.e n (Q2w.l n n) a0 a1 a2 a3 a4 a5 a6 a7 a8
def Q2w.FA (n : Nat) : Q2w.A → Option Q2w.T := Q2w.E n (Q2w.l n n)
theorem Q2w.hands (n : Nat) : ∀ a p, Q2w.FA n a = some p → HandsIn Tryz.prog 42 (Q2w.i a) (Q2w.p p) :=
  pf_hands (C := Q2w.C n) (cut := Q2w.cut) (t := Q2w.t) (s := Q2w.s) (e := Q2w.E n) (r := Q2w.r n) (n := n) cfg mixed globs rfl Q2w.qi (Q2w.tells n) Tryz.func42 (by kernel_rfl) (by kernel_rfl) (fun rec a => by kernel_rfl) (fun rec z => by cases z <;> kernel_rfl)
def Q2w.via {R : Type} (n : Nat) : List AV → (AV → Option R) → Option R := viaK (Q2w.FA n) Q2w.o Q2w.p
theorem Q2w.tells1 {R : Type} (n : Nat) (xs : List AV) : Tells1 (R := R) Tryz.prog 42 xs (Q2w.via n xs) := tells_via Q2w.oi (fun a => by kernel_rfl) (Q2w.hands n) xs
end Go.Proofs.YtmpglmcjoelciaaGreatDoor.Ev
namespace Go.Proofs.YtmpglmcjoelciaaGreatDoor.Ev
open Go Go.Proofs Go.Proofs.Ev
set_option linter.unusedVariables false
set_option maxRecDepth 100000
abbrev Q1w.A := Int
abbrev Q1w.T := Int
def Q1w.i : Q1w.A → List AV := fun a0 => [vi a0]
def Q1w.o (xs : List AV) : Option Q1w.A := match xs with | [.v (.int .i64 a0)] => some a0 | _ => none
theorem Q1w.oi : ∀ xs a, Q1w.o xs = some a → xs = Q1w.i a := by
  intro xs a h
  unfold Q1w.o at h
  split at h
  · cases h; rfl
  · cases h
def Q1w.p (p : Q1w.T) : AV := vi p
def Q1w.q (x : AV) : Option Q1w.T := match x with | .v (.int .i64 p0) => some p0 | _ => none
theorem Q1w.qi : ∀ x p, Q1w.q x = some p → x = Q1w.p p := by
  intro x p h
  unfold Q1w.q at h
  split at h
  · cases h; rfl
  · cases h
inductive Q1w.Z where
  | z3 (z1 z2 z3 : Int)
def Q1w.C {R : Type} (n : Nat) (f : FuncId) (xs : List AV) : (AV → Option R) → Option R :=
  fun _ => none
theorem Q1w.tells {R : Type} (n : Nat) : Tells (R := R) Tryz.prog (Q1w.C n) := fun _ xs => Tells1.none
def Q1w.cut (r : Nat) : Option Keep := match r with | 3 => some ⟨[0, 3, 4], []⟩ | _ => none
def Q1w.t (z : Q1w.Z) : List Item := (todoOf (match z with | .z3 _ _ _ => 3) 1000 [.code (Tryz.f181.body.getD .skip)]).getD []
def Q1w.s : Q1w.Z → St
  | .z3 z1 z2 z3 => ⟨spr 13 0 [(0, vi z1), (3, vi z2), (4, vi z3)], Mem.ofList [], 0⟩
def Q1w.r3 (n : Nat) (c : Q1w.Z → Option Int) (z1 z2 z3 : Int) : Option Int :=
  bif decide (z3 < z1) then (c (.z3 z1 (IntKind.i64.wrap (z2 * 10)) (IntKind.i64.wrap (z3 + 1)))) else (some z2)
def Q1w.r (n : Nat) (c : Q1w.Z → Option Int) : Q1w.Z → Option Int
  | .z3 z1 z2 z3 => Q1w.r3 n c z1 z2 z3
def Q1w.e (n : Nat) (c : Q1w.Z → Option Int) (a0 : Int) : Option Int :=
  c (.z3 a0 1 0)
def Q1w.E (n : Nat) (c : Q1w.Z → Option Int) : Q1w.A → Option Q1w.T := fun a0 => Q1w.e n c a0
def Q1w.l (n : Nat) : Nat → Q1w.Z → Option Int := loopL (Q1w.r n)
def Q1w.F (n : Nat) (a0 : Int) : Option Int := Q1w.e n (Q1w.l n n) a0
def Q1w.FA (n : Nat) : Q1w.A → Option Q1w.T := Q1w.E n (Q1w.l n n)
theorem Q1w.hands (n : Nat) : ∀ a p, Q1w.FA n a = some p → HandsIn Tryz.prog 181 (Q1w.i a) (Q1w.p p) :=
  pf_hands (C := Q1w.C n) (cut := Q1w.cut) (t := Q1w.t) (s := Q1w.s) (e := Q1w.E n) (r := Q1w.r n) (n := n) cfg mixed globs rfl Q1w.qi (Q1w.tells n) Tryz.func181 (by kernel_rfl) (by kernel_rfl) (fun rec a => by kernel_rfl) (fun rec z => by cases z <;> kernel_rfl)
def Q1w.via {R : Type} (n : Nat) : List AV → (AV → Option R) → Option R := viaK (Q1w.FA n) Q1w.o Q1w.p
theorem Q1w.tells1 {R : Type} (n : Nat) (xs : List AV) : Tells1 (R := R) Tryz.prog 181 xs (Q1w.via n xs) := tells_via Q1w.oi (fun a => by kernel_rfl) (Q1w.hands n) xs
end Go.Proofs.YtmpglmcjoelciaaGreatDoor.Ev
namespace Go.Proofs.YtmpglmcjoelciaaGreatDoor.Ev
open Go Go.Proofs Go.Proofs.Ev
set_option linter.unusedVariables false
set_option maxRecDepth 100000
abbrev Q2p.A := Int × Int × Int
abbrev Q2p.T := Int
def Q2p.i : Q2p.A → List AV := fun (a0, a1, a2) => [AV.agg [vi a0, vi a1, vi a2]]
def Q2p.o (xs : List AV) : Option Q2p.A := match xs with | [.agg [.v (.int .i64 a0), .v (.int .i64 a1), .v (.int .i64 a2)]] => some (a0, a1, a2) | _ => none
theorem Q2p.oi : ∀ xs a, Q2p.o xs = some a → xs = Q2p.i a := by
  intro xs a h
  unfold Q2p.o at h
  split at h
  · cases h; rfl
  · cases h
def Q2p.p (p : Q2p.T) : AV := vi p
def Q2p.q (x : AV) : Option Q2p.T := match x with | .v (.int .i64 p0) => some p0 | _ => none
theorem Q2p.qi : ∀ x p, Q2p.q x = some p → x = Q2p.p p := by
  intro x p h
  unfold Q2p.q at h
  split at h
  · cases h; rfl
  · cases h
def Q2p.C {R : Type} (n : Nat) (f : FuncId) (xs : List AV) : (AV → Option R) → Option R :=
  bif Nat.beq f 181 then Q1w.via n xs else fun _ => none
theorem Q2p.tells {R : Type} (n : Nat) : Tells (R := R) Tryz.prog (Q2p.C n) := fun _ xs => tells_at (Q1w.tells1 n xs) (Tells1.none)
def Q2p.cut (r : Nat) : Option Keep := match r with  | _ => none
def Q2p.e (n : Nat) (a0 a1 a2 : Int) : Option Int :=
  (Q1w.F n a1).bind fun p1 =>
  some (IntKind.i64.wrap (p1 - 1))
def Q2p.E (n : Nat) : Q2p.A → Option Q2p.T := fun (a0, a1, a2) => Q2p.e n a0 a1 a2
def Q2p.F (n : Nat) (a0 a1 a2 : Int) : Option Int := Q2p.e n a0 a1 a2
def Q2p.FA (n : Nat) : Q2p.A → Option Q2p.T := Q2p.E n
theorem Q2p.hands (n : Nat) : ∀ a p, Q2p.FA n a = some p → HandsIn Tryz.prog 161 (Q2p.i a) (Q2p.p p) :=
  pf_hands (C := Q2p.C n) (cut := Q2p.cut) (Z := Empty) (t := nofun) (s := nofun) (e := fun _ => Q2p.E n) (r := fun _ z => nomatch z) (n := n) cfg mixed globs rfl Q2p.qi (Q2p.tells n) Tryz.func161 (by kernel_rfl) (by kernel_rfl) (fun rec a => by kernel_rfl) (fun rec z => nomatch z)
def Q2p.via {R : Type} (n : Nat) : List AV → (AV → Option R) → Option R := viaK (Q2p.FA n) Q2p.o Q2p.p
theorem Q2p.tells1 {R : Type} (n : Nat) (xs : List AV) : Tells1 (R := R) Tryz.prog 161 xs (Q2p.via n xs) := tells_via Q2p.oi (fun a => by kernel_rfl) (Q2p.hands n) xs
end Go.Proofs.YtmpglmcjoelciaaGreatDoor.Ev
namespace Go.Proofs.YtmpglmcjoelciaaGreatDoor.Ev
open Go Go.Proofs Go.Proofs.Ev
set_option linter.unusedVariables false
set_option maxRecDepth 100000
abbrev Q2r.A := Int × Int × Int × Int × ByteArray
abbrev Q2r.T := Int
def Q2r.i : Q2r.A → List AV := fun (a0, a1, a2, a3, a4) => [AV.agg [vi a0, vi a1, vi a2], AV.agg [vi a3, vs a4]]
def Q2r.o (xs : List AV) : Option Q2r.A := match xs with | [.agg [.v (.int .i64 a0), .v (.int .i64 a1), .v (.int .i64 a2)], .agg [.v (.int .i64 a3), .v (.string a4)]] => some (a0, a1, a2, a3, a4) | _ => none
theorem Q2r.oi : ∀ xs a, Q2r.o xs = some a → xs = Q2r.i a := by
  intro xs a h
  unfold Q2r.o at h
  split at h
  · cases h; rfl
  · cases h
def Q2r.p (p : Q2r.T) : AV := vi p
def Q2r.q (x : AV) : Option Q2r.T := match x with | .v (.int .i64 p0) => some p0 | _ => none
theorem Q2r.qi : ∀ x p, Q2r.q x = some p → x = Q2r.p p := by
  intro x p h
  unfold Q2r.q at h
  split at h
  · cases h; rfl
  · cases h
inductive Q2r.Z where
  | z7
  | z8 (z1 z2 z3 z4 : Int) (z5 : ByteArray)
def Q2r.C {R : Type} (n : Nat) (f : FuncId) (xs : List AV) : (AV → Option R) → Option R :=
  bif Nat.beq f 32 then Q2q.via n xs else bif Nat.beq f 48 then Q1z.via n xs else bif Nat.beq f 88 then Q1p.via n xs else bif Nat.beq f 161 then Q2p.via n xs else fun _ => none
theorem Q2r.tells {R : Type} (n : Nat) : Tells (R := R) Tryz.prog (Q2r.C n) := fun _ xs => tells_at (Q2q.tells1 n xs) (tells_at (Q1z.tells1 n xs) (tells_at (Q1p.tells1 n xs) (tells_at (Q2p.tells1 n xs) (Tells1.none))))
def Q2r.cut (r : Nat) : Option Keep := match r with | 7 => some ⟨[], []⟩ | 8 => some ⟨[2, 3], []⟩ | _ => none
def Q2r.t (z : Q2r.Z) : List Item := (todoOf (match z with | .z7 => 7 | .z8 _ _ _ _ _ => 8) 1000 [.code (Tryz.f141.body.getD .skip)]).getD []
def Q2r.s : Q2r.Z → St
  | .z7 => ⟨spr 54 0 [], Mem.ofList [], 0⟩
  | .z8 z1 z2 z3 z4 z5 => ⟨spr 54 0 [(2, .ptr 0 0), (3, .ptr 1 0)], Mem.ofList [.box 63 [vi z1, vi z2, vi z3], .box 102 [vi z4, vs z5]], 2⟩
def Q2r.r7 (n : Nat) (c : Q2r.Z → Option Int)  : Option Int :=
  some 5
def Q2r.r8 (n : Nat) (c : Q2r.Z → Option Int) (z1 z2 z3 z4 : Int) (z5 : ByteArray) : Option Int :=
  bif z1 == 0 then (let y4 : Bool := ((z5.size : Nat) : Int) != z2
  (Q1p.F n y4).bind fun p5 =>
  let y6 : Int := IntKind.i64.wrap ((18 : Int) * p5)
  some y6) else ((Q2p.F n z1 z2 z3).bind fun p7 =>
  (Q2p.F n z1 z2 z3).bind fun p8 =>
  (Q1z.F n z4 (IntKind.i64.wrap (0 - p7)) p8).bind fun p9 =>
  (Q1p.F n (!p9)).bind fun p10 =>
  let y11 : Int := IntKind.i64.wrap ((19 : Int) * p10)
  some y11)
def Q2r.r (n : Nat) (c : Q2r.Z → Option Int) : Q2r.Z → Option Int
  | .z7 => Q2r.r7 n c
  | .z8 z1 z2 z3 z4 z5 => Q2r.r8 n c z1 z2 z3 z4 z5
def Q2r.e (n : Nat) (c : Q2r.Z → Option Int) (a0 a1 a2 a3 : Int) (a4 : ByteArray) : Option Int :=
  (Q2q.F n a0 a1 a2).bind fun p1 =>
  bif p1 != 0 then (some p1) else (bif a0 == 4 then (some 17) else (bif a0 == 0 then (bif a3 != 0 then (c .z7) else (bif a0 != 0 then (let y2 : Bool := !(a4.toList == (⟨#[]⟩ : ByteArray).toList)
  bif y2 then (c .z7) else (c (.z8 a0 a1 a2 a3 a4))) else (c (.z8 a0 a1 a2 a3 a4)))) else (bif a0 != 0 then (let y3 : Bool := !(a4.toList == (⟨#[]⟩ : ByteArray).toList)
  bif y3 then (c .z7) else (c (.z8 a0 a1 a2 a3 a4))) else (c (.z8 a0 a1 a2 a3 a4)))))
def Q2r.E (n : Nat) (c : Q2r.Z → Option Int) : Q2r.A → Option Q2r.T := fun (a0, a1, a2, a3, a4) => Q2r.e n c a0 a1 a2 a3 a4
def Q2r.l (n : Nat) : Nat → Q2r.Z → Option Int := loopL (Q2r.r n)
def Q2r.F (n : Nat) (a0 a1 a2 a3 : Int) (a4 : ByteArray) : Option Int := Q2r.e n (Q2r.l n n) a0 a1 a2 a3 a4
def Q2r.FA (n : Nat) : Q2r.A → Option Q2r.T := Q2r.E n (Q2r.l n n)
theorem Q2r.hands (n : Nat) : ∀ a p, Q2r.FA n a = some p → HandsIn Tryz.prog 141 (Q2r.i a) (Q2r.p p) :=
  pf_hands (C := Q2r.C n) (cut := Q2r.cut) (t := Q2r.t) (s := Q2r.s) (e := Q2r.E n) (r := Q2r.r n) (n := n) cfg mixed globs rfl Q2r.qi (Q2r.tells n) Tryz.func141 (by kernel_rfl) (by kernel_rfl) (fun rec a => by kernel_rfl) (fun rec z => by cases z <;> kernel_rfl)
def Q2r.via {R : Type} (n : Nat) : List AV → (AV → Option R) → Option R := viaK (Q2r.FA n) Q2r.o Q2r.p
theorem Q2r.tells1 {R : Type} (n : Nat) (xs : List AV) : Tells1 (R := R) Tryz.prog 141 xs (Q2r.via n xs) := tells_via Q2r.oi (fun a => by kernel_rfl) (Q2r.hands n) xs
end Go.Proofs.YtmpglmcjoelciaaGreatDoor.Ev
namespace Go.Proofs.YtmpglmcjoelciaaGreatDoor.Ev
open Go Go.Proofs Go.Proofs.Ev
set_option linter.unusedVariables false
set_option maxRecDepth 100000
abbrev Q3s.A := Int × Int × Int × Int × ByteArray
abbrev Q3s.T := Int
def Q3s.i : Q3s.A → List AV := fun (a0, a1, a2, a3, a4) => [AV.agg [vi a0, vi a1, vi a2], AV.agg [vi a3, vs a4]]
def Q3s.o (xs : List AV) : Option Q3s.A := match xs with | [.agg [.v (.int .i64 a0), .v (.int .i64 a1), .v (.int .i64 a2)], .agg [.v (.int .i64 a3), .v (.string a4)]] => some (a0, a1, a2, a3, a4) | _ => none
theorem Q3s.oi : ∀ xs a, Q3s.o xs = some a → xs = Q3s.i a := by
  intro xs a h
  unfold Q3s.o at h
  split at h
  · cases h; rfl
  · cases h
def Q3s.p (p : Q3s.T) : AV := vi p
def Q3s.q (x : AV) : Option Q3s.T := match x with | .v (.int .i64 p0) => some p0 | _ => none
theorem Q3s.qi : ∀ x p, Q3s.q x = some p → x = Q3s.p p := by
  intro x p h
  unfold Q3s.q at h
  split at h
  · cases h; rfl
  · cases h
def Q3s.C {R : Type} (n : Nat) (f : FuncId) (xs : List AV) : (AV → Option R) → Option R :=
  bif Nat.beq f 88 then Q1p.via n xs else bif Nat.beq f 141 then Q2r.via n xs else fun _ => none
theorem Q3s.tells {R : Type} (n : Nat) : Tells (R := R) Tryz.prog (Q3s.C n) := fun _ xs => tells_at (Q1p.tells1 n xs) (tells_at (Q2r.tells1 n xs) (Tells1.none))
def Q3s.cut (r : Nat) : Option Keep := match r with  | _ => none
def Q3s.e (n : Nat) (a0 a1 a2 a3 : Int) (a4 : ByteArray) : Option Int :=
  bif a0 == 0 then (bif a3 != 0 then (some 17) else (let y1 : Bool := decide (((a4.size : Nat) : Int) > a1)
  (Q1p.F n y1).bind fun p2 =>
  let y3 : Int := IntKind.i64.wrap ((18 : Int) * p2)
  some y3)) else (let y4 : Bool := !(a4.toList == (⟨#[]⟩ : ByteArray).toList)
  bif y4 then (some 17) else ((Q2r.F n a0 a1 a2 a3 a4).bind fun p5 =>
  (Q1p.F n (p5 != 0)).bind fun p6 =>
  let y7 : Int := IntKind.i64.wrap ((19 : Int) * p6)
  some y7))
def Q3s.E (n : Nat) : Q3s.A → Option Q3s.T := fun (a0, a1, a2, a3, a4) => Q3s.e n a0 a1 a2 a3 a4
def Q3s.F (n : Nat) (a0 a1 a2 a3 : Int) (a4 : ByteArray) : Option Int := Q3s.e n a0 a1 a2 a3 a4
def Q3s.FA (n : Nat) : Q3s.A → Option Q3s.T := Q3s.E n
theorem Q3s.hands (n : Nat) : ∀ a p, Q3s.FA n a = some p → HandsIn Tryz.prog 94 (Q3s.i a) (Q3s.p p) :=
  pf_hands (C := Q3s.C n) (cut := Q3s.cut) (Z := Empty) (t := nofun) (s := nofun) (e := fun _ => Q3s.E n) (r := fun _ z => nomatch z) (n := n) cfg mixed globs rfl Q3s.qi (Q3s.tells n) Tryz.func94 (by kernel_rfl) (by kernel_rfl) (fun rec a => by kernel_rfl) (fun rec z => nomatch z)
def Q3s.via {R : Type} (n : Nat) : List AV → (AV → Option R) → Option R := viaK (Q3s.FA n) Q3s.o Q3s.p
theorem Q3s.tells1 {R : Type} (n : Nat) (xs : List AV) : Tells1 (R := R) Tryz.prog 94 xs (Q3s.via n xs) := tells_via Q3s.oi (fun a => by kernel_rfl) (Q3s.hands n) xs
end Go.Proofs.YtmpglmcjoelciaaGreatDoor.Ev
namespace Go.Proofs.YtmpglmcjoelciaaGreatDoor.Ev
open Go Go.Proofs Go.Proofs.Ev
set_option linter.unusedVariables false
set_option maxRecDepth 100000
abbrev Q2t.A := ByteArray × ByteArray × List AV × List AV × List AV × List AV × Bool × List AV × List AV
abbrev Q2t.T := Int × Int
def Q2t.i : Q2t.A → List AV := fun (a0, a1, a2, a3, a4, a5, a6, a7, a8) => [AV.agg [vs a0, vs a1, .sl ⟨true, 9⟩ 1 a2, .sl ⟨true, 95⟩ 3 a3, .sl ⟨true, 97⟩ 4 a4, .sl ⟨true, 111⟩ 2 a5, vb a6, .sl ⟨false, 100⟩ 2 a7], .sl ⟨false, 48⟩ 5 a8]
def Q2t.o (xs : List AV) : Option Q2t.A := match xs with | [.agg [.v (.string a0), .v (.string a1), .sl ⟨true, 9⟩ 1 a2, .sl ⟨true, 95⟩ 3 a3, .sl ⟨true, 97⟩ 4 a4, .sl ⟨true, 111⟩ 2 a5, .v (.bool a6), .sl ⟨false, 100⟩ 2 a7], .sl ⟨false, 48⟩ 5 a8] => some (a0, a1, a2, a3, a4, a5, a6, a7, a8) | _ => none
theorem Q2t.oi : ∀ xs a, Q2t.o xs = some a → xs = Q2t.i a := by
  intro xs a h
  unfold Q2t.o at h
  split at h
  · cases h; rfl
  · cases h
def Q2t.p (p : Q2t.T) : AV := .tup [vi p.1, vi p.2]
def Q2t.q (x : AV) : Option Q2t.T := match x with | .tup [.v (.int .i64 p0), .v (.int .i64 p1)] => some (p0, p1) | _ => none
theorem Q2t.qi : ∀ x p, Q2t.q x = some p → x = Q2t.p p := by
  intro x p h
  unfold Q2t.q at h
  split at h
  · cases h; rfl
  · cases h
inductive Q2t.Z where
  | z7 (z1 : List AV) (z2 : Int) (z3 z4 : ByteArray) (z5 z6 z7 z8 : List AV) (z9 : Bool) (z10 : List AV)
  | z15 (z1 : List AV) (z2 : Int) (z3 z4 : ByteArray) (z5 z6 z7 z8 : List AV) (z9 : Bool) (z10 : List AV)
  | z20 (z1 : List AV) (z2 : Int) (z3 z4 : ByteArray) (z5 z6 z7 z8 : List AV) (z9 : Bool) (z10 : List AV)
  | z26 (z1 : List AV) (z2 : Int) (z3 z4 : ByteArray) (z5 z6 z7 z8 : List AV) (z9 : Bool) (z10 : List AV)
  | z36 (z1 : List AV) (z2 : Int) (z3 z4 : ByteArray) (z5 z6 z7 z8 : List AV) (z9 : Bool) (z10 : List AV)
  | z39 (z1 : List AV) (z2 z3 : Int) (z4 z5 : ByteArray) (z6 z7 z8 z9 : List AV) (z10 : Bool) (z11 : List AV)
def Q2t.C {R : Type} (n : Nat) (f : FuncId) (xs : List AV) : (AV → Option R) → Option R :=
  bif Nat.beq f 19 then Q2s.via n xs else bif Nat.beq f 42 then Q2w.via n xs else bif Nat.beq f 61 then Q2u.via n xs else bif Nat.beq f 88 then Q1p.via n xs else bif Nat.beq f 91 then Q26.via n xs else bif Nat.beq f 92 then Q2v.via n xs else bif Nat.beq f 93 then Q3p.via n xs else bif Nat.beq f 94 then Q3s.via n xs else bif Nat.beq f 95 then Q27.via n xs else fun _ => none
theorem Q2t.tells {R : Type} (n : Nat) : Tells (R := R) Tryz.prog (Q2t.C n) := fun _ xs => tells_at (Q2s.tells1 n xs) (tells_at (Q2w.tells1 n xs) (tells_at (Q2u.tells1 n xs) (tells_at (Q1p.tells1 n xs) (tells_at (Q26.tells1 n xs) (tells_at (Q2v.tells1 n xs) (tells_at (Q3p.tells1 n xs) (tells_at (Q3s.tells1 n xs) (tells_at (Q27.tells1 n xs) (Tells1.none)))))))))
def Q2t.cut (r : Nat) : Option Keep := match r with | 7 => some ⟨[1, 2, 8], []⟩ | 15 => some ⟨[1, 2, 10], []⟩ | 20 => some ⟨[1, 2, 11], []⟩ | 26 => some ⟨[1, 2, 14], []⟩ | 36 => some ⟨[1, 2, 20], []⟩ | 39 => some ⟨[1, 2, 20, 21], []⟩ | _ => none
def Q2t.t (z : Q2t.Z) : List Item := (todoOf (match z with | .z7 _ _ _ _ _ _ _ _ _ _ => 7 | .z15 _ _ _ _ _ _ _ _ _ _ => 15 | .z20 _ _ _ _ _ _ _ _ _ _ => 20 | .z26 _ _ _ _ _ _ _ _ _ _ => 26 | .z36 _ _ _ _ _ _ _ _ _ _ => 36 | .z39 _ _ _ _ _ _ _ _ _ _ _ => 39) 1000 [.code (Tryz.f40.body.getD .skip)]).getD []
def Q2t.s : Q2t.Z → St
  | .z7 z1 z2 z3 z4 z5 z6 z7 z8 z9 z10 => ⟨spr 209 0 [(1, .sl ⟨false, 48⟩ 5 z1), (2, .ptr 0 0), (8, vi z2)], Mem.ofList [.box 36 [vs z3, vs z4, .sl ⟨true, 9⟩ 1 z5, .sl ⟨true, 95⟩ 3 z6, .sl ⟨true, 97⟩ 4 z7, .sl ⟨true, 111⟩ 2 z8, vb z9, .sl ⟨false, 100⟩ 2 z10]], 1⟩
  | .z15 z1 z2 z3 z4 z5 z6 z7 z8 z9 z10 => ⟨spr 209 0 [(1, .sl ⟨false, 48⟩ 5 z1), (2, .ptr 0 0), (10, vi z2)], Mem.ofList [.box 36 [vs z3, vs z4, .sl ⟨true, 9⟩ 1 z5, .sl ⟨true, 95⟩ 3 z6, .sl ⟨true, 97⟩ 4 z7, .sl ⟨true, 111⟩ 2 z8, vb z9, .sl ⟨false, 100⟩ 2 z10]], 1⟩
  | .z20 z1 z2 z3 z4 z5 z6 z7 z8 z9 z10 => ⟨spr 209 0 [(1, .sl ⟨false, 48⟩ 5 z1), (2, .ptr 0 0), (11, vi z2)], Mem.ofList [.box 36 [vs z3, vs z4, .sl ⟨true, 9⟩ 1 z5, .sl ⟨true, 95⟩ 3 z6, .sl ⟨true, 97⟩ 4 z7, .sl ⟨true, 111⟩ 2 z8, vb z9, .sl ⟨false, 100⟩ 2 z10]], 1⟩
  | .z26 z1 z2 z3 z4 z5 z6 z7 z8 z9 z10 => ⟨spr 209 0 [(1, .sl ⟨false, 48⟩ 5 z1), (2, .ptr 0 0), (14, vi z2)], Mem.ofList [.box 36 [vs z3, vs z4, .sl ⟨true, 9⟩ 1 z5, .sl ⟨true, 95⟩ 3 z6, .sl ⟨true, 97⟩ 4 z7, .sl ⟨true, 111⟩ 2 z8, vb z9, .sl ⟨false, 100⟩ 2 z10]], 1⟩
  | .z36 z1 z2 z3 z4 z5 z6 z7 z8 z9 z10 => ⟨spr 209 0 [(1, .sl ⟨false, 48⟩ 5 z1), (2, .ptr 0 0), (20, vi z2)], Mem.ofList [.box 36 [vs z3, vs z4, .sl ⟨true, 9⟩ 1 z5, .sl ⟨true, 95⟩ 3 z6, .sl ⟨true, 97⟩ 4 z7, .sl ⟨true, 111⟩ 2 z8, vb z9, .sl ⟨false, 100⟩ 2 z10]], 1⟩
  | .z39 z1 z2 z3 z4 z5 z6 z7 z8 z9 z10 z11 => ⟨spr 209 0 [(1, .sl ⟨false, 48⟩ 5 z1), (2, .ptr 0 0), (20, vi z2), (21, vi z3)], Mem.ofList [.box 36 [vs z4, vs z5, .sl ⟨true, 9⟩ 1 z6, .sl ⟨true, 95⟩ 3 z7, .sl ⟨true, 97⟩ 4 z8, .sl ⟨true, 111⟩ 2 z9, vb z10, .sl ⟨false, 100⟩ 2 z11]], 1⟩
def Q2t.r7 (n : Nat) (c : Q2t.Z → Option (Int × Int)) (z1 : List AV) (z2 : Int) (z3 z4 : ByteArray) (z5 z6 z7 z8 : List AV) (z9 : Bool) (z10 : List AV) : Option (Int × Int) :=
  let y3 : Bool := decide (z2 < ((z1.length : Nat) : Int))
  bif y3 then (bif decide ((0 : Int) ≤ z2) && decide (z2 < ((z1.length : Nat) : Int)) then (withCons ((z1.getD ((z2).toNat) .undef).cells) fun h4 r5 =>
  withStr h4 fun s6 =>
  withCons r5 fun h7 r8 =>
  withStr h7 fun s9 =>
  withCons r8 fun h10 r11 =>
  withSl ⟨true, 125⟩ 4 h10 fun xs12 =>
  withCons r11 fun h13 r14 =>
  withSl ⟨true, 111⟩ 2 h13 fun xs15 =>
  withCons r14 fun h16 r17 =>
  withBool h16 fun b18 =>
  (Q26.F n s6 s9 xs12 xs15 b18).bind fun p19 =>
  bif p19 != 0 then (some (0, p19)) else (bif decide ((0 : Int) ≤ z2) && decide (z2 < ((z1.length : Nat) : Int)) then (withCons ((z1.getD ((z2).toNat) .undef).cells) fun h20 r21 =>
  withStr h20 fun s22 =>
  (Q2v.F n z1 s22).bind fun p23 =>
  bif decide (p23 < z2) then (some (0, 13)) else (c (.z7 z1 (IntKind.i64.wrap (z2 + 1)) z3 z4 z5 z6 z7 z8 z9 z10))) else none)) else none) else (c (.z15 z1 0 z3 z4 z5 z6 z7 z8 z9 z10))
def Q2t.r15 (n : Nat) (c : Q2t.Z → Option (Int × Int)) (z1 : List AV) (z2 : Int) (z3 z4 : ByteArray) (z5 z6 z7 z8 : List AV) (z9 : Bool) (z10 : List AV) : Option (Int × Int) :=
  let y24 : Bool := decide (z2 < ((z5.length : Nat) : Int))
  bif y24 then (bif decide ((0 : Int) ≤ z2) && decide (z2 < ((z5.length : Nat) : Int)) then (withCons ((z5.getD ((z2).toNat) .undef).cells) fun h25 r26 =>
  withStr h25 fun s27 =>
  (Q2v.F n z1 s27).bind fun p28 =>
  bif p28 == (-1) then (some (z2, 11)) else (c (.z15 z1 (IntKind.i64.wrap (z2 + 1)) z3 z4 z5 z6 z7 z8 z9 z10))) else none) else (c (.z20 z1 0 z3 z4 z5 z6 z7 z8 z9 z10))
def Q2t.r20 (n : Nat) (c : Q2t.Z → Option (Int × Int)) (z1 : List AV) (z2 : Int) (z3 z4 : ByteArray) (z5 z6 z7 z8 : List AV) (z9 : Bool) (z10 : List AV) : Option (Int × Int) :=
  let y29 : Bool := decide (z2 < ((z6.length : Nat) : Int))
  bif y29 then (bif decide ((0 : Int) ≤ z2) && decide (z2 < ((z6.length : Nat) : Int)) then (withCons (((z6.getD ((z2).toNat) .undef).cells).drop 1) fun h30 r31 =>
  withInt .i64 h30 fun x32 =>
  bif decide ((0 : Int) ≤ z2) && decide (z2 < ((z6.length : Nat) : Int)) then (withCons (((z6.getD ((z2).toNat) .undef).cells).drop 2) fun h33 r34 =>
  withStr h33 fun s35 =>
  (Q3p.F n z3 z4 z5 z6 z7 z8 z9 z10 z1 x32 s35).bind fun p36 =>
  bif !p36.2.2.2 then (some (z2, 11)) else (c (.z20 z1 (IntKind.i64.wrap (z2 + 1)) z3 z4 z5 z6 z7 z8 z9 z10))) else none) else none) else (c (.z26 z1 0 z3 z4 z5 z6 z7 z8 z9 z10))
def Q2t.r26 (n : Nat) (c : Q2t.Z → Option (Int × Int)) (z1 : List AV) (z2 : Int) (z3 z4 : ByteArray) (z5 z6 z7 z8 : List AV) (z9 : Bool) (z10 : List AV) : Option (Int × Int) :=
  let y37 : Bool := decide (z2 < ((z7.length : Nat) : Int))
  bif y37 then (bif decide ((0 : Int) ≤ z2) && decide (z2 < ((z7.length : Nat) : Int)) then (withCons ((z7.getD ((z2).toNat) .undef).cells) fun h38 r39 =>
  withInt .i64 h38 fun x40 =>
  withCons r39 fun h41 r42 =>
  withStr h41 fun s43 =>
  withCons r42 fun h44 r45 =>
  withInt .i64 h44 fun x46 =>
  withCons r45 fun h47 r48 =>
  withStr h47 fun s49 =>
  (Q3p.F n z3 z4 z5 z6 z7 z8 z9 z10 z1 x40 s43).bind fun p50 =>
  (Q3p.F n z3 z4 z5 z6 z7 z8 z9 z10 z1 x46 s49).bind fun p51 =>
  bif !p50.2.2.2 then (some (z2, 11)) else (bif !p51.2.2.2 then (some (z2, 11)) else (let y52 : Bool := !((p50.1 == p51.1) && ((p50.2.1 == p51.2.1) && ((p50.2.2.1 == p51.2.2.1) && true)))
  bif y52 then (some (z2, 17)) else (c (.z26 z1 (IntKind.i64.wrap (z2 + 1)) z3 z4 z5 z6 z7 z8 z9 z10))))) else none) else (c (.z36 z1 0 z3 z4 z5 z6 z7 z8 z9 z10))
def Q2t.r36 (n : Nat) (c : Q2t.Z → Option (Int × Int)) (z1 : List AV) (z2 : Int) (z3 z4 : ByteArray) (z5 z6 z7 z8 : List AV) (z9 : Bool) (z10 : List AV) : Option (Int × Int) :=
  let y53 : Bool := decide (z2 < ((z10.length : Nat) : Int))
  bif y53 then (c (.z39 z1 z2 0 z3 z4 z5 z6 z7 z8 z9 z10)) else ((Q2w.F n z3 z4 z5 z6 z7 z8 z9 z10 z1).bind fun p54 =>
  (Q27.F n p54.1 p54.2).bind fun p55 =>
  (Q1p.F n (decide (p55 > 200))).bind fun p56 =>
  let y57 : Int := IntKind.i64.wrap ((18 : Int) * p56)
  some (0, y57))
def Q2t.r39 (n : Nat) (c : Q2t.Z → Option (Int × Int)) (z1 : List AV) (z2 z3 : Int) (z4 z5 : ByteArray) (z6 z7 z8 z9 : List AV) (z10 : Bool) (z11 : List AV) : Option (Int × Int) :=
  bif decide ((0 : Int) ≤ z2) && decide (z2 < ((z11.length : Nat) : Int)) then (withCons (((z11.getD ((z2).toNat) .undef).cells).drop 1) fun h58 r59 =>
  withSl ⟨true, 104⟩ 4 h58 fun xs60 =>
  let y61 : Bool := decide (z3 < ((xs60.length : Nat) : Int))
  bif y61 then (bif decide ((0 : Int) ≤ z2) && decide (z2 < ((z11.length : Nat) : Int)) then (withCons (((z11.getD ((z2).toNat) .undef).cells).drop 1) fun h62 r63 =>
  withSl ⟨true, 104⟩ 4 h62 fun xs64 =>
  bif decide ((0 : Int) ≤ z3) && decide (z3 < ((xs64.length : Nat) : Int)) then (withCons ((xs64.getD ((z3).toNat) .undef).cells) fun h65 r66 =>
  withStr h65 fun s67 =>
  withCons r66 fun h68 r69 =>
  withInt .i64 h68 fun x70 =>
  withCons r69 fun h71 r72 =>
  withInt .i64 h71 fun x73 =>
  withCons r72 fun h74 r75 =>
  withStr h74 fun s76 =>
  (Q2u.F n z4 z5 z6 z7 z8 z9 z10 z11 s67).bind fun p77 =>
  bif decide ((0 : Int) ≤ p77) && decide (p77 < ((z7.length : Nat) : Int)) then (withCons ((z7.getD ((p77).toNat) .undef).cells) fun h78 r79 =>
  withStr h78 fun s80 =>
  withCons r79 fun h81 r82 =>
  withInt .i64 h81 fun x83 =>
  withCons r82 fun h84 r85 =>
  withStr h84 fun s86 =>
  (Q3p.F n z4 z5 z6 z7 z8 z9 z10 z11 z1 x83 s86).bind fun p87 =>
  (Q3s.F n p87.1 p87.2.1 p87.2.2.1 x73 s76).bind fun p88 =>
  bif p88 != 0 then (some (z2, p88)) else (c (.z39 z1 z2 (IntKind.i64.wrap (z3 + 1)) z4 z5 z6 z7 z8 z9 z10 z11))) else none) else none) else none) else (c (.z36 z1 (IntKind.i64.wrap (z2 + 1)) z4 z5 z6 z7 z8 z9 z10 z11))) else none
def Q2t.r (n : Nat) (c : Q2t.Z → Option (Int × Int)) : Q2t.Z → Option (Int × Int)
  | .z7 z1 z2 z3 z4 z5 z6 z7 z8 z9 z10 => Q2t.r7 n c z1 z2 z3 z4 z5 z6 z7 z8 z9 z10
  | .z15 z1 z2 z3 z4 z5 z6 z7 z8 z9 z10 => Q2t.r15 n c z1 z2 z3 z4 z5 z6 z7 z8 z9 z10
  | .z20 z1 z2 z3 z4 z5 z6 z7 z8 z9 z10 => Q2t.r20 n c z1 z2 z3 z4 z5 z6 z7 z8 z9 z10
  | .z26 z1 z2 z3 z4 z5 z6 z7 z8 z9 z10 => Q2t.r26 n c z1 z2 z3 z4 z5 z6 z7 z8 z9 z10
  | .z36 z1 z2 z3 z4 z5 z6 z7 z8 z9 z10 => Q2t.r36 n c z1 z2 z3 z4 z5 z6 z7 z8 z9 z10
  | .z39 z1 z2 z3 z4 z5 z6 z7 z8 z9 z10 z11 => Q2t.r39 n c z1 z2 z3 z4 z5 z6 z7 z8 z9 z10 z11
def Q2t.e (n : Nat) (c : Q2t.Z → Option (Int × Int)) (a0 a1 : ByteArray) (a2 a3 a4 a5 : List AV) (a6 : Bool) (a7 a8 : List AV) : Option (Int × Int) :=
  (Q2s.F n a0 a1 a2 a3 a4 a5 a6 a7).bind fun p1 =>
  bif p1.2 != 0 then (some (p1.1, p1.2)) else (let y2 : Bool := decide (((a8.length : Nat) : Int) > 8)
  bif y2 then (some (0, 2)) else (c (.z7 a8 0 a0 a1 a2 a3 a4 a5 a6 a7)))
def Q2t.E (n : Nat) (c : Q2t.Z → Option (Int × Int)) : Q2t.A → Option Q2t.T := fun (a0, a1, a2, a3, a4, a5, a6, a7, a8) => Q2t.e n c a0 a1 a2 a3 a4 a5 a6 a7 a8
def Q2t.l (n : Nat) : Nat → Q2t.Z → Option (Int × Int) := loopL (Q2t.r n)
def Q2t.F (n : Nat) (a0 a1 : ByteArray) (a2 a3 a4 a5 : List AV) (a6 : Bool) (a7 a8 : List AV) : Option (Int × Int) := Q2t.e n (Q2t.l n n) a0 a1 a2 a3 a4 a5 a6 a7 a8
def Q2t.FA (n : Nat) : Q2t.A → Option Q2t.T := Q2t.E n (Q2t.l n n)
theorem Q2t.hands (n : Nat) : ∀ a p, Q2t.FA n a = some p → HandsIn Tryz.prog 40 (Q2t.i a) (Q2t.p p) :=
  pf_hands (C := Q2t.C n) (cut := Q2t.cut) (t := Q2t.t) (s := Q2t.s) (e := Q2t.E n) (r := Q2t.r n) (n := n) cfg mixed globs rfl Q2t.qi (Q2t.tells n) Tryz.func40 (by kernel_rfl) (by kernel_rfl) (fun rec a => by kernel_rfl) (fun rec z => by cases z <;> kernel_rfl)
def Q2t.via {R : Type} (n : Nat) : List AV → (AV → Option R) → Option R := viaK (Q2t.FA n) Q2t.o Q2t.p
theorem Q2t.tells1 {R : Type} (n : Nat) (xs : List AV) : Tells1 (R := R) Tryz.prog 40 xs (Q2t.via n xs) := tells_via Q2t.oi (fun a => by kernel_rfl) (Q2t.hands n) xs
end Go.Proofs.YtmpglmcjoelciaaGreatDoor.Ev
namespace Go.Proofs.YtmpglmcjoelciaaGreatDoor.Ev
open Go Go.Proofs Go.Proofs.Ev
set_option linter.unusedVariables false
set_option maxRecDepth 100000
abbrev Q2b.A := ByteArray × ByteArray × List AV × List AV × List AV × List AV × Bool × List AV × List AV
abbrev Q2b.T := Bool
def Q2b.i : Q2b.A → List AV := fun (a0, a1, a2, a3, a4, a5, a6, a7, a8) => [AV.agg [vs a0, vs a1, .sl ⟨true, 9⟩ 1 a2, .sl ⟨true, 95⟩ 3 a3, .sl ⟨true, 97⟩ 4 a4, .sl ⟨true, 111⟩ 2 a5, vb a6, .sl ⟨false, 100⟩ 2 a7], .sl ⟨false, 48⟩ 5 a8]
def Q2b.o (xs : List AV) : Option Q2b.A := match xs with | [.agg [.v (.string a0), .v (.string a1), .sl ⟨true, 9⟩ 1 a2, .sl ⟨true, 95⟩ 3 a3, .sl ⟨true, 97⟩ 4 a4, .sl ⟨true, 111⟩ 2 a5, .v (.bool a6), .sl ⟨false, 100⟩ 2 a7], .sl ⟨false, 48⟩ 5 a8] => some (a0, a1, a2, a3, a4, a5, a6, a7, a8) | _ => none
def Q2b.p (p : Q2b.T) : AV := vb p
def Q2b.q (x : AV) : Option Q2b.T := match x with | .v (.bool p0) => some p0 | _ => none
theorem Q2b.qi : ∀ x p, Q2b.q x = some p → x = Q2b.p p := by
  intro x p h
  unfold Q2b.q at h
  split at h
  · cases h; rfl
  · cases h
inductive Q2b.Z where
  | z9
def Q2b.C {R : Type} (n : Nat) (f : FuncId) (xs : List AV) : (AV → Option R) → Option R :=
  bif Nat.beq f 12 then Q2j.via n xs else bif Nat.beq f 16 then Q2i.via n xs else bif Nat.beq f 18 then Q30.via n xs else bif Nat.beq f 35 then Q2h.via n xs else bif Nat.beq f 36 then Q08.via n xs else bif Nat.beq f 37 then Q2z.via n xs else bif Nat.beq f 39 then Q06.via n xs else bif Nat.beq f 40 then Q2t.via n xs else bif Nat.beq f 41 then Q34.via n xs else bif Nat.beq f 42 then Q2w.via n xs else fun _ => none
theorem Q2b.tells {R : Type} (n : Nat) : Tells (R := R) Tryz.prog (Q2b.C n) := fun _ xs => tells_at (Q2j.tells1 n xs) (tells_at (Q2i.tells1 n xs) (tells_at (Q30.tells1 n xs) (tells_at (Q2h.tells1 n xs) (tells_at (Q08.tells1 n xs) (tells_at (Q2z.tells1 n xs) (tells_at (Q06.tells1 n xs) (tells_at (Q2t.tells1 n xs) (tells_at (Q34.tells1 n xs) (tells_at (Q2w.tells1 n xs) (Tells1.none))))))))))
def Q2b.cut (r : Nat) : Option Keep := match r with | 9 => some ⟨[], []⟩ | _ => none
def Q2b.t (z : Q2b.Z) : List Item := (todoOf (match z with | .z9 => 9) 1000 [.code (Tryz.f11.body.getD .skip)]).getD []
def Q2b.s : Q2b.Z → St
  | .z9 => ⟨spr 66 0 [], Mem.ofList [], 0⟩
def Q2b.r9 (n : Nat) (c : Q2b.Z → Option Bool)  : Option Bool :=
  some false
def Q2b.r (n : Nat) (c : Q2b.Z → Option Bool) : Q2b.Z → Option Bool
  | .z9 => Q2b.r9 n c
def Q2b.e (n : Nat) (c : Q2b.Z → Option Bool) (a0 a1 : ByteArray) (a2 a3 a4 a5 : List AV) (a6 : Bool) (a7 a8 : List AV) : Option Bool :=
  (Q2j.F n ).bind fun p1 =>
  bif !p1 then (some false) else ((Q2i.F n a0 a1 a2 a3 a4 a5 a6 a7).bind fun p2 =>
  bif !p2 then (some true) else ((Q2h.F n a8).bind fun p3 =>
  bif !p3 then (some true) else ((Q30.F n a0 a1 a2 a3 a4 a5 a6 a7).bind fun p4 =>
  (Q2z.F n a8).bind fun p5 =>
  (Q06.F n p4.1 p4.2.1 p4.2.2.1 p4.2.2.2.1 p4.2.2.2.2.1 p4.2.2.2.2.2.1 p4.2.2.2.2.2.2.1 p4.2.2.2.2.2.2.2 p5).bind fun p6 =>
  (Q30.F n a0 a1 a2 a3 a4 a5 a6 a7).bind fun p7 =>
  (Q2z.F n a8).bind fun p8 =>
  (Q08.F n p7.1 p7.2.1 p7.2.2.1 p7.2.2.2.1 p7.2.2.2.2.1 p7.2.2.2.2.2.1 p7.2.2.2.2.2.2.1 p7.2.2.2.2.2.2.2 p8).bind fun p9 =>
  (Q2t.F n a0 a1 a2 a3 a4 a5 a6 a7 a8).bind fun p10 =>
  bif p6.2 != p10.2 then (c .z9) else (bif p6.1 != p10.1 then (c .z9) else (bif p9.2.2 != p10.2 then (c .z9) else (bif p10.2 != 0 then ((Q34.F n p9.1 p9.2.1 (⟨#[]⟩ : ByteArray) []).bind fun p11 =>
  some p11) else ((Q2w.F n a0 a1 a2 a3 a4 a5 a6 a7 a8).bind fun p12 =>
  (Q34.F n p9.1 p9.2.1 p12.1 p12.2).bind fun p13 =>
  some p13)))))))
def Q2b.E (n : Nat) (c : Q2b.Z → Option Bool) : Q2b.A → Option Q2b.T := fun (a0, a1, a2, a3, a4, a5, a6, a7, a8) => Q2b.e n c a0 a1 a2 a3 a4 a5 a6 a7 a8
def Q2b.l (n : Nat) : Nat → Q2b.Z → Option Bool := loopL (Q2b.r n)
def Q2b.F (n : Nat) (a0 a1 : ByteArray) (a2 a3 a4 a5 : List AV) (a6 : Bool) (a7 a8 : List AV) : Option Bool := Q2b.e n (Q2b.l n n) a0 a1 a2 a3 a4 a5 a6 a7 a8
def Q2b.FA (n : Nat) : Q2b.A → Option Q2b.T := Q2b.E n (Q2b.l n n)
theorem Q2b.hands (n : Nat) : ∀ a p, Q2b.FA n a = some p → HandsIn Tryz.prog 11 (Q2b.i a) (Q2b.p p) :=
  pf_hands (C := Q2b.C n) (cut := Q2b.cut) (t := Q2b.t) (s := Q2b.s) (e := Q2b.E n) (r := Q2b.r n) (n := n) cfg mixed globs rfl Q2b.qi (Q2b.tells n) Tryz.func11 (by kernel_rfl) (by kernel_rfl) (fun rec a => by kernel_rfl) (fun rec z => by cases z <;> kernel_rfl)
end Go.Proofs.YtmpglmcjoelciaaGreatDoor.Ev
namespace Go.Proofs.YtmpglmcjoelciaaGreatDoor.Ev
open Go Go.Proofs Go.Proofs.Ev
theorem Q17.at3 (n m z1 z2 z3 z4) : Q17.l n (m + 1) (.z3 z1 z2 z3 z4) = Q17.r3 n (Q17.l n m) z1 z2 z3 z4 := rfl
theorem Q0j.at7 (n m z1 z2 z3 z4 z5 z6 z7 z8 z9 z10) : Q0j.l n (m + 1) (.z7 z1 z2 z3 z4 z5 z6 z7 z8 z9 z10) = Q0j.r7 n (Q0j.l n m) z1 z2 z3 z4 z5 z6 z7 z8 z9 z10 := rfl
theorem Q27.at3 (n m z1 z2 z3 z4) : Q27.l n (m + 1) (.z3 z1 z2 z3 z4) = Q27.r3 n (Q27.l n m) z1 z2 z3 z4 := rfl
theorem Q21.at2 (n m z1 z2 z3 z4) : Q21.l n (m + 1) (.z2 z1 z2 z3 z4) = Q21.r2 n (Q21.l n m) z1 z2 z3 z4 := rfl
theorem Q22.at6 (n m z1 z2 z3) : Q22.l n (m + 1) (.z6 z1 z2 z3) = Q22.r6 n (Q22.l n m) z1 z2 z3 := rfl
theorem Q25.at4 (n m z1 z2 z3 z4 z5 z6) : Q25.l n (m + 1) (.z4 z1 z2 z3 z4 z5 z6) = Q25.r4 n (Q25.l n m) z1 z2 z3 z4 z5 z6 := rfl
theorem Q25.at9 (n m z1 z2 z3 z4 z5 z6 z7) : Q25.l n (m + 1) (.z9 z1 z2 z3 z4 z5 z6 z7) = Q25.r9 n (Q25.l n m) z1 z2 z3 z4 z5 z6 z7 := rfl
theorem Q34.at4 (n m z1 z2 z3 z4 z5) : Q34.l n (m + 1) (.z4 z1 z2 z3 z4 z5) = Q34.r4 n (Q34.l n m) z1 z2 z3 z4 z5 := rfl
theorem Q2g.at4 (n m z1 z2 z3 z4 z5 z6) : Q2g.l n (m + 1) (.z4 z1 z2 z3 z4 z5 z6) = Q2g.r4 n (Q2g.l n m) z1 z2 z3 z4 z5 z6 := rfl
theorem Q2h.at4 (n m z1 z2) : Q2h.l n (m + 1) (.z4 z1 z2) = Q2h.r4 n (Q2h.l n m) z1 z2 := rfl
theorem Q02.at2 (n m z1 z2 z3 z4 z5 z6 z7 z8) : Q02.l n (m + 1) (.z2 z1 z2 z3 z4 z5 z6 z7 z8) = Q02.r2 n (Q02.l n m) z1 z2 z3 z4 z5 z6 z7 z8 := rfl
theorem Q0k.at4 (n m z1 z2 z3 z4) : Q0k.l n (m + 1) (.z4 z1 z2 z3 z4) = Q0k.r4 n (Q0k.l n m) z1 z2 z3 z4 := rfl
theorem Q03.at2 (n m z1 z2 z3 z4) : Q03.l n (m + 1) (.z2 z1 z2 z3 z4) = Q03.r2 n (Q03.l n m) z1 z2 z3 z4 := rfl
theorem Q00.at2 (n m z1 z2 z3 z4) : Q00.l n (m + 1) (.z2 z1 z2 z3 z4) = Q00.r2 n (Q00.l n m) z1 z2 z3 z4 := rfl
theorem Q42.at3 (n m z1 z2 z3) : Q42.l n (m + 1) (.z3 z1 z2 z3) = Q42.r3 n (Q42.l n m) z1 z2 z3 := rfl
theorem Q11.at6 (n m z1 z2 z3 z4 z5 z6 z7 z8 z9 z10 z11 z12 z13 z14) : Q11.l n (m + 1) (.z6 z1 z2 z3 z4 z5 z6 z7 z8 z9 z10 z11 z12 z13 z14) = Q11.r6 n (Q11.l n m) z1 z2 z3 z4 z5 z6 z7 z8 z9 z10 z11 z12 z13 z14 := rfl
theorem Q11.at15 (n m z1 z2 z3 z4 z5 z6 z7 z8 z9 z10 z11 z12 z13 z14 z15) : Q11.l n (m + 1) (.z15 z1 z2 z3 z4 z5 z6 z7 z8 z9 z10 z11 z12 z13 z14 z15) = Q11.r15 n (Q11.l n m) z1 z2 z3 z4 z5 z6 z7 z8 z9 z10 z11 z12 z13 z14 z15 := rfl
theorem Q11.at23 (n m z1 z2 z3 z4 z5 z6 z7 z8 z9 z10 z11 z12 z13 z14 z15) : Q11.l n (m + 1) (.z23 z1 z2 z3 z4 z5 z6 z7 z8 z9 z10 z11 z12 z13 z14 z15) = Q11.r23 n (Q11.l n m) z1 z2 z3 z4 z5 z6 z7 z8 z9 z10 z11 z12 z13 z14 z15 := rfl
theorem Q11.at30 (n m z1 z2 z3 z4 z5 z6) : Q11.l n (m + 1) (.z30 z1 z2 z3 z4 z5 z6) = Q11.r30 n (Q11.l n m) z1 z2 z3 z4 z5 z6 := rfl
theorem Q11.at33 (n m z1 z2 z3 z4 z5 z6 z7 z8 z9 z10) : Q11.l n (m + 1) (.z33 z1 z2 z3 z4 z5 z6 z7 z8 z9 z10) = Q11.r33 n (Q11.l n m) z1 z2 z3 z4 z5 z6 z7 z8 z9 z10 := rfl
theorem Q2z.at3 (n m z1 z2 z3) : Q2z.l n (m + 1) (.z3 z1 z2 z3) = Q2z.r3 n (Q2z.l n m) z1 z2 z3 := rfl
theorem Q2v.at2 (n m z1 z2 z3) : Q2v.l n (m + 1) (.z2 z1 z2 z3) = Q2v.r2 n (Q2v.l n m) z1 z2 z3 := rfl
theorem Q2w.at3 (n m z1 z2 z3 z4 z5 z6 z7 z8 z9 z10 z11 z12 z13) : Q2w.l n (m + 1) (.z3 z1 z2 z3 z4 z5 z6 z7 z8 z9 z10 z11 z12 z13) = Q2w.r3 n (Q2w.l n m) z1 z2 z3 z4 z5 z6 z7 z8 z9 z10 z11 z12 z13 := rfl
theorem Q1w.at3 (n m z1 z2 z3) : Q1w.l n (m + 1) (.z3 z1 z2 z3) = Q1w.r3 n (Q1w.l n m) z1 z2 z3 := rfl
theorem Q2t.at7 (n m z1 z2 z3 z4 z5 z6 z7 z8 z9 z10) : Q2t.l n (m + 1) (.z7 z1 z2 z3 z4 z5 z6 z7 z8 z9 z10) = Q2t.r7 n (Q2t.l n m) z1 z2 z3 z4 z5 z6 z7 z8 z9 z10 := rfl
theorem Q2t.at15 (n m z1 z2 z3 z4 z5 z6 z7 z8 z9 z10) : Q2t.l n (m + 1) (.z15 z1 z2 z3 z4 z5 z6 z7 z8 z9 z10) = Q2t.r15 n (Q2t.l n m) z1 z2 z3 z4 z5 z6 z7 z8 z9 z10 := rfl
theorem Q2t.at20 (n m z1 z2 z3 z4 z5 z6 z7 z8 z9 z10) : Q2t.l n (m + 1) (.z20 z1 z2 z3 z4 z5 z6 z7 z8 z9 z10) = Q2t.r20 n (Q2t.l n m) z1 z2 z3 z4 z5 z6 z7 z8 z9 z10 := rfl
theorem Q2t.at26 (n m z1 z2 z3 z4 z5 z6 z7 z8 z9 z10) : Q2t.l n (m + 1) (.z26 z1 z2 z3 z4 z5 z6 z7 z8 z9 z10) = Q2t.r26 n (Q2t.l n m) z1 z2 z3 z4 z5 z6 z7 z8 z9 z10 := rfl
theorem Q2t.at36 (n m z1 z2 z3 z4 z5 z6 z7 z8 z9 z10) : Q2t.l n (m + 1) (.z36 z1 z2 z3 z4 z5 z6 z7 z8 z9 z10) = Q2t.r36 n (Q2t.l n m) z1 z2 z3 z4 z5 z6 z7 z8 z9 z10 := rfl
theorem Q2t.at39 (n m z1 z2 z3 z4 z5 z6 z7 z8 z9 z10 z11) : Q2t.l n (m + 1) (.z39 z1 z2 z3 z4 z5 z6 z7 z8 z9 z10 z11) = Q2t.r39 n (Q2t.l n m) z1 z2 z3 z4 z5 z6 z7 z8 z9 z10 z11 := rfl
end Go.Proofs.YtmpglmcjoelciaaGreatDoor.Ev
namespace Go.Proofs.YtmpglmcjoelciaaGreatDoor.Ev
open Go Go.Proofs Go.Proofs.Ev
set_option linter.unusedVariables false
set_option linter.unusedSimpArgs false
structure FD where
  nm : List UInt8
  k : Int
  l : Int
  s : Int
def FD.av (x : FD) : AV := .agg [vs (bs x.nm), vi x.k, vi x.l, vi x.s]
def dnames (ds : List FD) : List (List UInt8) := ds.map FD.nm
theorem dnames_length (ds : List FD) : (dnames ds).length = ds.length := by simp [dnames]
theorem dnames_get {ds : List FD} {i : Nat} (hi : i < ds.length) : (dnames ds)[i]'(by rw [dnames_length]; exact hi) = ds[i].nm := by simp [dnames]
def szT (k l : Int) : Int := if k = 1 then l / 2 + 1 else if k = 3 then (if l = 9 then 4 else 2) else if k = 4 then 16 else l
theorem chkT_cases {k l s : Int} (h : chkT k l s = 0) : (k = 0 ∧ 1 ≤ l ∧ l ≤ 256) ∨ ((k = 1 ∨ k = 2) ∧ 1 ≤ l ∧ l ≤ 15) ∨ (k = 3 ∧ (l = 4 ∨ l = 9)) ∨ (k = 4 ∧ l = 0) := by
  unfold chkT at h
  by_cases h0 : k = 0
  · rw [if_pos h0] at h
    by_cases h1 : 1 ≤ l ∧ l ≤ 256
    · exact .inl ⟨h0, h1⟩
    · rw [if_pos h1] at h; cases h
  · rw [if_neg h0] at h
    by_cases h1 : k = 1 ∨ k = 2
    · rw [if_pos h1] at h
      by_cases h2 : 1 ≤ l ∧ l ≤ 15
      · exact .inr (.inl ⟨h1, h2⟩)
      · rw [if_pos h2] at h; cases h
    · rw [if_neg h1] at h
      by_cases h3 : k = 3
      · rw [if_pos h3] at h
        by_cases h2 : l = 4 ∨ l = 9
        · exact .inr (.inr (.inl ⟨h3, h2⟩))
        · rw [if_pos h2] at h; cases h
      · rw [if_neg h3] at h
        by_cases h4 : k = 4
        · rw [if_pos h4] at h
          by_cases h2 : l = 0
          · exact .inr (.inr (.inr ⟨h4, h2⟩))
          · rw [if_pos h2] at h; cases h
        · rw [if_neg h4] at h; cases h
theorem szT_range {k l s : Int} (h : chkT k l s = 0) : 0 ≤ szT k l ∧ szT k l ≤ 256 := by
  unfold szT
  rcases chkT_cases h with ⟨h1, h2⟩ | ⟨h1, h2⟩ | ⟨h1, h2⟩ | ⟨h1, h2⟩ <;> (repeat' split) <;> omega
theorem nsize_eq (n : Nat) {k l s : Int} (h : chkT k l s = 0) : Q44.F n k l s = some (szT k l) := by
  unfold Q44.F Q44.e szT
  have hc := chkT_cases h
  have h0 : 0 ≤ l ∧ l ≤ 256 := by omega
  simp only [bif_eq0]
  rw [Int.tdiv_eq_ediv_of_nonneg h0.1, Int.tdiv_eq_ediv_of_nonneg h0.1]
  by_cases h1 : k = 1
  · rw [if_pos h1, if_pos h1, w64 (x := l / 2) (by omega) (by omega), w64 (by omega) (by omega)]
  · rw [if_neg h1, if_neg h1]
    by_cases h3 : k = 3
    · rw [if_pos h3, if_pos h3]
      have : l = 4 ∨ l = 9 := by omega
      rcases this with rfl | rfl <;> rfl
    · rw [if_neg h3, if_neg h3]
      split <;> rfl
theorem bsize_eq (n : Nat) {k l s : Int} (h : chkT k l s = 0) : Q1x.F n k l s = some (szT k l) := by
  unfold Q1x.F Q1x.e szT
  have hc := chkT_cases h
  have h0 : 0 ≤ l ∧ l ≤ 256 := by omega
  simp only [bif_eq0]
  rw [Int.tdiv_eq_ediv_of_nonneg h0.1]
  by_cases h1 : k = 1
  · rw [if_pos h1, if_pos h1, w64 (x := l / 2) (by omega) (by omega), w64 (by omega) (by omega)]
  · rw [if_neg h1, if_neg h1]
    by_cases h3 : k = 3
    · rw [if_pos h3, if_pos h3, count_eq]
      have : l = 4 ∨ l = 9 := by omega
      rcases this with rfl | rfl <;> rfl
    · rw [if_neg h3, if_neg h3]
      split <;> rfl
theorem sizeOf_eq {n : Nat} (hn : 1001 ≤ n) {k l s : Int} (h : chkT k l s = 0) : Q3w.F n k l s = some (szT k l, 0) := by
  unfold Q3w.F Q3w.e
  rw [check_eq hn, Option.bind_some, h]
  show ((Q44.F n k l s).bind fun p => some (p, 0)) = _
  rw [nsize_eq n h]
  rfl
def szs : List FD → Int
  | [] => 0
  | f :: r => szT f.k f.l + szs r
def okD (ds : List FD) : Prop := ∀ f ∈ ds, chkT f.k f.l f.s = 0
section
variable {n : Nat} {nm fm : ByteArray}
theorem dsize_l (hn : 1001 ≤ n) (ds : List FD) (hd : ds.length ≤ 1000) (ho : okD ds) (B : Int) (hB : B ≤ 10000000) : ∀ (d i m : Nat) (a : Int), i + d = ds.length → d < m → 0 ≤ a → a + 256 * d ≤ B → Q17.l n m (.z3 a (ds.map FD.av) ds.length i) = some (a + szs (ds.drop i))
  | _, _, 0, _, _, h, _, _ => absurd h (by omega)
  | 0, i, m + 1, a, h, _, h1, h2 => by
    rw [Q17.at3]
    unfold Q17.r3
    rw [cond_f (by omega), List.drop_of_length_le (by omega)]
    simp [szs]
  | d + 1, i, m + 1, a, h, hm, h1, h2 => by
    have hi : i < ds.length := by omega
    have hok := ho ds[i] (List.getElem_mem hi)
    have hr := szT_range hok
    have ih := dsize_l hn ds hd ho B hB d (i + 1) m (a + szT ds[i].k ds[i].l) (by omega) (by omega) (by omega) (by omega)
    rw [Q17.at3]
    unfold Q17.r3
    simp (disch := omega) only [Option.bind_some, Option.bind_none, cond_true, cond_false, Bool.not_true, Bool.not_false, List.length_map, Ws_length, bs_size, within_t, upto_t, wsucc, Int.toNat_natCast, at_mapN, Ws_getDN, cells_agg, cells_v, withCons_cons, withInt_mk, withStr_mk, withBool_mk, withSl_mk, cond_t, cond_f, FD.av]
    rw [sizeOf_eq hn hok]
    simp (disch := omega) only [Option.bind_some, Option.bind_none, cond_true, cond_false, Bool.not_true, Bool.not_false, List.length_map, Ws_length, bs_size, within_t, upto_t, wsucc, Int.toNat_natCast, at_mapN, Ws_getDN, cells_agg, cells_v, withCons_cons, withInt_mk, withStr_mk, withBool_mk, withSl_mk, cond_t, cond_f]
    rw [w64 (x := a + szT ds[i].k ds[i].l) (by omega) (by omega), ih, List.drop_eq_getElem_cons hi]
    simp only [szs, Int.add_assoc]
theorem dsize_eq (hn : 1001 ≤ n) (ds : List FD) (hd : ds.length ≤ 1000) (ho : okD ds) : Q17.F n (ds.map FD.av) = some (szs ds) := by
  unfold Q17.F Q17.e
  have := dsize_l hn ds hd ho 1000000 (by omega) ds.length 0 n 0 (by omega) (by omega) (by omega) (by omega)
  rw [List.drop_zero, Int.zero_add] at this
  rw [List.length_map]
  exact this
theorem fsize_l (hn : 1001 ≤ n) (ds : List FD) (hd : ds.length ≤ 1000) (ho : okD ds) (B : Int) (hB : B ≤ 10000000) : ∀ (d i m : Nat) (a : Int), i + d = ds.length → d < m → 0 ≤ a → a + 256 * d ≤ B → Q27.l n m (.z3 a i nm (ds.map FD.av)) = some (a + szs (ds.drop i))
  | _, _, 0, _, _, h, _, _ => absurd h (by omega)
  | 0, i, m + 1, a, h, _, h1, h2 => by
    rw [Q27.at3]
    unfold Q27.r3
    simp only [List.length_map]
    rw [cond_f (by omega), List.drop_of_length_le (by omega)]
    simp [szs]
  | d + 1, i, m + 1, a, h, hm, h1, h2 => by
    have hi : i < ds.length := by omega
    have hok := ho ds[i] (List.getElem_mem hi)
    have hr := szT_range hok
    have ih := fsize_l hn ds hd ho B hB d (i + 1) m (a + szT ds[i].k ds[i].l) (by omega) (by omega) (by omega) (by omega)
    rw [Q27.at3]
    unfold Q27.r3
    simp (disch := omega) only [Option.bind_some, Option.bind_none, cond_true, cond_false, Bool.not_true, Bool.not_false, List.length_map, Ws_length, bs_size, within_t, upto_t, wsucc, Int.toNat_natCast, at_mapN, Ws_getDN, cells_agg, cells_v, withCons_cons, withInt_mk, withStr_mk, withBool_mk, withSl_mk, cond_t, cond_f, FD.av, List.drop_succ_cons, List.drop_zero]
    rw [bsize_eq n hok]
    simp (disch := omega) only [Option.bind_some, Option.bind_none, cond_true, cond_false, Bool.not_true, Bool.not_false, List.length_map, Ws_length, bs_size, within_t, upto_t, wsucc, Int.toNat_natCast, at_mapN, Ws_getDN, cells_agg, cells_v, withCons_cons, withInt_mk, withStr_mk, withBool_mk, withSl_mk, cond_t, cond_f]
    rw [w64 (x := a + szT ds[i].k ds[i].l) (by omega) (by omega), ih, List.drop_eq_getElem_cons hi]
    simp only [szs, Int.add_assoc]
theorem fsize_eq (hn : 1001 ≤ n) (ds : List FD) (hd : ds.length ≤ 1000) (ho : okD ds) : Q27.F n nm (ds.map FD.av) = some (szs ds) := by
  unfold Q27.F Q27.e
  have := fsize_l (nm := nm) hn ds hd ho 1000000 (by omega) ds.length 0 n 0 (by omega) (by omega) (by omega) (by omega)
  rw [List.drop_zero, Int.zero_add] at this
  exact this
def de (before : List (List UInt8)) (f : FD) : Int := if ne before f.nm ≠ 0 then ne before f.nm else if chkT f.k f.l f.s ≠ 0 then chkT f.k f.l f.s else if f.k = 4 then 17 else 0
def dErr (ns : List (List UInt8)) : List FD → Nat → Int × Int
  | [], _ => (0, 0)
  | f :: r, i => if de (ns.take i) f ≠ 0 then ((i : Int), de (ns.take i) f) else dErr ns r (i + 1)
theorem dErr_cons (ns : List (List UInt8)) (f : FD) (r : List FD) (i : Nat) : dErr ns (f :: r) i = if de (ns.take i) f ≠ 0 then ((i : Int), de (ns.take i) f) else dErr ns r (i + 1) := rfl
theorem dErr_ok {ns : List (List UInt8)} : ∀ {ds : List FD} {i : Nat}, (dErr ns ds i).2 = 0 → okD ds ∧ ∀ f ∈ ds, f.k ≠ 4
  | [], _, _ => ⟨fun _ h => by simp at h, fun _ h => by simp at h⟩
  | f :: r, i, h => by
    rw [dErr_cons] at h
    by_cases h0 : de (ns.take i) f = 0
    · rw [if_neg (by simp [h0])] at h
      obtain ⟨h1, h2⟩ := dErr_ok h
      unfold de at h0
      by_cases ha : ne (ns.take i) f.nm = 0
      · rw [if_neg (by simp [ha])] at h0
        by_cases hb : chkT f.k f.l f.s = 0
        · rw [if_neg (by simp [hb])] at h0
          by_cases hc : f.k = 4
          · rw [if_pos hc] at h0; cases h0
          · refine ⟨fun g hg => ?_, fun g hg => ?_⟩
            · rcases List.mem_cons.1 hg with rfl | hg
              · exact hb
              · exact h1 g hg
            · rcases List.mem_cons.1 hg with rfl | hg
              · exact hc
              · exact h2 g hg
        · rw [if_pos hb] at h0; exact absurd h0 hb
      · rw [if_pos ha] at h0; exact absurd h0 ha
    · rw [if_pos h0] at h; exact absurd h h0
def fileT (ds : List FD) (ks : List KF) : Int :=
  if (dErr (dnames ds) ds 0).2 ≠ 0 then (dErr (dnames ds) ds 0).2 else if szs ds > 200 then 18 else (kErrT (dnames ds) ks).2
def fileE (nm fm : List UInt8) (ds : List FD) (ks : List KF) : Int :=
  if isNm nm = false then 7 else if isNm fm = false then 7 else if ds.length = 0 then 1 else if ds.length > 20 then 2 else fileT ds ks
theorem fErr_l (hn : 1001 ≤ n) (ds : List FD) (hd : ds.length ≤ 1000) (ks : List KF) (hk : ks.length ≤ 1000) (uq : Bool) (hok : (dErr (dnames ds) ds 0).2 = 0 → okD ds) : ∀ (d i m : Nat), i + d = ds.length → d < m → ((dErr (dnames ds) (ds.drop i) i).2 = 0 → (dErr (dnames ds) ds 0).2 = 0) →
    Q0j.l n m (.z7 (ds.map FD.av) (ds.map FD.av) ds.length i nm fm (ds.map FD.av) (ks.map KF.av) uq (Ws ((dnames ds).take i))) =
      some (if (dErr (dnames ds) (ds.drop i) i).2 ≠ 0 then (dErr (dnames ds) (ds.drop i) i).2 else if szs ds > 200 then 18 else (kErrT (dnames ds) ks).2)
  | _, _, 0, _, h, _ => absurd h (by omega)
  | 0, i, m + 1, h, _, hz => by
    have hl := dnames_length ds
    rw [List.drop_of_length_le (by omega)] at hz ⊢
    have ho := hok (hz rfl)
    rw [Q0j.at7]
    unfold Q0j.r7
    rw [cond_f (by omega), dsize_eq hn ds hd ho, Option.bind_some, List.take_of_length_le (by omega), keysErr_eq hn _ (by omega) ks hk, Option.bind_some, bif_ite, some_ite]
    rfl
  | d + 1, i, m + 1, h, hm, hz => by
    have hi : i < ds.length := by omega
    have hl := dnames_length ds
    have hl' : i < (dnames ds).length := by omega
    have hmost : most = 1000000000 := rfl
    have ih := fErr_l hn ds hd ks hk uq hok d (i + 1) m (by omega) (by omega)
    rw [List.drop_eq_getElem_cons hi, dErr_cons] at hz ⊢
    rw [Q0j.at7]
    unfold Q0j.r7
    simp (disch := omega) only [Option.bind_some, Option.bind_none, cond_true, cond_false, Bool.not_true, Bool.not_false, List.length_map, Ws_length, bs_size, within_t, upto_t, wsucc, Int.toNat_natCast, at_mapN, Ws_getDN, cells_agg, cells_v, withCons_cons, withInt_mk, withStr_mk, withBool_mk, withSl_mk, cond_t, cond_f, FD.av]
    rw [nameErr_eq hn _ (by rw [List.length_take]; omega), Option.bind_some, check_eq hn, Option.bind_some, cond_eq, Option.bind_some]
    have hfz := first_eq (n := n) [ne ((dnames ds).take i) ds[i].nm, chkT ds[i].k ds[i].l ds[i].s, (if (ds[i].k == 4) = true then 17 else 0)] (by simp) hn
    have e : fz [ne ((dnames ds).take i) ds[i].nm, chkT ds[i].k ds[i].l ds[i].s, (if (ds[i].k == 4) = true then 17 else 0)] = de ((dnames ds).take i) ds[i] := by
      unfold de
      by_cases h1 : ne ((dnames ds).take i) ds[i].nm = 0
      · by_cases h2 : chkT ds[i].k ds[i].l ds[i].s = 0
        · by_cases h3 : ds[i].k = 4 <;> simp [fz, h1, h2, h3]
        · simp [fz, h1, h2]
      · simp [fz, h1]
    rw [e] at hfz
    show ((Q0m.F n ([ne ((dnames ds).take i) ds[i].nm, chkT ds[i].k ds[i].l ds[i].s, (if (ds[i].k == 4) = true then 17 else 0)].map vi)).bind _) = _
    rw [hfz, Option.bind_some, bif_ne]
    by_cases h0 : de ((dnames ds).take i) ds[i] = 0
    · simp only [h0, ne_eq, not_true_eq_false, if_false] at hz ih ⊢
      rw [cond_t (by rw [List.length_take, List.length_singleton]; omega), Ws_snoc, ← dnames_get hi, ← List.take_succ_eq_append_getElem hl']
      exact ih hz
    · simp only [h0, ne_eq, not_false_eq_true, if_true]
theorem fileErr_eq (hn : 1001 ≤ n) (nm fm : List UInt8) (ds : List FD) (hd : ds.length ≤ 1000) (ks : List KF) (hk : ks.length ≤ 1000) (uq : Bool) :
    Q0j.F n (bs nm) (bs fm) (ds.map FD.av) (ks.map KF.av) uq = some (fileE nm fm ds ks) := by
  unfold Q0j.F Q0j.e
  rw [isName_eq hn, Option.bind_some, cond_eq, Option.bind_some, isName_eq hn, Option.bind_some, cond_eq, Option.bind_some]
  simp only [cond_eq, Option.bind_some, List.length_map]
  have hfz := first_eq (n := n) [(if (!isNm nm) = true then 7 else 0), (if (!isNm fm) = true then 7 else 0), (if ((((ds.length : Nat) : Int)) == 0) = true then 1 else 0), (if decide (((ds.length : Nat) : Int) > 20) = true then 2 else 0)] (by simp) hn
  show ((Q0m.F n ([(if (!isNm nm) = true then 7 else 0), (if (!isNm fm) = true then 7 else 0), (if ((((ds.length : Nat) : Int)) == 0) = true then 1 else 0), (if decide (((ds.length : Nat) : Int) > 20) = true then 2 else 0)].map vi)).bind _) = _
  rw [hfz, Option.bind_some, bif_ne]
  unfold fileE
  cases h1 : isNm nm
  · simp [fz]
  · cases h2 : isNm fm
    · simp [fz]
    · by_cases h3 : ds.length = 0
      · simp [fz, h3]
      · have h3' : ¬ ((ds.length : Nat) : Int) = 0 := by omega
        by_cases h4 : ds.length > 20
        · have h4' : ((ds.length : Nat) : Int) > 20 := by omega
          have : decide (((ds.length : Nat) : Int) > 20) = true := by simpa using h4'
          simp only [fz, h3, h3', h4, beq_int, this]; simp
        · have : decide (((ds.length : Nat) : Int) > 20) = false := by rw [decide_eq_false_iff_not]; omega
          have e : fz [(if (!true) = true then 7 else 0), (if (!true) = true then 7 else 0), (if ((((ds.length : Nat) : Int)) == 0) = true then 1 else 0), (if decide (((ds.length : Nat) : Int) > 20) = true then 2 else 0)] = 0 := by
            rw [this]; simp [fz, h3]
          rw [e, if_neg (by simp)]
          simp only [Bool.true_eq_false, if_false, h3, h4]
          have := fErr_l (nm := bs nm) (fm := bs fm) hn ds hd ks hk uq (fun h => (dErr_ok h).1) ds.length 0 n (by omega) (by omega) (fun h => h)
          exact this
end
end Go.Proofs.YtmpglmcjoelciaaGreatDoor.Ev
end
