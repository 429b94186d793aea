import Derived.Test.YtmpglmcjoelciaaGreatDoorDWb
noncomputable section
namespace Go.Proofs.YtmpglmcjoelciaaGreatDoor.Ev
open Go Go.Proofs Go.Proofs.Ev
set_option linter.unusedVariables false
set_option linter.unusedSimpArgs false
section
variable {n : Nat} {nm fm : ByteArray}
theorem fieldAt_l (ds : List FD) (hd : ds.length ≤ 1000) (s : List UInt8) : ∀ (d i m : Nat), i + d = ds.length → d < m → Q21.l n m (.z2 (bs s) i nm (ds.map FD.av)) = some (ixs ((dnames ds).drop i) s i)
  | _, _, 0, _, h => absurd h (by omega)
  | 0, i, m + 1, h, _ => by
    have hl := dnames_length ds
    rw [Q21.at2]
    unfold Q21.r2
    simp (disch := omega) only [Option.bind_some, Option.bind_none, cond_true, cond_false, Bool.not_true, Bool.not_false, List.length_map, Ws_length, bs_size, within_t, upto_t, wsucc, Int.toNat_natCast, at_mapN, Ws_getDN, cells_agg, cells_v, withCons_cons, withInt_mk, withStr_mk, withBool_mk, withSl_mk, cond_t, cond_f]
    rw [List.drop_of_length_le (by omega)]
    rfl
  | d + 1, i, m + 1, h, hm => by
    have hi : i < ds.length := by omega
    have hl := dnames_length ds
    have ih := fieldAt_l ds hd s d (i + 1) m (by omega) (by omega)
    rw [Q21.at2]
    unfold Q21.r2
    simp (disch := omega) only [Option.bind_some, Option.bind_none, cond_true, cond_false, Bool.not_true, Bool.not_false, List.length_map, Ws_length, bs_size, within_t, upto_t, wsucc, Int.toNat_natCast, at_mapN, Ws_getDN, cells_agg, cells_v, withCons_cons, withInt_mk, withStr_mk, withBool_mk, withSl_mk, cond_t, cond_f, FD.av, str_eq, ih]
    rw [List.drop_eq_getElem_cons (by omega : i < (dnames ds).length), ixs_cons, dnames_get hi, bif_ite, some_ite]
theorem fieldAt_eq (hn : 1001 ≤ n) (ds : List FD) (hd : ds.length ≤ 1000) (s : List UInt8) : Q21.F n nm (ds.map FD.av) (bs s) = some (ixs (dnames ds) s 0) := by
  unfold Q21.F Q21.e
  have := fieldAt_l (n := n) (nm := nm) ds hd s ds.length 0 n (by omega) (by omega)
  rw [List.drop_zero] at this
  exact this
theorem fieldsR_l (hn : 1001 ≤ n) (ds : List FD) (hd : ds.length ≤ 1000) (hok : (dErr (dnames ds) ds 0).2 = 0 → okD ds) : ∀ (d i m : Nat), i + d = ds.length → d < m → ((dErr (dnames ds) (ds.drop i) i).2 = 0 → (dErr (dnames ds) ds 0).2 = 0) →
    Q22.l n m (.z6 i nm (ds.map FD.av)) = some (if (dErr (dnames ds) (ds.drop i) i).2 ≠ 0 then dErr (dnames ds) (ds.drop i) i else (0, if szs ds > 200 then 18 else 0))
  | _, _, 0, _, h, _ => absurd h (by omega)
  | 0, i, m + 1, h, _, hz => by
    rw [List.drop_of_length_le (by omega)] at hz ⊢
    have ho := hok (hz rfl)
    rw [Q22.at6]
    unfold Q22.r6
    simp (disch := omega) only [Option.bind_some, Option.bind_none, cond_true, cond_false, Bool.not_true, Bool.not_false, List.length_map, Ws_length, bs_size, within_t, upto_t, wsucc, Int.toNat_natCast, at_mapN, Ws_getDN, cells_agg, cells_v, withCons_cons, withInt_mk, withStr_mk, withBool_mk, withSl_mk, cond_t, cond_f]
    rw [fsize_eq hn ds hd ho]
    simp (disch := omega) only [Option.bind_some, Option.bind_none, cond_true, cond_false, Bool.not_true, Bool.not_false, List.length_map, Ws_length, bs_size, within_t, upto_t, wsucc, Int.toNat_natCast, at_mapN, Ws_getDN, cells_agg, cells_v, withCons_cons, withInt_mk, withStr_mk, withBool_mk, withSl_mk, cond_t, cond_f, count_eq]
    by_cases h2 : szs ds > 200
    · simp only [h2, decide_true, if_true, dErr]; rfl
    · simp only [h2, decide_false, if_false, dErr]; rfl
  | d + 1, i, m + 1, h, hm, hz => by
    have hi : i < ds.length := by omega
    have hl := dnames_length ds
    have hl' : i < (dnames ds).length := by omega
    have ih := fieldsR_l hn ds hd hok d (i + 1) m (by omega) (by omega)
    have hlt := ixs_lt (dnames ds) ds[i].nm 0 i hl' (by rw [List.getElem?_eq_getElem hl', dnames_get hi])
    rw [Nat.zero_add] at hlt
    rw [List.drop_eq_getElem_cons hi, dErr_cons] at hz ⊢
    rw [Q22.at6]
    unfold Q22.r6
    simp (disch := omega) only [Option.bind_some, Option.bind_none, cond_true, cond_false, Bool.not_true, Bool.not_false, List.length_map, Ws_length, bs_size, within_t, upto_t, wsucc, Int.toNat_natCast, at_mapN, Ws_getDN, cells_agg, cells_v, withCons_cons, withInt_mk, withStr_mk, withBool_mk, withSl_mk, cond_t, cond_f, FD.av, isNameR_eq, fieldAt_eq, hlt, typeErr_eq, List.drop_succ_cons, List.drop_zero]
    rw [bif_ne]
    unfold de ne at hz ⊢
    cases h1 : isNm ds[i].nm
    · simp
    · cases h2 : ((dnames ds).take i).contains ds[i].nm
      · by_cases h3 : chkT ds[i].k ds[i].l ds[i].s = 0
        · by_cases h4 : ds[i].k = 4
          · have h3' : chkT 4 ds[i].l ds[i].s = 0 := by rw [← h4]; exact h3
            simp [h3', h4]
          · simp only [h1, h2, h3, h4, Bool.not_true, cond_false, Bool.true_eq_false, Bool.false_eq_true, if_false, ne_eq, not_true_eq_false, bif_eq0] at hz ih ⊢
            exact ih hz
        · simp [h3]
      · simp
theorem fieldsErrR_eq (hn : 1001 ≤ n) (ds : List FD) (hd : ds.length ≤ 1000) : ∃ i, Q22.F n nm (ds.map FD.av) = some (i, if ds.length = 0 then 1 else if ds.length > 20 then 2 else if (dErr (dnames ds) ds 0).2 ≠ 0 then (dErr (dnames ds) ds 0).2 else if szs ds > 200 then 18 else 0) := by
  unfold Q22.F Q22.e
  by_cases h0 : ds.length = 0
  · refine ⟨0, ?_⟩
    have : (((ds.map FD.av).length : Nat) : Int) = 0 := by rw [List.length_map, h0]; rfl
    simp only [this, h0, if_true]; rfl
  · by_cases h1 : ds.length > 20
    · refine ⟨0, ?_⟩
      simp (disch := omega) only [Option.bind_some, Option.bind_none, cond_true, cond_false, Bool.not_true, Bool.not_false, List.length_map, Ws_length, bs_size, within_t, upto_t, wsucc, Int.toNat_natCast, at_mapN, Ws_getDN, cells_agg, cells_v, withCons_cons, withInt_mk, withStr_mk, withBool_mk, withSl_mk, cond_t, cond_f, beq_int]
      simp only [h0, h1, if_false, if_true]
    · have := fieldsR_l (nm := nm) hn ds hd (fun h => (dErr_ok h).1) ds.length 0 n (by omega) (by omega) (fun h => h)
      rw [List.drop_zero] at this
      simp (disch := omega) only [Option.bind_some, Option.bind_none, cond_true, cond_false, Bool.not_true, Bool.not_false, List.length_map, Ws_length, bs_size, within_t, upto_t, wsucc, Int.toNat_natCast, at_mapN, Ws_getDN, cells_agg, cells_v, withCons_cons, withInt_mk, withStr_mk, withBool_mk, withSl_mk, cond_t, cond_f, beq_int]
      refine ⟨if (dErr (dnames ds) ds 0).2 ≠ 0 then (dErr (dnames ds) ds 0).1 else 0, Eq.trans this ?_⟩
      · simp only [h0, h1, if_false]
        by_cases h2 : (dErr (dnames ds) ds 0).2 = 0
        · simp only [h2, ne_eq, not_true_eq_false, if_false]
        · simp only [h2, ne_eq, not_false_eq_true, if_true]
theorem keysR_l (hn : 1001 ≤ n) (ds : List FD) (hd : ds.length ≤ 1000) (ks : List KF) (hk : ks.length ≤ 4) (uq : Bool) : ∀ (d i m : Nat), i + d = ks.length → 10 * d + 1 ≤ m →
    Q25.l n m (.z4 i nm fm (ds.map FD.av) (ks.map KF.av) uq) = some (kErr (dnames ds) (knames ks) (ks.drop i) i)
  | 0, i, m, h, hm => by
    obtain ⟨m, rfl⟩ : ∃ q, m = q + 1 := ⟨m - 1, by omega⟩
    rw [Q25.at4]
    unfold Q25.r4
    simp (disch := omega) only [Option.bind_some, Option.bind_none, cond_true, cond_false, Bool.not_true, Bool.not_false, List.length_map, Ws_length, bs_size, within_t, upto_t, wsucc, Int.toNat_natCast, at_mapN, Ws_getDN, cells_agg, cells_v, withCons_cons, withInt_mk, withStr_mk, withBool_mk, withSl_mk, cond_t, cond_f]
    rw [List.drop_of_length_le (by omega)]
    rfl
  | d + 1, i, m, h, hm => by
    obtain ⟨m, rfl⟩ : ∃ q, m = q + 1 := ⟨m - 1, by omega⟩
    have hi : i < ks.length := by omega
    have hkl : (knames ks).length = ks.length := by simp [knames]
    have inner : ∀ (e j q : Nat), j + e = i → 10 * d + 2 + e ≤ q → Q25.l n q (.z9 i j nm fm (ds.map FD.av) (ks.map KF.av) uq) =
        some (if (((knames ks).take i).drop j).contains ks[i].nm then ((i : Int), 13) else kErr (dnames ds) (knames ks) (ks.drop (i + 1)) (i + 1)) := by
      intro e
      induction e with
      | zero =>
        intro j q hj hq
        obtain ⟨q, rfl⟩ : ∃ r, q = r + 1 := ⟨q - 1, by omega⟩
        rw [Q25.at9]
        unfold Q25.r9
        simp (disch := omega) only [Option.bind_some, Option.bind_none, cond_true, cond_false, Bool.not_true, Bool.not_false, List.length_map, Ws_length, bs_size, within_t, upto_t, wsucc, Int.toNat_natCast, at_mapN, Ws_getDN, cells_agg, cells_v, withCons_cons, withInt_mk, withStr_mk, withBool_mk, withSl_mk, cond_t, cond_f]
        rw [keysR_l hn ds hd ks hk uq d (i + 1) q (by omega) (by omega), List.drop_of_length_le (show ((knames ks).take i).length ≤ j by rw [List.length_take]; omega)]
        simp
      | succ e ih =>
        intro j q hj hq
        obtain ⟨q, rfl⟩ : ∃ r, q = r + 1 := ⟨q - 1, by omega⟩
        have ih' := ih (j + 1) q (by omega) (by omega)
        have hjl : j < ks.length := by omega
        have hjt : j < ((knames ks).take i).length := by rw [List.length_take]; omega
        have e2 : ((knames ks).take i)[j] = ks[j].nm := by simp [knames]
        rw [Q25.at9]
        unfold Q25.r9
        simp (disch := omega) only [Option.bind_some, Option.bind_none, cond_true, cond_false, Bool.not_true, Bool.not_false, List.length_map, Ws_length, bs_size, within_t, upto_t, wsucc, Int.toNat_natCast, at_mapN, Ws_getDN, cells_agg, cells_v, withCons_cons, withInt_mk, withStr_mk, withBool_mk, withSl_mk, cond_t, cond_f, KF.av, str_eq, ih']
        rw [List.drop_eq_getElem_cons hjt, List.contains_cons, e2]
        by_cases h : ks[j].nm = ks[i].nm
        · rw [cond_t h]; simp [h]
        · have : (ks[i].nm == ks[j].nm) = false := by simpa using fun e => h e.symm
          rw [cond_f h, this, Bool.false_or]
    have hin := inner i 0 m (by omega) (by omega)
    rw [List.drop_zero] at hin
    rw [Q25.at4]
    unfold Q25.r4
    have h0 : ((0 : Nat) : Int) = 0 := rfl
    rw [h0] at hin
    simp (disch := omega) only [Option.bind_some, Option.bind_none, cond_true, cond_false, Bool.not_true, Bool.not_false, List.length_map, Ws_length, bs_size, within_t, upto_t, wsucc, Int.toNat_natCast, at_mapN, Ws_getDN, cells_agg, cells_v, withCons_cons, withInt_mk, withStr_mk, withBool_mk, withSl_mk, cond_t, cond_f, KF.av, fieldAt_eq, hin, ixs_none]
    rw [List.drop_eq_getElem_cons hi, kErr_cons]
    unfold ke
    cases h1 : (dnames ds).contains ks[i].nm
    · simp
    · cases h2 : ((knames ks).take i).contains ks[i].nm
      · simp
      · simp
theorem keysErrR_eq (hn : 1001 ≤ n) (ds : List FD) (hd : ds.length ≤ 1000) (ks : List KF) (hk : ks.length ≤ 1000) (uq : Bool) : Q25.F n nm fm (ds.map FD.av) (ks.map KF.av) uq = some (kErrT (dnames ds) ks) := by
  unfold Q25.F Q25.e kErrT
  by_cases h : ks.length > 4
  · simp (disch := omega) only [Option.bind_some, Option.bind_none, cond_true, cond_false, Bool.not_true, Bool.not_false, List.length_map, Ws_length, bs_size, within_t, upto_t, wsucc, Int.toNat_natCast, at_mapN, Ws_getDN, cells_agg, cells_v, withCons_cons, withInt_mk, withStr_mk, withBool_mk, withSl_mk, cond_t, cond_f]
    rw [if_pos h]
  · simp (disch := omega) only [Option.bind_some, Option.bind_none, cond_true, cond_false, Bool.not_true, Bool.not_false, List.length_map, Ws_length, bs_size, within_t, upto_t, wsucc, Int.toNat_natCast, at_mapN, Ws_getDN, cells_agg, cells_v, withCons_cons, withInt_mk, withStr_mk, withBool_mk, withSl_mk, cond_t, cond_f]
    rw [if_neg h]
    have := keysR_l (n := n) (nm := nm) (fm := fm) hn ds hd ks (by omega) uq ks.length 0 n (by omega) (by omega)
    rw [List.drop_zero] at this
    exact this
theorem errR_eq (hn : 1001 ≤ n) (nm fm : List UInt8) (ds : List FD) (hd : ds.length ≤ 1000) (ks : List KF) (hk : ks.length ≤ 1000) (uq : Bool) : Q20.F n (bs nm) (bs fm) (ds.map FD.av) (ks.map KF.av) uq = some (fileE nm fm ds ks) := by
  unfold Q20.F Q20.e Q23.F Q23.e Q24.F Q24.e fileE fileT
  obtain ⟨i, hi⟩ := fieldsErrR_eq (nm := bs fm) hn ds hd
  rw [isNameR_eq hn, Option.bind_some, isNameR_eq hn, Option.bind_some, hi, Option.bind_some, keysErrR_eq hn ds hd ks hk]
  cases isNm nm
  · rfl
  · cases isNm fm
    · rfl
    · by_cases h0 : ds.length = 0
      · simp [h0]
      · by_cases h1 : ds.length > 20
        · simp [h0, h1]
        · by_cases h2 : (dErr (dnames ds) ds 0).2 = 0
          · by_cases h3 : szs ds > 200
            · simp [h0, h1, h2, h3]
            · simp [h0, h1, h2, h3]
          · have h2' : ((dErr (dnames ds) ds 0).2 != 0) = true := by simp [h2]
            simp [h0, h1, h2, h2']
theorem plainErr_eq (hn : 1001 ≤ n) (nm fm : List UInt8) (ds : List FD) (hd : ds.length ≤ 1000) (ks : List KF) (hk : ks.length ≤ 1000) (uq : Bool) : Q26.F n (bs nm) (bs fm) (ds.map FD.av) (ks.map KF.av) uq = some (fileE nm fm ds ks) := by
  unfold Q26.F Q26.e
  rw [isNameR_eq hn, Option.bind_some, isNameR_eq hn, Option.bind_some, errR_eq hn nm fm ds hd ks hk]
  unfold fileE
  cases isNm nm
  · rfl
  · cases isNm fm <;> rfl
end
end Go.Proofs.YtmpglmcjoelciaaGreatDoor.Ev
namespace Go.Proofs.YtmpglmcjoelciaaGreatDoor.Ev
open Go Go.Proofs Go.Proofs.Ev
set_option linter.unusedVariables false
section
variable {n : Nat} {nm fm : ByteArray} {ws : List (List UInt8)} {fs : List LF} {js : List JP} {ks : List KF} {uq : Bool} {rs : List RL}
theorem checkR19 (hn : 10001 ≤ n) (hw : 1 ≤ ws.length ∧ ws.length ≤ 1000) (hf : fs.length ≤ 1000) (hj : js.length ≤ 1000) (hk : ks.length ≤ 4 ∨ ks.length ≤ 1000) (hr : rs.length ≤ 1000) (hc : ∀ r ∈ rs, r.cs.length ≤ 1000) : ∀ (d i m : Nat), i + d = fs.length → d + 6000 ≤ m →
    Q2s.l n m (.z19 i nm fm (Ws ws) (fs.map LF.av) (js.map JP.av) (ks.map KF.av) uq (rs.map RL.av)) = some (tailF ws fs js ks uq rs i)
  | 0, i, m, h, hm => by
    obtain ⟨m, rfl⟩ : ∃ q, m = q + 1 := ⟨m - 1, by omega⟩
    rw [Q2s.at19]
    unfold Q2s.r19 tailF
    simp only [List.length_map]
    rw [cond_f (by omega), List.drop_of_length_le (by omega), joinsR_eq (by omega) ws hw js hj, Option.bind_some, bif_ne]
    show _ = some (if (0 : Int) ≠ 0 then _ else _)
    rw [if_neg (by simp : ¬ (0 : Int) ≠ 0)]
    by_cases h1 : (jErrT ws js).2 = 0
    · rw [if_neg (by simp [h1]), if_neg (by simp [h1])]
      by_cases h4 : ks.length > 4
      · rw [cond_t (by omega), if_pos h4]
      · rw [cond_f (by omega), if_neg h4]
        exact checkR36 (by omega) hf (by omega) hr hc ks.length 0 m (by omega) (by omega)
    · rw [if_pos h1, if_pos h1]
  | d + 1, i, m, h, hm => by
    obtain ⟨m, rfl⟩ : ∃ q, m = q + 1 := ⟨m - 1, by omega⟩
    have hi : i < fs.length := by omega
    have hnl : (names fs).length = fs.length := by simp [names]
    have ih := checkR19 hn hw hf hj hk hr hc d (i + 1) m (by omega) (by omega)
    have hlt := ixs_lt (names fs) fs[i].nm 0 i (by omega) (by rw [List.getElem?_eq_getElem (by omega)]; simp [names])
    rw [Nat.zero_add] at hlt
    rw [Q2s.at19]
    unfold Q2s.r19
    simp only [List.length_map]
    rw [cond_t (by omega), within_t hi, cond_true, at_map LF.av hi]
    show ((Q1t.F n (bs fs[i].nm)).bind fun p26 => bif !p26 then (some ((i : Int), 7)) else ((Q2u.F n nm fm (Ws ws) (fs.map LF.av) (js.map JP.av) (ks.map KF.av) uq (rs.map RL.av) (bs fs[i].nm)).bind fun p27 =>
      bif decide (p27 < (i : Int)) then (some ((i : Int), 13)) else ((Q1z.F n fs[i].b 0 (IntKind.i64.wrap ((((Ws ws).length : Nat) : Int) - 1))).bind fun p29 => bif !p29 then (some ((i : Int), 3)) else ((Q1t.F n (bs fs[i].fd)).bind fun p30 =>
      bif !p30 then (some ((i : Int), 7)) else Q2s.l n m (.z19 (IntKind.i64.wrap ((i : Int) + 1)) nm fm (Ws ws) (fs.map LF.av) (js.map JP.av) (ks.map KF.av) uq (rs.map RL.av)))))) = _
    rw [isNameR_eq (by omega), Option.bind_some, fieldOf_eq (by omega) fs hf, Option.bind_some, hlt, Ws_length, w64 (x := ((ws.length : Nat) : Int) - 1) (by omega) (by omega), Within_eq, Option.bind_some, isNameR_eq (by omega), Option.bind_some, wsucc (by omega), ih]
    unfold tailF
    rw [List.drop_eq_getElem_cons hi]
    rw [fErr_cons]
    unfold fe ne
    cases h1 : isNm fs[i].nm
    · simp
    · cases h2 : ((names fs).take i).contains fs[i].nm
      · by_cases h3 : 0 ≤ fs[i].b ∧ fs[i].b ≤ ((ws.length : Nat) : Int) - 1
        · cases h4 : isNm fs[i].fd
          · simp [h3]
          · simp only [h3, and_self, decide_true, Bool.not_true, cond_false, not_true_eq_false, if_false, Bool.true_eq_false, Bool.false_eq_true, ne_eq]
        · simp [h3]
      · simp
def tailB (ws : List (List UInt8)) (fs : List LF) (js : List JP) (ks : List KF) (uq : Bool) (rs : List RL) (i : Nat) : Int × Int :=
  if (bErr ws (ws.drop i) i).2 ≠ 0 then bErr ws (ws.drop i) i else if fs.length = 0 then (0, 1) else if fs.length > 20 then (0, 2) else tailF ws fs js ks uq rs 0
theorem checkR8 (hn : 10001 ≤ n) (hw : 1 ≤ ws.length ∧ ws.length ≤ 1000) (hf : fs.length ≤ 1000) (hj : js.length ≤ 1000) (hk : ks.length ≤ 1000) (hr : rs.length ≤ 1000) (hc : ∀ r ∈ rs, r.cs.length ≤ 1000) : ∀ (d i m : Nat), i + d = ws.length → d + 7001 ≤ m →
    Q2s.l n m (.z8 i nm fm (Ws ws) (fs.map LF.av) (js.map JP.av) (ks.map KF.av) uq (rs.map RL.av)) = some (tailB ws fs js ks uq rs i)
  | 0, i, m, h, hm => by
    obtain ⟨m, rfl⟩ : ∃ q, m = q + 1 := ⟨m - 1, by omega⟩
    rw [Q2s.at8]
    unfold Q2s.r8 tailB
    simp only [List.length_map, Ws_length]
    rw [cond_f (by omega), List.drop_of_length_le (by omega), beq_int]
    show _ = some (if (0 : Int) ≠ 0 then _ else _)
    rw [if_neg (by simp : ¬ (0 : Int) ≠ 0)]
    by_cases h0 : fs.length = 0
    · rw [cond_t (by omega), if_pos h0]
    · rw [cond_f (by omega), if_neg h0]
      by_cases h20 : fs.length > 20
      · rw [cond_t (by omega), if_pos h20]
      · rw [cond_f (by omega), if_neg h20]
        exact checkR19 hn hw hf hj (.inr hk) hr hc fs.length 0 m (by omega) (by omega)
  | d + 1, i, m, h, hm => by
    obtain ⟨m, rfl⟩ : ∃ q, m = q + 1 := ⟨m - 1, by omega⟩
    have hi : i < ws.length := by omega
    have ih := checkR8 hn hw hf hj hk hr hc d (i + 1) m (by omega) (by omega)
    have hlt := ixs_lt ws ws[i] 0 i hi (List.getElem?_eq_getElem hi)
    rw [Nat.zero_add] at hlt
    rw [Q2s.at8]
    unfold Q2s.r8
    simp only [Ws_length]
    rw [cond_t (by omega), within_t hi, cond_true, Ws_getD hi]
    show ((Q1t.F n (bs ws[i])).bind fun p9 => bif !p9 then (some ((i : Int), 7)) else (bif true then ((Q1r.F n (Ws ws) (bs ws[i])).bind fun p13 => bif decide (p13 < (i : Int)) then (some ((i : Int), 13)) else
      Q2s.l n m (.z8 (IntKind.i64.wrap ((i : Int) + 1)) nm fm (Ws ws) (fs.map LF.av) (js.map JP.av) (ks.map KF.av) uq (rs.map RL.av))) else none)) = _
    rw [cond_true, isNameR_eq (by omega), Option.bind_some, indexOf_eq (by omega) ws hw.2, Option.bind_some, hlt, wsucc (by omega), ih]
    unfold tailB
    rw [List.drop_eq_getElem_cons hi]
    rw [bErr_cons]
    unfold ne
    cases h1 : isNm ws[i]
    · simp
    · cases h2 : (ws.take i).contains ws[i]
      · simp only [Bool.not_true, cond_false, Bool.true_eq_false, if_false, Bool.false_eq_true, ne_eq, not_true_eq_false]
      · simp
theorem checkRef_eq (hn : 20010 ≤ n) (nm fm : List UInt8) (hw : ws.length ≤ 1000) (hf : fs.length ≤ 1000) (hj : js.length ≤ 1000) (hk : ks.length ≤ 1000) (hr : rs.length ≤ 1000) (hc : ∀ r ∈ rs, r.cs.length ≤ 1000) :
    Q2s.F n (bs nm) (bs fm) (Ws ws) (fs.map LF.av) (js.map JP.av) (ks.map KF.av) uq (rs.map RL.av) = some (chkL nm fm ws fs js ks uq rs) := by
  unfold Q2s.F Q2s.e chkL
  rw [isNameR_eq (by omega), Option.bind_some, isNameR_eq (by omega), Option.bind_some]
  cases hnm : isNm nm with
  | false => rfl
  | true =>
    cases hfm : isNm fm with
    | false => rfl
    | true =>
      simp only [Bool.not_true, cond_false, Bool.true_eq_false, if_false, Ws_length]
      rw [beq_int]
      unfold bErrT
      by_cases h0 : ws.length = 0
      · rw [cond_t (by omega)]; simp [h0]
      · rw [cond_f (by omega)]
        by_cases h3 : ws.length > 3
        · rw [cond_t (by omega)]; simp [h0, h3]
        · have h8 : Q2s.l n n (.z8 0 (bs nm) (bs fm) (Ws ws) (fs.map LF.av) (js.map JP.av) (ks.map KF.av) uq (rs.map RL.av)) = some (tailB ws fs js ks uq rs 0) := checkR8 (by omega) ⟨by omega, hw⟩ hf hj hk hr hc ws.length 0 n (by omega) (by omega)
          rw [cond_f (by omega), h8]
          simp only [h0, h3, if_false]
          unfold tailB tailF tailK tailR fErrT kErrT rErrT
          simp only [List.drop_zero]
          by_cases hb : (bErr ws ws 0).2 = 0
          · simp only [hb, ne_eq, not_true_eq_false, if_false]
            by_cases f0 : fs.length = 0
            · simp [f0]
            · by_cases f20 : fs.length > 20
              · simp [f0, f20]
              · simp only [f0, f20, if_false]
                by_cases hfe : (fErr ((ws.length : Int) - 1) (names fs) fs 0).2 = 0
                · simp only [hfe, not_true_eq_false, if_false]
                  by_cases hje : (jErrT ws js).2 = 0
                  · simp only [hje, not_true_eq_false, if_false]
                    by_cases k4 : ks.length > 4
                    · simp [k4]
                    · simp only [k4, if_false]
                      by_cases hke : (kErr (names fs) (knames ks) ks 0).2 = 0
                      · simp only [hke, not_true_eq_false, if_false]
                        by_cases r8 : rs.length > 8
                        · simp [r8]
                        · simp only [r8, if_false]
                      · simp only [hke, not_false_eq_true, if_true]
                  · simp only [hje, not_false_eq_true, if_true]
                · simp only [hfe, not_false_eq_true, if_true]
          · simp only [hb, ne_eq, not_false_eq_true, if_true]
theorem own_l (rs : List RL) (hr : rs.length ≤ 1000) (hc : ∀ r ∈ rs, r.cs.length ≤ 1000) (p1 a3 a4 a5 : List AV) (x y : ByteArray) (b : Bool) : ∀ (d i m : Nat), i + d = rs.length → d < m →
    Q30.l n m (.z7 i nm fm uq (rs.map RL.av) p1 a3 a4 a5 x y b ((rs.take i).map RL.av)) = some (nm, fm, p1, a3, a4, a5, uq, rs.map RL.av)
  | _, _, 0, _, h => absurd h (by omega)
  | 0, i, m + 1, h, _ => by
    rw [Q30.at7]
    unfold Q30.r7
    simp only [List.length_map]
    rw [cond_f (by omega), List.take_of_length_le (by omega)]
  | d + 1, i, m + 1, h, hm => by
    have hi : i < rs.length := by omega
    have hci := hc _ (List.getElem_mem hi)
    have hmost : most = 1000000000 := rfl
    have ih := own_l rs hr hc p1 a3 a4 a5 x y b d (i + 1) m (by omega) (by omega)
    rw [Q30.at7]
    unfold Q30.r7
    simp only [List.length_map]
    rw [cond_t (by omega), within_t hi, cond_true, at_map RL.av hi]
    show (bif true then (bif decide ((rs[i].cs.map CN.av).length ≤ most) then (bif decide ((rs.take i).length + 1 ≤ most) then
      (Q30.l n m (.z7 (IntKind.i64.wrap ((i : Int) + 1)) nm fm uq (rs.map RL.av) p1 a3 a4 a5 x y b ((rs.take i).map RL.av ++ [RL.av rs[i]]))) else none) else none) else none) = _
    rw [cond_true, cond_t (by rw [List.length_map]; omega), cond_t (by rw [List.length_take]; omega), wsucc (by omega)]
    have e : (rs.take i).map RL.av ++ [RL.av rs[i]] = (rs.take (i + 1)).map RL.av := by rw [List.take_succ_eq_append_getElem hi, List.map_append]; rfl
    rw [e]
    exact ih
theorem own_eq (hn : 1001 ≤ n) (hw : ws.length ≤ 1000) (hf : fs.length ≤ 1000) (hj : js.length ≤ 1000) (hk : ks.length ≤ 1000) (hr : rs.length ≤ 1000) (hc : ∀ r ∈ rs, r.cs.length ≤ 1000) :
    Q30.F n nm fm (Ws ws) (fs.map LF.av) (js.map JP.av) (ks.map KF.av) uq (rs.map RL.av) = some (nm, fm, Ws ws, fs.map LF.av, js.map JP.av, ks.map KF.av, uq, rs.map RL.av) := by
  have hmost : most = 1000000000 := rfl
  unfold Q30.F Q30.e Q1o.F Q1o.e
  rw [cond_t (by rw [Ws_length]; omega), Option.bind_some, cond_t (by rw [List.length_map]; omega), cond_t (by rw [List.length_map]; omega), cond_t (by rw [List.length_map]; omega)]
  exact own_l rs hr hc _ _ _ _ _ _ _ rs.length 0 n (by omega) (by omega)
end
end Go.Proofs.YtmpglmcjoelciaaGreatDoor.Ev
namespace Go.Proofs.YtmpglmcjoelciaaGreatDoor.Ev
open Go Go.Proofs Go.Proofs.Ev
set_option linter.unusedVariables false
set_option linter.unusedSimpArgs false
theorem ixs_find {α : Type} (f : α → List UInt8) (s : List UInt8) : ∀ (l : List α) (i : Nat), (l.find? (fun x => f x == s) = none ∧ ixs (l.map f) s i = -1) ∨ ∃ j, ∃ h : j < l.length, l.find? (fun x => f x == s) = some l[j] ∧ ixs (l.map f) s i = ((i + j : Nat) : Int)
  | [], i => .inl ⟨rfl, rfl⟩
  | x :: l, i => by
    rw [List.map_cons, ixs_cons, List.find?_cons]
    by_cases h : f x = s
    · refine .inr ⟨0, by simp, ?_⟩
      have : (f x == s) = true := by simpa using h
      rw [this, if_pos h]
      simp
    · have : (f x == s) = false := by simpa using h
      rw [this, if_neg h]
      rcases ixs_find f s l (i + 1) with ⟨h1, h2⟩ | ⟨j, hj, h1, h2⟩
      · exact .inl ⟨h1, h2⟩
      · refine .inr ⟨j + 1, by simpa using hj, h1, ?_⟩
        rw [h2]
        congr 1
        omega
theorem nm_of_ne {b : List (List UInt8)} {s : List UInt8} (h : ne b s = 0) : isNm s = true ∧ b.contains s = false := by
  unfold ne at h
  cases h1 : isNm s
  · rw [h1] at h; cases h
  · rw [h1, if_neg (by simp)] at h
    cases h2 : b.contains s
    · exact ⟨rfl, rfl⟩
    · rw [h2, if_pos rfl] at h; cases h
theorem bErr_ok {ws : List (List UInt8)} : ∀ {l : List (List UInt8)} {i : Nat}, (bErr ws l i).2 = 0 → ∀ w ∈ l, isNm w = true
  | [], _, _ => by simp
  | w :: l, i, h => by
    rw [bErr_cons] at h
    by_cases h0 : ne (ws.take i) w = 0
    · rw [if_neg (by simp [h0])] at h
      intro v hv
      rcases List.mem_cons.1 hv with rfl | hv
      · exact (nm_of_ne h0).1
      · exact bErr_ok h v hv
    · rw [if_pos h0] at h; exact absurd h h0
structure FOk (nb : Int) (f : LF) : Prop where
  nm : isNm f.nm = true
  b0 : 0 ≤ f.b
  b1 : f.b ≤ nb
  fd : isNm f.fd = true
theorem fe_ok {nb : Int} {b : List (List UInt8)} {f : LF} (h : fe nb b f = 0) : FOk nb f := by
  unfold fe at h
  by_cases h1 : ne b f.nm = 0
  · rw [if_neg (by simp [h1])] at h
    by_cases h2 : 0 ≤ f.b ∧ f.b ≤ nb
    · rw [if_neg (by simp [h2])] at h
      cases h3 : isNm f.fd
      · rw [h3] at h; cases h
      · exact ⟨(nm_of_ne h1).1, h2.1, h2.2, h3⟩
    · rw [if_pos h2] at h; cases h
  · rw [if_pos h1] at h; exact absurd h h1
theorem fErr_ok {nb : Int} {ns : List (List UInt8)} : ∀ {l : List LF} {i : Nat}, (fErr nb ns l i).2 = 0 → ∀ f ∈ l, FOk nb f
  | [], _, _ => by simp
  | f :: l, i, h => by
    rw [fErr_cons] at h
    by_cases h0 : fe nb (ns.take i) f = 0
    · rw [if_neg (by simp [h0])] at h
      intro v hv
      rcases List.mem_cons.1 hv with rfl | hv
      · exact fe_ok h0
      · exact fErr_ok h v hv
    · rw [if_pos h0] at h; exact absurd h h0
structure JOk (nb : Int) (j : JP) : Prop where
  b0 : 1 ≤ j.b
  b1 : j.b ≤ nb
  f0 : 0 ≤ j.fr
  f1 : j.fr ≤ j.b - 1
  lf : isNm j.lf = true
  rt : isNm j.rt = true
theorem je_ok {nb last : Int} {j : JP} (h : je nb last j = 0) : JOk nb j := by
  unfold je at h
  by_cases h1 : 1 ≤ j.b ∧ j.b ≤ nb
  · rw [if_neg (by simp [h1])] at h
    by_cases h2 : 0 ≤ j.fr ∧ j.fr ≤ j.b - 1
    · rw [if_neg (by simp [h2])] at h
      cases h3 : isNm j.lf
      · rw [h3] at h; cases h
      · cases h4 : isNm j.rt
        · rw [h3, h4] at h; cases h
        · exact ⟨h1.1, h1.2, h2.1, h2.2, h3, h4⟩
    · rw [if_pos h2] at h; cases h
  · rw [if_pos h1] at h; cases h
theorem jErr_ok {nb : Int} : ∀ {l : List JP} {i : Nat} {last : Int} {ts : List Bool}, (jErr nb l i last ts).2 = 0 → ∀ j ∈ l, JOk nb j
  | [], _, _, _, _ => by simp
  | j :: l, i, last, ts, h => by
    rw [jErr_cons] at h
    by_cases h0 : je nb last j = 0
    · rw [if_neg (by simp [h0])] at h
      intro v hv
      rcases List.mem_cons.1 hv with rfl | hv
      · exact je_ok h0
      · exact jErr_ok h v hv
    · rw [if_pos h0] at h; exact absurd h h0
theorem kErr_ok {ns kn : List (List UInt8)} : ∀ {l : List KF} {i : Nat}, (kErr ns kn l i).2 = 0 → ∀ k ∈ l, ns.contains k.nm = true
  | [], _, _ => by simp
  | k :: l, i, h => by
    rw [kErr_cons] at h
    by_cases h0 : ke ns (kn.take i) k = 0
    · rw [if_neg (by simp [h0])] at h
      intro v hv
      rcases List.mem_cons.1 hv with rfl | hv
      · unfold ke at h0
        cases h1 : ns.contains v.nm
        · rw [h1] at h0; cases h0
        · rfl
      · exact kErr_ok h v hv
    · rw [if_pos h0] at h; exact absurd h h0
structure COk (ns : List (List UInt8)) (c : CN) : Prop where
  fd : ns.contains c.fd = true
  o0 : 0 ≤ c.op
  o1 : c.op ≤ 5
  n0 : -999999999999999 ≤ c.n
  n1 : c.n ≤ 999999999999999
  sl : c.s.length ≤ 256
  one : c.n = 0 ∨ c.s = []
theorem ce_ok {ns : List (List UInt8)} {c : CN} (h : ce ns c = 0) : COk ns c := by
  unfold ce at h
  cases h1 : ns.contains c.fd
  · rw [h1] at h; cases h
  · rw [h1, if_neg (by simp)] at h
    by_cases h2 : 0 ≤ c.op ∧ c.op ≤ 5
    · rw [if_neg (by simp [h2])] at h
      by_cases h3 : -999999999999999 ≤ c.n ∧ c.n ≤ 999999999999999
      · rw [if_neg (by simp [h3])] at h
        by_cases h4 : c.s.length > 256
        · rw [if_pos h4] at h; cases h
        · rw [if_neg h4] at h
          by_cases h5 : c.n ≠ 0 ∧ c.s ≠ []
          · rw [if_pos h5] at h; cases h
          · refine ⟨h1, h2.1, h2.2, h3.1, h3.2, by omega, ?_⟩
            by_cases h6 : c.n = 0
            · exact .inl h6
            · exact .inr (Classical.byContradiction fun h7 => h5 ⟨h6, h7⟩)
      · rw [if_pos h3] at h; cases h
    · rw [if_pos h2] at h; cases h
theorem cErr_ok {ns : List (List UInt8)} : ∀ {l : List CN}, cErr ns l = 0 → ∀ c ∈ l, COk ns c
  | [], _ => by simp
  | c :: l, h => by
    rw [cErr_cons] at h
    by_cases h0 : ce ns c = 0
    · rw [if_neg (by simp [h0])] at h
      intro v hv
      rcases List.mem_cons.1 hv with rfl | hv
      · exact ce_ok h0
      · exact cErr_ok h v hv
    · rw [if_pos h0] at h; exact absurd h h0
structure ROk (ns : List (List UInt8)) (r : RL) : Prop where
  len : r.cs.length ≤ 4
  cs : ∀ c ∈ r.cs, COk ns c
theorem rErr_ok {ns : List (List UInt8)} : ∀ {l : List RL} {i : Nat}, (rErr ns l i).2 = 0 → ∀ r ∈ l, ROk ns r
  | [], _, _ => by simp
  | r :: l, i, h => by
    rw [rErr_cons] at h
    by_cases h0 : re ns r = 0
    · rw [if_neg (by simp [h0])] at h
      intro v hv
      rcases List.mem_cons.1 hv with rfl | hv
      · unfold re at h0
        by_cases h1 : v.cs.length > 4
        · rw [if_pos h1] at h0; cases h0
        · rw [if_neg h1] at h0
          exact ⟨by omega, cErr_ok h0⟩
      · exact rErr_ok h v hv
    · rw [if_pos h0] at h; exact absurd h h0
structure LOk (nm fm : List UInt8) (ws : List (List UInt8)) (fs : List LF) (js : List JP) (ks : List KF) (uq : Bool) (rs : List RL) : Prop where
  nm : isNm nm = true
  fm : isNm fm = true
  w0 : 1 ≤ ws.length
  w1 : ws.length ≤ 3
  wsn : ∀ w ∈ ws, isNm w = true
  f0 : 1 ≤ fs.length
  f1 : fs.length ≤ 20
  fso : ∀ f ∈ fs, FOk ((ws.length : Int) - 1) f
  j1 : js.length ≤ 20
  jso : ∀ j ∈ js, JOk ((ws.length : Int) - 1) j
  k1 : ks.length ≤ 4
  kso : ∀ k ∈ ks, (names fs).contains k.nm = true
  ke : (kErrT (names fs) ks).2 = 0
  r1 : rs.length ≤ 8
  rso : ∀ r ∈ rs, ROk (names fs) r
theorem chkL_ok {nm fm : List UInt8} {ws : List (List UInt8)} {fs : List LF} {js : List JP} {ks : List KF} {uq : Bool} {rs : List RL} (h : (chkL nm fm ws fs js ks uq rs).2 = 0) : LOk nm fm ws fs js ks uq rs := by
  unfold chkL at h
  cases h1 : isNm nm
  · rw [h1] at h; cases h
  cases h2 : isNm fm
  · rw [h1, h2] at h; cases h
  rw [h1, h2, if_neg (by simp), if_neg (by simp)] at h
  by_cases h3 : (bErrT ws).2 = 0
  case neg => rw [if_pos h3] at h; exact absurd h h3
  rw [if_neg (by simp [h3])] at h
  by_cases h4 : (fErrT ws fs).2 = 0
  case neg => rw [if_pos h4] at h; exact absurd h h4
  rw [if_neg (by simp [h4])] at h
  by_cases h5 : (jErrT ws js).2 = 0
  case neg => rw [if_pos h5] at h; exact absurd h h5
  rw [if_neg (by simp [h5])] at h
  by_cases h6 : (kErrT (names fs) ks).2 = 0
  case neg => rw [if_pos h6] at h; exact absurd h h6
  rw [if_neg (by simp [h6])] at h
  by_cases h7 : (rErrT (names fs) rs).2 = 0
  case neg => rw [if_pos h7] at h; exact absurd h h7
  clear h
  have h6' := h6
  unfold bErrT at h3
  unfold fErrT at h4
  unfold jErrT at h5
  unfold kErrT at h6
  unfold rErrT at h7
  by_cases a1 : ws.length = 0
  · rw [if_pos a1] at h3; cases h3
  by_cases a2 : ws.length > 3
  · rw [if_neg a1, if_pos a2] at h3; cases h3
  rw [if_neg a1, if_neg a2] at h3
  by_cases a3 : fs.length = 0
  · rw [if_pos a3] at h4; cases h4
  by_cases a4 : fs.length > 20
  · rw [if_neg a3, if_pos a4] at h4; cases h4
  rw [if_neg a3, if_neg a4] at h4
  by_cases a5 : js.length > 20
  · rw [if_pos a5] at h5; cases h5
  rw [if_neg a5] at h5
  by_cases a6 : ks.length > 4
  · rw [if_pos a6] at h6; cases h6
  rw [if_neg a6] at h6
  by_cases a7 : rs.length > 8
  · rw [if_pos a7] at h7; cases h7
  rw [if_neg a7] at h7
  exact ⟨h1, h2, by omega, by omega, bErr_ok h3, by omega, by omega, fErr_ok h4, by omega, jErr_ok h5, by omega, kErr_ok h6, h6', by omega, rErr_ok h7⟩
end Go.Proofs.YtmpglmcjoelciaaGreatDoor.Ev
namespace Go.Proofs.YtmpglmcjoelciaaGreatDoor.Ev
open Go Go.Proofs Go.Proofs.Ev
set_option linter.unusedVariables false
set_option linter.unusedSimpArgs false
structure FL where
  nm : List UInt8
  fm : List UInt8
  ds : List FD
  ks : List KF
  uq : Bool
  deriving Inhabited
def FL.av (x : FL) : AV := .agg [vs (bs x.nm), vs (bs x.fm), .sl ⟨true, 125⟩ 4 (x.ds.map FD.av), .sl ⟨true, 111⟩ 2 (x.ks.map KF.av), vb x.uq]
def fnames (gs : List FL) : List (List UInt8) := gs.map FL.nm
theorem fnames_length (gs : List FL) : (fnames gs).length = gs.length := by simp [fnames]
def FL.few (g : FL) : Prop := g.ds.length ≤ 1000 ∧ g.ks.length ≤ 1000
def tyIn (ds : List FD) (s : List UInt8) : Int × Int × Int × Bool := match ds.find? (fun f => f.nm == s) with
  | some f => (f.k, f.l, f.s, true)
  | none => (0, 0, 0, false)
def flE (ns : List (List UInt8)) : List FL → Nat → Int
  | [], _ => 0
  | g :: r, i => if fileE g.nm g.fm g.ds g.ks ≠ 0 then fileE g.nm g.fm g.ds g.ks else if (ns.take i).contains g.nm then 13 else flE ns r (i + 1)
theorem flE_cons (ns : List (List UInt8)) (g : FL) (r : List FL) (i : Nat) : flE ns (g :: r) i = if fileE g.nm g.fm g.ds g.ks ≠ 0 then fileE g.nm g.fm g.ds g.ks else if (ns.take i).contains g.nm then 13 else flE ns r (i + 1) := rfl
def filesE (gs : List FL) : Int := if gs.length > 8 then 2 else flE (fnames gs) gs 0
section
variable {n : Nat} {nm fm : ByteArray}
theorem fieldIx_l (ds : List FD) (hd : ds.length ≤ 1000) (s : List UInt8) : ∀ (d i m : Nat), i + d = ds.length → d < m → Q00.l n m (.z2 (ds.map FD.av) ds.length i (bs s)) = some (ixs ((dnames ds).drop i) s i, bs s)
  | _, _, 0, _, h => absurd h (by omega)
  | 0, i, m + 1, h, _ => by
    have hl := dnames_length ds
    rw [Q00.at2]
    unfold Q00.r2
    simp (disch := omega) only [Option.bind_some, Option.bind_none, cond_true, cond_false, Bool.not_true, Bool.not_false, List.length_map, Ws_length, bs_size, within_t, upto_t, wsucc, Int.toNat_natCast, at_mapN, Ws_getDN, cells_agg, cells_v, withCons_cons, withInt_mk, withStr_mk, withBool_mk, withSl_mk, cond_t, cond_f]
    rw [List.drop_of_length_le (by omega)]
    rfl
  | d + 1, i, m + 1, h, hm => by
    have hi : i < ds.length := by omega
    have hl := dnames_length ds
    have ih := fieldIx_l ds hd s d (i + 1) m (by omega) (by omega)
    rw [Q00.at2]
    unfold Q00.r2
    simp (disch := omega) only [Option.bind_some, Option.bind_none, cond_true, cond_false, Bool.not_true, Bool.not_false, List.length_map, Ws_length, bs_size, within_t, upto_t, wsucc, Int.toNat_natCast, at_mapN, Ws_getDN, cells_agg, cells_v, withCons_cons, withInt_mk, withStr_mk, withBool_mk, withSl_mk, cond_t, cond_f, FD.av, Q1h.F, Q1h.e, str_eq, ih]
    rw [List.drop_eq_getElem_cons (by omega : i < (dnames ds).length), ixs_cons, dnames_get hi, bif_ite, some_ite]
    by_cases h0 : ds[i].nm = s <;> simp [h0]
theorem typeIn_eq (hn : 1001 ≤ n) (ds : List FD) (hd : ds.length ≤ 1000) (s : List UInt8) (a3 : List AV) (a4 : Bool) : Q1g.F n nm fm (ds.map FD.av) a3 a4 (bs s) = some (tyIn ds s) := by
  unfold Q1g.F Q1g.e Q00.F Q00.e tyIn
  have := fieldIx_l (n := n) ds hd s ds.length 0 n (by omega) (by omega)
  rw [List.drop_zero] at this
  have e0 : ((0 : Nat) : Int) = 0 := rfl
  rw [e0] at this
  simp (disch := omega) only [Option.bind_some, Option.bind_none, cond_true, cond_false, Bool.not_true, Bool.not_false, List.length_map, Ws_length, bs_size, within_t, upto_t, wsucc, Int.toNat_natCast, at_mapN, Ws_getDN, cells_agg, cells_v, withCons_cons, withInt_mk, withStr_mk, withBool_mk, withSl_mk, cond_t, cond_f, this]
  rcases ixs_find FD.nm s ds 0 with ⟨h1, h2⟩ | ⟨j, hj, h1, h2⟩
  · rw [h1, show ixs (dnames ds) s 0 = -1 from h2]
    rfl
  · rw [h1, show ixs (dnames ds) s 0 = ((0 + j : Nat) : Int) from h2, Nat.zero_add]
    simp (disch := omega) only [Option.bind_some, Option.bind_none, cond_true, cond_false, Bool.not_true, Bool.not_false, List.length_map, Ws_length, bs_size, within_t, upto_t, wsucc, Int.toNat_natCast, at_mapN, Ws_getDN, cells_agg, cells_v, withCons_cons, withInt_mk, withStr_mk, withBool_mk, withSl_mk, cond_t, cond_f, FD.av, List.drop_succ_cons, List.drop_zero]
theorem fileIx_l (gs : List FL) (hg : gs.length ≤ 1000) (s : List UInt8) : ∀ (d i m : Nat), i + d = gs.length → d < m → Q03.l n m (.z2 (gs.map FL.av) gs.length i (bs s)) = some (ixs ((fnames gs).drop i) s i, bs s)
  | _, _, 0, _, h => absurd h (by omega)
  | 0, i, m + 1, h, _ => by
    have hl := fnames_length gs
    rw [Q03.at2]
    unfold Q03.r2
    simp (disch := omega) only [Option.bind_some, Option.bind_none, cond_true, cond_false, Bool.not_true, Bool.not_false, List.length_map, Ws_length, bs_size, within_t, upto_t, wsucc, Int.toNat_natCast, at_mapN, Ws_getDN, cells_agg, cells_v, withCons_cons, withInt_mk, withStr_mk, withBool_mk, withSl_mk, cond_t, cond_f]
    rw [List.drop_of_length_le (by omega)]
    rfl
  | d + 1, i, m + 1, h, hm => by
    have hi : i < gs.length := by omega
    have hl := fnames_length gs
    have ih := fileIx_l gs hg s d (i + 1) m (by omega) (by omega)
    rw [Q03.at2]
    unfold Q03.r2
    simp (disch := omega) only [Option.bind_some, Option.bind_none, cond_true, cond_false, Bool.not_true, Bool.not_false, List.length_map, Ws_length, bs_size, within_t, upto_t, wsucc, Int.toNat_natCast, at_mapN, Ws_getDN, cells_agg, cells_v, withCons_cons, withInt_mk, withStr_mk, withBool_mk, withSl_mk, cond_t, cond_f, FL.av, Q12.F, Q12.e, str_eq, ih]
    rw [List.drop_eq_getElem_cons (by omega : i < (fnames gs).length), ixs_cons, show (fnames gs)[i] = gs[i].nm by simp [fnames], bif_ite, some_ite]
    by_cases h0 : gs[i].nm = s <;> simp [h0]
theorem fileIx_eq (hn : 1001 ≤ n) (gs : List FL) (hg : gs.length ≤ 1000) (s : List UInt8) : Q03.F n (gs.map FL.av) (bs s) = some (ixs (fnames gs) s 0, bs s) := by
  unfold Q03.F Q03.e
  have := fileIx_l (n := n) gs hg s gs.length 0 n (by omega) (by omega)
  rw [List.drop_zero] at this
  rw [List.length_map]
  exact this
theorem fileIy_l (gs : List FL) (hg : gs.length ≤ 1000) (s : List UInt8) (y : ByteArray) (a3 a4 : List AV) (b : Bool) : ∀ (d i m : Nat), i + d = gs.length → d < m → Q02.l n m (.z2 (gs.map FL.av) gs.length i (bs s) y a3 a4 b) = some (ixs ((fnames gs).drop i) s i, bs s, y, a3, a4, b)
  | _, _, 0, _, h => absurd h (by omega)
  | 0, i, m + 1, h, _ => by
    have hl := fnames_length gs
    rw [Q02.at2]
    unfold Q02.r2
    simp (disch := omega) only [Option.bind_some, Option.bind_none, cond_true, cond_false, Bool.not_true, Bool.not_false, List.length_map, Ws_length, bs_size, within_t, upto_t, wsucc, Int.toNat_natCast, at_mapN, Ws_getDN, cells_agg, cells_v, withCons_cons, withInt_mk, withStr_mk, withBool_mk, withSl_mk, cond_t, cond_f]
    rw [List.drop_of_length_le (by omega)]
    rfl
  | d + 1, i, m + 1, h, hm => by
    have hi : i < gs.length := by omega
    have hl := fnames_length gs
    have ih := fileIy_l gs hg s y a3 a4 b d (i + 1) m (by omega) (by omega)
    rw [Q02.at2]
    unfold Q02.r2
    simp (disch := omega) only [Option.bind_some, Option.bind_none, cond_true, cond_false, Bool.not_true, Bool.not_false, List.length_map, Ws_length, bs_size, within_t, upto_t, wsucc, Int.toNat_natCast, at_mapN, Ws_getDN, cells_agg, cells_v, withCons_cons, withInt_mk, withStr_mk, withBool_mk, withSl_mk, cond_t, cond_f, FL.av, Q0l.F, Q0l.e, str_eq, ih]
    rw [List.drop_eq_getElem_cons (by omega : i < (fnames gs).length), ixs_cons, show (fnames gs)[i] = gs[i].nm by simp [fnames], bif_ite, some_ite]
    by_cases h0 : gs[i].nm = s <;> simp [h0]
theorem fileIy_eq (hn : 1001 ≤ n) (gs : List FL) (hg : gs.length ≤ 1000) (s : List UInt8) (y : ByteArray) (a3 a4 : List AV) (b : Bool) : Q01.F n (gs.map FL.av) (bs s) y a3 a4 b = some ((fnames gs).contains s, bs s, y, a3, a4, b) := by
  unfold Q01.F Q01.e Q02.F Q02.e
  have := fileIy_l (n := n) gs hg s y a3 a4 b gs.length 0 n (by omega) (by omega)
  rw [List.drop_zero] at this
  have e0 : ((0 : Nat) : Int) = 0 := rfl
  rw [e0] at this
  simp (disch := omega) only [Option.bind_some, Option.bind_none, cond_true, cond_false, Bool.not_true, Bool.not_false, List.length_map, Ws_length, bs_size, within_t, upto_t, wsucc, Int.toNat_natCast, at_mapN, Ws_getDN, cells_agg, cells_v, withCons_cons, withInt_mk, withStr_mk, withBool_mk, withSl_mk, cond_t, cond_f, this]
  rw [ixs_has]
theorem filesErr_l (hn : 1001 ≤ n) (gs : List FL) (hg : gs.length ≤ 1000) (hf : ∀ g ∈ gs, g.few) : ∀ (d i m : Nat), i + d = gs.length → d < m → Q0k.l n m (.z4 (gs.map FL.av) (gs.map FL.av) gs.length i) = some (flE (fnames gs) (gs.drop i) i)
  | _, _, 0, _, h => absurd h (by omega)
  | 0, i, m + 1, h, _ => by
    rw [Q0k.at4]
    unfold Q0k.r4
    simp (disch := omega) only [Option.bind_some, Option.bind_none, cond_true, cond_false, Bool.not_true, Bool.not_false, List.length_map, Ws_length, bs_size, within_t, upto_t, wsucc, Int.toNat_natCast, at_mapN, Ws_getDN, cells_agg, cells_v, withCons_cons, withInt_mk, withStr_mk, withBool_mk, withSl_mk, cond_t, cond_f]
    rw [List.drop_of_length_le (by omega)]
    rfl
  | d + 1, i, m + 1, h, hm => by
    have hi : i < gs.length := by omega
    have hfe := hf gs[i] (List.getElem_mem hi)
    have ih := filesErr_l hn gs hg hf d (i + 1) m (by omega) (by omega)
    rw [Q0k.at4]
    unfold Q0k.r4
    have et : (((gs.map FL.av).take i).drop 0) = (gs.take i).map FL.av := by simp [List.map_take]
    simp (disch := omega) only [Option.bind_some, Option.bind_none, cond_true, cond_false, Bool.not_true, Bool.not_false, List.length_map, Ws_length, bs_size, within_t, upto_t, wsucc, Int.toNat_natCast, at_mapN, Ws_getDN, cells_agg, cells_v, withCons_cons, withInt_mk, withStr_mk, withBool_mk, withSl_mk, cond_t, cond_f, FL.av, et]
    rw [fileIy_eq hn _ (by rw [List.length_take]; omega)]
    simp (disch := omega) only [Option.bind_some, Option.bind_none, cond_true, cond_false, Bool.not_true, Bool.not_false, List.length_map, Ws_length, bs_size, within_t, upto_t, wsucc, Int.toNat_natCast, at_mapN, Ws_getDN, cells_agg, cells_v, withCons_cons, withInt_mk, withStr_mk, withBool_mk, withSl_mk, cond_t, cond_f]
    rw [fileErr_eq hn _ _ _ hfe.1 _ hfe.2]
    simp (disch := omega) only [Option.bind_some, Option.bind_none, cond_true, cond_false, Bool.not_true, Bool.not_false, List.length_map, Ws_length, bs_size, within_t, upto_t, wsucc, Int.toNat_natCast, at_mapN, Ws_getDN, cells_agg, cells_v, withCons_cons, withInt_mk, withStr_mk, withBool_mk, withSl_mk, cond_t, cond_f, cond_eq]
    rw [first2 hn, ih]
    simp (disch := omega) only [Option.bind_some, Option.bind_none, cond_true, cond_false, Bool.not_true, Bool.not_false, List.length_map, Ws_length, bs_size, within_t, upto_t, wsucc, Int.toNat_natCast, at_mapN, Ws_getDN, cells_agg, cells_v, withCons_cons, withInt_mk, withStr_mk, withBool_mk, withSl_mk, cond_t, cond_f]
    rw [bif_ne, List.drop_eq_getElem_cons hi, flE_cons, show fnames (gs.take i) = (fnames gs).take i by simp [fnames, List.map_take]]
    by_cases h1 : fileE gs[i].nm gs[i].fm gs[i].ds gs[i].ks = 0
    · cases h2 : ((fnames gs).take i).contains gs[i].nm <;> simp [h1, h2]
    · simp [h1]
theorem filesErr_eq (hn : 1001 ≤ n) (gs : List FL) (hg : gs.length ≤ 1000) (hf : ∀ g ∈ gs, g.few) : Q0k.F n (gs.map FL.av) = some (filesE gs) := by
  unfold Q0k.F Q0k.e filesE
  by_cases h : gs.length > 8
  · simp (disch := omega) only [Option.bind_some, Option.bind_none, cond_true, cond_false, Bool.not_true, Bool.not_false, List.length_map, Ws_length, bs_size, within_t, upto_t, wsucc, Int.toNat_natCast, at_mapN, Ws_getDN, cells_agg, cells_v, withCons_cons, withInt_mk, withStr_mk, withBool_mk, withSl_mk, cond_t, cond_f]
    rw [if_pos h]
  · simp (disch := omega) only [Option.bind_some, Option.bind_none, cond_true, cond_false, Bool.not_true, Bool.not_false, List.length_map, Ws_length, bs_size, within_t, upto_t, wsucc, Int.toNat_natCast, at_mapN, Ws_getDN, cells_agg, cells_v, withCons_cons, withInt_mk, withStr_mk, withBool_mk, withSl_mk, cond_t, cond_f]
    rw [if_neg h]
    have := filesErr_l hn gs hg hf gs.length 0 n (by omega) (by omega)
    rw [List.drop_zero] at this
    exact this
theorem npower_l (k : Nat) (hk : k ≤ 18) : ∀ (d i m : Nat), i + d = k → d < m → Q42.l n m (.z3 (((10 ^ i : Nat) : Int)) k i) = some (((10 ^ k : Nat) : Int))
  | _, _, 0, _, h => absurd h (by omega)
  | 0, i, m + 1, h, _ => by
    rw [Q42.at3]
    unfold Q42.r3
    simp (disch := omega) only [Option.bind_some, Option.bind_none, cond_true, cond_false, Bool.not_true, Bool.not_false, List.length_map, Ws_length, bs_size, within_t, upto_t, wsucc, Int.toNat_natCast, at_mapN, Ws_getDN, cells_agg, cells_v, withCons_cons, withInt_mk, withStr_mk, withBool_mk, withSl_mk, cond_t, cond_f]
    rw [show i = k by omega]
  | d + 1, i, m + 1, h, hm => by
    have ih := npower_l k hk d (i + 1) m (by omega) (by omega)
    have hp : 10 ^ (i + 1) ≤ 10 ^ 18 := Nat.pow_le_pow_right (by omega) (by omega)
    have h18 : (10 : Nat) ^ 18 = 1000000000000000000 := rfl
    have hs : 10 ^ (i + 1) = 10 ^ i * 10 := Nat.pow_succ ..
    have e1 : ((10 ^ i : Nat) : Int) * 10 = ((10 ^ (i + 1) : Nat) : Int) := by rw [hs]; omega
    rw [Q42.at3]
    unfold Q42.r3
    rw [cond_t (by omega), wsucc (by omega), e1, w64 (by omega) (by omega)]
    exact ih
theorem npower_eq (hn : 1001 ≤ n) (k : Nat) (hk : k ≤ 18) : Q42.F n k = some (((10 ^ k : Nat) : Int)) := by
  unfold Q42.F Q42.e
  have := npower_l (n := n) k hk k 0 n (by omega) (by omega)
  rw [show (if (18 : Int) < (k : Int) then 18 else (k : Int)) = (k : Int) by rw [if_neg (by omega)]]
  exact this
def vE (k l : Int) (N : Int) (s : List UInt8) : Int :=
  if k = 0 then (if N ≠ 0 then 17 else if (s.length : Int) > l then 18 else 0)
  else if s ≠ [] then 17 else if ¬ (-(10 ^ l.toNat - 1) ≤ N ∧ N ≤ 10 ^ l.toNat - 1) then 19 else 0
theorem numT {k l s : Int} (h : chkT k l s = 0) (h4 : k ≠ 4) (h0 : k ≠ 0) : ∃ j : Nat, l = j ∧ j ≤ 15 := by
  have := chkT_cases h
  exact ⟨l.toNat, by omega, by omega⟩
theorem pow15 {j : Nat} (h : j ≤ 15) : (10 : Int) ^ j = ((10 ^ j : Nat) : Int) ∧ 10 ^ j ≤ 1000000000000000 ∧ 1 ≤ 10 ^ j :=
  ⟨by simp, Nat.le_trans (Nat.pow_le_pow_right (by omega) h) (by decide), Nat.pos_of_ne_zero (by simp)⟩
theorem valueErr_eq (hn : 1001 ≤ n) {k l t : Int} (N : Int) (s : List UInt8) (h : chkT k l t = 0) (h4 : k ≠ 4) : Q1k.F n N (bs s) k l t = some (vE k l N s) := by
  unfold Q1k.F Q1k.e vE
  by_cases h0 : k = 0
  · simp (disch := omega) only [Option.bind_some, Option.bind_none, cond_true, cond_false, Bool.not_true, Bool.not_false, List.length_map, Ws_length, bs_size, within_t, upto_t, wsucc, Int.toNat_natCast, at_mapN, Ws_getDN, cells_agg, cells_v, withCons_cons, withInt_mk, withStr_mk, withBool_mk, withSl_mk, cond_t, cond_f, beq_int, cond_eq]
    rw [first2 hn, if_pos h0]
    simp (disch := omega) only [Option.bind_some, Option.bind_none, cond_true, cond_false, Bool.not_true, Bool.not_false, List.length_map, Ws_length, bs_size, within_t, upto_t, wsucc, Int.toNat_natCast, at_mapN, Ws_getDN, cells_agg, cells_v, withCons_cons, withInt_mk, withStr_mk, withBool_mk, withSl_mk, cond_t, cond_f]
    by_cases h1 : N = 0
    · simp [h1]
    · have : (N != 0) = true := by simp [h1]
      simp [h1, this]
  · obtain ⟨j, rfl, hj⟩ := numT h h4 h0
    obtain ⟨p1, p2, p3⟩ := pow15 hj
    simp (disch := omega) only [Option.bind_some, Option.bind_none, cond_true, cond_false, Bool.not_true, Bool.not_false, List.length_map, Ws_length, bs_size, within_t, upto_t, wsucc, Int.toNat_natCast, at_mapN, Ws_getDN, cells_agg, cells_v, withCons_cons, withInt_mk, withStr_mk, withBool_mk, withSl_mk, cond_t, cond_f, beq_int, cond_eq]
    rw [if_neg h0, empty_eq]
    unfold Q3u.F Q3u.e
    rw [check_eq hn, Option.bind_some, ncond_eq, Option.bind_some, h, nfirst2 hn, Option.bind_some, bif_ne]
    have e4 : (k == 4) = false := by rw [beq_int]; simpa using h4
    rw [e4, if_neg (by simp), beq_int, cond_f h0, npower_eq hn j (by omega)]
    simp (disch := omega) only [Option.bind_some, Option.bind_none, cond_true, cond_false, Bool.not_true, Bool.not_false, List.length_map, Ws_length, bs_size, within_t, upto_t, wsucc, Int.toNat_natCast, at_mapN, Ws_getDN, cells_agg, cells_v, withCons_cons, withInt_mk, withStr_mk, withBool_mk, withSl_mk, cond_t, cond_f, ncond_eq]
    rw [w64 (x := ((10 ^ j : Nat) : Int) - 1) (by omega) (by omega), w64 (x := 0 - (((10 ^ j : Nat) : Int) - 1)) (by omega) (by omega), in_eq]
    simp (disch := omega) only [Option.bind_some, Option.bind_none, cond_true, cond_false, Bool.not_true, Bool.not_false, List.length_map, Ws_length, bs_size, within_t, upto_t, wsucc, Int.toNat_natCast, at_mapN, Ws_getDN, cells_agg, cells_v, withCons_cons, withInt_mk, withStr_mk, withBool_mk, withSl_mk, cond_t, cond_f, ncond_eq]
    rw [nfirst2 hn, Option.bind_some, Option.bind_some, first2 hn, Option.bind_some]
    simp only [Int.toNat_natCast, p1, empty_eq]
    by_cases h1 : s = []
    · simp only [h1, decide_true, Bool.not_true, Bool.false_eq_true, if_false, ne_eq, not_true_eq_false]
      have : (0 - (((10 ^ j : Nat) : Int) - 1) ≤ N ∧ N ≤ ((10 ^ j : Nat) : Int) - 1) ↔ (-(((10 ^ j : Nat) : Int) - 1) ≤ N ∧ N ≤ ((10 ^ j : Nat) : Int) - 1) := by omega
      rw [show decide (0 - (((10 ^ j : Nat) : Int) - 1) ≤ N ∧ N ≤ ((10 ^ j : Nat) : Int) - 1) = decide (-(((10 ^ j : Nat) : Int) - 1) ≤ N ∧ N ≤ ((10 ^ j : Nat) : Int) - 1) from decide_eq_decide.2 this]
      by_cases h2 : -(((10 ^ j : Nat) : Int) - 1) ≤ N ∧ N ≤ ((10 ^ j : Nat) : Int) - 1
      · simp only [h2, and_self, decide_true, Bool.not_true, Bool.false_eq_true, if_false, not_true_eq_false]
      · simp only [h2, decide_false, Bool.not_false, if_true, not_false_eq_true]
    · simp [h1]
end
end Go.Proofs.YtmpglmcjoelciaaGreatDoor.Ev
namespace Go.Proofs.YtmpglmcjoelciaaGreatDoor.Ev
open Go Go.Proofs Go.Proofs.Ev
set_option linter.unusedVariables false
set_option linter.unusedSimpArgs false
def baseOf (gs : List FL) (w : List UInt8) : FL := (gs.find? (fun g => g.nm == w)).getD default
def bAt (B : List FL) (i : Int) : FL := B.getD i.toNat default
def mkF (B : List FL) (f : LF) : FD := ⟨f.nm, (tyIn (bAt B f.b).ds f.fd).1, (tyIn (bAt B f.b).ds f.fd).2.1, (tyIn (bAt B f.b).ds f.fd).2.2.1⟩
def ovC (F : List FD) : List CN → Int
  | [] => 0
  | c :: r => if vE (tyIn F c.fd).1 (tyIn F c.fd).2.1 c.n c.s ≠ 0 then vE (tyIn F c.fd).1 (tyIn F c.fd).2.1 c.n c.s else ovC F r
def ovR (F : List FD) : List RL → Nat → Int × Int
  | [], _ => (0, if szs F > 200 then 18 else 0)
  | r :: rs, i => if ovC F r.cs ≠ 0 then ((i : Int), ovC F r.cs) else ovR F rs (i + 1)
def pE (B : List FL) (j : JP) : Int :=
  if (tyIn (bAt B j.fr).ds j.lf).2.2.2 = false then 11 else if (tyIn (bAt B j.b).ds j.rt).2.2.2 = false then 11 else if tyIn (bAt B j.fr).ds j.lf ≠ tyIn (bAt B j.b).ds j.rt then 17 else 0
def ovJ (B : List FL) (F : List FD) (rs : List RL) : List JP → Nat → Int × Int
  | [], _ => ovR F rs 0
  | j :: r, i => if pE B j ≠ 0 then ((i : Int), pE B j) else ovJ B F rs r (i + 1)
def ovF (B : List FL) (F : List FD) (js : List JP) (rs : List RL) : List LF → Nat → Int × Int
  | [], _ => ovJ B F rs js 0
  | f :: r, i => if (tyIn (bAt B f.b).ds f.fd).2.2.2 = false then ((i : Int), 11) else ovF B F js rs r (i + 1)
def ovB (gs : List FL) (B : List FL) (F : List FD) (fs : List LF) (js : List JP) (rs : List RL) : List (List UInt8) → Nat → Int × Int
  | [], _ => ovF B F js rs fs 0
  | w :: r, i => if gs.find? (fun g => g.nm == w) = none then ((i : Int), 11) else ovB gs B F fs js rs r (i + 1)
def overT (gs : List FL) (ws : List (List UInt8)) (fs : List LF) (js : List JP) (rs : List RL) : Int × Int :=
  if filesE gs ≠ 0 then (0, filesE gs) else ovB gs (ws.map (baseOf gs)) (fs.map (mkF (ws.map (baseOf gs)))) fs js rs ws 0
theorem ovC_cons (F : List FD) (c : CN) (r : List CN) : ovC F (c :: r) = if vE (tyIn F c.fd).1 (tyIn F c.fd).2.1 c.n c.s ≠ 0 then vE (tyIn F c.fd).1 (tyIn F c.fd).2.1 c.n c.s else ovC F r := rfl
theorem ovR_cons (F : List FD) (r : RL) (rs : List RL) (i : Nat) : ovR F (r :: rs) i = if ovC F r.cs ≠ 0 then ((i : Int), ovC F r.cs) else ovR F rs (i + 1) := rfl
theorem ovJ_cons (B : List FL) (F : List FD) (rs : List RL) (j : JP) (r : List JP) (i : Nat) : ovJ B F rs (j :: r) i = if pE B j ≠ 0 then ((i : Int), pE B j) else ovJ B F rs r (i + 1) := rfl
theorem ovF_cons (B : List FL) (F : List FD) (js : List JP) (rs : List RL) (f : LF) (r : List LF) (i : Nat) : ovF B F js rs (f :: r) i = if (tyIn (bAt B f.b).ds f.fd).2.2.2 = false then ((i : Int), 11) else ovF B F js rs r (i + 1) := rfl
theorem ovB_cons (gs : List FL) (B : List FL) (F : List FD) (fs : List LF) (js : List JP) (rs : List RL) (w : List UInt8) (r : List (List UInt8)) (i : Nat) : ovB gs B F fs js rs (w :: r) i = if gs.find? (fun g => g.nm == w) = none then ((i : Int), 11) else ovB gs B F fs js rs r (i + 1) := rfl
def Ov (fm : ByteArray) (F : List FD) (p : Int × Int) (x : Option (ByteArray × List AV × Int × Int)) : Prop := ∃ a b, x = some (a, b, p.1, p.2) ∧ (p.2 = 0 → a = fm ∧ b = F.map FD.av)
theorem Ov.bad {fm : ByteArray} {F : List FD} {i e : Int} (h : e ≠ 0) : Ov fm F (i, e) (some (⟨#[]⟩, [], i, e)) := ⟨_, _, rfl, fun h' => absurd h' h⟩
section
variable {n : Nat} {nm fm : ByteArray}
structure OkF (F : List FD) (rs : List RL) : Prop where
  len : F.length ≤ 1000
  ok : okD F
  cs : ∀ r ∈ rs, r.cs.length ≤ 1000 ∧ ∀ c ∈ r.cs, chkT (tyIn F c.fd).1 (tyIn F c.fd).2.1 (tyIn F c.fd).2.2.1 = 0 ∧ (tyIn F c.fd).1 ≠ 4
theorem over30 (hn : 1001 ≤ n) (F : List FD) (rs : List RL) (hr : rs.length ≤ 1000) (hF : OkF F rs) (x : ByteArray) : ∀ (d i m : Nat), i + d = rs.length → 1010 * d + 1 ≤ m →
    Ov fm F (ovR F (rs.drop i) i) (Q11.l n m (.z30 (rs.map RL.av) rs.length i x fm (F.map FD.av)))
  | 0, i, m, h, hm => by
    obtain ⟨m, rfl⟩ : ∃ q, m = q + 1 := ⟨m - 1, by omega⟩
    rw [Q11.at30]
    unfold Q11.r30
    simp (disch := omega) only [Option.bind_some, Option.bind_none, cond_true, cond_false, Bool.not_true, Bool.not_false, List.length_map, Ws_length, bs_size, within_t, upto_t, wsucc, Int.toNat_natCast, at_mapN, Ws_getDN, cells_agg, cells_v, withCons_cons, withInt_mk, withStr_mk, withBool_mk, withSl_mk, cond_t, cond_f]
    rw [List.drop_of_length_le (show rs.length ≤ i by omega), dsize_eq hn F hF.len hF.ok]
    simp (disch := omega) only [Option.bind_some, Option.bind_none, cond_true, cond_false, Bool.not_true, Bool.not_false, List.length_map, Ws_length, bs_size, within_t, upto_t, wsucc, Int.toNat_natCast, at_mapN, Ws_getDN, cells_agg, cells_v, withCons_cons, withInt_mk, withStr_mk, withBool_mk, withSl_mk, cond_t, cond_f, cond_eq]
    refine ⟨_, _, ?_, fun _ => ⟨rfl, rfl⟩⟩
    simp only [ovR, decide_eq_true_eq]
  | d + 1, i, m, h, hm => by
    obtain ⟨m, rfl⟩ : ∃ q, m = q + 1 := ⟨m - 1, by omega⟩
    have hi : i < rs.length := by omega
    obtain ⟨hcl, hc⟩ := hF.cs rs[i] (List.getElem_mem hi)
    have inner : ∀ (e j q : Nat), j + e = rs[i].cs.length → 1010 * d + 2 + e ≤ q →
        Ov fm F (if ovC F (rs[i].cs.drop j) ≠ 0 then ((i : Int), ovC F (rs[i].cs.drop j)) else ovR F (rs.drop (i + 1)) (i + 1)) (Q11.l n q (.z33 i (rs.map RL.av) rs.length i (rs[i].cs.map CN.av) rs[i].cs.length j x fm (F.map FD.av))) := by
      intro e
      induction e with
      | zero =>
        intro j q hj hq
        obtain ⟨q, rfl⟩ : ∃ r, q = r + 1 := ⟨q - 1, by omega⟩
        rw [Q11.at33]
        unfold Q11.r33
        simp (disch := omega) only [Option.bind_some, Option.bind_none, cond_true, cond_false, Bool.not_true, Bool.not_false, List.length_map, Ws_length, bs_size, within_t, upto_t, wsucc, Int.toNat_natCast, at_mapN, Ws_getDN, cells_agg, cells_v, withCons_cons, withInt_mk, withStr_mk, withBool_mk, withSl_mk, cond_t, cond_f]
        rw [List.drop_of_length_le (show rs[i].cs.length ≤ j by omega), if_neg (by simp [ovC])]
        exact over30 hn F rs hr hF x d (i + 1) q (by omega) (by omega)
      | succ e ih =>
        intro j q hj hq
        obtain ⟨q, rfl⟩ : ∃ r, q = r + 1 := ⟨q - 1, by omega⟩
        have hjl : j < rs[i].cs.length := by omega
        obtain ⟨h1, h2⟩ := hc rs[i].cs[j] (List.getElem_mem hjl)
        have ih' := ih (j + 1) q (by omega) (by omega)
        rw [Q11.at33]
        unfold Q11.r33
        simp (disch := omega) only [Option.bind_some, Option.bind_none, cond_true, cond_false, Bool.not_true, Bool.not_false, List.length_map, Ws_length, bs_size, within_t, upto_t, wsucc, Int.toNat_natCast, at_mapN, Ws_getDN, cells_agg, cells_v, withCons_cons, withInt_mk, withStr_mk, withBool_mk, withSl_mk, cond_t, cond_f, CN.av]
        rw [typeIn_eq hn F hF.len]
        simp (disch := omega) only [Option.bind_some, Option.bind_none, cond_true, cond_false, Bool.not_true, Bool.not_false, List.length_map, Ws_length, bs_size, within_t, upto_t, wsucc, Int.toNat_natCast, at_mapN, Ws_getDN, cells_agg, cells_v, withCons_cons, withInt_mk, withStr_mk, withBool_mk, withSl_mk, cond_t, cond_f]
        rw [valueErr_eq hn _ _ h1 h2]
        simp (disch := omega) only [Option.bind_some, Option.bind_none, cond_true, cond_false, Bool.not_true, Bool.not_false, List.length_map, Ws_length, bs_size, within_t, upto_t, wsucc, Int.toNat_natCast, at_mapN, Ws_getDN, cells_agg, cells_v, withCons_cons, withInt_mk, withStr_mk, withBool_mk, withSl_mk, cond_t, cond_f]
        rw [bif_ne, List.drop_eq_getElem_cons hjl, ovC_cons]
        by_cases h0 : vE (tyIn F rs[i].cs[j].fd).1 (tyIn F rs[i].cs[j].fd).2.1 rs[i].cs[j].n rs[i].cs[j].s = 0
        · simp only [h0, ne_eq, not_true_eq_false, if_false]
          exact ih'
        · simp only [h0, ne_eq, not_false_eq_true, if_true]
          exact Ov.bad h0
    have hin := inner rs[i].cs.length 0 m (by omega) (by omega)
    rw [List.drop_zero] at hin
    rw [Q11.at30]
    unfold Q11.r30
    simp (disch := omega) only [Option.bind_some, Option.bind_none, cond_true, cond_false, Bool.not_true, Bool.not_false, List.length_map, Ws_length, bs_size, within_t, upto_t, wsucc, Int.toNat_natCast, at_mapN, Ws_getDN, cells_agg, cells_v, withCons_cons, withInt_mk, withStr_mk, withBool_mk, withSl_mk, cond_t, cond_f, RL.av]
    rw [List.drop_eq_getElem_cons hi, ovR_cons]
    exact hin
theorem bAt_get {B : List FL} {b : Int} (h0 : 0 ≤ b) (h1 : b < B.length) : ∃ j : Nat, ∃ h : j < B.length, b = j ∧ bAt B b = B[j] := by
  refine ⟨b.toNat, by omega, by omega, ?_⟩
  unfold bAt
  rw [List.getD_eq_getElem?_getD, List.getElem?_eq_getElem (by omega)]
  rfl
theorem pairErr_eq (hn : 1001 ≤ n) (B : List FL) (hB : ∀ g ∈ B, g.few) (j : JP) (h0 : 0 ≤ j.fr ∧ j.fr < B.length) (h1 : 0 ≤ j.b ∧ j.b < B.length) : Q13.F n j.fr (bs j.lf) j.b (bs j.rt) (B.map FL.av) = some (pE B j) := by
  obtain ⟨x, hx, e1, e2⟩ := bAt_get h0.1 h0.2
  obtain ⟨y, hy, e3, e4⟩ := bAt_get h1.1 h1.2
  have f1 := hB _ (List.getElem_mem hx)
  have f2 := hB _ (List.getElem_mem hy)
  unfold Q13.F Q13.e pE
  rw [e1, e3] at *
  rw [e2, e4]
  simp (disch := omega) only [Option.bind_some, Option.bind_none, cond_true, cond_false, Bool.not_true, Bool.not_false, List.length_map, Ws_length, bs_size, within_t, upto_t, wsucc, Int.toNat_natCast, at_mapN, Ws_getDN, cells_agg, cells_v, withCons_cons, withInt_mk, withStr_mk, withBool_mk, withSl_mk, cond_t, cond_f, FL.av]
  rw [typeIn_eq hn _ f1.1]
  simp (disch := omega) only [Option.bind_some, Option.bind_none, cond_true, cond_false, Bool.not_true, Bool.not_false, List.length_map, Ws_length, bs_size, within_t, upto_t, wsucc, Int.toNat_natCast, at_mapN, Ws_getDN, cells_agg, cells_v, withCons_cons, withInt_mk, withStr_mk, withBool_mk, withSl_mk, cond_t, cond_f, FL.av]
  rw [typeIn_eq hn _ f2.1]
  simp (disch := omega) only [Option.bind_some, Option.bind_none, cond_true, cond_false, Bool.not_true, Bool.not_false, List.length_map, Ws_length, bs_size, within_t, upto_t, wsucc, Int.toNat_natCast, at_mapN, Ws_getDN, cells_agg, cells_v, withCons_cons, withInt_mk, withStr_mk, withBool_mk, withSl_mk, cond_t, cond_f, cond_eq]
  obtain ⟨a1, a2, a3, a4⟩ := tyIn B[x].ds j.lf
  obtain ⟨b1, b2, b3, b4⟩ := tyIn B[y].ds j.rt
  have hfz := first_eq (n := n) [(if (!a4) = true then 11 else 0), (if (!b4) = true then 11 else 0), (if (!((a1 == b1) && ((a2 == b2) && ((a3 == b3) && true)))) = true then 17 else 0)] (by simp) hn
  show (Q0m.F n ([(if (!a4) = true then 11 else 0), (if (!b4) = true then 11 else 0), (if (!((a1 == b1) && ((a2 == b2) && ((a3 == b3) && true)))) = true then 17 else 0)].map vi)).bind _ = _
  rw [hfz, Option.bind_some]
  cases a4
  · simp [fz]
  · cases b4
    · simp [fz]
    · by_cases c1 : a1 = b1 <;> by_cases c2 : a2 = b2 <;> by_cases c3 : a3 = b3 <;> simp [fz, c1, c2, c3]
variable {ws : List (List UInt8)} {fs : List LF} {js : List JP} {ks : List KF} {uq : Bool} {rs : List RL}
theorem over23 (hn : 1001 ≤ n) (B : List FL) (hB : ∀ g ∈ B, g.few) (F : List FD) (hr : rs.length ≤ 100) (hF : OkF F rs) (hj : js.length ≤ 1000) (hjs : ∀ j ∈ js, (0 ≤ j.fr ∧ j.fr < B.length) ∧ (0 ≤ j.b ∧ j.b < B.length)) (x : ByteArray) (a5 : List AV) : ∀ (d i m : Nat), i + d = js.length → d + 101002 ≤ m →
    Ov fm F (ovJ B F rs (js.drop i) i) (Q11.l n m (.z23 (js.map JP.av) js.length i nm fm a5 (fs.map LF.av) (js.map JP.av) (ks.map KF.av) uq (rs.map RL.av) x (B.map FL.av) fm (F.map FD.av)))
  | 0, i, m, h, hm => by
    obtain ⟨m, rfl⟩ : ∃ q, m = q + 1 := ⟨m - 1, by omega⟩
    rw [Q11.at23]
    unfold Q11.r23
    simp (disch := omega) only [Option.bind_some, Option.bind_none, cond_true, cond_false, Bool.not_true, Bool.not_false, List.length_map, Ws_length, bs_size, within_t, upto_t, wsucc, Int.toNat_natCast, at_mapN, Ws_getDN, cells_agg, cells_v, withCons_cons, withInt_mk, withStr_mk, withBool_mk, withSl_mk, cond_t, cond_f]
    rw [List.drop_of_length_le (show js.length ≤ i by omega)]
    have := over30 (fm := fm) hn F rs (by omega) hF x rs.length 0 m (by omega) (by omega)
    rw [List.drop_zero] at this
    exact this
  | d + 1, i, m, h, hm => by
    obtain ⟨m, rfl⟩ : ∃ q, m = q + 1 := ⟨m - 1, by omega⟩
    have hi : i < js.length := by omega
    have ih := over23 hn B hB F hr hF hj hjs x a5 d (i + 1) m (by omega) (by omega)
    obtain ⟨k1, k2⟩ := hjs js[i] (List.getElem_mem hi)
    rw [Q11.at23]
    unfold Q11.r23
    simp (disch := omega) only [Option.bind_some, Option.bind_none, cond_true, cond_false, Bool.not_true, Bool.not_false, List.length_map, Ws_length, bs_size, within_t, upto_t, wsucc, Int.toNat_natCast, at_mapN, Ws_getDN, cells_agg, cells_v, withCons_cons, withInt_mk, withStr_mk, withBool_mk, withSl_mk, cond_t, cond_f, JP.av]
    rw [pairErr_eq hn B hB js[i] k1 k2]
    simp (disch := omega) only [Option.bind_some, Option.bind_none, cond_true, cond_false, Bool.not_true, Bool.not_false, List.length_map, Ws_length, bs_size, within_t, upto_t, wsucc, Int.toNat_natCast, at_mapN, Ws_getDN, cells_agg, cells_v, withCons_cons, withInt_mk, withStr_mk, withBool_mk, withSl_mk, cond_t, cond_f]
    rw [bif_ne, List.drop_eq_getElem_cons hi, ovJ_cons]
    by_cases h0 : pE B js[i] = 0
    · simp only [h0, ne_eq, not_true_eq_false, if_false]
      exact ih
    · simp only [h0, ne_eq, not_false_eq_true, if_true]
      exact Ov.bad h0
theorem over15 (hn : 1001 ≤ n) (B : List FL) (hB : ∀ g ∈ B, g.few) (hr : rs.length ≤ 100) (hj : js.length ≤ 1000) (hjs : ∀ j ∈ js, (0 ≤ j.fr ∧ j.fr < B.length) ∧ (0 ≤ j.b ∧ j.b < B.length)) (hf : fs.length ≤ 1000) (hfs : ∀ f ∈ fs, 0 ≤ f.b ∧ f.b < B.length)
    (hF : (∀ f ∈ fs, (tyIn (bAt B f.b).ds f.fd).2.2.2 = true) → OkF (fs.map (mkF B)) rs) (x : ByteArray) (a5 : List AV) : ∀ (d i m : Nat), i + d = fs.length → d + 103004 ≤ m → (∀ f ∈ fs.take i, (tyIn (bAt B f.b).ds f.fd).2.2.2 = true) →
    Ov fm (fs.map (mkF B)) (ovF B (fs.map (mkF B)) js rs (fs.drop i) i) (Q11.l n m (.z15 (fs.map LF.av) fs.length i nm fm a5 (fs.map LF.av) (js.map JP.av) (ks.map KF.av) uq (rs.map RL.av) x (B.map FL.av) fm (((fs.map (mkF B)).take i).map FD.av)))
  | 0, i, m, h, hm, hp => by
    obtain ⟨m, rfl⟩ : ∃ q, m = q + 1 := ⟨m - 1, by omega⟩
    rw [List.take_of_length_le (by omega)] at hp
    rw [Q11.at15]
    unfold Q11.r15
    simp (disch := omega) only [Option.bind_some, Option.bind_none, cond_true, cond_false, Bool.not_true, Bool.not_false, List.length_map, Ws_length, bs_size, within_t, upto_t, wsucc, Int.toNat_natCast, at_mapN, Ws_getDN, cells_agg, cells_v, withCons_cons, withInt_mk, withStr_mk, withBool_mk, withSl_mk, cond_t, cond_f]
    rw [List.drop_of_length_le (show fs.length ≤ i by omega), List.take_of_length_le (by simp; omega)]
    have := over23 (n := n) (nm := nm) (fm := fm) (fs := fs) (ks := ks) (uq := uq) hn B hB (fs.map (mkF B)) hr (hF hp) hj hjs x a5 js.length 0 m (by omega) (by omega)
    rw [List.drop_zero] at this
    exact this
  | d + 1, i, m, h, hm, hp => by
    obtain ⟨m, rfl⟩ : ∃ q, m = q + 1 := ⟨m - 1, by omega⟩
    have hi : i < fs.length := by omega
    have hmost : most = 1000000000 := rfl
    obtain ⟨k1, k2⟩ := hfs fs[i] (List.getElem_mem hi)
    have hb : fs[i].b.toNat < B.length := by omega
    have e2 : bAt B fs[i].b = B[fs[i].b.toNat] := by
      unfold bAt
      rw [List.getD_eq_getElem?_getD, List.getElem?_eq_getElem hb]
      rfl
    have f1 := hB _ (List.getElem_mem hb)
    have hd : (decide (0 ≤ fs[i].b) && decide (fs[i].b < (B.length : Int))) = true := by simp [k1, k2]
    rw [Q11.at15]
    unfold Q11.r15
    simp (disch := omega) only [Option.bind_some, Option.bind_none, cond_true, cond_false, Bool.not_true, Bool.not_false, List.length_map, Ws_length, bs_size, within_t, upto_t, wsucc, Int.toNat_natCast, at_mapN, Ws_getDN, cells_agg, cells_v, withCons_cons, withInt_mk, withStr_mk, withBool_mk, withSl_mk, cond_t, cond_f, LF.av]
    rw [hd, cond_true]
    simp (disch := omega) only [Option.bind_some, Option.bind_none, cond_true, cond_false, Bool.not_true, Bool.not_false, List.length_map, Ws_length, bs_size, within_t, upto_t, wsucc, Int.toNat_natCast, at_mapN, Ws_getDN, cells_agg, cells_v, withCons_cons, withInt_mk, withStr_mk, withBool_mk, withSl_mk, cond_t, cond_f, FL.av]
    rw [typeIn_eq hn _ f1.1]
    simp (disch := omega) only [Option.bind_some, Option.bind_none, cond_true, cond_false, Bool.not_true, Bool.not_false, List.length_map, Ws_length, bs_size, within_t, upto_t, wsucc, Int.toNat_natCast, at_mapN, Ws_getDN, cells_agg, cells_v, withCons_cons, withInt_mk, withStr_mk, withBool_mk, withSl_mk, cond_t, cond_f, List.length_take, List.length_singleton]
    rw [List.drop_eq_getElem_cons hi, ovF_cons, e2]
    cases h0 : (tyIn B[fs[i].b.toNat].ds fs[i].fd).2.2.2
    · rw [Bool.not_false, cond_true, if_pos rfl]
      exact Ov.bad (by decide)
    · rw [Bool.not_true, cond_false, if_neg (by simp)]
      have e : ((fs.map (mkF B)).take i).map FD.av ++ [AV.agg [vs (bs fs[i].nm), vi (tyIn B[fs[i].b.toNat].ds fs[i].fd).1, vi (tyIn B[fs[i].b.toNat].ds fs[i].fd).2.1, vi (tyIn B[fs[i].b.toNat].ds fs[i].fd).2.2.1]] = ((fs.map (mkF B)).take (i + 1)).map FD.av := by
        rw [List.take_succ_eq_append_getElem (by simpa using hi), List.map_append, List.getElem_map]
        simp only [mkF, FD.av, e2, List.map_cons, List.map_nil]
      rw [e]
      refine over15 hn B hB hr hj hjs hf hfs hF x a5 d (i + 1) m (by omega) (by omega) ?_
      intro f hfm
      rw [List.take_succ_eq_append_getElem hi, List.mem_append, List.mem_singleton] at hfm
      rcases hfm with hfm | rfl
      · exact hp f hfm
      · rw [e2]; exact h0
end
end Go.Proofs.YtmpglmcjoelciaaGreatDoor.Ev
namespace Go.Proofs.YtmpglmcjoelciaaGreatDoor.Ev
open Go Go.Proofs Go.Proofs.Ev
set_option linter.unusedVariables false
set_option linter.unusedSimpArgs false
theorem tyIn_found {ds : List FD} {s : List UInt8} (h : (tyIn ds s).2.2.2 = true) : ∃ f ∈ ds, f.nm = s ∧ tyIn ds s = (f.k, f.l, f.s, true) := by
  unfold tyIn at h ⊢
  cases h1 : ds.find? (fun f => f.nm == s) with
  | none => rw [h1] at h; cases h
  | some f => exact ⟨f, List.mem_of_find?_eq_some h1, by simpa using List.find?_some h1, rfl⟩
theorem tyIn_of {ds : List FD} {s : List UInt8} (h : (dnames ds).contains s = true) : (tyIn ds s).2.2.2 = true := by
  have hm : s ∈ dnames ds := by simpa using h
  obtain ⟨f, h1, h2⟩ := List.mem_map.1 hm
  unfold tyIn
  cases h3 : ds.find? (fun f => f.nm == s) with
  | none => exact absurd (List.find?_eq_none.1 h3 f h1) (by simp [h2])
  | some f => rfl
theorem file_ok {nm fm : List UInt8} {ds : List FD} {ks : List KF} (h : fileE nm fm ds ks = 0) : ds.length ≤ 20 ∧ okD ds ∧ ∀ f ∈ ds, f.k ≠ 4 := by
  unfold fileE at h
  cases h1 : isNm nm
  · rw [h1] at h; cases h
  cases h2 : isNm fm
  · rw [h1, h2] at h; cases h
  rw [h1, h2, if_neg (by simp), if_neg (by simp)] at h
  by_cases h3 : ds.length = 0
  · rw [if_pos h3] at h; cases h
  by_cases h4 : ds.length > 20
  · rw [if_neg h3, if_pos h4] at h; cases h
  rw [if_neg h3, if_neg h4] at h
  unfold fileT at h
  by_cases h5 : (dErr (dnames ds) ds 0).2 = 0
  · exact ⟨by omega, dErr_ok h5⟩
  · rw [if_pos h5] at h; exact absurd h h5
theorem flE_ok {ns : List (List UInt8)} : ∀ {l : List FL} {i : Nat}, flE ns l i = 0 → ∀ g ∈ l, fileE g.nm g.fm g.ds g.ks = 0
  | [], _, _ => by simp
  | g :: l, i, h => by
    rw [flE_cons] at h
    by_cases h0 : fileE g.nm g.fm g.ds g.ks = 0
    · rw [if_neg (by simp [h0])] at h
      cases h1 : (ns.take i).contains g.nm
      · rw [h1, if_neg (by simp)] at h
        intro v hv
        rcases List.mem_cons.1 hv with rfl | hv
        · exact h0
        · exact flE_ok h v hv
      · rw [h1, if_pos rfl] at h; cases h
    · rw [if_pos h0] at h; exact absurd h h0
theorem filesE_ok {gs : List FL} (h : filesE gs = 0) : gs.length ≤ 8 ∧ ∀ g ∈ gs, fileE g.nm g.fm g.ds g.ks = 0 := by
  unfold filesE at h
  by_cases h1 : gs.length > 8
  · rw [if_pos h1] at h; cases h
  · rw [if_neg h1] at h; exact ⟨by omega, flE_ok h⟩
def fnd (gs : List FL) (w : List UInt8) : Prop := gs.find? (fun g => g.nm == w) ≠ none
theorem baseOf_mem {gs : List FL} {w : List UInt8} (h : fnd gs w) : baseOf gs w ∈ gs := by
  unfold baseOf
  unfold fnd at h
  cases h1 : gs.find? (fun g => g.nm == w) with
  | none => exact absurd h1 h
  | some g => exact List.mem_of_find?_eq_some h1
theorem bases_in {gs : List FL} {ws : List (List UInt8)} (h : ∀ w ∈ ws, fnd gs w) : ∀ g ∈ ws.map (baseOf gs), g ∈ gs := by
  intro g hg
  obtain ⟨w, h1, rfl⟩ := List.mem_map.1 hg
  exact baseOf_mem (h w h1)
theorem bAt_in {B : List FL} {b : Int} (h0 : 0 ≤ b) (h1 : b < B.length) : bAt B b ∈ B := by
  obtain ⟨j, hj, e1, e2⟩ := bAt_get h0 h1
  rw [e2]
  exact List.getElem_mem hj
theorem mkF_names (B : List FL) (fs : List LF) : dnames (fs.map (mkF B)) = names fs := by
  simp [dnames, names, mkF, Function.comp_def]
theorem okF_of {B : List FL} {fs : List LF} {rs : List RL} (hB : ∀ g ∈ B, fileE g.nm g.fm g.ds g.ks = 0) (hf : fs.length ≤ 1000) (hfs : ∀ f ∈ fs, 0 ≤ f.b ∧ f.b < B.length) (hr : ∀ r ∈ rs, ROk (names fs) r)
    (ht : ∀ f ∈ fs, (tyIn (bAt B f.b).ds f.fd).2.2.2 = true) : OkF (fs.map (mkF B)) rs := by
  have hF : ∀ f ∈ fs.map (mkF B), chkT f.k f.l f.s = 0 ∧ f.k ≠ 4 := by
    intro f hm
    obtain ⟨g, h1, rfl⟩ := List.mem_map.1 hm
    obtain ⟨x, h2, _, h3⟩ := tyIn_found (ht g h1)
    have := hB _ (bAt_in (hfs g h1).1 (hfs g h1).2)
    obtain ⟨_, h4, h5⟩ := file_ok this
    unfold mkF
    rw [h3]
    exact ⟨h4 x h2, h5 x h2⟩
  refine ⟨by simpa using hf, fun f hm => (hF f hm).1, ?_⟩
  intro r hm
  have hro := hr r hm
  refine ⟨by have := hro.len; omega, ?_⟩
  intro c hc
  have hco := hro.cs c hc
  obtain ⟨x, h1, _, h2⟩ := tyIn_found (tyIn_of (ds := fs.map (mkF B)) (s := c.fd) (by rw [mkF_names]; exact hco.fd))
  rw [h2]
  exact hF x h1
section
variable {n : Nat} {nm fm : ByteArray} {ws : List (List UInt8)} {fs : List LF} {js : List JP} {ks : List KF} {uq : Bool} {rs : List RL} {F : List FD}
theorem over6 (hn : 1001 ≤ n) (gs : List FL) (hg : gs.length ≤ 1000) (hw : ws.length ≤ 1000)
    (K : (∀ w ∈ ws, fnd gs w) → ∀ m, 104004 ≤ m → Ov fm F (ovF (ws.map (baseOf gs)) F js rs fs 0) (Q11.l n m (.z15 (fs.map LF.av) fs.length 0 nm fm (Ws ws) (fs.map LF.av) (js.map JP.av) (ks.map KF.av) uq (rs.map RL.av) ⟨#[]⟩ ((ws.map (baseOf gs)).map FL.av) fm []))) : ∀ (d i m : Nat), i + d = ws.length → d + 104005 ≤ m → (∀ w ∈ ws.take i, fnd gs w) →
    Ov fm F (ovB gs (ws.map (baseOf gs)) F fs js rs (ws.drop i) i) (Q11.l n m (.z6 (gs.map FL.av) (Ws ws) ws.length i nm fm (Ws ws) (fs.map LF.av) (js.map JP.av) (ks.map KF.av) uq (rs.map RL.av) ⟨#[]⟩ (((ws.map (baseOf gs)).take i).map FL.av)))
  | 0, i, m, h, hm, hp => by
    obtain ⟨m, rfl⟩ : ∃ q, m = q + 1 := ⟨m - 1, by omega⟩
    rw [List.take_of_length_le (by omega)] at hp
    rw [Q11.at6]
    unfold Q11.r6
    simp (disch := omega) only [Option.bind_some, Option.bind_none, cond_true, cond_false, Bool.not_true, Bool.not_false, List.length_map, Ws_length, bs_size, within_t, upto_t, wsucc, Int.toNat_natCast, at_mapN, Ws_getDN, cells_agg, cells_v, withCons_cons, withInt_mk, withStr_mk, withBool_mk, withSl_mk, cond_t, cond_f]
    rw [List.drop_of_length_le (show ws.length ≤ i by omega), List.take_of_length_le (by simp; omega)]
    exact K hp m (by omega)
  | d + 1, i, m, h, hm, hp => by
    obtain ⟨m, rfl⟩ : ∃ q, m = q + 1 := ⟨m - 1, by omega⟩
    have hi : i < ws.length := by omega
    have hmost : most = 1000000000 := rfl
    rw [Q11.at6]
    unfold Q11.r6
    simp (disch := omega) only [Option.bind_some, Option.bind_none, cond_true, cond_false, Bool.not_true, Bool.not_false, List.length_map, Ws_length, bs_size, within_t, upto_t, wsucc, Int.toNat_natCast, at_mapN, Ws_getDN, cells_agg, cells_v, withCons_cons, withInt_mk, withStr_mk, withBool_mk, withSl_mk, cond_t, cond_f]
    rw [fileIx_eq hn gs hg, List.drop_eq_getElem_cons hi, ovB_cons]
    rcases ixs_find FL.nm ws[i] gs 0 with ⟨h1, h2⟩ | ⟨j, hj, h1, h2⟩
    · rw [show ixs (fnames gs) ws[i] 0 = -1 from h2, if_pos h1]
      exact Ov.bad (by decide)
    · rw [show ixs (fnames gs) ws[i] 0 = ((0 + j : Nat) : Int) from h2, Nat.zero_add, if_neg (by rw [h1]; simp)]
      have hl : ((ws.map (baseOf gs)).take i).length ≤ 1000 := by rw [List.length_take, List.length_map]; omega
      simp (disch := omega) only [Option.bind_some, Option.bind_none, cond_true, cond_false, Bool.not_true, Bool.not_false, List.length_map, Ws_length, bs_size, within_t, upto_t, wsucc, Int.toNat_natCast, at_mapN, Ws_getDN, cells_agg, cells_v, withCons_cons, withInt_mk, withStr_mk, withBool_mk, withSl_mk, cond_t, cond_f, FL.av, List.length_singleton]
      have hb : baseOf gs ws[i] = gs[j] := by unfold baseOf; rw [h1]; rfl
      have e : ((ws.map (baseOf gs)).take i).map FL.av ++ [AV.agg [vs (bs gs[j].nm), vs (bs gs[j].fm), .sl ⟨true, 125⟩ 4 (gs[j].ds.map FD.av), .sl ⟨true, 111⟩ 2 (gs[j].ks.map KF.av), vb gs[j].uq]] = ((ws.map (baseOf gs)).take (i + 1)).map FL.av := by
        rw [List.take_succ_eq_append_getElem (by simpa using hi), List.map_append, List.getElem_map, hb]
        rfl
      rw [e]
      refine over6 hn gs hg hw K d (i + 1) m (by omega) (by omega) ?_
      intro w hw
      rw [List.take_succ_eq_append_getElem hi, List.mem_append, List.mem_singleton] at hw
      rcases hw with hw | rfl
      · exact hp w hw
      · unfold fnd; rw [h1]; simp
end
section
variable {n : Nat} {nm fm : List UInt8} {ws : List (List UInt8)} {fs : List LF} {js : List JP} {ks : List KF} {uq : Bool} {rs : List RL}
def ovFs (gs : List FL) (ws : List (List UInt8)) (fs : List LF) : List FD := fs.map (mkF (ws.map (baseOf gs)))
theorem over_eq (hn : 200000 ≤ n) (gs : List FL) (hg : gs.length ≤ 1000) (hgf : ∀ g ∈ gs, g.few) (hL : LOk nm fm ws fs js ks uq rs) :
    Ov (bs fm) (ovFs gs ws fs) (overT gs ws fs js rs) (Q11.F n (bs nm) (bs fm) (Ws ws) (fs.map LF.av) (js.map JP.av) (ks.map KF.av) uq (rs.map RL.av) (gs.map FL.av)) := by
  obtain ⟨l1, l2, w0, w1, wsn, f0, f1, fso, j1, jso, k1, kso, ke, r1, rso⟩ := hL
  unfold Q11.F Q11.e overT
  rw [filesErr_eq (by omega) gs hg hgf]
  simp (disch := omega) only [Option.bind_some, Option.bind_none, cond_true, cond_false, Bool.not_true, Bool.not_false, List.length_map, Ws_length, bs_size, within_t, upto_t, wsucc, Int.toNat_natCast, at_mapN, Ws_getDN, cells_agg, cells_v, withCons_cons, withInt_mk, withStr_mk, withBool_mk, withSl_mk, cond_t, cond_f]
  rw [bif_ne]
  by_cases h0 : filesE gs = 0
  · rw [if_neg (by simp [h0]), if_neg (by simp [h0])]
    obtain ⟨hg8, hgo⟩ := filesE_ok h0
    have hbl : (ws.map (baseOf gs)).length = ws.length := by simp
    have := over6 (n := n) (nm := bs nm) (fm := bs fm) (ws := ws) (fs := fs) (js := js) (ks := ks) (uq := uq) (rs := rs) (F := ovFs gs ws fs) (by omega) gs hg (by omega) (fun hw m hm => ?_) ws.length 0 n (by omega) (by omega) (by simp)
    · exact this
    · have hB := bases_in hw
      have hBf : ∀ g ∈ ws.map (baseOf gs), g.few := fun g h => hgf g (hB g h)
      have hfb : ∀ f ∈ fs, 0 ≤ f.b ∧ f.b < ((ws.map (baseOf gs)).length : Int) := by
        intro f h
        have := fso f h
        have h1 := this.b0
        have h2 := this.b1
        rw [hbl]
        omega
      have hjb : ∀ j ∈ js, (0 ≤ j.fr ∧ j.fr < ((ws.map (baseOf gs)).length : Int)) ∧ (0 ≤ j.b ∧ j.b < ((ws.map (baseOf gs)).length : Int)) := by
        intro j h
        have := jso j h
        have h1 := this.b0
        have h2 := this.b1
        have h3 := this.f0
        have h4 := this.f1
        rw [hbl]
        omega
      have := over15 (n := n) (nm := bs nm) (fm := bs fm) (fs := fs) (js := js) (ks := ks) (uq := uq) (rs := rs) (by omega) (ws.map (baseOf gs)) hBf (by omega) (by omega) hjb (by omega) hfb
        (okF_of (fun g h => hgo g (hB g h)) (by omega) hfb rso) ⟨#[]⟩ (Ws ws) fs.length 0 m (by omega) (by omega) (by simp)
      exact this
  · rw [if_pos h0, if_pos h0]
    exact Ov.bad h0
def overX (gs : List FL) (nm fm : List UInt8) (ws : List (List UInt8)) (fs : List LF) (js : List JP) (ks : List KF) (uq : Bool) (rs : List RL) : Int × Int :=
  if (chkL nm fm ws fs js ks uq rs).2 ≠ 0 then chkL nm fm ws fs js ks uq rs else overT gs ws fs js rs
theorem checkOver_eq (hn : 200000 ≤ n) (gs : List FL) (hg : gs.length ≤ 1000) (hgf : ∀ g ∈ gs, g.few) (hw : ws.length ≤ 1000) (hf : fs.length ≤ 1000) (hj : js.length ≤ 1000) (hk : ks.length ≤ 1000) (hr : rs.length ≤ 1000) :
    Q06.F n (bs nm) (bs fm) (Ws ws) (fs.map LF.av) (js.map JP.av) (ks.map KF.av) uq (rs.map RL.av) (gs.map FL.av) = some (overX gs nm fm ws fs js ks uq rs) := by
  unfold Q06.F Q06.e overX
  rw [checkLogical_eq (by omega) nm fm ws hw fs hf js hj ks hk uq rs hr, Option.bind_some, bif_ne]
  by_cases h : (chkL nm fm ws fs js ks uq rs).2 = 0
  · obtain ⟨a, b, h1, _⟩ := over_eq hn gs hg hgf (chkL_ok h)
    rw [if_neg (by simp [h]), if_neg (by simp [h]), h1]
    rfl
  · rw [if_pos h, if_pos h]
theorem formatOf_eq (hn : 200000 ≤ n) (gs : List FL) (hg : gs.length ≤ 1000) (hgf : ∀ g ∈ gs, g.few) (hw : ws.length ≤ 1000) (hf : fs.length ≤ 1000) (hj : js.length ≤ 1000) (hk : ks.length ≤ 1000) (hr : rs.length ≤ 1000) :
    Q08.F n (bs nm) (bs fm) (Ws ws) (fs.map LF.av) (js.map JP.av) (ks.map KF.av) uq (rs.map RL.av) (gs.map FL.av) = some (if (overX gs nm fm ws fs js ks uq rs).2 ≠ 0 then (⟨#[]⟩, [], (overX gs nm fm ws fs js ks uq rs).2) else (bs fm, (ovFs gs ws fs).map FD.av, 0)) := by
  unfold Q08.F Q08.e overX
  rw [checkLogical_eq (by omega) nm fm ws hw fs hf js hj ks hk uq rs hr, Option.bind_some, bif_ne]
  by_cases h : (chkL nm fm ws fs js ks uq rs).2 = 0
  · obtain ⟨a, b, h1, h2⟩ := over_eq hn gs hg hgf (chkL_ok h)
    simp only [h, ne_eq, not_true_eq_false, if_false]
    rw [h1, Option.bind_some]
    dsimp only
    rw [bif_ne]
    by_cases h3 : (overT gs ws fs js rs).2 = 0
    · obtain ⟨rfl, rfl⟩ := h2 h3
      simp [h3]
    · simp [h3]
  · rw [if_pos h, if_pos h, if_pos h]
end
end Go.Proofs.YtmpglmcjoelciaaGreatDoor.Ev
namespace Go.Proofs.YtmpglmcjoelciaaGreatDoor.Ev
open Go Go.Proofs Go.Proofs.Ev
set_option linter.unusedVariables false
set_option linter.unusedSimpArgs false
section
variable {n : Nat} {nm fm : ByteArray} {ws : List (List UInt8)} {fs : List LF} {js : List JP} {ks : List KF} {uq : Bool} {rs : List RL}
theorem bpower_l (k : Nat) (hk : k ≤ 18) : ∀ (d i m : Nat), i + d = k → d < m → Q1w.l n m (.z3 k (((10 ^ i : Nat) : Int)) i) = some (((10 ^ k : Nat) : Int))
  | _, _, 0, _, h => absurd h (by omega)
  | 0, i, m + 1, h, _ => by
    rw [Q1w.at3]
    unfold Q1w.r3
    simp (disch := omega) only [Option.bind_some, Option.bind_none, cond_true, cond_false, Bool.not_true, Bool.not_false, List.length_map, Ws_length, bs_size, within_t, upto_t, wsucc, Int.toNat_natCast, at_mapN, Ws_getDN, cells_agg, cells_v, withCons_cons, withInt_mk, withStr_mk, withBool_mk, withSl_mk, cond_t, cond_f]
    rw [show i = k by omega]
  | d + 1, i, m + 1, h, hm => by
    have ih := bpower_l k hk d (i + 1) m (by omega) (by omega)
    have hp : 10 ^ (i + 1) ≤ 10 ^ 18 := Nat.pow_le_pow_right (by omega) (by omega)
    have h18 : (10 : Nat) ^ 18 = 1000000000000000000 := rfl
    have hs : 10 ^ (i + 1) = 10 ^ i * 10 := Nat.pow_succ ..
    have e1 : ((10 ^ i : Nat) : Int) * 10 = ((10 ^ (i + 1) : Nat) : Int) := by rw [hs]; omega
    rw [Q1w.at3]
    unfold Q1w.r3
    rw [cond_t (by omega), wsucc (by omega), e1, w64 (by omega) (by omega)]
    exact ih
theorem bpower_eq (hn : 1001 ≤ n) (k : Nat) (hk : k ≤ 18) : Q1w.F n k = some (((10 ^ k : Nat) : Int)) := by
  unfold Q1w.F Q1w.e
  exact bpower_l (n := n) k hk k 0 n (by omega) (by omega)
theorem valueErrR_eq (hn : 1001 ≤ n) {k l t : Int} (N : Int) (s : List UInt8) (h : chkT k l t = 0) (h4 : k ≠ 4) : Q3s.F n k l t N (bs s) = some (vE k l N s) := by
  unfold Q3s.F Q3s.e vE
  by_cases h0 : k = 0
  · simp (disch := omega) only [Option.bind_some, Option.bind_none, cond_true, cond_false, Bool.not_true, Bool.not_false, List.length_map, Ws_length, bs_size, within_t, upto_t, wsucc, Int.toNat_natCast, at_mapN, Ws_getDN, cells_agg, cells_v, withCons_cons, withInt_mk, withStr_mk, withBool_mk, withSl_mk, cond_t, cond_f, beq_int, count_eq]
    rw [if_pos h0]
    by_cases h1 : N = 0
    · rw [h1]
      by_cases h2 : (s.length : Int) > l
      · simp [h2]; rfl
      · simp [h2]; rfl
    · have : (N != 0) = true := by simp [h1]
      rw [this, cond_true, if_pos h1]
  · obtain ⟨j, rfl, hj⟩ := numT h h4 h0
    obtain ⟨p1, p2, p3⟩ := pow15 hj
    obtain ⟨m, rfl⟩ : ∃ m, n = m + 1 := ⟨n - 1, by omega⟩
    have h4b : (k == 4) = false := by rw [beq_int]; simpa using h4
    have h0b : (k == 0) = false := by rw [beq_int]; simpa using h0
    rw [if_neg h0, h0b, cond_false, empty_eq]
    by_cases h1 : s = []
    · subst h1
      have ee : (bs ([] : List UInt8)).toList = (⟨#[]⟩ : ByteArray).toList := rfl
      unfold Q2r.F Q2r.e
      rw [typeErr_eq (by omega), h]
      simp (disch := omega) only [Option.bind_some, Option.bind_none, cond_true, cond_false, Bool.not_true, Bool.not_false, List.length_map, Ws_length, bs_size, within_t, upto_t, wsucc, Int.toNat_natCast, at_mapN, Ws_getDN, cells_agg, cells_v, withCons_cons, withInt_mk, withStr_mk, withBool_mk, withSl_mk, cond_t, cond_f, h4b, h0b, empty_eq]
      have e0 : ((0 : Int) != 0) = false := rfl
      have ek : (k != 0) = true := by simp [h0]
      simp only [e0, ek, cond_true, cond_false, decide_true, Bool.not_true]
      show (Option.bind (Q2r.r8 (m + 1) (Q2r.l (m + 1) m) k (j : Int) t N (bs [])) _) = _
      unfold Q2r.r8 Q2p.F Q2p.e
      rw [h0b, cond_false, bpower_eq (by omega) j (by omega)]
      simp (disch := omega) only [Option.bind_some, Option.bind_none, cond_true, cond_false, Bool.not_true, Bool.not_false, List.length_map, Ws_length, bs_size, within_t, upto_t, wsucc, Int.toNat_natCast, at_mapN, Ws_getDN, cells_agg, cells_v, withCons_cons, withInt_mk, withStr_mk, withBool_mk, withSl_mk, cond_t, cond_f]
      rw [w64 (x := ((10 ^ j : Nat) : Int) - 1) (by omega) (by omega), w64 (x := 0 - (((10 ^ j : Nat) : Int) - 1)) (by omega) (by omega), Within_eq]
      simp (disch := omega) only [Option.bind_some, Option.bind_none, cond_true, cond_false, Bool.not_true, Bool.not_false, List.length_map, Ws_length, bs_size, within_t, upto_t, wsucc, Int.toNat_natCast, at_mapN, Ws_getDN, cells_agg, cells_v, withCons_cons, withInt_mk, withStr_mk, withBool_mk, withSl_mk, cond_t, cond_f, count_eq]
      simp only [Int.toNat_natCast, p1, ne_eq, not_true_eq_false, if_false]
      have : (0 - (((10 ^ j : Nat) : Int) - 1) ≤ N ∧ N ≤ ((10 ^ j : Nat) : Int) - 1) ↔ (-(((10 ^ j : Nat) : Int) - 1) ≤ N ∧ N ≤ ((10 ^ j : Nat) : Int) - 1) := by omega
      rw [show decide (0 - (((10 ^ j : Nat) : Int) - 1) ≤ N ∧ N ≤ ((10 ^ j : Nat) : Int) - 1) = decide (-(((10 ^ j : Nat) : Int) - 1) ≤ N ∧ N ≤ ((10 ^ j : Nat) : Int) - 1) from decide_eq_decide.2 this]
      by_cases h2 : -(((10 ^ j : Nat) : Int) - 1) ≤ N ∧ N ≤ ((10 ^ j : Nat) : Int) - 1
      · simp only [h2, and_self, decide_true, Bool.not_true, not_true_eq_false, if_false]
        rfl
      · simp only [h2, decide_false, Bool.not_false, not_false_eq_true, if_true]
        rfl
    · have e1 : (!decide (s = [])) = true := by simp [h1]
      rw [e1, cond_true, if_pos h1]
theorem fileAt_l (gs : List FL) (hg : gs.length ≤ 1000) (s : List UInt8) : ∀ (d i m : Nat), i + d = gs.length → d < m → Q2v.l n m (.z2 (gs.map FL.av) (bs s) i) = some (ixs ((fnames gs).drop i) s i)
  | _, _, 0, _, h => absurd h (by omega)
  | 0, i, m + 1, h, _ => by
    have hl := fnames_length gs
    rw [Q2v.at2]
    unfold Q2v.r2
    simp (disch := omega) only [Option.bind_some, Option.bind_none, cond_true, cond_false, Bool.not_true, Bool.not_false, List.length_map, Ws_length, bs_size, within_t, upto_t, wsucc, Int.toNat_natCast, at_mapN, Ws_getDN, cells_agg, cells_v, withCons_cons, withInt_mk, withStr_mk, withBool_mk, withSl_mk, cond_t, cond_f]
    rw [List.drop_of_length_le (by omega)]
    rfl
  | d + 1, i, m + 1, h, hm => by
    have hi : i < gs.length := by omega
    have hl := fnames_length gs
    have ih := fileAt_l gs hg s d (i + 1) m (by omega) (by omega)
    rw [Q2v.at2]
    unfold Q2v.r2
    simp (disch := omega) only [Option.bind_some, Option.bind_none, cond_true, cond_false, Bool.not_true, Bool.not_false, List.length_map, Ws_length, bs_size, within_t, upto_t, wsucc, Int.toNat_natCast, at_mapN, Ws_getDN, cells_agg, cells_v, withCons_cons, withInt_mk, withStr_mk, withBool_mk, withSl_mk, cond_t, cond_f, FL.av, str_eq, ih]
    rw [List.drop_eq_getElem_cons (by omega : i < (fnames gs).length), ixs_cons, show (fnames gs)[i] = gs[i].nm by simp [fnames], bif_ite, some_ite]
theorem fileAt_eq (hn : 1001 ≤ n) (gs : List FL) (hg : gs.length ≤ 1000) (s : List UInt8) : Q2v.F n (gs.map FL.av) (bs s) = some (ixs (fnames gs) s 0) := by
  unfold Q2v.F Q2v.e
  have := fileAt_l (n := n) gs hg s gs.length 0 n (by omega) (by omega)
  rw [List.drop_zero] at this
  exact this
theorem typeOfR_eq (hn : 1001 ≤ n) (gs : List FL) (hg : gs.length ≤ 1000) (hgf : ∀ g ∈ gs, g.few) (hw : ∀ w ∈ ws, fnd gs w) (b : Int) (h0 : 0 ≤ b) (h1 : b < (ws.length : Int)) (s : List UInt8) (js' ks' rs' : List AV) (fs' : List AV) :
    Q3p.F n nm fm (Ws ws) fs' js' ks' uq rs' (gs.map FL.av) b (bs s) = some (tyIn (bAt (ws.map (baseOf gs)) b).ds s) := by
  obtain ⟨i, rfl⟩ : ∃ i : Nat, b = i := ⟨b.toNat, by omega⟩
  have hi : i < ws.length := by omega
  have hb : bAt (ws.map (baseOf gs)) (i : Int) = baseOf gs ws[i] := by
    unfold bAt
    rw [Int.toNat_natCast, List.getD_eq_getElem?_getD, List.getElem?_eq_getElem (by simpa using hi), List.getElem_map]
    rfl
  unfold Q3p.F Q3p.e
  simp (disch := omega) only [Option.bind_some, Option.bind_none, cond_true, cond_false, Bool.not_true, Bool.not_false, List.length_map, Ws_length, bs_size, within_t, upto_t, wsucc, Int.toNat_natCast, at_mapN, Ws_getDN, cells_agg, cells_v, withCons_cons, withInt_mk, withStr_mk, withBool_mk, withSl_mk, cond_t, cond_f]
  rw [fileAt_eq hn gs hg, hb]
  rcases ixs_find FL.nm ws[i] gs 0 with ⟨e1, e2⟩ | ⟨j, hj, e1, e2⟩
  · exact absurd e1 (hw _ (List.getElem_mem hi))
  · have hb' : baseOf gs ws[i] = gs[j] := by unfold baseOf; rw [e1]; rfl
    have hfj := hgf gs[j] (List.getElem_mem hj)
    rw [show ixs (fnames gs) ws[i] 0 = ((0 + j : Nat) : Int) from e2, Nat.zero_add, hb']
    simp (disch := omega) only [Option.bind_some, Option.bind_none, cond_true, cond_false, Bool.not_true, Bool.not_false, List.length_map, Ws_length, bs_size, within_t, upto_t, wsucc, Int.toNat_natCast, at_mapN, Ws_getDN, cells_agg, cells_v, withCons_cons, withInt_mk, withStr_mk, withBool_mk, withSl_mk, cond_t, cond_f, FL.av, List.drop_succ_cons, List.drop_zero]
    rw [fieldAt_eq hn _ hfj.1]
    unfold tyIn
    rcases ixs_find FD.nm s gs[j].ds 0 with ⟨q1, q2⟩ | ⟨q, hq, q1, q2⟩
    · rw [q1, show ixs (dnames gs[j].ds) s 0 = -1 from q2]
      rfl
    · rw [q1, show ixs (dnames gs[j].ds) s 0 = ((0 + q : Nat) : Int) from q2, Nat.zero_add]
      have : ((q : Int) == -1) = false := by rw [beq_int]; simp
      simp (disch := omega) only [Option.bind_some, Option.bind_none, cond_true, cond_false, Bool.not_true, Bool.not_false, List.length_map, Ws_length, bs_size, within_t, upto_t, wsucc, Int.toNat_natCast, at_mapN, Ws_getDN, cells_agg, cells_v, withCons_cons, withInt_mk, withStr_mk, withBool_mk, withSl_mk, cond_t, cond_f, FD.av, List.drop_succ_cons, List.drop_zero, this]
theorem formatR_l (hn : 1001 ≤ n) (gs : List FL) (hg : gs.length ≤ 1000) (hgf : ∀ g ∈ gs, g.few) (hw : ∀ w ∈ ws, fnd gs w) (hf : fs.length ≤ 1000) (hfs : ∀ f ∈ fs, 0 ≤ f.b ∧ f.b < (ws.length : Int)) (x : ByteArray) : ∀ (d i m : Nat), i + d = fs.length → d < m →
    Q2w.l n m (.z3 (gs.map FL.av) i nm fm (Ws ws) (fs.map LF.av) (js.map JP.av) (ks.map KF.av) uq (rs.map RL.av) x fm (((ovFs gs ws fs).take i).map FD.av)) = some (fm, (ovFs gs ws fs).map FD.av)
  | _, _, 0, _, h => absurd h (by omega)
  | 0, i, m + 1, h, _ => by
    rw [Q2w.at3]
    unfold Q2w.r3
    simp (disch := omega) only [Option.bind_some, Option.bind_none, cond_true, cond_false, Bool.not_true, Bool.not_false, List.length_map, Ws_length, bs_size, within_t, upto_t, wsucc, Int.toNat_natCast, at_mapN, Ws_getDN, cells_agg, cells_v, withCons_cons, withInt_mk, withStr_mk, withBool_mk, withSl_mk, cond_t, cond_f]
    rw [List.take_of_length_le (by simp [ovFs]; omega)]
  | d + 1, i, m + 1, h, hm => by
    have hi : i < fs.length := by omega
    have hmost : most = 1000000000 := rfl
    have ih := formatR_l hn gs hg hgf hw hf hfs x d (i + 1) m (by omega) (by omega)
    obtain ⟨b0, b1⟩ := hfs fs[i] (List.getElem_mem hi)
    have hl : ((ovFs gs ws fs).take i).length ≤ 1000 := by rw [List.length_take, ovFs, List.length_map]; omega
    rw [Q2w.at3]
    unfold Q2w.r3
    simp (disch := omega) only [Option.bind_some, Option.bind_none, cond_true, cond_false, Bool.not_true, Bool.not_false, List.length_map, Ws_length, bs_size, within_t, upto_t, wsucc, Int.toNat_natCast, at_mapN, Ws_getDN, cells_agg, cells_v, withCons_cons, withInt_mk, withStr_mk, withBool_mk, withSl_mk, cond_t, cond_f, LF.av, List.drop_succ_cons, List.drop_zero]
    rw [typeOfR_eq hn gs hg hgf hw _ b0 b1]
    simp (disch := omega) only [Option.bind_some, Option.bind_none, cond_true, cond_false, Bool.not_true, Bool.not_false, List.length_map, Ws_length, bs_size, within_t, upto_t, wsucc, Int.toNat_natCast, at_mapN, Ws_getDN, cells_agg, cells_v, withCons_cons, withInt_mk, withStr_mk, withBool_mk, withSl_mk, cond_t, cond_f, List.length_singleton]
    have e : ((ovFs gs ws fs).take i).map FD.av ++ [AV.agg [vs (bs fs[i].nm), vi (tyIn (bAt (ws.map (baseOf gs)) fs[i].b).ds fs[i].fd).1, vi (tyIn (bAt (ws.map (baseOf gs)) fs[i].b).ds fs[i].fd).2.1, vi (tyIn (bAt (ws.map (baseOf gs)) fs[i].b).ds fs[i].fd).2.2.1]] = ((ovFs gs ws fs).take (i + 1)).map FD.av := by
      rw [List.take_succ_eq_append_getElem (by simpa [ovFs] using hi), List.map_append]
      simp only [ovFs, List.getElem_map, mkF, FD.av, List.map_cons, List.map_nil]
    rw [e]
    exact ih
theorem formatR_eq (hn : 1001 ≤ n) (gs : List FL) (hg : gs.length ≤ 1000) (hgf : ∀ g ∈ gs, g.few) (hw : ∀ w ∈ ws, fnd gs w) (hf : fs.length ≤ 1000) (hfs : ∀ f ∈ fs, 0 ≤ f.b ∧ f.b < (ws.length : Int)) :
    Q2w.F n nm fm (Ws ws) (fs.map LF.av) (js.map JP.av) (ks.map KF.av) uq (rs.map RL.av) (gs.map FL.av) = some (fm, (ovFs gs ws fs).map FD.av) := by
  unfold Q2w.F Q2w.e
  exact formatR_l hn gs hg hgf hw hf hfs _ fs.length 0 n (by omega) (by omega)
end
end Go.Proofs.YtmpglmcjoelciaaGreatDoor.Ev
namespace Go.Proofs.YtmpglmcjoelciaaGreatDoor.Ev
open Go Go.Proofs Go.Proofs.Ev
set_option linter.unusedVariables false
set_option linter.unusedSimpArgs false
theorem tyIn_F {B : List FL} {fs : List LF} {s : List UInt8} {f : LF} (h : fs.find? (fun f => f.nm == s) = some f) : tyIn (fs.map (mkF B)) s = ((mkF B f).k, (mkF B f).l, (mkF B f).s, true) := by
  unfold tyIn
  rw [List.find?_map, show ((fun f : FD => f.nm == s) ∘ mkF B) = fun f => f.nm == s from rfl, h]
  rfl
section
variable {n : Nat} {nm fm : ByteArray} {ws : List (List UInt8)} {fs : List LF} {js : List JP} {ks : List KF} {uq : Bool} {rs : List RL} {gs : List FL}
structure Fine (gs : List FL) (ws : List (List UInt8)) (fs : List LF) (js : List JP) (rs : List RL) : Prop where
  hg : gs.length ≤ 1000
  hgf : ∀ g ∈ gs, g.few
  wl : ws.length ≤ 1000
  fl : fs.length ≤ 1000
  jl : js.length ≤ 1000
  rl : rs.length ≤ 100
  fb : ∀ f ∈ fs, 0 ≤ f.b ∧ f.b < (ws.length : Int)
  jb : ∀ j ∈ js, (0 ≤ j.fr ∧ j.fr < (ws.length : Int)) ∧ (0 ≤ j.b ∧ j.b < (ws.length : Int))
  ro : ∀ r ∈ rs, ROk (names fs) r
theorem ref36 (hn : 1001 ≤ n) (h0 : Fine gs ws fs js rs) (hw : ∀ w ∈ ws, fnd gs w) (hF : OkF (ovFs gs ws fs) rs) : ∀ (d i m : Nat), i + d = rs.length → 1010 * d + 1 ≤ m →
    Q2t.l n m (.z36 (gs.map FL.av) i nm fm (Ws ws) (fs.map LF.av) (js.map JP.av) (ks.map KF.av) uq (rs.map RL.av)) = some (ovR (ovFs gs ws fs) (rs.drop i) i)
  | 0, i, m, h, hm => by
    obtain ⟨m, rfl⟩ : ∃ q, m = q + 1 := ⟨m - 1, by omega⟩
    rw [Q2t.at36]
    unfold Q2t.r36
    have hrl := h0.rl
    simp (disch := omega) only [Option.bind_some, Option.bind_none, cond_true, cond_false, Bool.not_true, Bool.not_false, List.length_map, Ws_length, bs_size, within_t, upto_t, wsucc, Int.toNat_natCast, at_mapN, Ws_getDN, cells_agg, cells_v, withCons_cons, withInt_mk, withStr_mk, withBool_mk, withSl_mk, cond_t, cond_f]
    rw [formatR_eq hn gs h0.hg h0.hgf hw h0.fl h0.fb]
    simp (disch := omega) only [Option.bind_some, Option.bind_none, cond_true, cond_false, Bool.not_true, Bool.not_false, List.length_map, Ws_length, bs_size, within_t, upto_t, wsucc, Int.toNat_natCast, at_mapN, Ws_getDN, cells_agg, cells_v, withCons_cons, withInt_mk, withStr_mk, withBool_mk, withSl_mk, cond_t, cond_f]
    rw [fsize_eq hn _ hF.len hF.ok, List.drop_of_length_le (show rs.length ≤ i by omega)]
    simp (disch := omega) only [Option.bind_some, Option.bind_none, cond_true, cond_false, Bool.not_true, Bool.not_false, List.length_map, Ws_length, bs_size, within_t, upto_t, wsucc, Int.toNat_natCast, at_mapN, Ws_getDN, cells_agg, cells_v, withCons_cons, withInt_mk, withStr_mk, withBool_mk, withSl_mk, cond_t, cond_f, count_eq]
    simp only [ovR]
    by_cases h2 : szs (ovFs gs ws fs) > 200
    · simp [h2]; rfl
    · simp [h2]; rfl
  | d + 1, i, m, h, hm => by
    obtain ⟨m, rfl⟩ : ∃ q, m = q + 1 := ⟨m - 1, by omega⟩
    have hi : i < rs.length := by omega
    have hrl := h0.rl
    obtain ⟨hcl, hc⟩ := hF.cs rs[i] (List.getElem_mem hi)
    have hro := h0.ro rs[i] (List.getElem_mem hi)
    have inner : ∀ (e j q : Nat), j + e = rs[i].cs.length → 1010 * d + 2 + e ≤ q →
        Q2t.l n q (.z39 (gs.map FL.av) i j nm fm (Ws ws) (fs.map LF.av) (js.map JP.av) (ks.map KF.av) uq (rs.map RL.av)) = some (if ovC (ovFs gs ws fs) (rs[i].cs.drop j) ≠ 0 then ((i : Int), ovC (ovFs gs ws fs) (rs[i].cs.drop j)) else ovR (ovFs gs ws fs) (rs.drop (i + 1)) (i + 1)) := by
      intro e
      induction e with
      | zero =>
        intro j q hj hq
        obtain ⟨q, rfl⟩ : ∃ r, q = r + 1 := ⟨q - 1, by omega⟩
        have ih := ref36 hn h0 hw hF d (i + 1) q (by omega) (by omega)
        rw [Q2t.at39]
        unfold Q2t.r39
        simp (disch := omega) only [Option.bind_some, Option.bind_none, cond_true, cond_false, Bool.not_true, Bool.not_false, List.length_map, Ws_length, bs_size, within_t, upto_t, wsucc, Int.toNat_natCast, at_mapN, Ws_getDN, cells_agg, cells_v, withCons_cons, withInt_mk, withStr_mk, withBool_mk, withSl_mk, cond_t, cond_f, RL.av, List.drop_succ_cons, List.drop_zero]
        rw [List.drop_of_length_le (show rs[i].cs.length ≤ j by omega), if_neg (by simp [ovC])]
        exact ih
      | succ e ih =>
        intro j q hj hq
        obtain ⟨q, rfl⟩ : ∃ r, q = r + 1 := ⟨q - 1, by omega⟩
        have hjl : j < rs[i].cs.length := by omega
        obtain ⟨h1, h2⟩ := hc rs[i].cs[j] (List.getElem_mem hjl)
        have hco := hro.cs _ (List.getElem_mem hjl)
        have ih' := ih (j + 1) q (by omega) (by omega)
        rw [Q2t.at39]
        unfold Q2t.r39
        simp (disch := omega) only [Option.bind_some, Option.bind_none, cond_true, cond_false, Bool.not_true, Bool.not_false, List.length_map, Ws_length, bs_size, within_t, upto_t, wsucc, Int.toNat_natCast, at_mapN, Ws_getDN, cells_agg, cells_v, withCons_cons, withInt_mk, withStr_mk, withBool_mk, withSl_mk, cond_t, cond_f, RL.av, CN.av, List.drop_succ_cons, List.drop_zero]
        rw [fieldOf_eq hn fs h0.fl]
        have hfm : (names fs).contains rs[i].cs[j].fd = true := hco.fd
        rcases ixs_find LF.nm rs[i].cs[j].fd fs 0 with ⟨e1, e2⟩ | ⟨k, hk, e1, e2⟩
        · exfalso
          obtain ⟨f, hf1, hf2⟩ := List.mem_map.1 (show rs[i].cs[j].fd ∈ fs.map LF.nm by simpa [names] using hfm)
          exact List.find?_eq_none.1 e1 f hf1 (by simp [hf2])
        · rw [show ixs (names fs) rs[i].cs[j].fd 0 = ((0 + k : Nat) : Int) from e2, Nat.zero_add]
          have hfl := h0.fl
          obtain ⟨b0, b1⟩ := h0.fb fs[k] (List.getElem_mem hk)
          have et := tyIn_F (B := ws.map (baseOf gs)) e1
          rw [show fs.map (mkF (ws.map (baseOf gs))) = ovFs gs ws fs from rfl] at et
          simp only [mkF] at et
          rw [et] at h1 h2
          simp (disch := omega) only [Option.bind_some, Option.bind_none, cond_true, cond_false, Bool.not_true, Bool.not_false, List.length_map, Ws_length, bs_size, within_t, upto_t, wsucc, Int.toNat_natCast, at_mapN, Ws_getDN, cells_agg, cells_v, withCons_cons, withInt_mk, withStr_mk, withBool_mk, withSl_mk, cond_t, cond_f, LF.av]
          rw [typeOfR_eq hn gs h0.hg h0.hgf hw _ b0 b1]
          simp (disch := omega) only [Option.bind_some, Option.bind_none, cond_true, cond_false, Bool.not_true, Bool.not_false, List.length_map, Ws_length, bs_size, within_t, upto_t, wsucc, Int.toNat_natCast, at_mapN, Ws_getDN, cells_agg, cells_v, withCons_cons, withInt_mk, withStr_mk, withBool_mk, withSl_mk, cond_t, cond_f]
          rw [valueErrR_eq hn _ _ h1 h2, List.drop_eq_getElem_cons hjl, ovC_cons, et]
          simp (disch := omega) only [Option.bind_some, Option.bind_none, cond_true, cond_false, Bool.not_true, Bool.not_false, List.length_map, Ws_length, bs_size, within_t, upto_t, wsucc, Int.toNat_natCast, at_mapN, Ws_getDN, cells_agg, cells_v, withCons_cons, withInt_mk, withStr_mk, withBool_mk, withSl_mk, cond_t, cond_f]
          rw [bif_ne, ih']
          generalize vE _ _ _ _ = v
          by_cases hv : v = 0
          · simp [hv]
          · simp [hv]
    have hin := inner rs[i].cs.length 0 m (by omega) (by omega)
    rw [List.drop_zero] at hin
    rw [Q2t.at36]
    unfold Q2t.r36
    simp (disch := omega) only [Option.bind_some, Option.bind_none, cond_true, cond_false, Bool.not_true, Bool.not_false, List.length_map, Ws_length, bs_size, within_t, upto_t, wsucc, Int.toNat_natCast, at_mapN, Ws_getDN, cells_agg, cells_v, withCons_cons, withInt_mk, withStr_mk, withBool_mk, withSl_mk, cond_t, cond_f]
    rw [List.drop_eq_getElem_cons hi, ovR_cons]
    exact hin
theorem ref26 (hn : 1001 ≤ n) (h0 : Fine gs ws fs js rs) (hw : ∀ w ∈ ws, fnd gs w) (hF : OkF (ovFs gs ws fs) rs) : ∀ (d i m : Nat), i + d = js.length → d + 101002 ≤ m →
    Q2t.l n m (.z26 (gs.map FL.av) i nm fm (Ws ws) (fs.map LF.av) (js.map JP.av) (ks.map KF.av) uq (rs.map RL.av)) = some (ovJ (ws.map (baseOf gs)) (ovFs gs ws fs) rs (js.drop i) i)
  | 0, i, m, h, hm => by
    obtain ⟨m, rfl⟩ : ∃ q, m = q + 1 := ⟨m - 1, by omega⟩
    have hrl := h0.rl
    have hjl := h0.jl
    have := ref36 (nm := nm) (fm := fm) (ks := ks) (uq := uq) hn h0 hw hF rs.length 0 m (by omega) (by omega)
    rw [List.drop_zero] at this
    rw [Q2t.at26]
    unfold Q2t.r26
    simp (disch := omega) only [Option.bind_some, Option.bind_none, cond_true, cond_false, Bool.not_true, Bool.not_false, List.length_map, Ws_length, bs_size, within_t, upto_t, wsucc, Int.toNat_natCast, at_mapN, Ws_getDN, cells_agg, cells_v, withCons_cons, withInt_mk, withStr_mk, withBool_mk, withSl_mk, cond_t, cond_f]
    rw [List.drop_of_length_le (show js.length ≤ i by omega)]
    exact this
  | d + 1, i, m, h, hm => by
    obtain ⟨m, rfl⟩ : ∃ q, m = q + 1 := ⟨m - 1, by omega⟩
    have hi : i < js.length := by omega
    have hjl := h0.jl
    have ih := ref26 hn h0 hw hF d (i + 1) m (by omega) (by omega)
    obtain ⟨⟨b0, b1⟩, b2, b3⟩ := h0.jb js[i] (List.getElem_mem hi)
    rw [Q2t.at26]
    unfold Q2t.r26
    simp (disch := omega) only [Option.bind_some, Option.bind_none, cond_true, cond_false, Bool.not_true, Bool.not_false, List.length_map, Ws_length, bs_size, within_t, upto_t, wsucc, Int.toNat_natCast, at_mapN, Ws_getDN, cells_agg, cells_v, withCons_cons, withInt_mk, withStr_mk, withBool_mk, withSl_mk, cond_t, cond_f, JP.av]
    rw [typeOfR_eq hn gs h0.hg h0.hgf hw _ b0 b1]
    simp (disch := omega) only [Option.bind_some, Option.bind_none, cond_true, cond_false, Bool.not_true, Bool.not_false, List.length_map, Ws_length, bs_size, within_t, upto_t, wsucc, Int.toNat_natCast, at_mapN, Ws_getDN, cells_agg, cells_v, withCons_cons, withInt_mk, withStr_mk, withBool_mk, withSl_mk, cond_t, cond_f]
    rw [typeOfR_eq hn gs h0.hg h0.hgf hw _ b2 b3]
    simp (disch := omega) only [Option.bind_some, Option.bind_none, cond_true, cond_false, Bool.not_true, Bool.not_false, List.length_map, Ws_length, bs_size, within_t, upto_t, wsucc, Int.toNat_natCast, at_mapN, Ws_getDN, cells_agg, cells_v, withCons_cons, withInt_mk, withStr_mk, withBool_mk, withSl_mk, cond_t, cond_f]
    rw [ih, List.drop_eq_getElem_cons hi, ovJ_cons]
    unfold pE
    obtain ⟨a1, a2, a3, a4⟩ := tyIn (bAt (ws.map (baseOf gs)) js[i].fr).ds js[i].lf
    obtain ⟨c1, c2, c3, c4⟩ := tyIn (bAt (ws.map (baseOf gs)) js[i].b).ds js[i].rt
    cases a4
    · simp
    · cases c4
      · simp
      · by_cases k1 : a1 = c1 <;> by_cases k2 : a2 = c2 <;> by_cases k3 : a3 = c3 <;> simp [beq_int, k1, k2, k3]
theorem ref20 (hn : 1001 ≤ n) (h0 : Fine gs ws fs js rs) (hw : ∀ w ∈ ws, fnd gs w) (hF : (∀ f ∈ fs, (tyIn (bAt (ws.map (baseOf gs)) f.b).ds f.fd).2.2.2 = true) → OkF (ovFs gs ws fs) rs) : ∀ (d i m : Nat), i + d = fs.length → d + 102003 ≤ m →
    (∀ f ∈ fs.take i, (tyIn (bAt (ws.map (baseOf gs)) f.b).ds f.fd).2.2.2 = true) →
    Q2t.l n m (.z20 (gs.map FL.av) i nm fm (Ws ws) (fs.map LF.av) (js.map JP.av) (ks.map KF.av) uq (rs.map RL.av)) = some (ovF (ws.map (baseOf gs)) (ovFs gs ws fs) js rs (fs.drop i) i)
  | 0, i, m, h, hm, hp => by
    obtain ⟨m, rfl⟩ : ∃ q, m = q + 1 := ⟨m - 1, by omega⟩
    have hjl := h0.jl
    have hfl := h0.fl
    rw [List.take_of_length_le (by omega)] at hp
    have := ref26 (nm := nm) (fm := fm) (ks := ks) (uq := uq) hn h0 hw (hF hp) js.length 0 m (by omega) (by omega)
    rw [List.drop_zero] at this
    rw [Q2t.at20]
    unfold Q2t.r20
    simp (disch := omega) only [Option.bind_some, Option.bind_none, cond_true, cond_false, Bool.not_true, Bool.not_false, List.length_map, Ws_length, bs_size, within_t, upto_t, wsucc, Int.toNat_natCast, at_mapN, Ws_getDN, cells_agg, cells_v, withCons_cons, withInt_mk, withStr_mk, withBool_mk, withSl_mk, cond_t, cond_f]
    rw [List.drop_of_length_le (show fs.length ≤ i by omega)]
    exact this
  | d + 1, i, m, h, hm, hp => by
    obtain ⟨m, rfl⟩ : ∃ q, m = q + 1 := ⟨m - 1, by omega⟩
    have hi : i < fs.length := by omega
    have hfl := h0.fl
    obtain ⟨b0, b1⟩ := h0.fb fs[i] (List.getElem_mem hi)
    rw [Q2t.at20]
    unfold Q2t.r20
    simp (disch := omega) only [Option.bind_some, Option.bind_none, cond_true, cond_false, Bool.not_true, Bool.not_false, List.length_map, Ws_length, bs_size, within_t, upto_t, wsucc, Int.toNat_natCast, at_mapN, Ws_getDN, cells_agg, cells_v, withCons_cons, withInt_mk, withStr_mk, withBool_mk, withSl_mk, cond_t, cond_f, LF.av, List.drop_succ_cons, List.drop_zero]
    rw [typeOfR_eq hn gs h0.hg h0.hgf hw _ b0 b1]
    simp (disch := omega) only [Option.bind_some, Option.bind_none, cond_true, cond_false, Bool.not_true, Bool.not_false, List.length_map, Ws_length, bs_size, within_t, upto_t, wsucc, Int.toNat_natCast, at_mapN, Ws_getDN, cells_agg, cells_v, withCons_cons, withInt_mk, withStr_mk, withBool_mk, withSl_mk, cond_t, cond_f]
    rw [List.drop_eq_getElem_cons hi, ovF_cons]
    cases h1 : (tyIn (bAt (ws.map (baseOf gs)) fs[i].b).ds fs[i].fd).2.2.2
    · rfl
    · rw [Bool.not_true, cond_false, if_neg (by simp)]
      refine ref20 hn h0 hw hF d (i + 1) m (by omega) (by omega) ?_
      intro f hfm
      rw [List.take_succ_eq_append_getElem hi, List.mem_append, List.mem_singleton] at hfm
      rcases hfm with hfm | rfl
      · exact hp f hfm
      · exact h1
theorem ref15 (hn : 1001 ≤ n) (h0 : Fine gs ws fs js rs) (hF : (∀ w ∈ ws, fnd gs w) → (∀ f ∈ fs, (tyIn (bAt (ws.map (baseOf gs)) f.b).ds f.fd).2.2.2 = true) → OkF (ovFs gs ws fs) rs) : ∀ (d i m : Nat), i + d = ws.length → d + 103004 ≤ m →
    (∀ w ∈ ws.take i, fnd gs w) →
    Q2t.l n m (.z15 (gs.map FL.av) i nm fm (Ws ws) (fs.map LF.av) (js.map JP.av) (ks.map KF.av) uq (rs.map RL.av)) = some (ovB gs (ws.map (baseOf gs)) (ovFs gs ws fs) fs js rs (ws.drop i) i)
  | 0, i, m, h, hm, hp => by
    obtain ⟨m, rfl⟩ : ∃ q, m = q + 1 := ⟨m - 1, by omega⟩
    have hwl := h0.wl
    have hfl := h0.fl
    rw [List.take_of_length_le (by omega)] at hp
    have := ref20 (nm := nm) (fm := fm) (ks := ks) (uq := uq) hn h0 hp (hF hp) fs.length 0 m (by omega) (by omega) (by simp)
    rw [List.drop_zero] at this
    rw [Q2t.at15]
    unfold Q2t.r15
    simp (disch := omega) only [Option.bind_some, Option.bind_none, cond_true, cond_false, Bool.not_true, Bool.not_false, List.length_map, Ws_length, bs_size, within_t, upto_t, wsucc, Int.toNat_natCast, at_mapN, Ws_getDN, cells_agg, cells_v, withCons_cons, withInt_mk, withStr_mk, withBool_mk, withSl_mk, cond_t, cond_f]
    rw [List.drop_of_length_le (show ws.length ≤ i by omega)]
    exact this
  | d + 1, i, m, h, hm, hp => by
    obtain ⟨m, rfl⟩ : ∃ q, m = q + 1 := ⟨m - 1, by omega⟩
    have hi : i < ws.length := by omega
    have hwl := h0.wl
    rw [Q2t.at15]
    unfold Q2t.r15
    simp (disch := omega) only [Option.bind_some, Option.bind_none, cond_true, cond_false, Bool.not_true, Bool.not_false, List.length_map, Ws_length, bs_size, within_t, upto_t, wsucc, Int.toNat_natCast, at_mapN, Ws_getDN, cells_agg, cells_v, withCons_cons, withInt_mk, withStr_mk, withBool_mk, withSl_mk, cond_t, cond_f]
    rw [fileAt_eq hn gs h0.hg, List.drop_eq_getElem_cons hi, ovB_cons]
    rcases ixs_find FL.nm ws[i] gs 0 with ⟨h1, h2⟩ | ⟨j, hj, h1, h2⟩
    · rw [show ixs (fnames gs) ws[i] 0 = -1 from h2, if_pos h1]
      rfl
    · have : ((j : Int) == -1) = false := by rw [beq_int]; simp
      rw [show ixs (fnames gs) ws[i] 0 = ((0 + j : Nat) : Int) from h2, Nat.zero_add, if_neg (by rw [h1]; simp)]
      simp (disch := omega) only [Option.bind_some, Option.bind_none, cond_true, cond_false, Bool.not_true, Bool.not_false, List.length_map, Ws_length, bs_size, within_t, upto_t, wsucc, Int.toNat_natCast, at_mapN, Ws_getDN, cells_agg, cells_v, withCons_cons, withInt_mk, withStr_mk, withBool_mk, withSl_mk, cond_t, cond_f, this]
      refine ref15 hn h0 hF d (i + 1) m (by omega) (by omega) ?_
      intro w hw
      rw [List.take_succ_eq_append_getElem hi, List.mem_append, List.mem_singleton] at hw
      rcases hw with hw | rfl
      · exact hp w hw
      · unfold fnd; rw [h1]; simp
theorem ref7 (hn : 1001 ≤ n) (h0 : Fine gs ws fs js rs) (hF : (∀ g ∈ gs, fileE g.nm g.fm g.ds g.ks = 0) → (∀ w ∈ ws, fnd gs w) → (∀ f ∈ fs, (tyIn (bAt (ws.map (baseOf gs)) f.b).ds f.fd).2.2.2 = true) → OkF (ovFs gs ws fs) rs) : ∀ (d i m : Nat), i + d = gs.length → d + 104005 ≤ m →
    (∀ g ∈ gs.take i, fileE g.nm g.fm g.ds g.ks = 0) →
    Q2t.l n m (.z7 (gs.map FL.av) i nm fm (Ws ws) (fs.map LF.av) (js.map JP.av) (ks.map KF.av) uq (rs.map RL.av)) = some (if flE (fnames gs) (gs.drop i) i ≠ 0 then (0, flE (fnames gs) (gs.drop i) i) else ovB gs (ws.map (baseOf gs)) (ovFs gs ws fs) fs js rs ws 0)
  | 0, i, m, h, hm, hp => by
    obtain ⟨m, rfl⟩ : ∃ q, m = q + 1 := ⟨m - 1, by omega⟩
    have hwl := h0.wl
    have hgl := h0.hg
    rw [List.take_of_length_le (by omega)] at hp
    have := ref15 (nm := nm) (fm := fm) (ks := ks) (uq := uq) hn h0 (hF hp) ws.length 0 m (by omega) (by omega) (by simp)
    rw [List.drop_zero] at this
    rw [Q2t.at7]
    unfold Q2t.r7
    simp (disch := omega) only [Option.bind_some, Option.bind_none, cond_true, cond_false, Bool.not_true, Bool.not_false, List.length_map, Ws_length, bs_size, within_t, upto_t, wsucc, Int.toNat_natCast, at_mapN, Ws_getDN, cells_agg, cells_v, withCons_cons, withInt_mk, withStr_mk, withBool_mk, withSl_mk, cond_t, cond_f]
    rw [List.drop_of_length_le (show gs.length ≤ i by omega), if_neg (by simp [flE])]
    exact this
  | d + 1, i, m, h, hm, hp => by
    obtain ⟨m, rfl⟩ : ∃ q, m = q + 1 := ⟨m - 1, by omega⟩
    have hi : i < gs.length := by omega
    have hgl := h0.hg
    obtain ⟨g1, g2⟩ := h0.hgf gs[i] (List.getElem_mem hi)
    rw [Q2t.at7]
    unfold Q2t.r7
    simp (disch := omega) only [Option.bind_some, Option.bind_none, cond_true, cond_false, Bool.not_true, Bool.not_false, List.length_map, Ws_length, bs_size, within_t, upto_t, wsucc, Int.toNat_natCast, at_mapN, Ws_getDN, cells_agg, cells_v, withCons_cons, withInt_mk, withStr_mk, withBool_mk, withSl_mk, cond_t, cond_f, FL.av]
    rw [plainErr_eq hn _ _ _ g1 _ g2]
    simp (disch := omega) only [Option.bind_some, Option.bind_none, cond_true, cond_false, Bool.not_true, Bool.not_false, List.length_map, Ws_length, bs_size, within_t, upto_t, wsucc, Int.toNat_natCast, at_mapN, Ws_getDN, cells_agg, cells_v, withCons_cons, withInt_mk, withStr_mk, withBool_mk, withSl_mk, cond_t, cond_f]
    rw [bif_ne, List.drop_eq_getElem_cons hi, flE_cons]
    by_cases h1 : fileE gs[i].nm gs[i].fm gs[i].ds gs[i].ks = 0
    · simp only [h1, ne_eq, not_true_eq_false, if_false]
      rw [fileAt_eq hn gs h0.hg]
      have hlt := ixs_lt (fnames gs) gs[i].nm 0 i (by rw [fnames_length]; exact hi) (by rw [List.getElem?_eq_getElem (by rw [fnames_length]; exact hi)]; simp [fnames])
      rw [Nat.zero_add] at hlt
      rw [Option.bind_some, hlt]
      cases h2 : ((fnames gs).take i).contains gs[i].nm
      · simp only [cond_false, Bool.false_eq_true, if_false]
        refine ref7 hn h0 hF d (i + 1) m (by omega) (by omega) ?_
        intro g hgm
        rw [List.take_succ_eq_append_getElem hi, List.mem_append, List.mem_singleton] at hgm
        rcases hgm with hgm | rfl
        · exact hp g hgm
        · exact h1
      · rfl
    · simp only [h1, ne_eq, not_false_eq_true, if_true]
end
section
variable {n : Nat} {nm fm : List UInt8} {ws : List (List UInt8)} {fs : List LF} {js : List JP} {ks : List KF} {uq : Bool} {rs : List RL} {gs : List FL}
theorem fine_of (hg : gs.length ≤ 1000) (hgf : ∀ g ∈ gs, g.few) (hL : LOk nm fm ws fs js ks uq rs) : Fine gs ws fs js rs := by
  obtain ⟨l1, l2, w0, w1, wsn, f0, f1, fso, j1, jso, k1, kso, ke, r1, rso⟩ := hL
  refine ⟨hg, hgf, by omega, by omega, by omega, by omega, ?_, ?_, rso⟩
  · intro f h
    have := fso f h
    have h1 := this.b0
    have h2 := this.b1
    omega
  · intro j h
    have := jso j h
    have h1 := this.b0
    have h2 := this.b1
    have h3 := this.f0
    have h4 := this.f1
    omega
theorem checkOverR_eq (hn : 200000 ≤ n) (hg : gs.length ≤ 1000) (hgf : ∀ g ∈ gs, g.few) (hw : ws.length ≤ 1000) (hf : fs.length ≤ 1000) (hj : js.length ≤ 1000) (hk : ks.length ≤ 1000) (hr : rs.length ≤ 1000) (hc : ∀ r ∈ rs, r.cs.length ≤ 1000) :
    Q2t.F n (bs nm) (bs fm) (Ws ws) (fs.map LF.av) (js.map JP.av) (ks.map KF.av) uq (rs.map RL.av) (gs.map FL.av) = some (overX gs nm fm ws fs js ks uq rs) := by
  unfold Q2t.F Q2t.e overX
  rw [checkRef_eq (by omega) nm fm hw hf hj hk hr hc, Option.bind_some, bif_ne]
  by_cases h : (chkL nm fm ws fs js ks uq rs).2 = 0
  · have hL := chkL_ok h
    have h0 := fine_of hg hgf hL
    rw [if_neg (by simp [h]), if_neg (by simp [h])]
    unfold overT filesE
    by_cases h8 : gs.length > 8
    · simp (disch := omega) only [Option.bind_some, Option.bind_none, cond_true, cond_false, Bool.not_true, Bool.not_false, List.length_map, Ws_length, bs_size, within_t, upto_t, wsucc, Int.toNat_natCast, at_mapN, Ws_getDN, cells_agg, cells_v, withCons_cons, withInt_mk, withStr_mk, withBool_mk, withSl_mk, cond_t, cond_f]
      rw [if_pos h8]
      rfl
    · simp (disch := omega) only [Option.bind_some, Option.bind_none, cond_true, cond_false, Bool.not_true, Bool.not_false, List.length_map, Ws_length, bs_size, within_t, upto_t, wsucc, Int.toNat_natCast, at_mapN, Ws_getDN, cells_agg, cells_v, withCons_cons, withInt_mk, withStr_mk, withBool_mk, withSl_mk, cond_t, cond_f]
      rw [if_neg h8]
      have hbl : (ws.map (baseOf gs)).length = ws.length := by simp
      have := ref7 (n := n) (nm := bs nm) (fm := bs fm) (ks := ks) (uq := uq) (by omega) h0 (fun hgo hww ht => okF_of (B := ws.map (baseOf gs)) (fun g hm => hgo g (bases_in hww g hm)) hf (by rw [hbl]; exact h0.fb) h0.ro ht) gs.length 0 n (by omega) (by omega) (by simp)
      rw [List.drop_zero] at this
      exact this
  · rw [if_pos h, if_pos h]
theorem over_found (h : (overT gs ws fs js rs).2 = 0) : ∀ w ∈ ws, fnd gs w := by
  unfold overT at h
  by_cases h0 : filesE gs = 0
  · rw [if_neg (by simp [h0])] at h
    have : ∀ (l : List (List UInt8)) (i : Nat), (ovB gs (ws.map (baseOf gs)) (fs.map (mkF (ws.map (baseOf gs)))) fs js rs l i).2 = 0 → ∀ w ∈ l, fnd gs w := by
      intro l
      induction l with
      | nil => simp
      | cons x l ih =>
        intro i h
        rw [ovB_cons] at h
        by_cases h1 : gs.find? (fun g => g.nm == x) = none
        · rw [if_pos h1] at h; cases h
        · rw [if_neg h1] at h
          intro w hw
          rcases List.mem_cons.1 hw with rfl | hw
          · exact h1
          · exact ih (i + 1) h w hw
    exact this ws 0 h
  · rw [if_pos h0] at h; exact absurd h h0
end
end Go.Proofs.YtmpglmcjoelciaaGreatDoor.Ev
namespace Go.Proofs.YtmpglmcjoelciaaGreatDoor.Ev
open Go Go.Proofs Go.Proofs.Ev
set_option linter.unusedVariables false
section
variable {n : Nat} {nm fm : ByteArray} {ws : List (List UInt8)} {fs : List LF} {js : List JP} {ks : List KF} {uq : Bool} {rs : List RL}
theorem fewKeys_l (hk : ks.length ≤ 1000) : ∀ (d i m : Nat), i + d = ks.length → d < m → ∃ b, Q2k.l n m (.z2 (ks.map KF.av) i) = some b
  | _, _, 0, _, h => absurd h (by omega)
  | 0, i, m + 1, h, _ => by
    rw [Q2k.at2]
    unfold Q2k.r2
    simp only [List.length_map]
    exact ⟨true, by rw [cond_f (by omega)]⟩
  | d + 1, i, m + 1, h, hm => by
    have hi : i < ks.length := by omega
    obtain ⟨b, ih⟩ := fewKeys_l hk d (i + 1) m (by omega) (by omega)
    rw [Q2k.at2]
    unfold Q2k.r2
    simp only [List.length_map]
    rw [cond_t (by omega), within_t hi, cond_true, at_map KF.av hi]
    show ∃ b, (bif decide ((((bs ks[i].nm).size : Nat) : Int) > 100) then some false else Q2k.l n m (.z2 (ks.map KF.av) (IntKind.i64.wrap ((i : Int) + 1)))) = some b
    rw [wsucc (by omega), ih]
    cases decide ((((bs ks[i].nm).size : Nat) : Int) > 100)
    · exact ⟨b, rfl⟩
    · exact ⟨false, rfl⟩
def fewC (rs : List RL) (i : Nat) : Prop := ∀ k (h : k < rs.length), i ≤ k → rs[k].cs.length ≤ 8
theorem few19 (hr : rs.length ≤ 1000) : ∀ (d i m : Nat), i + d = rs.length → 20 * d < m → ∃ b, Q2i.l n m (.z19 i nm fm (Ws ws) (fs.map LF.av) (js.map JP.av) (ks.map KF.av) uq (rs.map RL.av)) = some b ∧ (b = true → fewC rs i)
  | 0, i, m, h, hm => by
    obtain ⟨m, rfl⟩ : ∃ q, m = q + 1 := ⟨m - 1, by omega⟩
    rw [Q2i.at19]
    unfold Q2i.r19
    simp only [List.length_map]
    exact ⟨true, by rw [cond_f (by omega)], fun _ k hk hik => absurd hk (by omega)⟩
  | d + 1, i, m, h, hm => by
    obtain ⟨m, rfl⟩ : ∃ q, m = q + 1 := ⟨m - 1, by omega⟩
    have hi : i < rs.length := by omega
    have inner : ∀ (e j q : Nat), rs[i].cs.length ≤ 8 → j + e = rs[i].cs.length → 20 * d + 2 + e ≤ q → ∃ b, Q2i.l n q (.z24 i j nm fm (Ws ws) (fs.map LF.av) (js.map JP.av) (ks.map KF.av) uq (rs.map RL.av)) = some b ∧ (b = true → fewC rs (i + 1)) := by
      intro e
      induction e with
      | zero =>
        intro j q h8 hj hq
        obtain ⟨q, rfl⟩ : ∃ r, q = r + 1 := ⟨q - 1, by omega⟩
        obtain ⟨b, h1, h2⟩ := few19 hr d (i + 1) q (by omega) (by omega)
        refine ⟨b, ?_, h2⟩
        rw [Q2i.at24]
        unfold Q2i.r24
        simp only [List.length_map]
        rw [within_t hi, cond_true, at_map RL.av hi]
        show (bif decide ((j : Int) < (((rs[i].cs.map CN.av).length : Nat) : Int)) then _ else _) = _
        rw [List.length_map, cond_f (by omega), wsucc (by omega)]
        exact h1
      | succ e ih =>
        intro j q h8 hj hq
        obtain ⟨q, rfl⟩ : ∃ r, q = r + 1 := ⟨q - 1, by omega⟩
        have hjl : j < rs[i].cs.length := by omega
        obtain ⟨b, h1, h2⟩ := ih (j + 1) q h8 (by omega) (by omega)
        rw [Q2i.at24]
        unfold Q2i.r24
        simp only [List.length_map]
        rw [within_t hi, cond_true, at_map RL.av hi]
        show ∃ b, (bif decide ((j : Int) < (((rs[i].cs.map CN.av).length : Nat) : Int)) then (bif true then (bif decide ((0 : Int) ≤ (j : Int)) && decide ((j : Int) < (((rs[i].cs.map CN.av).length : Nat) : Int)) then
          (withCons (((rs[i].cs.map CN.av).getD (((j : Nat) : Int)).toNat .undef).cells) fun h44 r45 => withStr h44 fun s46 => withCons r45 fun h47 r48 => withInt .i64 h47 fun x49 => withCons r48 fun h50 r51 => withInt .i64 h50 fun x52 => withCons r51 fun h53 r54 => withStr h53 fun s55 =>
            bif decide (((s46.size : Nat) : Int) > 100) then some false else (bif decide (((s55.size : Nat) : Int) > 400) then some false else Q2i.l n q (.z24 i (IntKind.i64.wrap ((j : Int) + 1)) nm fm (Ws ws) (fs.map LF.av) (js.map JP.av) (ks.map KF.av) uq (rs.map RL.av)))) else none) else none) else _) = some b ∧ _
        rw [List.length_map, cond_t (by omega), cond_true, within_t hjl, cond_true, at_map CN.av hjl]
        show ∃ b, (bif decide ((((bs rs[i].cs[j].fd).size : Nat) : Int) > 100) then some false else (bif decide ((((bs rs[i].cs[j].s).size : Nat) : Int) > 400) then some false else Q2i.l n q (.z24 i (IntKind.i64.wrap ((j : Int) + 1)) nm fm (Ws ws) (fs.map LF.av) (js.map JP.av) (ks.map KF.av) uq (rs.map RL.av)))) = some b ∧ _
        rw [wsucc (by omega), h1]
        cases decide ((((bs rs[i].cs[j].fd).size : Nat) : Int) > 100)
        · cases decide ((((bs rs[i].cs[j].s).size : Nat) : Int) > 400)
          · exact ⟨b, rfl, h2⟩
          · exact ⟨false, rfl, nofun⟩
        · exact ⟨false, rfl, nofun⟩
    rw [Q2i.at19]
    unfold Q2i.r19
    simp only [List.length_map]
    rw [cond_t (by omega), within_t hi, cond_true, at_map RL.av hi]
    show ∃ b, (bif decide ((((rs[i].cs.map CN.av).length : Nat) : Int) > 8) then some false else Q2i.l n m (.z24 i 0 nm fm (Ws ws) (fs.map LF.av) (js.map JP.av) (ks.map KF.av) uq (rs.map RL.av))) = some b ∧ _
    rw [List.length_map]
    by_cases h8 : rs[i].cs.length > 8
    · exact ⟨false, by rw [cond_t (by omega)], nofun⟩
    · obtain ⟨b, h1, h2⟩ := inner rs[i].cs.length 0 m (by omega) (by omega) (by omega)
      refine ⟨b, by rw [cond_f (by omega)]; exact h1, fun hb k hk hik => ?_⟩
      by_cases hki : k = i
      · subst hki; omega
      · exact h2 hb k hk (by omega)
theorem few14 (hj : js.length ≤ 1000) (hr : rs.length ≤ 1000) : ∀ (d i m : Nat), i + d = js.length → d + 20002 < m → ∃ b, Q2i.l n m (.z14 i nm fm (Ws ws) (fs.map LF.av) (js.map JP.av) (ks.map KF.av) uq (rs.map RL.av)) = some b ∧ (b = true → fewC rs 0)
  | _, _, 0, _, h => absurd h (by omega)
  | 0, i, m + 1, h, hm => by
    rw [Q2i.at14]
    unfold Q2i.r14
    simp only [List.length_map]
    rw [cond_f (by omega)]
    exact few19 hr rs.length 0 m (by omega) (by omega)
  | d + 1, i, m + 1, h, hm => by
    have hi : i < js.length := by omega
    obtain ⟨b, h1, h2⟩ := few14 hj hr d (i + 1) m (by omega) (by omega)
    rw [Q2i.at14]
    unfold Q2i.r14
    simp only [List.length_map]
    rw [cond_t (by omega), within_t hi, cond_true, at_map JP.av hi]
    show ∃ b, (bif decide ((((bs js[i].lf).size : Nat) : Int) > 100) then some false else (bif true then (bif decide ((((bs js[i].rt).size : Nat) : Int) > 100) then some false else Q2i.l n m (.z14 (IntKind.i64.wrap ((i : Int) + 1)) nm fm (Ws ws) (fs.map LF.av) (js.map JP.av) (ks.map KF.av) uq (rs.map RL.av))) else none)) = some b ∧ _
    rw [wsucc (by omega), h1, cond_true]
    cases decide ((((bs js[i].lf).size : Nat) : Int) > 100)
    · cases decide ((((bs js[i].rt).size : Nat) : Int) > 100)
      · exact ⟨b, rfl, h2⟩
      · exact ⟨false, rfl, nofun⟩
    · exact ⟨false, rfl, nofun⟩
theorem few9 (hf : fs.length ≤ 1000) (hj : js.length ≤ 1000) (hr : rs.length ≤ 1000) : ∀ (d i m : Nat), i + d = fs.length → d + 21004 < m → ∃ b, Q2i.l n m (.z9 i nm fm (Ws ws) (fs.map LF.av) (js.map JP.av) (ks.map KF.av) uq (rs.map RL.av)) = some b ∧ (b = true → fewC rs 0)
  | _, _, 0, _, h => absurd h (by omega)
  | 0, i, m + 1, h, hm => by
    rw [Q2i.at9]
    unfold Q2i.r9
    simp only [List.length_map]
    rw [cond_f (by omega)]
    exact few14 hj hr js.length 0 m (by omega) (by omega)
  | d + 1, i, m + 1, h, hm => by
    have hi : i < fs.length := by omega
    obtain ⟨b, h1, h2⟩ := few9 hf hj hr d (i + 1) m (by omega) (by omega)
    rw [Q2i.at9]
    unfold Q2i.r9
    simp only [List.length_map]
    rw [cond_t (by omega), within_t hi, cond_true, at_map LF.av hi]
    show ∃ b, (bif decide ((((bs fs[i].nm).size : Nat) : Int) > 100) then some false else (bif true then (bif decide ((((bs fs[i].fd).size : Nat) : Int) > 100) then some false else Q2i.l n m (.z9 (IntKind.i64.wrap ((i : Int) + 1)) nm fm (Ws ws) (fs.map LF.av) (js.map JP.av) (ks.map KF.av) uq (rs.map RL.av))) else none)) = some b ∧ _
    rw [wsucc (by omega), h1, cond_true]
    cases decide ((((bs fs[i].nm).size : Nat) : Int) > 100)
    · cases decide ((((bs fs[i].fd).size : Nat) : Int) > 100)
      · exact ⟨b, rfl, h2⟩
      · exact ⟨false, rfl, nofun⟩
    · exact ⟨false, rfl, nofun⟩
theorem few4 (hw : ws.length ≤ 1000) (hf : fs.length ≤ 1000) (hj : js.length ≤ 1000) (hr : rs.length ≤ 1000) : ∀ (d i m : Nat), i + d = ws.length → d + 22006 < m → ∃ b, Q2i.l n m (.z4 i nm fm (Ws ws) (fs.map LF.av) (js.map JP.av) (ks.map KF.av) uq (rs.map RL.av)) = some b ∧ (b = true → fewC rs 0)
  | _, _, 0, _, h => absurd h (by omega)
  | 0, i, m + 1, h, hm => by
    rw [Q2i.at4]
    unfold Q2i.r4
    simp only [Ws_length]
    rw [cond_f (by omega)]
    exact few9 hf hj hr fs.length 0 m (by omega) (by omega)
  | d + 1, i, m + 1, h, hm => by
    have hi : i < ws.length := by omega
    obtain ⟨b, h1, h2⟩ := few4 hw hf hj hr d (i + 1) m (by omega) (by omega)
    rw [Q2i.at4]
    unfold Q2i.r4
    simp only [Ws_length]
    rw [cond_t (by omega), within_t hi, cond_true, Ws_getD hi]
    show ∃ b, (bif decide ((((bs ws[i]).size : Nat) : Int) > 100) then some false else Q2i.l n m (.z4 (IntKind.i64.wrap ((i : Int) + 1)) nm fm (Ws ws) (fs.map LF.av) (js.map JP.av) (ks.map KF.av) uq (rs.map RL.av))) = some b ∧ _
    rw [wsucc (by omega), h1]
    cases decide ((((bs ws[i]).size : Nat) : Int) > 100)
    · exact ⟨b, rfl, h2⟩
    · exact ⟨false, rfl, nofun⟩
theorem few_eq (hn : 30000 ≤ n) : ∃ b, Q2i.F n nm fm (Ws ws) (fs.map LF.av) (js.map JP.av) (ks.map KF.av) uq (rs.map RL.av) = some b ∧
    (b = true → ws.length ≤ 8 ∧ fs.length ≤ 40 ∧ js.length ≤ 40 ∧ ks.length ≤ 40 ∧ rs.length ≤ 12 ∧ fewC rs 0) := by
  obtain ⟨m, rfl⟩ : ∃ m, n = m + 1 := ⟨n - 1, by omega⟩
  have c2 : Q2i.l (m + 1) (m + 1) .z2 = some false := rfl
  unfold Q2i.F Q2i.e
  simp only [c2, Ws_length, List.length_map]
  cases decide (((nm.size : Nat) : Int) > 100)
  case true => exact ⟨false, rfl, nofun⟩
  cases decide (((fm.size : Nat) : Int) > 100)
  case true => exact ⟨false, rfl, nofun⟩
  simp only [cond_false]
  by_cases h1 : ws.length > 8
  · exact ⟨false, by rw [cond_t (by omega)], nofun⟩
  by_cases h2 : fs.length > 40
  · exact ⟨false, by rw [cond_f (by omega), cond_t (by omega)], nofun⟩
  by_cases h3 : js.length > 40
  · exact ⟨false, by rw [cond_f (by omega), cond_f (by omega), cond_t (by omega)], nofun⟩
  by_cases h4 : ks.length > 40
  · exact ⟨false, by rw [cond_f (by omega), cond_f (by omega), cond_f (by omega), cond_t (by omega)], nofun⟩
  by_cases h5 : rs.length > 12
  · exact ⟨false, by rw [cond_f (by omega), cond_f (by omega), cond_f (by omega), cond_f (by omega), cond_t (by omega)], nofun⟩
  rw [cond_f (by omega), cond_f (by omega), cond_f (by omega), cond_f (by omega), cond_f (by omega)]
  obtain ⟨b, hb⟩ : ∃ b, Q2k.F (m + 1) (ks.map KF.av) = some b := by
    unfold Q2k.F Q2k.e
    exact fewKeys_l (by omega) ks.length 0 (m + 1) (by omega) (by omega)
  rw [hb, Option.bind_some]
  cases b with
  | false => exact ⟨false, rfl, nofun⟩
  | true =>
    obtain ⟨b, e1, e2⟩ := few4 (n := m + 1) (nm := nm) (fm := fm) (ws := ws) (fs := fs) (js := js) (ks := ks) (uq := uq) (rs := rs) (by omega) (by omega) (by omega) (by omega) ws.length 0 (m + 1) (by omega) (by omega)
    exact ⟨b, e1, fun hb => ⟨by omega, by omega, by omega, by omega, by omega, e2 hb⟩⟩
end
theorem map_of {α : Type} (f : α → AV) (P : AV → Prop) (h : ∀ y, P y → ∃ a, y = f a) : ∀ xs : List AV, (∀ y ∈ xs, P y) → ∃ l : List α, xs = l.map f
  | [], _ => ⟨[], rfl⟩
  | x :: xs, hx => by
    obtain ⟨a, rfl⟩ := h x (hx x (by simp))
    obtain ⟨l, rfl⟩ := map_of f P h xs (fun y hy => hx y (by simp [hy]))
    exact ⟨a :: l, rfl⟩
theorem map_of' {α : Type} {f : α → AV} {P : AV → Prop} {xs : List AV} (hx : ∀ y ∈ xs, P y) (h : ∀ y, P y → ∃ a, y = f a) : ∃ l : List α, xs = l.map f := map_of f P h xs hx
end Go.Proofs.YtmpglmcjoelciaaGreatDoor.Ev
namespace Go.Proofs.YtmpglmcjoelciaaGreatDoor.Ev
open Go Go.Proofs Go.Proofs.Ev
set_option linter.unusedVariables false
set_option linter.unusedSimpArgs false
section
variable {n : Nat} {nm fm : ByteArray}
theorem fewFile_l (ds : List FD) (hd : ds.length ≤ 1000) (ks : List KF) (hk : ks.length ≤ 1000) (hn : 1001 ≤ n) (uq : Bool) : ∀ (d i m : Nat), i + d = ds.length → d < m → ∃ b, Q2g.l n m (.z4 i nm fm (ds.map FD.av) (ks.map KF.av) uq) = some b
  | _, _, 0, _, h => absurd h (by omega)
  | 0, i, m + 1, h, _ => by
    rw [Q2g.at4]
    unfold Q2g.r4
    obtain ⟨b, hb⟩ : ∃ b, Q2k.F n (ks.map KF.av) = some b := by
      unfold Q2k.F Q2k.e
      exact fewKeys_l (by omega) ks.length 0 n (by omega) (by omega)
    simp (disch := omega) only [Option.bind_some, Option.bind_none, cond_true, cond_false, Bool.not_true, Bool.not_false, List.length_map, Ws_length, bs_size, within_t, upto_t, wsucc, Int.toNat_natCast, at_mapN, Ws_getDN, cells_agg, cells_v, withCons_cons, withInt_mk, withStr_mk, withBool_mk, withSl_mk, cond_t, cond_f, hb]
    exact ⟨b, rfl⟩
  | d + 1, i, m + 1, h, hm => by
    have hi : i < ds.length := by omega
    obtain ⟨b, ih⟩ := fewFile_l ds hd ks hk hn uq d (i + 1) m (by omega) (by omega)
    rw [Q2g.at4]
    unfold Q2g.r4
    simp (disch := omega) only [Option.bind_some, Option.bind_none, cond_true, cond_false, Bool.not_true, Bool.not_false, List.length_map, Ws_length, bs_size, within_t, upto_t, wsucc, Int.toNat_natCast, at_mapN, Ws_getDN, cells_agg, cells_v, withCons_cons, withInt_mk, withStr_mk, withBool_mk, withSl_mk, cond_t, cond_f, FD.av, ih]
    cases decide ((ds[i].nm.length : Int) > 100)
    · exact ⟨b, rfl⟩
    · exact ⟨false, rfl⟩
theorem fewFile_eq (hn : 1002 ≤ n) (g : FL) : ∃ b, Q2g.F n (bs g.nm) (bs g.fm) (g.ds.map FD.av) (g.ks.map KF.av) g.uq = some b ∧ (b = true → g.few) := by
  obtain ⟨m, rfl⟩ : ∃ m, n = m + 1 := ⟨n - 1, by omega⟩
  have c2 : Q2g.l (m + 1) (m + 1) .z2 = some false := rfl
  unfold Q2g.F Q2g.e
  simp only [c2, List.length_map]
  cases decide ((((bs g.nm).size : Nat) : Int) > 100)
  case true => exact ⟨false, rfl, nofun⟩
  cases decide ((((bs g.fm).size : Nat) : Int) > 100)
  case true => exact ⟨false, rfl, nofun⟩
  simp only [cond_false]
  by_cases h1 : g.ds.length > 40
  · exact ⟨false, by rw [cond_t (by omega)], nofun⟩
  by_cases h2 : g.ks.length > 40
  · exact ⟨false, by rw [cond_f (by omega), cond_t (by omega)], nofun⟩
  rw [cond_f (by omega), cond_f (by omega)]
  obtain ⟨b, hb⟩ := fewFile_l (n := m + 1) (nm := bs g.nm) (fm := bs g.fm) g.ds (by omega) g.ks (by omega) (by omega) g.uq g.ds.length 0 (m + 1) (by omega) (by omega)
  exact ⟨b, hb, fun _ => ⟨by omega, by omega⟩⟩
theorem fewFiles_l (hn : 1002 ≤ n) (gs : List FL) (hg : gs.length ≤ 1000) : ∀ (d i m : Nat), i + d = gs.length → d < m → ∃ b, Q2h.l n m (.z4 (gs.map FL.av) i) = some b ∧ (b = true → ∀ g ∈ gs.drop i, g.few)
  | _, _, 0, _, h => absurd h (by omega)
  | 0, i, m + 1, h, _ => by
    rw [Q2h.at4]
    unfold Q2h.r4
    simp (disch := omega) only [Option.bind_some, Option.bind_none, cond_true, cond_false, Bool.not_true, Bool.not_false, List.length_map, Ws_length, bs_size, within_t, upto_t, wsucc, Int.toNat_natCast, at_mapN, Ws_getDN, cells_agg, cells_v, withCons_cons, withInt_mk, withStr_mk, withBool_mk, withSl_mk, cond_t, cond_f]
    rw [List.drop_of_length_le (by omega)]
    exact ⟨true, rfl, fun _ => by simp⟩
  | d + 1, i, m + 1, h, hm => by
    have hi : i < gs.length := by omega
    obtain ⟨b, ih, ih2⟩ := fewFiles_l hn gs hg d (i + 1) m (by omega) (by omega)
    obtain ⟨b', h1, h2⟩ := fewFile_eq hn gs[i]
    rw [Q2h.at4]
    unfold Q2h.r4
    simp (disch := omega) only [Option.bind_some, Option.bind_none, cond_true, cond_false, Bool.not_true, Bool.not_false, List.length_map, Ws_length, bs_size, within_t, upto_t, wsucc, Int.toNat_natCast, at_mapN, Ws_getDN, cells_agg, cells_v, withCons_cons, withInt_mk, withStr_mk, withBool_mk, withSl_mk, cond_t, cond_f, FL.av, h1, ih]
    rw [List.drop_eq_getElem_cons hi]
    cases b'
    · exact ⟨false, rfl, nofun⟩
    · refine ⟨b, rfl, fun hb g hm => ?_⟩
      rcases List.mem_cons.1 hm with rfl | hm
      · exact h2 rfl
      · exact ih2 hb g hm
theorem fewFiles_eq (hn : 1002 ≤ n) (gs : List FL) : ∃ b, Q2h.F n (gs.map FL.av) = some b ∧ (b = true → gs.length ≤ 20 ∧ ∀ g ∈ gs, g.few) := by
  unfold Q2h.F Q2h.e
  simp only [List.length_map]
  by_cases h1 : gs.length > 20
  · exact ⟨false, by rw [cond_t (by omega)], nofun⟩
  rw [cond_f (by omega)]
  obtain ⟨b, h2, h3⟩ := fewFiles_l hn gs (by omega) gs.length 0 n (by omega) (by omega)
  exact ⟨b, h2, fun hb => ⟨by omega, h3 hb⟩⟩
theorem ownFiles_l (hn : 1002 ≤ n) (gs : List FL) (hg : gs.length ≤ 1000) (hgf : ∀ g ∈ gs, g.few) : ∀ (d i m : Nat), i + d = gs.length → d < m → Q2z.l n m (.z3 (gs.map FL.av) i ((gs.take i).map FL.av)) = some (gs.map FL.av)
  | _, _, 0, _, h => absurd h (by omega)
  | 0, i, m + 1, h, _ => by
    rw [Q2z.at3]
    unfold Q2z.r3
    simp (disch := omega) only [Option.bind_some, Option.bind_none, cond_true, cond_false, Bool.not_true, Bool.not_false, List.length_map, Ws_length, bs_size, within_t, upto_t, wsucc, Int.toNat_natCast, at_mapN, Ws_getDN, cells_agg, cells_v, withCons_cons, withInt_mk, withStr_mk, withBool_mk, withSl_mk, cond_t, cond_f]
    rw [List.take_of_length_le (by omega)]
  | d + 1, i, m + 1, h, hm => by
    have hi : i < gs.length := by omega
    have hmost : most = 1000000000 := rfl
    obtain ⟨g1, g2⟩ := hgf gs[i] (List.getElem_mem hi)
    have ih := ownFiles_l hn gs hg hgf d (i + 1) m (by omega) (by omega)
    rw [Q2z.at3]
    unfold Q2z.r3
    have eo : Q2y.F n (bs gs[i].nm) (bs gs[i].fm) (gs[i].ds.map FD.av) (gs[i].ks.map KF.av) gs[i].uq = some (bs gs[i].nm, bs gs[i].fm, gs[i].ds.map FD.av, gs[i].ks.map KF.av, gs[i].uq) := by
      unfold Q2y.F Q2y.e
      simp (disch := omega) only [Option.bind_some, Option.bind_none, cond_true, cond_false, Bool.not_true, Bool.not_false, List.length_map, Ws_length, bs_size, within_t, upto_t, wsucc, Int.toNat_natCast, at_mapN, Ws_getDN, cells_agg, cells_v, withCons_cons, withInt_mk, withStr_mk, withBool_mk, withSl_mk, cond_t, cond_f]
    have hl : (gs.take i).length ≤ 1000 := by rw [List.length_take]; omega
    simp (disch := omega) only [Option.bind_some, Option.bind_none, cond_true, cond_false, Bool.not_true, Bool.not_false, List.length_map, Ws_length, bs_size, within_t, upto_t, wsucc, Int.toNat_natCast, at_mapN, Ws_getDN, cells_agg, cells_v, withCons_cons, withInt_mk, withStr_mk, withBool_mk, withSl_mk, cond_t, cond_f, FL.av, eo, List.length_singleton]
    have e : (gs.take i).map FL.av ++ [AV.agg [vs (bs gs[i].nm), vs (bs gs[i].fm), .sl ⟨true, 125⟩ 4 (gs[i].ds.map FD.av), .sl ⟨true, 111⟩ 2 (gs[i].ks.map KF.av), vb gs[i].uq]] = (gs.take (i + 1)).map FL.av := by
      rw [List.take_succ_eq_append_getElem hi, List.map_append]
      rfl
    rw [e]
    exact ih
theorem ownFiles_eq (hn : 1002 ≤ n) (gs : List FL) (hg : gs.length ≤ 1000) (hgf : ∀ g ∈ gs, g.few) : Q2z.F n (gs.map FL.av) = some (gs.map FL.av) := by
  unfold Q2z.F Q2z.e
  exact ownFiles_l hn gs hg hgf gs.length 0 n (by omega) (by omega)
theorem ba_refl (x : ByteArray) : (x == x) = true := by
  cases x with
  | mk a => exact beq_self_eq_true a
theorem sameFormat_l (ds : List FD) (hd : ds.length ≤ 1000) : ∀ (d i m : Nat), i + d = ds.length → d < m → Q34.l n m (.z4 i nm (ds.map FD.av) fm (ds.map FD.av)) = some true
  | _, _, 0, _, h => absurd h (by omega)
  | 0, i, m + 1, h, _ => by
    rw [Q34.at4]
    unfold Q34.r4
    simp (disch := omega) only [Option.bind_some, Option.bind_none, cond_true, cond_false, Bool.not_true, Bool.not_false, List.length_map, Ws_length, bs_size, within_t, upto_t, wsucc, Int.toNat_natCast, at_mapN, Ws_getDN, cells_agg, cells_v, withCons_cons, withInt_mk, withStr_mk, withBool_mk, withSl_mk, cond_t, cond_f]
  | d + 1, i, m + 1, h, hm => by
    have hi : i < ds.length := by omega
    have ih := sameFormat_l ds hd d (i + 1) m (by omega) (by omega)
    rw [Q34.at4]
    unfold Q34.r4
    simp (disch := omega) only [Option.bind_some, Option.bind_none, cond_true, cond_false, Bool.not_true, Bool.not_false, List.length_map, Ws_length, bs_size, within_t, upto_t, wsucc, Int.toNat_natCast, at_mapN, Ws_getDN, cells_agg, cells_v, withCons_cons, withInt_mk, withStr_mk, withBool_mk, withSl_mk, cond_t, cond_f, FD.av, ba_refl, beq_self_eq_true, Bool.and_self, ih]
theorem sameFormat_eq (hn : 1001 ≤ n) (x : ByteArray) (ds : List FD) (hd : ds.length ≤ 1000) : Q34.F n x (ds.map FD.av) x (ds.map FD.av) = some true := by
  unfold Q34.F Q34.e
  have hb : ((((ds.map FD.av).length : Nat) : Int) != (((ds.map FD.av).length : Nat) : Int)) = false := by simp
  simp (disch := omega) only [Option.bind_some, Option.bind_none, cond_true, cond_false, Bool.not_true, Bool.not_false, List.length_map, Ws_length, bs_size, within_t, upto_t, wsucc, Int.toNat_natCast, at_mapN, Ws_getDN, cells_agg, cells_v, withCons_cons, withInt_mk, withStr_mk, withBool_mk, withSl_mk, cond_t, cond_f, beq_self_eq_true, hb]
  have hb : (((ds.length : Nat) : Int) != ((ds.length : Nat) : Int)) = false := by simp
  simp (disch := omega) only [Option.bind_some, Option.bind_none, cond_true, cond_false, Bool.not_true, Bool.not_false, List.length_map, Ws_length, bs_size, within_t, upto_t, wsucc, Int.toNat_natCast, at_mapN, Ws_getDN, cells_agg, cells_v, withCons_cons, withInt_mk, withStr_mk, withBool_mk, withSl_mk, cond_t, cond_f, hb]
  exact sameFormat_l ds hd ds.length 0 n (by omega) (by omega)
theorem over_law (hn : 1000002 ≤ n) (nm fm : ByteArray) (ws : List (List UInt8)) (fs : List LF) (js : List JP) (ks : List KF) (uq : Bool) (rs : List RL) (gs : List FL) :
    Q2b.F n nm fm (Ws ws) (fs.map LF.av) (js.map JP.av) (ks.map KF.av) uq (rs.map RL.av) (gs.map FL.av) = some true := by
  obtain ⟨l, rfl⟩ : ∃ l, nm = bs l := ⟨nm.data.toList, rfl⟩
  obtain ⟨l', rfl⟩ : ∃ l, fm = bs l := ⟨fm.data.toList, rfl⟩
  unfold Q2b.F Q2b.e
  rw [awake_eq, Option.bind_some]
  show (bif false then _ else _) = _
  rw [cond_false]
  obtain ⟨b, h1, h2⟩ := few_eq (n := n) (nm := bs l) (fm := bs l') (ws := ws) (fs := fs) (js := js) (ks := ks) (uq := uq) (rs := rs) (by omega)
  rw [h1, Option.bind_some]
  cases b with
  | false => rfl
  | true =>
    obtain ⟨b, h3, h4⟩ := fewFiles_eq (n := n) (by omega) gs
    rw [Bool.not_true, cond_false, h3, Option.bind_some]
    cases b with
    | false => rfl
    | true =>
      obtain ⟨b1, b2, b3, b4, b5, b6⟩ := h2 rfl
      obtain ⟨g1, g2⟩ := h4 rfl
      have hc : ∀ r ∈ rs, r.cs.length ≤ 1000 := by
        intro r hr
        obtain ⟨k, hk, rfl⟩ := List.getElem_of_mem hr
        have := b6 k hk (by omega)
        omega
      rw [Bool.not_true, cond_false, own_eq (by omega) (by omega) (by omega) (by omega) (by omega) (by omega) hc, Option.bind_some, ownFiles_eq (by omega) gs (by omega) g2, Option.bind_some]
      dsimp only
      rw [checkOver_eq (by omega) gs (by omega) g2 (by omega) (by omega) (by omega) (by omega) (by omega), Option.bind_some, Option.bind_some, Option.bind_some,
        formatOf_eq (by omega) gs (by omega) g2 (by omega) (by omega) (by omega) (by omega) (by omega), Option.bind_some, checkOverR_eq (by omega) (by omega) g2 (by omega) (by omega) (by omega) (by omega) (by omega) hc, Option.bind_some]
      by_cases h0 : (overX gs l l' ws fs js ks uq rs).2 = 0
      · have h0' : (overT gs ws fs js rs).2 = 0 ∧ (chkL l l' ws fs js ks uq rs).2 = 0 := by
          unfold overX at h0
          by_cases hx : (chkL l l' ws fs js ks uq rs).2 = 0
          · rw [if_neg (by simp [hx])] at h0; exact ⟨h0, hx⟩
          · rw [if_pos hx] at h0; exact absurd h0 hx
        have hfi := fine_of (gs := gs) (by omega) g2 (chkL_ok h0'.2)
        simp only [bne_self_eq_false, cond_false, h0, ne_eq, not_true_eq_false, if_false]
        rw [formatR_eq (by omega) gs (by omega) g2 (over_found h0'.1) (by omega) hfi.fb, Option.bind_some, sameFormat_eq (by omega) _ _ (by simp [ovFs]; omega)]
        rfl
      · have hb : ((overX gs l l' ws fs js ks uq rs).2 != 0) = true := by simp [h0]
        have := sameFormat_eq (n := n) (by omega) ⟨#[]⟩ [] (by simp)
        simp only [bne_self_eq_false, cond_false, h0, ne_eq, not_false_eq_true, if_true, hb, cond_true]
        rw [show Q34.F n ⟨#[]⟩ [] ⟨#[]⟩ [] = some true from this]
        rfl
end
end Go.Proofs.YtmpglmcjoelciaaGreatDoor.Ev
end
