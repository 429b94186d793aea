/- Logical files, 5: the reference's check, whole; copies. -/
import Derived.Test.YtmpglmcjoelciaaGreatDoorDLb

namespace Go.Proofs.YtmpglmcjoelciaaGreatDoor.Ev
open Go Go.Proofs Go.Proofs.Ev
set_option linter.unusedVariables false
section
variable {n : Nat} {nm fm : ByteArray} {ws : List (List UInt8)} {fs : List LF} {js : List JP} {ks : List KF} {uq : Bool} {rs : List RL}
theorem checkR19 (hn : 10001 ≤ n) (hw : 1 ≤ ws.length ∧ ws.length ≤ 1000) (hf : fs.length ≤ 1000) (hj : js.length ≤ 1000) (hk : ks.length ≤ 4 ∨ ks.length ≤ 1000) (hr : rs.length ≤ 1000) (hc : ∀ r ∈ rs, r.cs.length ≤ 1000) : ∀ (d i m : Nat), i + d = fs.length → d + 6000 ≤ m →
    (midrangeref25_Check.l n m).2.1 i nm fm (Ws ws) (fs.map LF.av) (js.map JP.av) (ks.map KF.av) uq (rs.map RL.av) = some (tailF ws fs js ks uq rs i)
  | 0, i, m, h, hm => by
    obtain ⟨m, rfl⟩ : ∃ q, m = q + 1 := ⟨m - 1, by omega⟩
    rw [midrangeref25_Check.at19]
    unfold midrangeref25_Check.r19 tailF
    simp only [List.length_map]
    rw [cond_f (by omega), List.drop_of_length_le (by omega), joinsR_eq (by omega) ws hw js hj, Option.bind_some, bif_ne]
    show _ = some (if (0 : Int) ≠ 0 then _ else _)
    rw [if_neg (by simp : ¬ (0 : Int) ≠ 0)]
    by_cases h1 : (jErrT ws js).2 = 0
    · rw [if_neg (by simp [h1]), if_neg (by simp [h1])]
      by_cases h4 : ks.length > 4
      · rw [cond_t (by omega), if_pos h4]
      · rw [cond_f (by omega), if_neg h4]
        exact checkR36 (by omega) hf (by omega) hr hc ks.length 0 m (by omega) (by omega)
    · rw [if_pos h1, if_pos h1]
  | d + 1, i, m, h, hm => by
    obtain ⟨m, rfl⟩ : ∃ q, m = q + 1 := ⟨m - 1, by omega⟩
    have hi : i < fs.length := by omega
    have hnl : (names fs).length = fs.length := by simp [names]
    have ih := checkR19 hn hw hf hj hk hr hc d (i + 1) m (by omega) (by omega)
    have hlt := ixs_lt (names fs) fs[i].nm 0 i (by omega) (by rw [List.getElem?_eq_getElem (by omega)]; simp [names])
    rw [Nat.zero_add] at hlt
    rw [midrangeref25_Check.at19]
    unfold midrangeref25_Check.r19
    simp only [List.length_map]
    rw [cond_t (by omega), within_t hi, cond_true, at_map LF.av hi]
    show ((midrangebase_IsName.F n (bs fs[i].nm)).bind fun p26 => bif !p26 then (some ((i : Int), 7)) else ((midrangeref25_FieldOf.F n nm fm (Ws ws) (fs.map LF.av) (js.map JP.av) (ks.map KF.av) uq (rs.map RL.av) (bs fs[i].nm)).bind fun p27 =>
      bif decide (p27 < (i : Int)) then (some ((i : Int), 13)) else ((midrangebase_Within.F n fs[i].b 0 (IntKind.i64.wrap ((((Ws ws).length : Nat) : Int) - 1))).bind fun p29 => bif !p29 then (some ((i : Int), 3)) else ((midrangebase_IsName.F n (bs fs[i].fd)).bind fun p30 =>
      bif !p30 then (some ((i : Int), 7)) else (midrangeref25_Check.l n m).2.1 (IntKind.i64.wrap ((i : Int) + 1)) nm fm (Ws ws) (fs.map LF.av) (js.map JP.av) (ks.map KF.av) uq (rs.map RL.av))))) = _
    rw [isNameR_eq (by omega), Option.bind_some, fieldOf_eq (by omega) fs hf, Option.bind_some, hlt, Ws_length, w64 (x := ((ws.length : Nat) : Int) - 1) (by omega) (by omega), Within_eq, Option.bind_some, isNameR_eq (by omega), Option.bind_some, wsucc (by omega), ih]
    unfold tailF
    rw [List.drop_eq_getElem_cons hi]
    rw [fErr_cons]
    unfold fe ne
    cases h1 : isNm fs[i].nm
    · simp
    · cases h2 : ((names fs).take i).contains fs[i].nm
      · by_cases h3 : 0 ≤ fs[i].b ∧ fs[i].b ≤ ((ws.length : Nat) : Int) - 1
        · cases h4 : isNm fs[i].fd
          · simp [h3]
          · simp only [h3, and_self, decide_true, Bool.not_true, cond_false, not_true_eq_false, if_false, Bool.true_eq_false, Bool.false_eq_true, ne_eq]
        · simp [h3]
      · simp
def tailB (ws : List (List UInt8)) (fs : List LF) (js : List JP) (ks : List KF) (uq : Bool) (rs : List RL) (i : Nat) : Int × Int :=
  if (bErr ws (ws.drop i) i).2 ≠ 0 then bErr ws (ws.drop i) i else if fs.length = 0 then (0, 1) else if fs.length > 20 then (0, 2) else tailF ws fs js ks uq rs 0
theorem checkR8 (hn : 10001 ≤ n) (hw : 1 ≤ ws.length ∧ ws.length ≤ 1000) (hf : fs.length ≤ 1000) (hj : js.length ≤ 1000) (hk : ks.length ≤ 1000) (hr : rs.length ≤ 1000) (hc : ∀ r ∈ rs, r.cs.length ≤ 1000) : ∀ (d i m : Nat), i + d = ws.length → d + 7001 ≤ m →
    (midrangeref25_Check.l n m).1 i nm fm (Ws ws) (fs.map LF.av) (js.map JP.av) (ks.map KF.av) uq (rs.map RL.av) = some (tailB ws fs js ks uq rs i)
  | 0, i, m, h, hm => by
    obtain ⟨m, rfl⟩ : ∃ q, m = q + 1 := ⟨m - 1, by omega⟩
    rw [midrangeref25_Check.at8]
    unfold midrangeref25_Check.r8 tailB
    simp only [List.length_map, Ws_length]
    rw [cond_f (by omega), List.drop_of_length_le (by omega), beq_int]
    show _ = some (if (0 : Int) ≠ 0 then _ else _)
    rw [if_neg (by simp : ¬ (0 : Int) ≠ 0)]
    by_cases h0 : fs.length = 0
    · rw [cond_t (by omega), if_pos h0]
    · rw [cond_f (by omega), if_neg h0]
      by_cases h20 : fs.length > 20
      · rw [cond_t (by omega), if_pos h20]
      · rw [cond_f (by omega), if_neg h20]
        exact checkR19 hn hw hf hj (.inr hk) hr hc fs.length 0 m (by omega) (by omega)
  | d + 1, i, m, h, hm => by
    obtain ⟨m, rfl⟩ : ∃ q, m = q + 1 := ⟨m - 1, by omega⟩
    have hi : i < ws.length := by omega
    have ih := checkR8 hn hw hf hj hk hr hc d (i + 1) m (by omega) (by omega)
    have hlt := ixs_lt ws ws[i] 0 i hi (List.getElem?_eq_getElem hi)
    rw [Nat.zero_add] at hlt
    rw [midrangeref25_Check.at8]
    unfold midrangeref25_Check.r8
    simp only [Ws_length]
    rw [cond_t (by omega), within_t hi, cond_true, Ws_getD hi]
    show ((midrangebase_IsName.F n (bs ws[i])).bind fun p9 => bif !p9 then (some ((i : Int), 7)) else (bif true then ((midrangebase_IndexOfString.F n (Ws ws) (bs ws[i])).bind fun p13 => bif decide (p13 < (i : Int)) then (some ((i : Int), 13)) else
      (midrangeref25_Check.l n m).1 (IntKind.i64.wrap ((i : Int) + 1)) nm fm (Ws ws) (fs.map LF.av) (js.map JP.av) (ks.map KF.av) uq (rs.map RL.av)) else none)) = _
    rw [cond_true, isNameR_eq (by omega), Option.bind_some, indexOf_eq (by omega) ws hw.2, Option.bind_some, hlt, wsucc (by omega), ih]
    unfold tailB
    rw [List.drop_eq_getElem_cons hi]
    rw [bErr_cons]
    unfold ne
    cases h1 : isNm ws[i]
    · simp
    · cases h2 : (ws.take i).contains ws[i]
      · simp only [Bool.not_true, cond_false, Bool.true_eq_false, if_false, Bool.false_eq_true, ne_eq, not_true_eq_false]
      · simp
/-- Both check the same. -/
theorem checkRef_eq (hn : 20010 ≤ n) (nm fm : List UInt8) (hw : ws.length ≤ 1000) (hf : fs.length ≤ 1000) (hj : js.length ≤ 1000) (hk : ks.length ≤ 1000) (hr : rs.length ≤ 1000) (hc : ∀ r ∈ rs, r.cs.length ≤ 1000) :
    midrangeref25_Check.F n (bs nm) (bs fm) (Ws ws) (fs.map LF.av) (js.map JP.av) (ks.map KF.av) uq (rs.map RL.av) = some (chkL nm fm ws fs js ks uq rs) := by
  unfold midrangeref25_Check.F midrangeref25_Check.e chkL
  rw [isNameR_eq (by omega), Option.bind_some, isNameR_eq (by omega), Option.bind_some]
  cases hnm : isNm nm with
  | false => rfl
  | true =>
    cases hfm : isNm fm with
    | false => rfl
    | true =>
      simp only [Bool.not_true, cond_false, Bool.true_eq_false, if_false, Ws_length]
      rw [beq_int]
      unfold bErrT
      by_cases h0 : ws.length = 0
      · rw [cond_t (by omega)]; simp [h0]
      · rw [cond_f (by omega)]
        by_cases h3 : ws.length > 3
        · rw [cond_t (by omega)]; simp [h0, h3]
        · have h8 : (midrangeref25_Check.l n n).1 0 (bs nm) (bs fm) (Ws ws) (fs.map LF.av) (js.map JP.av) (ks.map KF.av) uq (rs.map RL.av) = some (tailB ws fs js ks uq rs 0) := checkR8 (by omega) ⟨by omega, hw⟩ hf hj hk hr hc ws.length 0 n (by omega) (by omega)
          rw [cond_f (by omega), h8]
          simp only [h0, h3, if_false]
          unfold tailB tailF tailK tailR fErrT kErrT rErrT
          simp only [List.drop_zero]
          by_cases hb : (bErr ws ws 0).2 = 0
          · simp only [hb, ne_eq, not_true_eq_false, if_false]
            by_cases f0 : fs.length = 0
            · simp [f0]
            · by_cases f20 : fs.length > 20
              · simp [f0, f20]
              · simp only [f0, f20, if_false]
                by_cases hfe : (fErr ((ws.length : Int) - 1) (names fs) fs 0).2 = 0
                · simp only [hfe, not_true_eq_false, if_false]
                  by_cases hje : (jErrT ws js).2 = 0
                  · simp only [hje, not_true_eq_false, if_false]
                    by_cases k4 : ks.length > 4
                    · simp [k4]
                    · simp only [k4, if_false]
                      by_cases hke : (kErr (names fs) (knames ks) ks 0).2 = 0
                      · simp only [hke, not_true_eq_false, if_false]
                        by_cases r8 : rs.length > 8
                        · simp [r8]
                        · simp only [r8, if_false]
                      · simp only [hke, not_false_eq_true, if_true]
                  · simp only [hje, not_false_eq_true, if_true]
                · simp only [hfe, not_false_eq_true, if_true]
          · simp only [hb, ne_eq, not_false_eq_true, if_true]
theorem own_l (rs : List RL) (hr : rs.length ≤ 1000) (hc : ∀ r ∈ rs, r.cs.length ≤ 1000) (p1 a3 a4 a5 : List AV) (x y : ByteArray) (b : Bool) : ∀ (d i m : Nat), i + d = rs.length → d < m →
    midrangeref25_OwnLogical.l n m i nm fm uq (rs.map RL.av) p1 a3 a4 a5 x y b ((rs.take i).map RL.av) = some (nm, fm, p1, a3, a4, a5, uq, rs.map RL.av)
  | _, _, 0, _, h => absurd h (by omega)
  | 0, i, m + 1, h, _ => by
    rw [midrangeref25_OwnLogical.at7]
    unfold midrangeref25_OwnLogical.r7
    simp only [List.length_map]
    rw [cond_f (by omega), List.take_of_length_le (by omega)]
  | d + 1, i, m + 1, h, hm => by
    have hi : i < rs.length := by omega
    have hci := hc _ (List.getElem_mem hi)
    have hmost : most = 1000000000 := rfl
    have ih := own_l rs hr hc p1 a3 a4 a5 x y b d (i + 1) m (by omega) (by omega)
    rw [midrangeref25_OwnLogical.at7]
    unfold midrangeref25_OwnLogical.r7
    simp only [List.length_map]
    rw [cond_t (by omega), within_t hi, cond_true, at_map RL.av hi]
    show (bif true then (bif decide ((rs[i].cs.map CN.av).length ≤ most) then (bif decide ((rs.take i).length + 1 ≤ most) then
      (midrangeref25_OwnLogical.l n m (IntKind.i64.wrap ((i : Int) + 1)) nm fm uq (rs.map RL.av) p1 a3 a4 a5 x y b ((rs.take i).map RL.av ++ [RL.av rs[i]])) else none) else none) else none) = _
    rw [cond_true, cond_t (by rw [List.length_map]; omega), cond_t (by rw [List.length_take]; omega), wsucc (by omega)]
    have e : (rs.take i).map RL.av ++ [RL.av rs[i]] = (rs.take (i + 1)).map RL.av := by rw [List.take_succ_eq_append_getElem hi, List.map_append]; rfl
    rw [e]
    exact ih
theorem own_eq (hn : 1001 ≤ n) (hw : ws.length ≤ 1000) (hf : fs.length ≤ 1000) (hj : js.length ≤ 1000) (hk : ks.length ≤ 1000) (hr : rs.length ≤ 1000) (hc : ∀ r ∈ rs, r.cs.length ≤ 1000) :
    midrangeref25_OwnLogical.F n nm fm (Ws ws) (fs.map LF.av) (js.map JP.av) (ks.map KF.av) uq (rs.map RL.av) = some (nm, fm, Ws ws, fs.map LF.av, js.map JP.av, ks.map KF.av, uq, rs.map RL.av) := by
  have hmost : most = 1000000000 := rfl
  unfold midrangeref25_OwnLogical.F midrangeref25_OwnLogical.e midrangebase_CopyStrings.F midrangebase_CopyStrings.e
  rw [cond_t (by rw [Ws_length]; omega), Option.bind_some, cond_t (by rw [List.length_map]; omega), cond_t (by rw [List.length_map]; omega), cond_t (by rw [List.length_map]; omega)]
  exact own_l rs hr hc _ _ _ _ _ _ _ rs.length 0 n (by omega) (by omega)
end
end Go.Proofs.YtmpglmcjoelciaaGreatDoor.Ev

/- P25.2: which logical files have the right form, with an index, is as specified. -/
namespace Go.Proofs.YtmpglmcjoelciaaGreatDoor.Ev
open Go Go.Proofs Go.Proofs.Ev
set_option linter.unusedVariables false
section
variable {n : Nat} {nm fm : ByteArray} {ws : List (List UInt8)} {fs : List LF} {js : List JP} {ks : List KF} {uq : Bool} {rs : List RL}
theorem fewKeys_l (hk : ks.length ≤ 1000) : ∀ (d i m : Nat), i + d = ks.length → d < m → ∃ b, midrangelaw25_fewKeys.l n m (ks.map KF.av) i = some b
  | _, _, 0, _, h => absurd h (by omega)
  | 0, i, m + 1, h, _ => by
    rw [midrangelaw25_fewKeys.at2]
    unfold midrangelaw25_fewKeys.r2
    simp only [List.length_map]
    exact ⟨true, by rw [cond_f (by omega)]⟩
  | d + 1, i, m + 1, h, hm => by
    have hi : i < ks.length := by omega
    obtain ⟨b, ih⟩ := fewKeys_l hk d (i + 1) m (by omega) (by omega)
    rw [midrangelaw25_fewKeys.at2]
    unfold midrangelaw25_fewKeys.r2
    simp only [List.length_map]
    rw [cond_t (by omega), within_t hi, cond_true, at_map KF.av hi]
    show ∃ b, (bif decide ((((bs ks[i].nm).size : Nat) : Int) > 100) then some false else midrangelaw25_fewKeys.l n m (ks.map KF.av) (IntKind.i64.wrap ((i : Int) + 1))) = some b
    rw [wsucc (by omega), ih]
    cases decide ((((bs ks[i].nm).size : Nat) : Int) > 100)
    · exact ⟨b, rfl⟩
    · exact ⟨false, rfl⟩
/-- The rules' conditions are few. -/
def fewC (rs : List RL) (i : Nat) : Prop := ∀ k (h : k < rs.length), i ≤ k → rs[k].cs.length ≤ 8
theorem few19 (hr : rs.length ≤ 1000) : ∀ (d i m : Nat), i + d = rs.length → 20 * d < m → ∃ b, (midrangelaw25_FewLogical.l n m).2.2.2.2.1 i nm fm (Ws ws) (fs.map LF.av) (js.map JP.av) (ks.map KF.av) uq (rs.map RL.av) = some b ∧ (b = true → fewC rs i)
  | 0, i, m, h, hm => by
    obtain ⟨m, rfl⟩ : ∃ q, m = q + 1 := ⟨m - 1, by omega⟩
    rw [midrangelaw25_FewLogical.at19]
    unfold midrangelaw25_FewLogical.r19
    simp only [List.length_map]
    exact ⟨true, by rw [cond_f (by omega)], fun _ k hk hik => absurd hk (by omega)⟩
  | d + 1, i, m, h, hm => by
    obtain ⟨m, rfl⟩ : ∃ q, m = q + 1 := ⟨m - 1, by omega⟩
    have hi : i < rs.length := by omega
    have inner : ∀ (e j q : Nat), rs[i].cs.length ≤ 8 → j + e = rs[i].cs.length → 20 * d + 2 + e ≤ q → ∃ b, (midrangelaw25_FewLogical.l n q).2.2.2.2.2 i j nm fm (Ws ws) (fs.map LF.av) (js.map JP.av) (ks.map KF.av) uq (rs.map RL.av) = some b ∧ (b = true → fewC rs (i + 1)) := by
      intro e
      induction e with
      | zero =>
        intro j q h8 hj hq
        obtain ⟨q, rfl⟩ : ∃ r, q = r + 1 := ⟨q - 1, by omega⟩
        obtain ⟨b, h1, h2⟩ := few19 hr d (i + 1) q (by omega) (by omega)
        refine ⟨b, ?_, h2⟩
        rw [midrangelaw25_FewLogical.at24]
        unfold midrangelaw25_FewLogical.r24
        simp only [List.length_map]
        rw [within_t hi, cond_true, at_map RL.av hi]
        show (bif decide ((j : Int) < (((rs[i].cs.map CN.av).length : Nat) : Int)) then _ else _) = _
        rw [List.length_map, cond_f (by omega), wsucc (by omega)]
        exact h1
      | succ e ih =>
        intro j q h8 hj hq
        obtain ⟨q, rfl⟩ : ∃ r, q = r + 1 := ⟨q - 1, by omega⟩
        have hjl : j < rs[i].cs.length := by omega
        obtain ⟨b, h1, h2⟩ := ih (j + 1) q h8 (by omega) (by omega)
        rw [midrangelaw25_FewLogical.at24]
        unfold midrangelaw25_FewLogical.r24
        simp only [List.length_map]
        rw [within_t hi, cond_true, at_map RL.av hi]
        show ∃ b, (bif decide ((j : Int) < (((rs[i].cs.map CN.av).length : Nat) : Int)) then (bif true then (bif decide ((0 : Int) ≤ (j : Int)) && decide ((j : Int) < (((rs[i].cs.map CN.av).length : Nat) : Int)) then
          (withCons (((rs[i].cs.map CN.av).getD (((j : Nat) : Int)).toNat .undef).cells) fun h44 r45 => withStr h44 fun s46 => withCons r45 fun h47 r48 => withInt .i64 h47 fun x49 => withCons r48 fun h50 r51 => withInt .i64 h50 fun x52 => withCons r51 fun h53 r54 => withStr h53 fun s55 =>
            bif decide (((s46.size : Nat) : Int) > 100) then some false else (bif decide (((s55.size : Nat) : Int) > 400) then some false else (midrangelaw25_FewLogical.l n q).2.2.2.2.2 i (IntKind.i64.wrap ((j : Int) + 1)) nm fm (Ws ws) (fs.map LF.av) (js.map JP.av) (ks.map KF.av) uq (rs.map RL.av))) else none) else none) else _) = some b ∧ _
        rw [List.length_map, cond_t (by omega), cond_true, within_t hjl, cond_true, at_map CN.av hjl]
        show ∃ b, (bif decide ((((bs rs[i].cs[j].fd).size : Nat) : Int) > 100) then some false else (bif decide ((((bs rs[i].cs[j].s).size : Nat) : Int) > 400) then some false else (midrangelaw25_FewLogical.l n q).2.2.2.2.2 i (IntKind.i64.wrap ((j : Int) + 1)) nm fm (Ws ws) (fs.map LF.av) (js.map JP.av) (ks.map KF.av) uq (rs.map RL.av))) = some b ∧ _
        rw [wsucc (by omega), h1]
        cases decide ((((bs rs[i].cs[j].fd).size : Nat) : Int) > 100)
        · cases decide ((((bs rs[i].cs[j].s).size : Nat) : Int) > 400)
          · exact ⟨b, rfl, h2⟩
          · exact ⟨false, rfl, nofun⟩
        · exact ⟨false, rfl, nofun⟩
    rw [midrangelaw25_FewLogical.at19]
    unfold midrangelaw25_FewLogical.r19
    simp only [List.length_map]
    rw [cond_t (by omega), within_t hi, cond_true, at_map RL.av hi]
    show ∃ b, (bif decide ((((rs[i].cs.map CN.av).length : Nat) : Int) > 8) then some false else (midrangelaw25_FewLogical.l n m).2.2.2.2.2 i 0 nm fm (Ws ws) (fs.map LF.av) (js.map JP.av) (ks.map KF.av) uq (rs.map RL.av)) = some b ∧ _
    rw [List.length_map]
    by_cases h8 : rs[i].cs.length > 8
    · exact ⟨false, by rw [cond_t (by omega)], nofun⟩
    · obtain ⟨b, h1, h2⟩ := inner rs[i].cs.length 0 m (by omega) (by omega) (by omega)
      refine ⟨b, by rw [cond_f (by omega)]; exact h1, fun hb k hk hik => ?_⟩
      by_cases hki : k = i
      · subst hki; omega
      · exact h2 hb k hk (by omega)
theorem few14 (hj : js.length ≤ 1000) (hr : rs.length ≤ 1000) : ∀ (d i m : Nat), i + d = js.length → d + 20002 < m → ∃ b, (midrangelaw25_FewLogical.l n m).2.2.2.1 i nm fm (Ws ws) (fs.map LF.av) (js.map JP.av) (ks.map KF.av) uq (rs.map RL.av) = some b ∧ (b = true → fewC rs 0)
  | _, _, 0, _, h => absurd h (by omega)
  | 0, i, m + 1, h, hm => by
    rw [midrangelaw25_FewLogical.at14]
    unfold midrangelaw25_FewLogical.r14
    simp only [List.length_map]
    rw [cond_f (by omega)]
    exact few19 hr rs.length 0 m (by omega) (by omega)
  | d + 1, i, m + 1, h, hm => by
    have hi : i < js.length := by omega
    obtain ⟨b, h1, h2⟩ := few14 hj hr d (i + 1) m (by omega) (by omega)
    rw [midrangelaw25_FewLogical.at14]
    unfold midrangelaw25_FewLogical.r14
    simp only [List.length_map]
    rw [cond_t (by omega), within_t hi, cond_true, at_map JP.av hi]
    show ∃ b, (bif decide ((((bs js[i].lf).size : Nat) : Int) > 100) then some false else (bif true then (bif decide ((((bs js[i].rt).size : Nat) : Int) > 100) then some false else (midrangelaw25_FewLogical.l n m).2.2.2.1 (IntKind.i64.wrap ((i : Int) + 1)) nm fm (Ws ws) (fs.map LF.av) (js.map JP.av) (ks.map KF.av) uq (rs.map RL.av)) else none)) = some b ∧ _
    rw [wsucc (by omega), h1, cond_true]
    cases decide ((((bs js[i].lf).size : Nat) : Int) > 100)
    · cases decide ((((bs js[i].rt).size : Nat) : Int) > 100)
      · exact ⟨b, rfl, h2⟩
      · exact ⟨false, rfl, nofun⟩
    · exact ⟨false, rfl, nofun⟩
theorem few9 (hf : fs.length ≤ 1000) (hj : js.length ≤ 1000) (hr : rs.length ≤ 1000) : ∀ (d i m : Nat), i + d = fs.length → d + 21004 < m → ∃ b, (midrangelaw25_FewLogical.l n m).2.2.1 i nm fm (Ws ws) (fs.map LF.av) (js.map JP.av) (ks.map KF.av) uq (rs.map RL.av) = some b ∧ (b = true → fewC rs 0)
  | _, _, 0, _, h => absurd h (by omega)
  | 0, i, m + 1, h, hm => by
    rw [midrangelaw25_FewLogical.at9]
    unfold midrangelaw25_FewLogical.r9
    simp only [List.length_map]
    rw [cond_f (by omega)]
    exact few14 hj hr js.length 0 m (by omega) (by omega)
  | d + 1, i, m + 1, h, hm => by
    have hi : i < fs.length := by omega
    obtain ⟨b, h1, h2⟩ := few9 hf hj hr d (i + 1) m (by omega) (by omega)
    rw [midrangelaw25_FewLogical.at9]
    unfold midrangelaw25_FewLogical.r9
    simp only [List.length_map]
    rw [cond_t (by omega), within_t hi, cond_true, at_map LF.av hi]
    show ∃ b, (bif decide ((((bs fs[i].nm).size : Nat) : Int) > 100) then some false else (bif true then (bif decide ((((bs fs[i].fd).size : Nat) : Int) > 100) then some false else (midrangelaw25_FewLogical.l n m).2.2.1 (IntKind.i64.wrap ((i : Int) + 1)) nm fm (Ws ws) (fs.map LF.av) (js.map JP.av) (ks.map KF.av) uq (rs.map RL.av)) else none)) = some b ∧ _
    rw [wsucc (by omega), h1, cond_true]
    cases decide ((((bs fs[i].nm).size : Nat) : Int) > 100)
    · cases decide ((((bs fs[i].fd).size : Nat) : Int) > 100)
      · exact ⟨b, rfl, h2⟩
      · exact ⟨false, rfl, nofun⟩
    · exact ⟨false, rfl, nofun⟩
theorem few4 (hw : ws.length ≤ 1000) (hf : fs.length ≤ 1000) (hj : js.length ≤ 1000) (hr : rs.length ≤ 1000) : ∀ (d i m : Nat), i + d = ws.length → d + 22006 < m → ∃ b, (midrangelaw25_FewLogical.l n m).2.1 i nm fm (Ws ws) (fs.map LF.av) (js.map JP.av) (ks.map KF.av) uq (rs.map RL.av) = some b ∧ (b = true → fewC rs 0)
  | _, _, 0, _, h => absurd h (by omega)
  | 0, i, m + 1, h, hm => by
    rw [midrangelaw25_FewLogical.at4]
    unfold midrangelaw25_FewLogical.r4
    simp only [Ws_length]
    rw [cond_f (by omega)]
    exact few9 hf hj hr fs.length 0 m (by omega) (by omega)
  | d + 1, i, m + 1, h, hm => by
    have hi : i < ws.length := by omega
    obtain ⟨b, h1, h2⟩ := few4 hw hf hj hr d (i + 1) m (by omega) (by omega)
    rw [midrangelaw25_FewLogical.at4]
    unfold midrangelaw25_FewLogical.r4
    simp only [Ws_length]
    rw [cond_t (by omega), within_t hi, cond_true, Ws_getD hi]
    show ∃ b, (bif decide ((((bs ws[i]).size : Nat) : Int) > 100) then some false else (midrangelaw25_FewLogical.l n m).2.1 (IntKind.i64.wrap ((i : Int) + 1)) nm fm (Ws ws) (fs.map LF.av) (js.map JP.av) (ks.map KF.av) uq (rs.map RL.av)) = some b ∧ _
    rw [wsucc (by omega), h1]
    cases decide ((((bs ws[i]).size : Nat) : Int) > 100)
    · exact ⟨b, rfl, h2⟩
    · exact ⟨false, rfl, nofun⟩
/-- Whether a logical file is small. -/
theorem few_eq (hn : 30000 ≤ n) : ∃ b, midrangelaw25_FewLogical.F n nm fm (Ws ws) (fs.map LF.av) (js.map JP.av) (ks.map KF.av) uq (rs.map RL.av) = some b ∧
    (b = true → ws.length ≤ 8 ∧ fs.length ≤ 40 ∧ js.length ≤ 40 ∧ ks.length ≤ 40 ∧ rs.length ≤ 12 ∧ fewC rs 0) := by
  obtain ⟨m, rfl⟩ : ∃ m, n = m + 1 := ⟨n - 1, by omega⟩
  have c2 : (midrangelaw25_FewLogical.l (m + 1) (m + 1)).1 () = some false := rfl
  unfold midrangelaw25_FewLogical.F midrangelaw25_FewLogical.e
  simp only [c2, Ws_length, List.length_map]
  cases decide (((nm.size : Nat) : Int) > 100)
  case true => exact ⟨false, rfl, nofun⟩
  cases decide (((fm.size : Nat) : Int) > 100)
  case true => exact ⟨false, rfl, nofun⟩
  simp only [cond_false]
  by_cases h1 : ws.length > 8
  · exact ⟨false, by rw [cond_t (by omega)], nofun⟩
  by_cases h2 : fs.length > 40
  · exact ⟨false, by rw [cond_f (by omega), cond_t (by omega)], nofun⟩
  by_cases h3 : js.length > 40
  · exact ⟨false, by rw [cond_f (by omega), cond_f (by omega), cond_t (by omega)], nofun⟩
  by_cases h4 : ks.length > 40
  · exact ⟨false, by rw [cond_f (by omega), cond_f (by omega), cond_f (by omega), cond_t (by omega)], nofun⟩
  by_cases h5 : rs.length > 12
  · exact ⟨false, by rw [cond_f (by omega), cond_f (by omega), cond_f (by omega), cond_f (by omega), cond_t (by omega)], nofun⟩
  rw [cond_f (by omega), cond_f (by omega), cond_f (by omega), cond_f (by omega), cond_f (by omega)]
  obtain ⟨b, hb⟩ : ∃ b, midrangelaw25_fewKeys.F (m + 1) (ks.map KF.av) = some b := by
    unfold midrangelaw25_fewKeys.F midrangelaw25_fewKeys.e
    exact fewKeys_l (by omega) ks.length 0 (m + 1) (by omega) (by omega)
  rw [hb, Option.bind_some]
  cases b with
  | false => exact ⟨false, rfl, nofun⟩
  | true =>
    obtain ⟨b, e1, e2⟩ := few4 (n := m + 1) (nm := nm) (fm := fm) (ws := ws) (fs := fs) (js := js) (ks := ks) (uq := uq) (rs := rs) (by omega) (by omega) (by omega) (by omega) ws.length 0 (m + 1) (by omega) (by omega)
    exact ⟨b, e1, fun hb => ⟨by omega, by omega, by omega, by omega, by omega, e2 hb⟩⟩
/-- P25.2: logical files. -/
theorem logicals_law (hn : 1000002 ≤ n) (nm fm : ByteArray) (ws : List (List UInt8)) (fs : List LF) (js : List JP) (ks : List KF) (uq : Bool) (rs : List RL) :
    midrangelaw25_DdsLogicals.F n nm fm (Ws ws) (fs.map LF.av) (js.map JP.av) (ks.map KF.av) uq (rs.map RL.av) = some true := by
  obtain ⟨l, rfl⟩ : ∃ l, nm = bs l := ⟨nm.data.toList, rfl⟩
  obtain ⟨l', rfl⟩ : ∃ l, fm = bs l := ⟨fm.data.toList, rfl⟩
  unfold midrangelaw25_DdsLogicals.F midrangelaw25_DdsLogicals.e
  rw [awake_eq, Option.bind_some]
  show (bif false then _ else _) = _
  rw [cond_false]
  obtain ⟨b, h1, h2⟩ := few_eq (n := n) (nm := bs l) (fm := bs l') (ws := ws) (fs := fs) (js := js) (ks := ks) (uq := uq) (rs := rs) (by omega)
  rw [h1, Option.bind_some]
  cases b with
  | false => rfl
  | true =>
    obtain ⟨b1, b2, b3, b4, b5, b6⟩ := h2 rfl
    have hc : ∀ r ∈ rs, r.cs.length ≤ 1000 := by
      intro r hr
      obtain ⟨k, hk, rfl⟩ := List.getElem_of_mem hr
      have := b6 k hk (by omega)
      omega
    rw [Bool.not_true, cond_false, own_eq (by omega) (by omega) (by omega) (by omega) (by omega) (by omega) hc, Option.bind_some, checkLogical_eq (by omega) l l' ws (by omega) fs (by omega) js (by omega) ks (by omega) uq rs (by omega), Option.bind_some,
      checkRef_eq (by omega) l l' (by omega) (by omega) (by omega) (by omega) (by omega) hc, Option.bind_some, beq_self_eq_true, beq_self_eq_true]
    rfl
end
/-- Rows of strings, fields, joins, keys, rules, as they come in. -/
theorem map_of {α : Type} (f : α → AV) (P : AV → Prop) (h : ∀ y, P y → ∃ a, y = f a) : ∀ xs : List AV, (∀ y ∈ xs, P y) → ∃ l : List α, xs = l.map f
  | [], _ => ⟨[], rfl⟩
  | x :: xs, hx => by
    obtain ⟨a, rfl⟩ := h x (hx x (by simp))
    obtain ⟨l, rfl⟩ := map_of f P h xs (fun y hy => hx y (by simp [hy]))
    exact ⟨a :: l, rfl⟩
theorem map_of' {α : Type} {f : α → AV} {P : AV → Prop} {xs : List AV} (hx : ∀ y ∈ xs, P y) (h : ∀ y, P y → ∃ a, y = f a) : ∃ l : List α, xs = l.map f := map_of f P h xs hx
end Go.Proofs.YtmpglmcjoelciaaGreatDoor.Ev
