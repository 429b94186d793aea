import Derived.Test.YtmpglmcjoelciaaGreatDoorDMb
import Derived.Test.YtmpglmcjoelciaaGreatDoorDMa
import Derived.Lib.Replace
noncomputable section
namespace Go.Proofs.YtmpglmcjoelciaaGreatDoor.Ev
open Go Go.Proofs Go.Proofs.Ev
set_option linter.unusedVariables false
set_option maxRecDepth 100000
abbrev Q29.A := Bool × ByteArray × ByteArray × List AV × List AV × Bool × ByteArray × ByteArray × List AV × List AV × List AV × List AV × Bool × List AV
abbrev Q29.T := Bool
def Q29.i : Q29.A → List AV := fun (a0, a1, a2, a3, a4, a5, a6, a7, a8, a9, a10, a11, a12, a13) => [AV.agg [vb a0, vs a1, vs a2, .sl ⟨true, 125⟩ 4 a3, .sl ⟨true, 111⟩ 2 a4, vb a5, vs a6, vs a7, .sl ⟨true, 9⟩ 1 a8, .sl ⟨true, 95⟩ 3 a9, .sl ⟨true, 97⟩ 4 a10, .sl ⟨true, 111⟩ 2 a11, vb a12, .sl ⟨false, 100⟩ 2 a13]]
def Q29.o (xs : List AV) : Option Q29.A := match xs with | [.agg [.v (.bool a0), .v (.string a1), .v (.string a2), .sl ⟨true, 125⟩ 4 a3, .sl ⟨true, 111⟩ 2 a4, .v (.bool a5), .v (.string a6), .v (.string a7), .sl ⟨true, 9⟩ 1 a8, .sl ⟨true, 95⟩ 3 a9, .sl ⟨true, 97⟩ 4 a10, .sl ⟨true, 111⟩ 2 a11, .v (.bool a12), .sl ⟨false, 100⟩ 2 a13]] => some (a0, a1, a2, a3, a4, a5, a6, a7, a8, a9, a10, a11, a12, a13) | _ => none
def Q29.p (p : Q29.T) : AV := vb p
def Q29.q (x : AV) : Option Q29.T := match x with | .v (.bool p0) => some p0 | _ => none
theorem Q29.qi : ∀ x p, Q29.q x = some p → x = Q29.p p := by
  intro x p h
  unfold Q29.q at h
  split at h
  · cases h; rfl
  · cases h
def Q29.C {R : Type} (n : Nat) (f : FuncId) (xs : List AV) : (AV → Option R) → Option R :=
  bif Nat.beq f 12 then Q2j.via n xs else bif Nat.beq f 15 then Q1y.via n xs else bif Nat.beq f 25 then Q2m.via n xs else bif Nat.beq f 26 then Q0a.via n xs else bif Nat.beq f 27 then Q31.via n xs else bif Nat.beq f 28 then Q2x.via n xs else fun _ => none
theorem Q29.tells {R : Type} (n : Nat) : Tells (R := R) Tryz.prog (Q29.C n) := fun _ xs => tells_at (Q2j.tells1 n xs) (tells_at (Q1y.tells1 n xs) (tells_at (Q2m.tells1 n xs) (tells_at (Q0a.tells1 n xs) (tells_at (Q31.tells1 n xs) (tells_at (Q2x.tells1 n xs) (Tells1.none))))))
def Q29.cut (r : Nat) : Option Keep := match r with  | _ => none
def Q29.e (n : Nat) (a0 : Bool) (a1 a2 : ByteArray) (a3 a4 : List AV) (a5 : Bool) (a6 a7 : ByteArray) (a8 a9 a10 a11 : List AV) (a12 : Bool) (a13 : List AV) : Option Bool :=
  (Q2j.F n ).bind fun p1 =>
  bif !p1 then (some false) else ((Q2m.F n a0 a1 a2 a3 a4 a5 a6 a7 a8 a9 a10 a11 a12 a13).bind fun p2 =>
  bif !p2 then (some true) else ((Q31.F n a0 a1 a2 a3 a4 a5 a6 a7 a8 a9 a10 a11 a12 a13).bind fun p3 =>
  (Q0a.F n p3.1 p3.2.1 p3.2.2.1 p3.2.2.2.1 p3.2.2.2.2.1 p3.2.2.2.2.2.1 p3.2.2.2.2.2.2.1 p3.2.2.2.2.2.2.2.1 p3.2.2.2.2.2.2.2.2.1 p3.2.2.2.2.2.2.2.2.2.1 p3.2.2.2.2.2.2.2.2.2.2.1 p3.2.2.2.2.2.2.2.2.2.2.2.1 p3.2.2.2.2.2.2.2.2.2.2.2.2.1 p3.2.2.2.2.2.2.2.2.2.2.2.2.2).bind fun p4 =>
  (Q2x.F n a0 a1 a2 a3 a4 a5 a6 a7 a8 a9 a10 a11 a12 a13).bind fun p5 =>
  bif p4.2 == p5.2 then ((Q1y.F n p4.1 p5.1).bind fun p6 =>
  some p6) else (some false)))
def Q29.E (n : Nat) : Q29.A → Option Q29.T := fun (a0, a1, a2, a3, a4, a5, a6, a7, a8, a9, a10, a11, a12, a13) => Q29.e n a0 a1 a2 a3 a4 a5 a6 a7 a8 a9 a10 a11 a12 a13
def Q29.F (n : Nat) (a0 : Bool) (a1 a2 : ByteArray) (a3 a4 : List AV) (a5 : Bool) (a6 a7 : ByteArray) (a8 a9 a10 a11 : List AV) (a12 : Bool) (a13 : List AV) : Option Bool := Q29.e n a0 a1 a2 a3 a4 a5 a6 a7 a8 a9 a10 a11 a12 a13
def Q29.FA (n : Nat) : Q29.A → Option Q29.T := Q29.E n
theorem Q29.hands (n : Nat) : ∀ a p, Q29.FA n a = some p → HandsIn Tryz.prog 6 (Q29.i a) (Q29.p p) :=
  pf_hands (C := Q29.C n) (cut := Q29.cut) (Z := Empty) (t := nofun) (s := nofun) (e := fun _ => Q29.E n) (r := fun _ z => nomatch z) (n := n) cfg mixed globs rfl Q29.qi (Q29.tells n) Tryz.func6 (by kernel_rfl) (by kernel_rfl) (fun rec a => by kernel_rfl) (fun rec z => nomatch z)
end Go.Proofs.YtmpglmcjoelciaaGreatDoor.Ev
namespace Go.Proofs.YtmpglmcjoelciaaGreatDoor.Ev
open Go Go.Proofs Go.Proofs.Ev
theorem Q17.at3 (n m z1 z2 z3 z4) : Q17.l n (m + 1) (.z3 z1 z2 z3 z4) = Q17.r3 n (Q17.l n m) z1 z2 z3 z4 := rfl
theorem Q0j.at7 (n m z1 z2 z3 z4 z5 z6 z7 z8 z9 z10) : Q0j.l n (m + 1) (.z7 z1 z2 z3 z4 z5 z6 z7 z8 z9 z10) = Q0j.r7 n (Q0j.l n m) z1 z2 z3 z4 z5 z6 z7 z8 z9 z10 := rfl
theorem Q27.at3 (n m z1 z2 z3 z4) : Q27.l n (m + 1) (.z3 z1 z2 z3 z4) = Q27.r3 n (Q27.l n m) z1 z2 z3 z4 := rfl
theorem Q21.at2 (n m z1 z2 z3 z4) : Q21.l n (m + 1) (.z2 z1 z2 z3 z4) = Q21.r2 n (Q21.l n m) z1 z2 z3 z4 := rfl
theorem Q22.at6 (n m z1 z2 z3) : Q22.l n (m + 1) (.z6 z1 z2 z3) = Q22.r6 n (Q22.l n m) z1 z2 z3 := rfl
theorem Q25.at4 (n m z1 z2 z3 z4 z5 z6) : Q25.l n (m + 1) (.z4 z1 z2 z3 z4 z5 z6) = Q25.r4 n (Q25.l n m) z1 z2 z3 z4 z5 z6 := rfl
theorem Q25.at9 (n m z1 z2 z3 z4 z5 z6 z7) : Q25.l n (m + 1) (.z9 z1 z2 z3 z4 z5 z6 z7) = Q25.r9 n (Q25.l n m) z1 z2 z3 z4 z5 z6 z7 := rfl
theorem Q1y.at4 (n m z1 z2 z3) : Q1y.l n (m + 1) (.z4 z1 z2 z3) = Q1y.r4 n (Q1y.l n m) z1 z2 z3 := rfl
theorem Q2g.at4 (n m z1 z2 z3 z4 z5 z6) : Q2g.l n (m + 1) (.z4 z1 z2 z3 z4 z5 z6) = Q2g.r4 n (Q2g.l n m) z1 z2 z3 z4 z5 z6 := rfl
theorem Q0v.at3 (n m z1 z2 z3 z4) : Q0v.l n (m + 1) (.z3 z1 z2 z3 z4) = Q0v.r3 n (Q0v.l n m) z1 z2 z3 z4 := rfl
theorem Q15.at5 (n m z1 z2 z3 z4 z5) : Q15.l n (m + 1) (.z5 z1 z2 z3 z4 z5) = Q15.r5 n (Q15.l n m) z1 z2 z3 z4 z5 := rfl
theorem Q15.at12 (n m z1 z2 z3 z4 z5 z6 z7 z8 z9 z10) : Q15.l n (m + 1) (.z12 z1 z2 z3 z4 z5 z6 z7 z8 z9 z10) = Q15.r12 n (Q15.l n m) z1 z2 z3 z4 z5 z6 z7 z8 z9 z10 := rfl
theorem Q49.at2 (n m z1 z2 z3) : Q49.l n (m + 1) (.z2 z1 z2 z3) = Q49.r2 n (Q49.l n m) z1 z2 z3 := rfl
theorem Q0a.at7 (n m z1 z2 z3 z4 z5 z6 z7 z8 z9 z10 z11 z12 z13 z14 z15 z16 z17 z18) : Q0a.l n (m + 1) (.z7 z1 z2 z3 z4 z5 z6 z7 z8 z9 z10 z11 z12 z13 z14 z15 z16 z17 z18) = Q0a.r7 n (Q0a.l n m) z1 z2 z3 z4 z5 z6 z7 z8 z9 z10 z11 z12 z13 z14 z15 z16 z17 z18 := rfl
theorem Q0a.at15 (n m z1 z2 z3 z4 z5 z6 z7 z8 z9 z10 z11 z12) : Q0a.l n (m + 1) (.z15 z1 z2 z3 z4 z5 z6 z7 z8 z9 z10 z11 z12) = Q0a.r15 n (Q0a.l n m) z1 z2 z3 z4 z5 z6 z7 z8 z9 z10 z11 z12 := rfl
theorem Q0a.at20 (n m z1 z2 z3 z4 z5 z6 z7 z8 z9 z10 z11 z12) : Q0a.l n (m + 1) (.z20 z1 z2 z3 z4 z5 z6 z7 z8 z9 z10 z11 z12) = Q0a.r20 n (Q0a.l n m) z1 z2 z3 z4 z5 z6 z7 z8 z9 z10 z11 z12 := rfl
theorem Q0a.at25 (n m z1 z2 z3 z4 z5 z6 z7 z8 z9 z10 z11 z12) : Q0a.l n (m + 1) (.z25 z1 z2 z3 z4 z5 z6 z7 z8 z9 z10 z11 z12) = Q0a.r25 n (Q0a.l n m) z1 z2 z3 z4 z5 z6 z7 z8 z9 z10 z11 z12 := rfl
theorem Q0a.at31 (n m z1 z2 z3 z4) : Q0a.l n (m + 1) (.z31 z1 z2 z3 z4) = Q0a.r31 n (Q0a.l n m) z1 z2 z3 z4 := rfl
theorem Q3j.at3 (n m z1 z2 z3) : Q3j.l n (m + 1) (.z3 z1 z2 z3) = Q3j.r3 n (Q3j.l n m) z1 z2 z3 := rfl
theorem Q3l.at5 (n m z1 z2 z3 z4 z5) : Q3l.l n (m + 1) (.z5 z1 z2 z3 z4 z5) = Q3l.r5 n (Q3l.l n m) z1 z2 z3 z4 z5 := rfl
theorem Q3l.at14 (n m z1 z2 z3 z4 z5 z6 z7 z8 z9) : Q3l.l n (m + 1) (.z14 z1 z2 z3 z4 z5 z6 z7 z8 z9) = Q3l.r14 n (Q3l.l n m) z1 z2 z3 z4 z5 z6 z7 z8 z9 := rfl
theorem Q3l.at15 (n m z1 z2 z3 z4 z5 z6 z7 z8 z9 z10) : Q3l.l n (m + 1) (.z15 z1 z2 z3 z4 z5 z6 z7 z8 z9 z10) = Q3l.r15 n (Q3l.l n m) z1 z2 z3 z4 z5 z6 z7 z8 z9 z10 := rfl
theorem Q2x.at3 (n m z1 z2 z3 z4 z5 z6 z7 z8 z9 z10 z11 z12 z13 z14) : Q2x.l n (m + 1) (.z3 z1 z2 z3 z4 z5 z6 z7 z8 z9 z10 z11 z12 z13 z14) = Q2x.r3 n (Q2x.l n m) z1 z2 z3 z4 z5 z6 z7 z8 z9 z10 z11 z12 z13 z14 := rfl
theorem Q2x.at13 (n m z1 z2 z3 z4 z5 z6 z7 z8 z9 z10 z11 z12 z13 z14 z15 z16 z17 z18 z19 z20 z21 z22 z23 z24 z25) : Q2x.l n (m + 1) (.z13 z1 z2 z3 z4 z5 z6 z7 z8 z9 z10 z11 z12 z13 z14 z15 z16 z17 z18 z19 z20 z21 z22 z23 z24 z25) = Q2x.r13 n (Q2x.l n m) z1 z2 z3 z4 z5 z6 z7 z8 z9 z10 z11 z12 z13 z14 z15 z16 z17 z18 z19 z20 z21 z22 z23 z24 z25 := rfl
theorem Q2x.at15 (n m z1 z2 z3 z4 z5 z6 z7 z8 z9 z10 z11 z12 z13 z14 z15 z16 z17 z18 z19 z20 z21 z22 z23 z24 z25) : Q2x.l n (m + 1) (.z15 z1 z2 z3 z4 z5 z6 z7 z8 z9 z10 z11 z12 z13 z14 z15 z16 z17 z18 z19 z20 z21 z22 z23 z24 z25) = Q2x.r15 n (Q2x.l n m) z1 z2 z3 z4 z5 z6 z7 z8 z9 z10 z11 z12 z13 z14 z15 z16 z17 z18 z19 z20 z21 z22 z23 z24 z25 := rfl
theorem Q2x.at19 (n m z1 z2 z3 z4 z5 z6 z7 z8 z9 z10 z11 z12 z13 z14 z15 z16 z17 z18 z19 z20 z21 z22 z23 z24 z25) : Q2x.l n (m + 1) (.z19 z1 z2 z3 z4 z5 z6 z7 z8 z9 z10 z11 z12 z13 z14 z15 z16 z17 z18 z19 z20 z21 z22 z23 z24 z25) = Q2x.r19 n (Q2x.l n m) z1 z2 z3 z4 z5 z6 z7 z8 z9 z10 z11 z12 z13 z14 z15 z16 z17 z18 z19 z20 z21 z22 z23 z24 z25 := rfl
theorem Q2x.at24 (n m z1 z2 z3 z4 z5 z6 z7 z8 z9 z10 z11 z12 z13 z14 z15 z16 z17 z18 z19 z20 z21 z22 z23 z24 z25) : Q2x.l n (m + 1) (.z24 z1 z2 z3 z4 z5 z6 z7 z8 z9 z10 z11 z12 z13 z14 z15 z16 z17 z18 z19 z20 z21 z22 z23 z24 z25) = Q2x.r24 n (Q2x.l n m) z1 z2 z3 z4 z5 z6 z7 z8 z9 z10 z11 z12 z13 z14 z15 z16 z17 z18 z19 z20 z21 z22 z23 z24 z25 := rfl
theorem Q2x.at29 (n m z1 z2 z3 z4 z5 z6 z7 z8 z9 z10 z11) : Q2x.l n (m + 1) (.z29 z1 z2 z3 z4 z5 z6 z7 z8 z9 z10 z11) = Q2x.r29 n (Q2x.l n m) z1 z2 z3 z4 z5 z6 z7 z8 z9 z10 z11 := rfl
theorem Q2x.at34 (n m z1 z2 z3 z4 z5 z6 z7 z8 z9 z10 z11) : Q2x.l n (m + 1) (.z34 z1 z2 z3 z4 z5 z6 z7 z8 z9 z10 z11) = Q2x.r34 n (Q2x.l n m) z1 z2 z3 z4 z5 z6 z7 z8 z9 z10 z11 := rfl
theorem Q2x.at42 (n m z1 z2 z3 z4 z5 z6 z7 z8 z9 z10 z11 z12) : Q2x.l n (m + 1) (.z42 z1 z2 z3 z4 z5 z6 z7 z8 z9 z10 z11 z12) = Q2x.r42 n (Q2x.l n m) z1 z2 z3 z4 z5 z6 z7 z8 z9 z10 z11 z12 := rfl
theorem Q2x.at43 (n m z1 z2 z3 z4 z5 z6 z7 z8 z9 z10 z11 z12) : Q2x.l n (m + 1) (.z43 z1 z2 z3 z4 z5 z6 z7 z8 z9 z10 z11 z12) = Q2x.r43 n (Q2x.l n m) z1 z2 z3 z4 z5 z6 z7 z8 z9 z10 z11 z12 := rfl
theorem Q2x.at46 (n m z1 z2 z3 z4 z5 z6 z7 z8 z9 z10 z11 z12 z13) : Q2x.l n (m + 1) (.z46 z1 z2 z3 z4 z5 z6 z7 z8 z9 z10 z11 z12 z13) = Q2x.r46 n (Q2x.l n m) z1 z2 z3 z4 z5 z6 z7 z8 z9 z10 z11 z12 z13 := rfl
end Go.Proofs.YtmpglmcjoelciaaGreatDoor.Ev
namespace Go.Proofs.YtmpglmcjoelciaaGreatDoor.Ev
open Go Go.Proofs Go.Proofs.Ev
set_option linter.unusedVariables false
set_option linter.unusedSimpArgs false
structure FD where
  nm : List UInt8
  k : Int
  l : Int
  s : Int
def FD.av (x : FD) : AV := .agg [vs (bs x.nm), vi x.k, vi x.l, vi x.s]
def dnames (ds : List FD) : List (List UInt8) := ds.map FD.nm
theorem dnames_length (ds : List FD) : (dnames ds).length = ds.length := by simp [dnames]
theorem dnames_get {ds : List FD} {i : Nat} (hi : i < ds.length) : (dnames ds)[i]'(by rw [dnames_length]; exact hi) = ds[i].nm := by simp [dnames]
def szT (k l : Int) : Int := if k = 1 then l / 2 + 1 else if k = 3 then (if l = 9 then 4 else 2) else if k = 4 then 16 else l
theorem chkT_cases {k l s : Int} (h : chkT k l s = 0) : (k = 0 ∧ 1 ≤ l ∧ l ≤ 256) ∨ ((k = 1 ∨ k = 2) ∧ 1 ≤ l ∧ l ≤ 15) ∨ (k = 3 ∧ (l = 4 ∨ l = 9)) ∨ (k = 4 ∧ l = 0) := by
  unfold chkT at h
  by_cases h0 : k = 0
  · rw [if_pos h0] at h
    by_cases h1 : 1 ≤ l ∧ l ≤ 256
    · exact .inl ⟨h0, h1⟩
    · rw [if_pos h1] at h; cases h
  · rw [if_neg h0] at h
    by_cases h1 : k = 1 ∨ k = 2
    · rw [if_pos h1] at h
      by_cases h2 : 1 ≤ l ∧ l ≤ 15
      · exact .inr (.inl ⟨h1, h2⟩)
      · rw [if_pos h2] at h; cases h
    · rw [if_neg h1] at h
      by_cases h3 : k = 3
      · rw [if_pos h3] at h
        by_cases h2 : l = 4 ∨ l = 9
        · exact .inr (.inr (.inl ⟨h3, h2⟩))
        · rw [if_pos h2] at h; cases h
      · rw [if_neg h3] at h
        by_cases h4 : k = 4
        · rw [if_pos h4] at h
          by_cases h2 : l = 0
          · exact .inr (.inr (.inr ⟨h4, h2⟩))
          · rw [if_pos h2] at h; cases h
        · rw [if_neg h4] at h; cases h
theorem szT_range {k l s : Int} (h : chkT k l s = 0) : 0 ≤ szT k l ∧ szT k l ≤ 256 := by
  unfold szT
  rcases chkT_cases h with ⟨h1, h2⟩ | ⟨h1, h2⟩ | ⟨h1, h2⟩ | ⟨h1, h2⟩ <;> (repeat' split) <;> omega
theorem nsize_eq (n : Nat) {k l s : Int} (h : chkT k l s = 0) : Q44.F n k l s = some (szT k l) := by
  unfold Q44.F Q44.e szT
  have hc := chkT_cases h
  have h0 : 0 ≤ l ∧ l ≤ 256 := by omega
  simp only [bif_eq0]
  rw [Int.tdiv_eq_ediv_of_nonneg h0.1, Int.tdiv_eq_ediv_of_nonneg h0.1]
  by_cases h1 : k = 1
  · rw [if_pos h1, if_pos h1, w64 (x := l / 2) (by omega) (by omega), w64 (by omega) (by omega)]
  · rw [if_neg h1, if_neg h1]
    by_cases h3 : k = 3
    · rw [if_pos h3, if_pos h3]
      have : l = 4 ∨ l = 9 := by omega
      rcases this with rfl | rfl <;> rfl
    · rw [if_neg h3, if_neg h3]
      split <;> rfl
theorem bsize_eq (n : Nat) {k l s : Int} (h : chkT k l s = 0) : Q1x.F n k l s = some (szT k l) := by
  unfold Q1x.F Q1x.e szT
  have hc := chkT_cases h
  have h0 : 0 ≤ l ∧ l ≤ 256 := by omega
  simp only [bif_eq0]
  rw [Int.tdiv_eq_ediv_of_nonneg h0.1]
  by_cases h1 : k = 1
  · rw [if_pos h1, if_pos h1, w64 (x := l / 2) (by omega) (by omega), w64 (by omega) (by omega)]
  · rw [if_neg h1, if_neg h1]
    by_cases h3 : k = 3
    · rw [if_pos h3, if_pos h3, count_eq]
      have : l = 4 ∨ l = 9 := by omega
      rcases this with rfl | rfl <;> rfl
    · rw [if_neg h3, if_neg h3]
      split <;> rfl
theorem sizeOf_eq {n : Nat} (hn : 1001 ≤ n) {k l s : Int} (h : chkT k l s = 0) : Q3w.F n k l s = some (szT k l, 0) := by
  unfold Q3w.F Q3w.e
  rw [check_eq hn, Option.bind_some, h]
  show ((Q44.F n k l s).bind fun p => some (p, 0)) = _
  rw [nsize_eq n h]
  rfl
def szs : List FD → Int
  | [] => 0
  | f :: r => szT f.k f.l + szs r
def okD (ds : List FD) : Prop := ∀ f ∈ ds, chkT f.k f.l f.s = 0
section
variable {n : Nat} {nm fm : ByteArray}
theorem dsize_l (hn : 1001 ≤ n) (ds : List FD) (hd : ds.length ≤ 1000) (ho : okD ds) (B : Int) (hB : B ≤ 10000000) : ∀ (d i m : Nat) (a : Int), i + d = ds.length → d < m → 0 ≤ a → a + 256 * d ≤ B → Q17.l n m (.z3 a (ds.map FD.av) ds.length i) = some (a + szs (ds.drop i))
  | _, _, 0, _, _, h, _, _ => absurd h (by omega)
  | 0, i, m + 1, a, h, _, h1, h2 => by
    rw [Q17.at3]
    unfold Q17.r3
    rw [cond_f (by omega), List.drop_of_length_le (by omega)]
    simp [szs]
  | d + 1, i, m + 1, a, h, hm, h1, h2 => by
    have hi : i < ds.length := by omega
    have hok := ho ds[i] (List.getElem_mem hi)
    have hr := szT_range hok
    have ih := dsize_l hn ds hd ho B hB d (i + 1) m (a + szT ds[i].k ds[i].l) (by omega) (by omega) (by omega) (by omega)
    rw [Q17.at3]
    unfold Q17.r3
    simp (disch := omega) only [Option.bind_some, Option.bind_none, cond_true, cond_false, Bool.not_true, Bool.not_false, List.length_map, Ws_length, bs_size, within_t, upto_t, wsucc, Int.toNat_natCast, at_mapN, Ws_getDN, cells_agg, cells_v, withCons_cons, withInt_mk, withStr_mk, withBool_mk, withSl_mk, cond_t, cond_f, FD.av]
    rw [sizeOf_eq hn hok]
    simp (disch := omega) only [Option.bind_some, Option.bind_none, cond_true, cond_false, Bool.not_true, Bool.not_false, List.length_map, Ws_length, bs_size, within_t, upto_t, wsucc, Int.toNat_natCast, at_mapN, Ws_getDN, cells_agg, cells_v, withCons_cons, withInt_mk, withStr_mk, withBool_mk, withSl_mk, cond_t, cond_f]
    rw [w64 (x := a + szT ds[i].k ds[i].l) (by omega) (by omega), ih, List.drop_eq_getElem_cons hi]
    simp only [szs, Int.add_assoc]
theorem dsize_eq (hn : 1001 ≤ n) (ds : List FD) (hd : ds.length ≤ 1000) (ho : okD ds) : Q17.F n (ds.map FD.av) = some (szs ds) := by
  unfold Q17.F Q17.e
  have := dsize_l hn ds hd ho 1000000 (by omega) ds.length 0 n 0 (by omega) (by omega) (by omega) (by omega)
  rw [List.drop_zero, Int.zero_add] at this
  rw [List.length_map]
  exact this
theorem fsize_l (hn : 1001 ≤ n) (ds : List FD) (hd : ds.length ≤ 1000) (ho : okD ds) (B : Int) (hB : B ≤ 10000000) : ∀ (d i m : Nat) (a : Int), i + d = ds.length → d < m → 0 ≤ a → a + 256 * d ≤ B → Q27.l n m (.z3 a i nm (ds.map FD.av)) = some (a + szs (ds.drop i))
  | _, _, 0, _, _, h, _, _ => absurd h (by omega)
  | 0, i, m + 1, a, h, _, h1, h2 => by
    rw [Q27.at3]
    unfold Q27.r3
    simp only [List.length_map]
    rw [cond_f (by omega), List.drop_of_length_le (by omega)]
    simp [szs]
  | d + 1, i, m + 1, a, h, hm, h1, h2 => by
    have hi : i < ds.length := by omega
    have hok := ho ds[i] (List.getElem_mem hi)
    have hr := szT_range hok
    have ih := fsize_l hn ds hd ho B hB d (i + 1) m (a + szT ds[i].k ds[i].l) (by omega) (by omega) (by omega) (by omega)
    rw [Q27.at3]
    unfold Q27.r3
    simp (disch := omega) only [Option.bind_some, Option.bind_none, cond_true, cond_false, Bool.not_true, Bool.not_false, List.length_map, Ws_length, bs_size, within_t, upto_t, wsucc, Int.toNat_natCast, at_mapN, Ws_getDN, cells_agg, cells_v, withCons_cons, withInt_mk, withStr_mk, withBool_mk, withSl_mk, cond_t, cond_f, FD.av, List.drop_succ_cons, List.drop_zero]
    rw [bsize_eq n hok]
    simp (disch := omega) only [Option.bind_some, Option.bind_none, cond_true, cond_false, Bool.not_true, Bool.not_false, List.length_map, Ws_length, bs_size, within_t, upto_t, wsucc, Int.toNat_natCast, at_mapN, Ws_getDN, cells_agg, cells_v, withCons_cons, withInt_mk, withStr_mk, withBool_mk, withSl_mk, cond_t, cond_f]
    rw [w64 (x := a + szT ds[i].k ds[i].l) (by omega) (by omega), ih, List.drop_eq_getElem_cons hi]
    simp only [szs, Int.add_assoc]
theorem fsize_eq (hn : 1001 ≤ n) (ds : List FD) (hd : ds.length ≤ 1000) (ho : okD ds) : Q27.F n nm (ds.map FD.av) = some (szs ds) := by
  unfold Q27.F Q27.e
  have := fsize_l (nm := nm) hn ds hd ho 1000000 (by omega) ds.length 0 n 0 (by omega) (by omega) (by omega) (by omega)
  rw [List.drop_zero, Int.zero_add] at this
  exact this
def de (before : List (List UInt8)) (f : FD) : Int := if ne before f.nm ≠ 0 then ne before f.nm else if chkT f.k f.l f.s ≠ 0 then chkT f.k f.l f.s else if f.k = 4 then 17 else 0
def dErr (ns : List (List UInt8)) : List FD → Nat → Int × Int
  | [], _ => (0, 0)
  | f :: r, i => if de (ns.take i) f ≠ 0 then ((i : Int), de (ns.take i) f) else dErr ns r (i + 1)
theorem dErr_cons (ns : List (List UInt8)) (f : FD) (r : List FD) (i : Nat) : dErr ns (f :: r) i = if de (ns.take i) f ≠ 0 then ((i : Int), de (ns.take i) f) else dErr ns r (i + 1) := rfl
theorem dErr_ok {ns : List (List UInt8)} : ∀ {ds : List FD} {i : Nat}, (dErr ns ds i).2 = 0 → okD ds ∧ ∀ f ∈ ds, f.k ≠ 4
  | [], _, _ => ⟨fun _ h => by simp at h, fun _ h => by simp at h⟩
  | f :: r, i, h => by
    rw [dErr_cons] at h
    by_cases h0 : de (ns.take i) f = 0
    · rw [if_neg (by simp [h0])] at h
      obtain ⟨h1, h2⟩ := dErr_ok h
      unfold de at h0
      by_cases ha : ne (ns.take i) f.nm = 0
      · rw [if_neg (by simp [ha])] at h0
        by_cases hb : chkT f.k f.l f.s = 0
        · rw [if_neg (by simp [hb])] at h0
          by_cases hc : f.k = 4
          · rw [if_pos hc] at h0; cases h0
          · refine ⟨fun g hg => ?_, fun g hg => ?_⟩
            · rcases List.mem_cons.1 hg with rfl | hg
              · exact hb
              · exact h1 g hg
            · rcases List.mem_cons.1 hg with rfl | hg
              · exact hc
              · exact h2 g hg
        · rw [if_pos hb] at h0; exact absurd h0 hb
      · rw [if_pos ha] at h0; exact absurd h0 ha
    · rw [if_pos h0] at h; exact absurd h h0
def fileT (ds : List FD) (ks : List KF) : Int :=
  if (dErr (dnames ds) ds 0).2 ≠ 0 then (dErr (dnames ds) ds 0).2 else if szs ds > 200 then 18 else (kErrT (dnames ds) ks).2
def fileE (nm fm : List UInt8) (ds : List FD) (ks : List KF) : Int :=
  if isNm nm = false then 7 else if isNm fm = false then 7 else if ds.length = 0 then 1 else if ds.length > 20 then 2 else fileT ds ks
theorem fErr_l (hn : 1001 ≤ n) (ds : List FD) (hd : ds.length ≤ 1000) (ks : List KF) (hk : ks.length ≤ 1000) (uq : Bool) (hok : (dErr (dnames ds) ds 0).2 = 0 → okD ds) : ∀ (d i m : Nat), i + d = ds.length → d < m → ((dErr (dnames ds) (ds.drop i) i).2 = 0 → (dErr (dnames ds) ds 0).2 = 0) →
    Q0j.l n m (.z7 (ds.map FD.av) (ds.map FD.av) ds.length i nm fm (ds.map FD.av) (ks.map KF.av) uq (Ws ((dnames ds).take i))) =
      some (if (dErr (dnames ds) (ds.drop i) i).2 ≠ 0 then (dErr (dnames ds) (ds.drop i) i).2 else if szs ds > 200 then 18 else (kErrT (dnames ds) ks).2)
  | _, _, 0, _, h, _ => absurd h (by omega)
  | 0, i, m + 1, h, _, hz => by
    have hl := dnames_length ds
    rw [List.drop_of_length_le (by omega)] at hz ⊢
    have ho := hok (hz rfl)
    rw [Q0j.at7]
    unfold Q0j.r7
    rw [cond_f (by omega), dsize_eq hn ds hd ho, Option.bind_some, List.take_of_length_le (by omega), keysErr_eq hn _ (by omega) ks hk, Option.bind_some, bif_ite, some_ite]
    rfl
  | d + 1, i, m + 1, h, hm, hz => by
    have hi : i < ds.length := by omega
    have hl := dnames_length ds
    have hl' : i < (dnames ds).length := by omega
    have hmost : most = 1000000000 := rfl
    have ih := fErr_l hn ds hd ks hk uq hok d (i + 1) m (by omega) (by omega)
    rw [List.drop_eq_getElem_cons hi, dErr_cons] at hz ⊢
    rw [Q0j.at7]
    unfold Q0j.r7
    simp (disch := omega) only [Option.bind_some, Option.bind_none, cond_true, cond_false, Bool.not_true, Bool.not_false, List.length_map, Ws_length, bs_size, within_t, upto_t, wsucc, Int.toNat_natCast, at_mapN, Ws_getDN, cells_agg, cells_v, withCons_cons, withInt_mk, withStr_mk, withBool_mk, withSl_mk, cond_t, cond_f, FD.av]
    rw [nameErr_eq hn _ (by rw [List.length_take]; omega), Option.bind_some, check_eq hn, Option.bind_some, cond_eq, Option.bind_some]
    have hfz := first_eq (n := n) [ne ((dnames ds).take i) ds[i].nm, chkT ds[i].k ds[i].l ds[i].s, (if (ds[i].k == 4) = true then 17 else 0)] (by simp) hn
    have e : fz [ne ((dnames ds).take i) ds[i].nm, chkT ds[i].k ds[i].l ds[i].s, (if (ds[i].k == 4) = true then 17 else 0)] = de ((dnames ds).take i) ds[i] := by
      unfold de
      by_cases h1 : ne ((dnames ds).take i) ds[i].nm = 0
      · by_cases h2 : chkT ds[i].k ds[i].l ds[i].s = 0
        · by_cases h3 : ds[i].k = 4 <;> simp [fz, h1, h2, h3]
        · simp [fz, h1, h2]
      · simp [fz, h1]
    rw [e] at hfz
    show ((Q0m.F n ([ne ((dnames ds).take i) ds[i].nm, chkT ds[i].k ds[i].l ds[i].s, (if (ds[i].k == 4) = true then 17 else 0)].map vi)).bind _) = _
    rw [hfz, Option.bind_some, bif_ne]
    by_cases h0 : de ((dnames ds).take i) ds[i] = 0
    · simp only [h0, ne_eq, not_true_eq_false, if_false] at hz ih ⊢
      rw [cond_t (by rw [List.length_take, List.length_singleton]; omega), Ws_snoc, ← dnames_get hi, ← List.take_succ_eq_append_getElem hl']
      exact ih hz
    · simp only [h0, ne_eq, not_false_eq_true, if_true]
theorem fileErr_eq (hn : 1001 ≤ n) (nm fm : List UInt8) (ds : List FD) (hd : ds.length ≤ 1000) (ks : List KF) (hk : ks.length ≤ 1000) (uq : Bool) :
    Q0j.F n (bs nm) (bs fm) (ds.map FD.av) (ks.map KF.av) uq = some (fileE nm fm ds ks) := by
  unfold Q0j.F Q0j.e
  rw [isName_eq hn, Option.bind_some, cond_eq, Option.bind_some, isName_eq hn, Option.bind_some, cond_eq, Option.bind_some]
  simp only [cond_eq, Option.bind_some, List.length_map]
  have hfz := first_eq (n := n) [(if (!isNm nm) = true then 7 else 0), (if (!isNm fm) = true then 7 else 0), (if ((((ds.length : Nat) : Int)) == 0) = true then 1 else 0), (if decide (((ds.length : Nat) : Int) > 20) = true then 2 else 0)] (by simp) hn
  show ((Q0m.F n ([(if (!isNm nm) = true then 7 else 0), (if (!isNm fm) = true then 7 else 0), (if ((((ds.length : Nat) : Int)) == 0) = true then 1 else 0), (if decide (((ds.length : Nat) : Int) > 20) = true then 2 else 0)].map vi)).bind _) = _
  rw [hfz, Option.bind_some, bif_ne]
  unfold fileE
  cases h1 : isNm nm
  · simp [fz]
  · cases h2 : isNm fm
    · simp [fz]
    · by_cases h3 : ds.length = 0
      · simp [fz, h3]
      · have h3' : ¬ ((ds.length : Nat) : Int) = 0 := by omega
        by_cases h4 : ds.length > 20
        · have h4' : ((ds.length : Nat) : Int) > 20 := by omega
          have : decide (((ds.length : Nat) : Int) > 20) = true := by simpa using h4'
          simp only [fz, h3, h3', h4, beq_int, this]; simp
        · have : decide (((ds.length : Nat) : Int) > 20) = false := by rw [decide_eq_false_iff_not]; omega
          have e : fz [(if (!true) = true then 7 else 0), (if (!true) = true then 7 else 0), (if ((((ds.length : Nat) : Int)) == 0) = true then 1 else 0), (if decide (((ds.length : Nat) : Int) > 20) = true then 2 else 0)] = 0 := by
            rw [this]; simp [fz, h3]
          rw [e, if_neg (by simp)]
          simp only [Bool.true_eq_false, if_false, h3, h4]
          have := fErr_l (nm := bs nm) (fm := bs fm) hn ds hd ks hk uq (fun h => (dErr_ok h).1) ds.length 0 n (by omega) (by omega) (fun h => h)
          exact this
end
end Go.Proofs.YtmpglmcjoelciaaGreatDoor.Ev
namespace Go.Proofs.YtmpglmcjoelciaaGreatDoor.Ev
open Go Go.Proofs Go.Proofs.Ev
set_option linter.unusedVariables false
set_option linter.unusedSimpArgs false
section
variable {n : Nat} {nm fm : ByteArray}
theorem fieldAt_l (ds : List FD) (hd : ds.length ≤ 1000) (s : List UInt8) : ∀ (d i m : Nat), i + d = ds.length → d < m → Q21.l n m (.z2 (bs s) i nm (ds.map FD.av)) = some (ixs ((dnames ds).drop i) s i)
  | _, _, 0, _, h => absurd h (by omega)
  | 0, i, m + 1, h, _ => by
    have hl := dnames_length ds
    rw [Q21.at2]
    unfold Q21.r2
    simp (disch := omega) only [Option.bind_some, Option.bind_none, cond_true, cond_false, Bool.not_true, Bool.not_false, List.length_map, Ws_length, bs_size, within_t, upto_t, wsucc, Int.toNat_natCast, at_mapN, Ws_getDN, cells_agg, cells_v, withCons_cons, withInt_mk, withStr_mk, withBool_mk, withSl_mk, cond_t, cond_f]
    rw [List.drop_of_length_le (by omega)]
    rfl
  | d + 1, i, m + 1, h, hm => by
    have hi : i < ds.length := by omega
    have hl := dnames_length ds
    have ih := fieldAt_l ds hd s d (i + 1) m (by omega) (by omega)
    rw [Q21.at2]
    unfold Q21.r2
    simp (disch := omega) only [Option.bind_some, Option.bind_none, cond_true, cond_false, Bool.not_true, Bool.not_false, List.length_map, Ws_length, bs_size, within_t, upto_t, wsucc, Int.toNat_natCast, at_mapN, Ws_getDN, cells_agg, cells_v, withCons_cons, withInt_mk, withStr_mk, withBool_mk, withSl_mk, cond_t, cond_f, FD.av, str_eq, ih]
    rw [List.drop_eq_getElem_cons (by omega : i < (dnames ds).length), ixs_cons, dnames_get hi, bif_ite, some_ite]
theorem fieldAt_eq (hn : 1001 ≤ n) (ds : List FD) (hd : ds.length ≤ 1000) (s : List UInt8) : Q21.F n nm (ds.map FD.av) (bs s) = some (ixs (dnames ds) s 0) := by
  unfold Q21.F Q21.e
  have := fieldAt_l (n := n) (nm := nm) ds hd s ds.length 0 n (by omega) (by omega)
  rw [List.drop_zero] at this
  exact this
theorem fieldsR_l (hn : 1001 ≤ n) (ds : List FD) (hd : ds.length ≤ 1000) (hok : (dErr (dnames ds) ds 0).2 = 0 → okD ds) : ∀ (d i m : Nat), i + d = ds.length → d < m → ((dErr (dnames ds) (ds.drop i) i).2 = 0 → (dErr (dnames ds) ds 0).2 = 0) →
    Q22.l n m (.z6 i nm (ds.map FD.av)) = some (if (dErr (dnames ds) (ds.drop i) i).2 ≠ 0 then dErr (dnames ds) (ds.drop i) i else (0, if szs ds > 200 then 18 else 0))
  | _, _, 0, _, h, _ => absurd h (by omega)
  | 0, i, m + 1, h, _, hz => by
    rw [List.drop_of_length_le (by omega)] at hz ⊢
    have ho := hok (hz rfl)
    rw [Q22.at6]
    unfold Q22.r6
    simp (disch := omega) only [Option.bind_some, Option.bind_none, cond_true, cond_false, Bool.not_true, Bool.not_false, List.length_map, Ws_length, bs_size, within_t, upto_t, wsucc, Int.toNat_natCast, at_mapN, Ws_getDN, cells_agg, cells_v, withCons_cons, withInt_mk, withStr_mk, withBool_mk, withSl_mk, cond_t, cond_f]
    rw [fsize_eq hn ds hd ho]
    simp (disch := omega) only [Option.bind_some, Option.bind_none, cond_true, cond_false, Bool.not_true, Bool.not_false, List.length_map, Ws_length, bs_size, within_t, upto_t, wsucc, Int.toNat_natCast, at_mapN, Ws_getDN, cells_agg, cells_v, withCons_cons, withInt_mk, withStr_mk, withBool_mk, withSl_mk, cond_t, cond_f, count_eq]
    by_cases h2 : szs ds > 200
    · simp only [h2, decide_true, if_true, dErr]; rfl
    · simp only [h2, decide_false, if_false, dErr]; rfl
  | d + 1, i, m + 1, h, hm, hz => by
    have hi : i < ds.length := by omega
    have hl := dnames_length ds
    have hl' : i < (dnames ds).length := by omega
    have ih := fieldsR_l hn ds hd hok d (i + 1) m (by omega) (by omega)
    have hlt := ixs_lt (dnames ds) ds[i].nm 0 i hl' (by rw [List.getElem?_eq_getElem hl', dnames_get hi])
    rw [Nat.zero_add] at hlt
    rw [List.drop_eq_getElem_cons hi, dErr_cons] at hz ⊢
    rw [Q22.at6]
    unfold Q22.r6
    simp (disch := omega) only [Option.bind_some, Option.bind_none, cond_true, cond_false, Bool.not_true, Bool.not_false, List.length_map, Ws_length, bs_size, within_t, upto_t, wsucc, Int.toNat_natCast, at_mapN, Ws_getDN, cells_agg, cells_v, withCons_cons, withInt_mk, withStr_mk, withBool_mk, withSl_mk, cond_t, cond_f, FD.av, isNameR_eq, fieldAt_eq, hlt, typeErr_eq, List.drop_succ_cons, List.drop_zero]
    rw [bif_ne]
    unfold de ne at hz ⊢
    cases h1 : isNm ds[i].nm
    · simp
    · cases h2 : ((dnames ds).take i).contains ds[i].nm
      · by_cases h3 : chkT ds[i].k ds[i].l ds[i].s = 0
        · by_cases h4 : ds[i].k = 4
          · have h3' : chkT 4 ds[i].l ds[i].s = 0 := by rw [← h4]; exact h3
            simp [h3', h4]
          · simp only [h1, h2, h3, h4, Bool.not_true, cond_false, Bool.true_eq_false, Bool.false_eq_true, if_false, ne_eq, not_true_eq_false, bif_eq0] at hz ih ⊢
            exact ih hz
        · simp [h3]
      · simp
theorem fieldsErrR_eq (hn : 1001 ≤ n) (ds : List FD) (hd : ds.length ≤ 1000) : ∃ i, Q22.F n nm (ds.map FD.av) = some (i, if ds.length = 0 then 1 else if ds.length > 20 then 2 else if (dErr (dnames ds) ds 0).2 ≠ 0 then (dErr (dnames ds) ds 0).2 else if szs ds > 200 then 18 else 0) := by
  unfold Q22.F Q22.e
  by_cases h0 : ds.length = 0
  · refine ⟨0, ?_⟩
    have : (((ds.map FD.av).length : Nat) : Int) = 0 := by rw [List.length_map, h0]; rfl
    simp only [this, h0, if_true]; rfl
  · by_cases h1 : ds.length > 20
    · refine ⟨0, ?_⟩
      simp (disch := omega) only [Option.bind_some, Option.bind_none, cond_true, cond_false, Bool.not_true, Bool.not_false, List.length_map, Ws_length, bs_size, within_t, upto_t, wsucc, Int.toNat_natCast, at_mapN, Ws_getDN, cells_agg, cells_v, withCons_cons, withInt_mk, withStr_mk, withBool_mk, withSl_mk, cond_t, cond_f, beq_int]
      simp only [h0, h1, if_false, if_true]
    · have := fieldsR_l (nm := nm) hn ds hd (fun h => (dErr_ok h).1) ds.length 0 n (by omega) (by omega) (fun h => h)
      rw [List.drop_zero] at this
      simp (disch := omega) only [Option.bind_some, Option.bind_none, cond_true, cond_false, Bool.not_true, Bool.not_false, List.length_map, Ws_length, bs_size, within_t, upto_t, wsucc, Int.toNat_natCast, at_mapN, Ws_getDN, cells_agg, cells_v, withCons_cons, withInt_mk, withStr_mk, withBool_mk, withSl_mk, cond_t, cond_f, beq_int]
      refine ⟨if (dErr (dnames ds) ds 0).2 ≠ 0 then (dErr (dnames ds) ds 0).1 else 0, Eq.trans this ?_⟩
      · simp only [h0, h1, if_false]
        by_cases h2 : (dErr (dnames ds) ds 0).2 = 0
        · simp only [h2, ne_eq, not_true_eq_false, if_false]
        · simp only [h2, ne_eq, not_false_eq_true, if_true]
theorem keysR_l (hn : 1001 ≤ n) (ds : List FD) (hd : ds.length ≤ 1000) (ks : List KF) (hk : ks.length ≤ 4) (uq : Bool) : ∀ (d i m : Nat), i + d = ks.length → 10 * d + 1 ≤ m →
    Q25.l n m (.z4 i nm fm (ds.map FD.av) (ks.map KF.av) uq) = some (kErr (dnames ds) (knames ks) (ks.drop i) i)
  | 0, i, m, h, hm => by
    obtain ⟨m, rfl⟩ : ∃ q, m = q + 1 := ⟨m - 1, by omega⟩
    rw [Q25.at4]
    unfold Q25.r4
    simp (disch := omega) only [Option.bind_some, Option.bind_none, cond_true, cond_false, Bool.not_true, Bool.not_false, List.length_map, Ws_length, bs_size, within_t, upto_t, wsucc, Int.toNat_natCast, at_mapN, Ws_getDN, cells_agg, cells_v, withCons_cons, withInt_mk, withStr_mk, withBool_mk, withSl_mk, cond_t, cond_f]
    rw [List.drop_of_length_le (by omega)]
    rfl
  | d + 1, i, m, h, hm => by
    obtain ⟨m, rfl⟩ : ∃ q, m = q + 1 := ⟨m - 1, by omega⟩
    have hi : i < ks.length := by omega
    have hkl : (knames ks).length = ks.length := by simp [knames]
    have inner : ∀ (e j q : Nat), j + e = i → 10 * d + 2 + e ≤ q → Q25.l n q (.z9 i j nm fm (ds.map FD.av) (ks.map KF.av) uq) =
        some (if (((knames ks).take i).drop j).contains ks[i].nm then ((i : Int), 13) else kErr (dnames ds) (knames ks) (ks.drop (i + 1)) (i + 1)) := by
      intro e
      induction e with
      | zero =>
        intro j q hj hq
        obtain ⟨q, rfl⟩ : ∃ r, q = r + 1 := ⟨q - 1, by omega⟩
        rw [Q25.at9]
        unfold Q25.r9
        simp (disch := omega) only [Option.bind_some, Option.bind_none, cond_true, cond_false, Bool.not_true, Bool.not_false, List.length_map, Ws_length, bs_size, within_t, upto_t, wsucc, Int.toNat_natCast, at_mapN, Ws_getDN, cells_agg, cells_v, withCons_cons, withInt_mk, withStr_mk, withBool_mk, withSl_mk, cond_t, cond_f]
        rw [keysR_l hn ds hd ks hk uq d (i + 1) q (by omega) (by omega), List.drop_of_length_le (show ((knames ks).take i).length ≤ j by rw [List.length_take]; omega)]
        simp
      | succ e ih =>
        intro j q hj hq
        obtain ⟨q, rfl⟩ : ∃ r, q = r + 1 := ⟨q - 1, by omega⟩
        have ih' := ih (j + 1) q (by omega) (by omega)
        have hjl : j < ks.length := by omega
        have hjt : j < ((knames ks).take i).length := by rw [List.length_take]; omega
        have e2 : ((knames ks).take i)[j] = ks[j].nm := by simp [knames]
        rw [Q25.at9]
        unfold Q25.r9
        simp (disch := omega) only [Option.bind_some, Option.bind_none, cond_true, cond_false, Bool.not_true, Bool.not_false, List.length_map, Ws_length, bs_size, within_t, upto_t, wsucc, Int.toNat_natCast, at_mapN, Ws_getDN, cells_agg, cells_v, withCons_cons, withInt_mk, withStr_mk, withBool_mk, withSl_mk, cond_t, cond_f, KF.av, str_eq, ih']
        rw [List.drop_eq_getElem_cons hjt, List.contains_cons, e2]
        by_cases h : ks[j].nm = ks[i].nm
        · rw [cond_t h]; simp [h]
        · have : (ks[i].nm == ks[j].nm) = false := by simpa using fun e => h e.symm
          rw [cond_f h, this, Bool.false_or]
    have hin := inner i 0 m (by omega) (by omega)
    rw [List.drop_zero] at hin
    rw [Q25.at4]
    unfold Q25.r4
    have h0 : ((0 : Nat) : Int) = 0 := rfl
    rw [h0] at hin
    simp (disch := omega) only [Option.bind_some, Option.bind_none, cond_true, cond_false, Bool.not_true, Bool.not_false, List.length_map, Ws_length, bs_size, within_t, upto_t, wsucc, Int.toNat_natCast, at_mapN, Ws_getDN, cells_agg, cells_v, withCons_cons, withInt_mk, withStr_mk, withBool_mk, withSl_mk, cond_t, cond_f, KF.av, fieldAt_eq, hin, ixs_none]
    rw [List.drop_eq_getElem_cons hi, kErr_cons]
    unfold ke
    cases h1 : (dnames ds).contains ks[i].nm
    · simp
    · cases h2 : ((knames ks).take i).contains ks[i].nm
      · simp
      · simp
theorem keysErrR_eq (hn : 1001 ≤ n) (ds : List FD) (hd : ds.length ≤ 1000) (ks : List KF) (hk : ks.length ≤ 1000) (uq : Bool) : Q25.F n nm fm (ds.map FD.av) (ks.map KF.av) uq = some (kErrT (dnames ds) ks) := by
  unfold Q25.F Q25.e kErrT
  by_cases h : ks.length > 4
  · simp (disch := omega) only [Option.bind_some, Option.bind_none, cond_true, cond_false, Bool.not_true, Bool.not_false, List.length_map, Ws_length, bs_size, within_t, upto_t, wsucc, Int.toNat_natCast, at_mapN, Ws_getDN, cells_agg, cells_v, withCons_cons, withInt_mk, withStr_mk, withBool_mk, withSl_mk, cond_t, cond_f]
    rw [if_pos h]
  · simp (disch := omega) only [Option.bind_some, Option.bind_none, cond_true, cond_false, Bool.not_true, Bool.not_false, List.length_map, Ws_length, bs_size, within_t, upto_t, wsucc, Int.toNat_natCast, at_mapN, Ws_getDN, cells_agg, cells_v, withCons_cons, withInt_mk, withStr_mk, withBool_mk, withSl_mk, cond_t, cond_f]
    rw [if_neg h]
    have := keysR_l (n := n) (nm := nm) (fm := fm) hn ds hd ks (by omega) uq ks.length 0 n (by omega) (by omega)
    rw [List.drop_zero] at this
    exact this
theorem errR_eq (hn : 1001 ≤ n) (nm fm : List UInt8) (ds : List FD) (hd : ds.length ≤ 1000) (ks : List KF) (hk : ks.length ≤ 1000) (uq : Bool) : Q20.F n (bs nm) (bs fm) (ds.map FD.av) (ks.map KF.av) uq = some (fileE nm fm ds ks) := by
  unfold Q20.F Q20.e Q23.F Q23.e Q24.F Q24.e fileE fileT
  obtain ⟨i, hi⟩ := fieldsErrR_eq (nm := bs fm) hn ds hd
  rw [isNameR_eq hn, Option.bind_some, isNameR_eq hn, Option.bind_some, hi, Option.bind_some, keysErrR_eq hn ds hd ks hk]
  cases isNm nm
  · rfl
  · cases isNm fm
    · rfl
    · by_cases h0 : ds.length = 0
      · simp [h0]
      · by_cases h1 : ds.length > 20
        · simp [h0, h1]
        · by_cases h2 : (dErr (dnames ds) ds 0).2 = 0
          · by_cases h3 : szs ds > 200
            · simp [h0, h1, h2, h3]
            · simp [h0, h1, h2, h3]
          · have h2' : ((dErr (dnames ds) ds 0).2 != 0) = true := by simp [h2]
            simp [h0, h1, h2, h2']
theorem plainErr_eq (hn : 1001 ≤ n) (nm fm : List UInt8) (ds : List FD) (hd : ds.length ≤ 1000) (ks : List KF) (hk : ks.length ≤ 1000) (uq : Bool) : Q26.F n (bs nm) (bs fm) (ds.map FD.av) (ks.map KF.av) uq = some (fileE nm fm ds ks) := by
  unfold Q26.F Q26.e
  rw [isNameR_eq hn, Option.bind_some, isNameR_eq hn, Option.bind_some, errR_eq hn nm fm ds hd ks hk]
  unfold fileE
  cases isNm nm
  · rfl
  · cases isNm fm <;> rfl
end
end Go.Proofs.YtmpglmcjoelciaaGreatDoor.Ev
namespace Go.Proofs.YtmpglmcjoelciaaGreatDoor.Ev
open Go Go.Proofs Go.Proofs.Ev
set_option linter.unusedVariables false
set_option linter.unusedSimpArgs false
theorem lit1 (a : UInt8) : (⟨#[a]⟩ : ByteArray) = bs [a] := rfl
theorem lit2 (a b : UInt8) : (⟨#[a, b]⟩ : ByteArray) = bs [a, b] := rfl
theorem lit4 (a b c d : UInt8) : (⟨#[a, b, c, d]⟩ : ByteArray) = bs [a, b, c, d] := rfl
theorem lit7 (a b c d e f g : UInt8) : (⟨#[a, b, c, d, e, f, g]⟩ : ByteArray) = bs [a, b, c, d, e, f, g] := rfl
theorem lit8 (a b c d e f g h : UInt8) : (⟨#[a, b, c, d, e, f, g, h]⟩ : ByteArray) = bs [a, b, c, d, e, f, g, h] := rfl
section
variable {n : Nat}
theorem digitsD_eq : ∀ (q j : Nat) (k : Nat), k < 10 ^ (j + 1) → j ≤ 17 → Q1q.D n (j + 1 + q) k = some (bs (Lib.decDigits k)) := by
  intro q j
  induction j with
  | zero =>
    intro k hk _
    have hk : k < 10 := by simpa using hk
    rw [show 0 + 1 + q = q + 1 by omega]
    rw [Q1q.D_succ]
    unfold Q1q.e
    rw [cond_f (by omega), cond_f (by omega), cond_t (by omega)]
    simp only [small_digit k hk]
    rw [dec1 hk]
    rfl
  | succ j ih =>
    intro k hk hj
    have hp : 10 ^ (j + 1 + 1) ≤ 10 ^ 18 := Nat.pow_le_pow_right (by omega) (by omega)
    rw [show j + 1 + 1 + q = (j + 1 + q) + 1 by omega]
    rw [Q1q.D_succ]
    unfold Q1q.e
    rw [cond_f (by omega), cond_f (by omega)]
    by_cases h1 : k < 10
    · rw [cond_t (by omega)]
      simp only [small_digit k h1]
      rw [dec1 h1]
      rfl
    · rw [cond_f (by omega)]
      have e1 : IntKind.i64.wrap (Int.tdiv (k : Int) 10) = ((k / 10 : Nat) : Int) := by rw [Int.tdiv_eq_ediv_of_nonneg (by omega), w64] <;> omega
      have e2 : Int.tmod (k : Int) 10 = ((k % 10 : Nat) : Int) := by rw [Int.tmod_eq_emod_of_nonneg (by omega)]; omega
      have hk' : k / 10 < 10 ^ (j + 1) := by rw [Nat.pow_succ] at hk; omega
      have hl := dec_len j (k / 10) hk'
      simp only [e1, e2, small_digit (k % 10) (by omega)]
      rw [ih (k / 10) hk' (by omega), Option.bind_some]
      simp only [withSome]
      rw [chk_t (by rw [bs_size, bs_size]; simp; omega), bs_append, ← decS h1]
theorem itoaI_eq (k : Int) (h1 : -1000000000000000 ≤ k) (h2 : k ≤ 1000000000000000) : Q4e.F n k = some (bs (Lib.itoa k)) := by
  unfold Q4e.F
  have : (decide ((-9223372036854775808 : Int) ≤ k) && decide (k ≤ 9223372036854775807)) = true := by rw [Bool.and_eq_true, decide_eq_true_eq, decide_eq_true_eq]; omega
  rw [this, cond_true]
theorem itoa_len (k : Int) (h1 : -1000000000000000 ≤ k) (h2 : k ≤ 1000000000000000) : (Lib.itoa k).length ≤ 20 := by
  unfold Lib.itoa
  split
  · have := (dec_len 16 k.natAbs (by omega)).2
    simp only [List.length_cons]
    omega
  · have := (dec_len 16 k.toNat (by omega)).2
    omega
theorem digitsI_eq (hn : 20 ≤ n) (k : Int) (h1 : -1000000000000000 ≤ k) (h2 : k ≤ 1000000000000000) : Q1q.F n k = some (bs (Lib.itoa k)) := by
  by_cases h0 : 0 ≤ k
  · obtain ⟨j, rfl⟩ : ∃ j : Nat, k = j := ⟨k.toNat, by omega⟩
    rw [digits_eq hn j (by omega), Lib.itoa, if_neg (by omega), Int.toNat_natCast]
  · obtain ⟨j, rfl⟩ : ∃ j : Nat, k = -(j : Int) := ⟨k.natAbs, by omega⟩
    obtain ⟨m, rfl⟩ : ∃ m, n = m + 19 := ⟨n - 19, by omega⟩
    unfold Q1q.F
    rw [show Q1q.D (m + 19) (m + 19) (-(j : Int)) = Q1q.D (m + 19) ((m + 18) + 1) (-(j : Int)) from rfl, Q1q.D_succ]
    unfold Q1q.e
    rw [Lib.itoa, if_pos (by omega), show (-(j : Int)).natAbs = j by omega]
    by_cases h9 : -(j : Int) < -9
    · have e1 : IntKind.i64.wrap (Int.tdiv (-(j : Int)) 10) = -((j / 10 : Nat) : Int) := by rw [Int.neg_tdiv, Int.tdiv_eq_ediv_of_nonneg (by omega), w64] <;> omega
      have e2 : Int.tmod (-(j : Int)) 10 = -((j % 10 : Nat) : Int) := by rw [Int.neg_tmod, Int.tmod_eq_emod_of_nonneg (by omega)]; omega
      have d1 := digitsD_eq (n := m + 19) m 17 (j / 10) (by omega) (by omega)
      have d2 := digitsD_eq (n := m + 19) m 17 (j % 10) (by omega) (by omega)
      rw [show 17 + 1 + m = m + 18 by omega] at d1 d2
      have l1 := (dec_len 16 (j / 10) (by omega)).2
      have l2 := (dec_len 16 (j % 10) (by omega)).2
      rw [cond_t h9]
      simp only [e1, e2]
      rw [w64 (x := 0 - -((j / 10 : Nat) : Int)) (by omega) (by omega), w64 (x := 0 - -((j % 10 : Nat) : Int)) (by omega) (by omega), show (0 - -((j / 10 : Nat) : Int)) = ((j / 10 : Nat) : Int) by omega, show (0 - -((j % 10 : Nat) : Int)) = ((j % 10 : Nat) : Int) by omega,
        d1, Option.bind_some, d2, Option.bind_some, lit1]
      rw [chk_t (by rw [bs_size]; omega), chk_t (by rw [bs_append, bs_size, bs_size, List.length_append, List.length_singleton]; omega), bs_append, bs_append, decS (k := j) (by omega), dec1 (k := j % 10) (by omega)]
      simp
    · have d1 := digitsD_eq (n := m + 19) m 17 j (by omega) (by omega)
      rw [show 17 + 1 + m = m + 18 by omega] at d1
      have l1 := (dec_len 16 j (by omega)).2
      rw [cond_f h9, cond_t (by omega), w64 (x := 0 - -(j : Int)) (by omega) (by omega), show (0 - -(j : Int)) = (j : Int) by omega, d1, Option.bind_some, lit1, chk_t (by rw [bs_size]; omega), bs_append]
      rfl
def dbl (s : List UInt8) : List UInt8 := s.flatMap fun c => if c = 39 then [39, 39] else [c]
theorem dbl_cons (c : UInt8) (s : List UInt8) : dbl (c :: s) = (if c = 39 then [39, 39] else [c]) ++ dbl s := rfl
theorem dbl_len : ∀ s : List UInt8, (dbl s).length ≤ 2 * s.length
  | [] => by simp [dbl]
  | c :: s => by
    have := dbl_len s
    rw [dbl_cons, List.length_append, List.length_cons]
    split <;> simp <;> omega
def qd (s : List UInt8) : List UInt8 := [39] ++ dbl s ++ [39]
theorem dbl_none : ∀ s : List UInt8, s.count 39 = 0 → dbl s = s
  | [], _ => rfl
  | c :: s, h => by
    rw [List.count_cons] at h
    have h1 : ¬ c = 39 := by intro e; rw [e] at h; simp at h
    rw [dbl_cons, if_neg h1, dbl_none s (by omega)]
    rfl
theorem replK : ∀ (s : List UInt8) (k : Nat), s.count 39 ≤ k → Lib.replaceK [39] [39, 39] k s = dbl s
  | [], 0, _ => rfl
  | [], k + 1, _ => rfl
  | c :: s, k, h => by
    by_cases hc : c = 39
    · subst hc
      rw [List.count_cons_self] at h
      obtain ⟨k, rfl⟩ : ∃ q, k = q + 1 := ⟨k - 1, by omega⟩
      have hi : Lib.index (39 :: s) [39] = ((0 : Nat) : Int) := by simp [Lib.index]
      rw [Lib.replaceK_hit [39] [39, 39] k (39 :: s) 0 hi, dbl_cons, if_pos rfl]
      have := replK s k (by omega)
      simp only [List.take_zero, List.nil_append, List.length_singleton, Nat.zero_add, List.drop_succ_cons, List.drop_zero, this]
    · have hcn : (39 :: ([] : List UInt8)).isPrefixOf (c :: s) = false := by
        simp [List.isPrefixOf]
        intro e; exact hc e.symm
      have hct : (c :: s).count 39 = s.count 39 := by rw [List.count_cons]; simp [hc]
      rw [hct] at h
      cases k with
      | zero =>
        rw [dbl_none (c :: s) (by omega)]
        rfl
      | succ k =>
        have ih := replK s (k + 1) h
        have hix : Lib.index (c :: s) [39] = if Lib.index s [39] == -1 then -1 else Lib.index s [39] + 1 := by
          rw [Lib.index, hcn]; rfl
        by_cases hm : Lib.index s [39] = -1
        · rw [Lib.replaceK, if_pos (by rw [hix, hm]; rfl)]
          rw [Lib.replaceK, if_pos (by rw [hm]; rfl)] at ih
          rw [dbl_cons, if_neg hc, ← ih]
          rfl
        · have hge := Lib.index_ge s [39]
          obtain ⟨i, hi⟩ : ∃ i : Nat, Lib.index s [39] = i := ⟨(Lib.index s [39]).toNat, by omega⟩
          have hi' : Lib.index (c :: s) [39] = ((i + 1 : Nat) : Int) := by
            rw [hix, if_neg (by rw [beq_iff_eq]; exact hm), hi]; rfl
          rw [Lib.replaceK_hit _ _ k s i hi] at ih
          rw [Lib.replaceK_hit _ _ k (c :: s) (i + 1) hi', dbl_cons, if_neg hc, ← ih]
          have : i + 1 + [(39 : UInt8)].length = (i + [(39 : UInt8)].length) + 1 := by simp
          rw [this, List.drop_succ_cons, List.take_succ_cons]
          simp
theorem replaceAll_eq (s : List UInt8) (hs : s.length ≤ 100000) : Q4j.F n (bs s) (bs [39]) (bs [39, 39]) = some (bs (dbl s)) := by
  unfold Q4j.F
  have hc : Lib.countB (bs s) (bs [39]) ≤ s.length := Lib.countB_le (bs [39]) (by decide) s.length (bs s) (by rw [bs_size]; omega)
  have hg : ((decide ((bs s).size < 4294967281) && decide (1 ≤ (bs [39]).size)) && decide ((bs s).size + Lib.countB (bs s) (bs [39]) * (bs [39, 39]).size ≤ 140737488355328)) = true := by
    rw [Bool.and_eq_true, Bool.and_eq_true, decide_eq_true_eq, decide_eq_true_eq, decide_eq_true_eq, bs_size, bs_size, bs_size]
    simp only [List.length_cons, List.length_nil]
    omega
  rw [hg, cond_true]
  have : Lib.replaceAll (bs s).data.toList (bs [39]).data.toList (bs [39, 39]).data.toList = dbl s := by
    show Lib.replaceAll s [39] [39, 39] = dbl s
    unfold Lib.replaceAll Lib.replace Lib.replaceNum
    rw [if_neg (by decide), if_pos (by left; decide), replK s _ (by rw [Lib.count_one]; omega)]
  rw [this]
theorem byte_at {l : List UInt8} {i : Nat} (hi : i < l.length) : l.toArray.getD i 0 = l[i] := by
  simp [Array.getD, hi]
theorem cut1 {l : List UInt8} {i : Nat} (hi : i < l.length) : (bs l).extract i (i + 1) = bs [l[i]] := by
  rw [bs_extract, show i + 1 - i = 1 by omega, List.drop_eq_getElem_cons hi]
  rfl
theorem quotedR_l (s : List UInt8) (hs : s.length ≤ 100000) : ∀ (d i m : Nat) (acc : List UInt8), i + d = s.length → d < m → acc.length ≤ 2 * i + 1 → Q3j.l n m (.z3 (bs s) (bs acc) i) = some (bs (acc ++ dbl (s.drop i) ++ [39]))
  | _, _, 0, _, _, h, _ => absurd h (by omega)
  | 0, i, m + 1, acc, h, _, ha => by
    rw [Q3j.at3]
    unfold Q3j.r3
    simp (disch := omega) only [Option.bind_some, Option.bind_none, cond_true, cond_false, Bool.not_true, Bool.not_false, List.length_map, Ws_length, bs_size, within_t, upto_t, wsucc, Int.toNat_natCast, at_mapN, Ws_getDN, cells_agg, cells_v, withCons_cons, withInt_mk, withStr_mk, withBool_mk, withSl_mk, cond_t, cond_f, lit1, chk_t, bs_append, List.length_append, List.length_singleton]
    rw [List.drop_of_length_le (by omega)]
    simp [dbl]
  | d + 1, i, m + 1, acc, h, hm, ha => by
    have hi : i < s.length := by omega
    rw [Q3j.at3]
    unfold Q3j.r3
    simp (disch := omega) only [Option.bind_some, Option.bind_none, cond_true, cond_false, Bool.not_true, Bool.not_false, List.length_map, Ws_length, bs_size, within_t, upto_t, wsucc, Int.toNat_natCast, at_mapN, Ws_getDN, cells_agg, cells_v, withCons_cons, withInt_mk, withStr_mk, withBool_mk, withSl_mk, cond_t, cond_f, byte_at, upto_t, lit1]
    simp (disch := omega) only [Option.bind_some, Option.bind_none, cond_true, cond_false, Bool.not_true, Bool.not_false, List.length_map, Ws_length, bs_size, within_t, upto_t, wsucc, Int.toNat_natCast, at_mapN, Ws_getDN, cells_agg, cells_v, withCons_cons, withInt_mk, withStr_mk, withBool_mk, withSl_mk, cond_t, cond_f, cut1, chk_t, bs_append, List.length_append, List.length_singleton]
    rw [List.drop_eq_getElem_cons hi, dbl_cons]
    by_cases hc : s[i] = 39
    · have hb : (((s[i].toNat : Nat) : Int) == 39) = true := by rw [hc]; rfl
      have ih := quotedR_l s hs d (i + 1) m (acc ++ [39] ++ [39]) (by omega) (by omega) (by simp; omega)
      rw [hb, cond_true, if_pos hc, hc, ih]
      simp
    · have hb : (((s[i].toNat : Nat) : Int) == 39) = false := by
        rw [beq_int, decide_eq_false_iff_not]
        intro e
        have e2 : s[i].toNat = 39 := by omega
        exact hc (UInt8.toNat_inj.1 (by rw [e2]; rfl))
      have ih := quotedR_l s hs d (i + 1) m (acc ++ [s[i]]) (by omega) (by omega) (by simp; omega)
      rw [hb, cond_false, if_neg hc, ih]
      simp
theorem quotedR_eq (s : List UInt8) (hs : s.length ≤ 100000) (hn : s.length + 2 ≤ n) : Q3j.F n (bs s) = some (bs (qd s)) := by
  unfold Q3j.F Q3j.e
  rw [lit1]
  have := quotedR_l (n := n) s hs s.length 0 n [39] (by omega) (by omega) (by simp)
  rw [List.drop_zero] at this
  exact this
end
end Go.Proofs.YtmpglmcjoelciaaGreatDoor.Ev
namespace Go.Proofs.YtmpglmcjoelciaaGreatDoor.Ev
open Go Go.Proofs Go.Proofs.Ev
set_option linter.unusedVariables false
section
variable {n : Nat} {nm fm : ByteArray} {ws : List (List UInt8)} {fs : List LF} {js : List JP} {ks : List KF} {uq : Bool} {rs : List RL}
theorem checkR19 (hn : 10001 ≤ n) (hw : 1 ≤ ws.length ∧ ws.length ≤ 1000) (hf : fs.length ≤ 1000) (hj : js.length ≤ 1000) (hk : ks.length ≤ 4 ∨ ks.length ≤ 1000) (hr : rs.length ≤ 1000) (hc : ∀ r ∈ rs, r.cs.length ≤ 1000) : ∀ (d i m : Nat), i + d = fs.length → d + 6000 ≤ m →
    Q2s.l n m (.z19 i nm fm (Ws ws) (fs.map LF.av) (js.map JP.av) (ks.map KF.av) uq (rs.map RL.av)) = some (tailF ws fs js ks uq rs i)
  | 0, i, m, h, hm => by
    obtain ⟨m, rfl⟩ : ∃ q, m = q + 1 := ⟨m - 1, by omega⟩
    rw [Q2s.at19]
    unfold Q2s.r19 tailF
    simp only [List.length_map]
    rw [cond_f (by omega), List.drop_of_length_le (by omega), joinsR_eq (by omega) ws hw js hj, Option.bind_some, bif_ne]
    show _ = some (if (0 : Int) ≠ 0 then _ else _)
    rw [if_neg (by simp : ¬ (0 : Int) ≠ 0)]
    by_cases h1 : (jErrT ws js).2 = 0
    · rw [if_neg (by simp [h1]), if_neg (by simp [h1])]
      by_cases h4 : ks.length > 4
      · rw [cond_t (by omega), if_pos h4]
      · rw [cond_f (by omega), if_neg h4]
        exact checkR36 (by omega) hf (by omega) hr hc ks.length 0 m (by omega) (by omega)
    · rw [if_pos h1, if_pos h1]
  | d + 1, i, m, h, hm => by
    obtain ⟨m, rfl⟩ : ∃ q, m = q + 1 := ⟨m - 1, by omega⟩
    have hi : i < fs.length := by omega
    have hnl : (names fs).length = fs.length := by simp [names]
    have ih := checkR19 hn hw hf hj hk hr hc d (i + 1) m (by omega) (by omega)
    have hlt := ixs_lt (names fs) fs[i].nm 0 i (by omega) (by rw [List.getElem?_eq_getElem (by omega)]; simp [names])
    rw [Nat.zero_add] at hlt
    rw [Q2s.at19]
    unfold Q2s.r19
    simp only [List.length_map]
    rw [cond_t (by omega), within_t hi, cond_true, at_map LF.av hi]
    show ((Q1t.F n (bs fs[i].nm)).bind fun p26 => bif !p26 then (some ((i : Int), 7)) else ((Q2u.F n nm fm (Ws ws) (fs.map LF.av) (js.map JP.av) (ks.map KF.av) uq (rs.map RL.av) (bs fs[i].nm)).bind fun p27 =>
      bif decide (p27 < (i : Int)) then (some ((i : Int), 13)) else ((Q1z.F n fs[i].b 0 (IntKind.i64.wrap ((((Ws ws).length : Nat) : Int) - 1))).bind fun p29 => bif !p29 then (some ((i : Int), 3)) else ((Q1t.F n (bs fs[i].fd)).bind fun p30 =>
      bif !p30 then (some ((i : Int), 7)) else Q2s.l n m (.z19 (IntKind.i64.wrap ((i : Int) + 1)) nm fm (Ws ws) (fs.map LF.av) (js.map JP.av) (ks.map KF.av) uq (rs.map RL.av)))))) = _
    rw [isNameR_eq (by omega), Option.bind_some, fieldOf_eq (by omega) fs hf, Option.bind_some, hlt, Ws_length, w64 (x := ((ws.length : Nat) : Int) - 1) (by omega) (by omega), Within_eq, Option.bind_some, isNameR_eq (by omega), Option.bind_some, wsucc (by omega), ih]
    unfold tailF
    rw [List.drop_eq_getElem_cons hi]
    rw [fErr_cons]
    unfold fe ne
    cases h1 : isNm fs[i].nm
    · simp
    · cases h2 : ((names fs).take i).contains fs[i].nm
      · by_cases h3 : 0 ≤ fs[i].b ∧ fs[i].b ≤ ((ws.length : Nat) : Int) - 1
        · cases h4 : isNm fs[i].fd
          · simp [h3]
          · simp only [h3, and_self, decide_true, Bool.not_true, cond_false, not_true_eq_false, if_false, Bool.true_eq_false, Bool.false_eq_true, ne_eq]
        · simp [h3]
      · simp
def tailB (ws : List (List UInt8)) (fs : List LF) (js : List JP) (ks : List KF) (uq : Bool) (rs : List RL) (i : Nat) : Int × Int :=
  if (bErr ws (ws.drop i) i).2 ≠ 0 then bErr ws (ws.drop i) i else if fs.length = 0 then (0, 1) else if fs.length > 20 then (0, 2) else tailF ws fs js ks uq rs 0
theorem checkR8 (hn : 10001 ≤ n) (hw : 1 ≤ ws.length ∧ ws.length ≤ 1000) (hf : fs.length ≤ 1000) (hj : js.length ≤ 1000) (hk : ks.length ≤ 1000) (hr : rs.length ≤ 1000) (hc : ∀ r ∈ rs, r.cs.length ≤ 1000) : ∀ (d i m : Nat), i + d = ws.length → d + 7001 ≤ m →
    Q2s.l n m (.z8 i nm fm (Ws ws) (fs.map LF.av) (js.map JP.av) (ks.map KF.av) uq (rs.map RL.av)) = some (tailB ws fs js ks uq rs i)
  | 0, i, m, h, hm => by
    obtain ⟨m, rfl⟩ : ∃ q, m = q + 1 := ⟨m - 1, by omega⟩
    rw [Q2s.at8]
    unfold Q2s.r8 tailB
    simp only [List.length_map, Ws_length]
    rw [cond_f (by omega), List.drop_of_length_le (by omega), beq_int]
    show _ = some (if (0 : Int) ≠ 0 then _ else _)
    rw [if_neg (by simp : ¬ (0 : Int) ≠ 0)]
    by_cases h0 : fs.length = 0
    · rw [cond_t (by omega), if_pos h0]
    · rw [cond_f (by omega), if_neg h0]
      by_cases h20 : fs.length > 20
      · rw [cond_t (by omega), if_pos h20]
      · rw [cond_f (by omega), if_neg h20]
        exact checkR19 hn hw hf hj (.inr hk) hr hc fs.length 0 m (by omega) (by omega)
  | d + 1, i, m, h, hm => by
    obtain ⟨m, rfl⟩ : ∃ q, m = q + 1 := ⟨m - 1, by omega⟩
    have hi : i < ws.length := by omega
    have ih := checkR8 hn hw hf hj hk hr hc d (i + 1) m (by omega) (by omega)
    have hlt := ixs_lt ws ws[i] 0 i hi (List.getElem?_eq_getElem hi)
    rw [Nat.zero_add] at hlt
    rw [Q2s.at8]
    unfold Q2s.r8
    simp only [Ws_length]
    rw [cond_t (by omega), within_t hi, cond_true, Ws_getD hi]
    show ((Q1t.F n (bs ws[i])).bind fun p9 => bif !p9 then (some ((i : Int), 7)) else (bif true then ((Q1r.F n (Ws ws) (bs ws[i])).bind fun p13 => bif decide (p13 < (i : Int)) then (some ((i : Int), 13)) else
      Q2s.l n m (.z8 (IntKind.i64.wrap ((i : Int) + 1)) nm fm (Ws ws) (fs.map LF.av) (js.map JP.av) (ks.map KF.av) uq (rs.map RL.av))) else none)) = _
    rw [cond_true, isNameR_eq (by omega), Option.bind_some, indexOf_eq (by omega) ws hw.2, Option.bind_some, hlt, wsucc (by omega), ih]
    unfold tailB
    rw [List.drop_eq_getElem_cons hi]
    rw [bErr_cons]
    unfold ne
    cases h1 : isNm ws[i]
    · simp
    · cases h2 : (ws.take i).contains ws[i]
      · simp only [Bool.not_true, cond_false, Bool.true_eq_false, if_false, Bool.false_eq_true, ne_eq, not_true_eq_false]
      · simp
theorem checkRef_eq (hn : 20010 ≤ n) (nm fm : List UInt8) (hw : ws.length ≤ 1000) (hf : fs.length ≤ 1000) (hj : js.length ≤ 1000) (hk : ks.length ≤ 1000) (hr : rs.length ≤ 1000) (hc : ∀ r ∈ rs, r.cs.length ≤ 1000) :
    Q2s.F n (bs nm) (bs fm) (Ws ws) (fs.map LF.av) (js.map JP.av) (ks.map KF.av) uq (rs.map RL.av) = some (chkL nm fm ws fs js ks uq rs) := by
  unfold Q2s.F Q2s.e chkL
  rw [isNameR_eq (by omega), Option.bind_some, isNameR_eq (by omega), Option.bind_some]
  cases hnm : isNm nm with
  | false => rfl
  | true =>
    cases hfm : isNm fm with
    | false => rfl
    | true =>
      simp only [Bool.not_true, cond_false, Bool.true_eq_false, if_false, Ws_length]
      rw [beq_int]
      unfold bErrT
      by_cases h0 : ws.length = 0
      · rw [cond_t (by omega)]; simp [h0]
      · rw [cond_f (by omega)]
        by_cases h3 : ws.length > 3
        · rw [cond_t (by omega)]; simp [h0, h3]
        · have h8 : Q2s.l n n (.z8 0 (bs nm) (bs fm) (Ws ws) (fs.map LF.av) (js.map JP.av) (ks.map KF.av) uq (rs.map RL.av)) = some (tailB ws fs js ks uq rs 0) := checkR8 (by omega) ⟨by omega, hw⟩ hf hj hk hr hc ws.length 0 n (by omega) (by omega)
          rw [cond_f (by omega), h8]
          simp only [h0, h3, if_false]
          unfold tailB tailF tailK tailR fErrT kErrT rErrT
          simp only [List.drop_zero]
          by_cases hb : (bErr ws ws 0).2 = 0
          · simp only [hb, ne_eq, not_true_eq_false, if_false]
            by_cases f0 : fs.length = 0
            · simp [f0]
            · by_cases f20 : fs.length > 20
              · simp [f0, f20]
              · simp only [f0, f20, if_false]
                by_cases hfe : (fErr ((ws.length : Int) - 1) (names fs) fs 0).2 = 0
                · simp only [hfe, not_true_eq_false, if_false]
                  by_cases hje : (jErrT ws js).2 = 0
                  · simp only [hje, not_true_eq_false, if_false]
                    by_cases k4 : ks.length > 4
                    · simp [k4]
                    · simp only [k4, if_false]
                      by_cases hke : (kErr (names fs) (knames ks) ks 0).2 = 0
                      · simp only [hke, not_true_eq_false, if_false]
                        by_cases r8 : rs.length > 8
                        · simp [r8]
                        · simp only [r8, if_false]
                      · simp only [hke, not_false_eq_true, if_true]
                  · simp only [hje, not_false_eq_true, if_true]
                · simp only [hfe, not_false_eq_true, if_true]
          · simp only [hb, ne_eq, not_false_eq_true, if_true]
theorem own_l (rs : List RL) (hr : rs.length ≤ 1000) (hc : ∀ r ∈ rs, r.cs.length ≤ 1000) (p1 a3 a4 a5 : List AV) (x y : ByteArray) (b : Bool) : ∀ (d i m : Nat), i + d = rs.length → d < m →
    Q30.l n m (.z7 i nm fm uq (rs.map RL.av) p1 a3 a4 a5 x y b ((rs.take i).map RL.av)) = some (nm, fm, p1, a3, a4, a5, uq, rs.map RL.av)
  | _, _, 0, _, h => absurd h (by omega)
  | 0, i, m + 1, h, _ => by
    rw [Q30.at7]
    unfold Q30.r7
    simp only [List.length_map]
    rw [cond_f (by omega), List.take_of_length_le (by omega)]
  | d + 1, i, m + 1, h, hm => by
    have hi : i < rs.length := by omega
    have hci := hc _ (List.getElem_mem hi)
    have hmost : most = 1000000000 := rfl
    have ih := own_l rs hr hc p1 a3 a4 a5 x y b d (i + 1) m (by omega) (by omega)
    rw [Q30.at7]
    unfold Q30.r7
    simp only [List.length_map]
    rw [cond_t (by omega), within_t hi, cond_true, at_map RL.av hi]
    show (bif true then (bif decide ((rs[i].cs.map CN.av).length ≤ most) then (bif decide ((rs.take i).length + 1 ≤ most) then
      (Q30.l n m (.z7 (IntKind.i64.wrap ((i : Int) + 1)) nm fm uq (rs.map RL.av) p1 a3 a4 a5 x y b ((rs.take i).map RL.av ++ [RL.av rs[i]]))) else none) else none) else none) = _
    rw [cond_true, cond_t (by rw [List.length_map]; omega), cond_t (by rw [List.length_take]; omega), wsucc (by omega)]
    have e : (rs.take i).map RL.av ++ [RL.av rs[i]] = (rs.take (i + 1)).map RL.av := by rw [List.take_succ_eq_append_getElem hi, List.map_append]; rfl
    rw [e]
    exact ih
theorem own_eq (hn : 1001 ≤ n) (hw : ws.length ≤ 1000) (hf : fs.length ≤ 1000) (hj : js.length ≤ 1000) (hk : ks.length ≤ 1000) (hr : rs.length ≤ 1000) (hc : ∀ r ∈ rs, r.cs.length ≤ 1000) :
    Q30.F n nm fm (Ws ws) (fs.map LF.av) (js.map JP.av) (ks.map KF.av) uq (rs.map RL.av) = some (nm, fm, Ws ws, fs.map LF.av, js.map JP.av, ks.map KF.av, uq, rs.map RL.av) := by
  have hmost : most = 1000000000 := rfl
  unfold Q30.F Q30.e Q1o.F Q1o.e
  rw [cond_t (by rw [Ws_length]; omega), Option.bind_some, cond_t (by rw [List.length_map]; omega), cond_t (by rw [List.length_map]; omega), cond_t (by rw [List.length_map]; omega)]
  exact own_l rs hr hc _ _ _ _ _ _ _ rs.length 0 n (by omega) (by omega)
end
end Go.Proofs.YtmpglmcjoelciaaGreatDoor.Ev
namespace Go.Proofs.YtmpglmcjoelciaaGreatDoor.Ev
open Go Go.Proofs Go.Proofs.Ev
set_option linter.unusedVariables false
set_option linter.unusedSimpArgs false
theorem nm_of_ne {b : List (List UInt8)} {s : List UInt8} (h : ne b s = 0) : isNm s = true ∧ b.contains s = false := by
  unfold ne at h
  cases h1 : isNm s
  · rw [h1] at h; cases h
  · rw [h1, if_neg (by simp)] at h
    cases h2 : b.contains s
    · exact ⟨rfl, rfl⟩
    · rw [h2, if_pos rfl] at h; cases h
theorem bErr_ok {ws : List (List UInt8)} : ∀ {l : List (List UInt8)} {i : Nat}, (bErr ws l i).2 = 0 → ∀ w ∈ l, isNm w = true
  | [], _, _ => by simp
  | w :: l, i, h => by
    rw [bErr_cons] at h
    by_cases h0 : ne (ws.take i) w = 0
    · rw [if_neg (by simp [h0])] at h
      intro v hv
      rcases List.mem_cons.1 hv with rfl | hv
      · exact (nm_of_ne h0).1
      · exact bErr_ok h v hv
    · rw [if_pos h0] at h; exact absurd h h0
structure FOk (nb : Int) (f : LF) : Prop where
  nm : isNm f.nm = true
  b0 : 0 ≤ f.b
  b1 : f.b ≤ nb
  fd : isNm f.fd = true
theorem fe_ok {nb : Int} {b : List (List UInt8)} {f : LF} (h : fe nb b f = 0) : FOk nb f := by
  unfold fe at h
  by_cases h1 : ne b f.nm = 0
  · rw [if_neg (by simp [h1])] at h
    by_cases h2 : 0 ≤ f.b ∧ f.b ≤ nb
    · rw [if_neg (by simp [h2])] at h
      cases h3 : isNm f.fd
      · rw [h3] at h; cases h
      · exact ⟨(nm_of_ne h1).1, h2.1, h2.2, h3⟩
    · rw [if_pos h2] at h; cases h
  · rw [if_pos h1] at h; exact absurd h h1
theorem fErr_ok {nb : Int} {ns : List (List UInt8)} : ∀ {l : List LF} {i : Nat}, (fErr nb ns l i).2 = 0 → ∀ f ∈ l, FOk nb f
  | [], _, _ => by simp
  | f :: l, i, h => by
    rw [fErr_cons] at h
    by_cases h0 : fe nb (ns.take i) f = 0
    · rw [if_neg (by simp [h0])] at h
      intro v hv
      rcases List.mem_cons.1 hv with rfl | hv
      · exact fe_ok h0
      · exact fErr_ok h v hv
    · rw [if_pos h0] at h; exact absurd h h0
structure JOk (nb : Int) (j : JP) : Prop where
  b0 : 1 ≤ j.b
  b1 : j.b ≤ nb
  f0 : 0 ≤ j.fr
  f1 : j.fr ≤ j.b - 1
  lf : isNm j.lf = true
  rt : isNm j.rt = true
theorem je_ok {nb last : Int} {j : JP} (h : je nb last j = 0) : JOk nb j := by
  unfold je at h
  by_cases h1 : 1 ≤ j.b ∧ j.b ≤ nb
  · rw [if_neg (by simp [h1])] at h
    by_cases h2 : 0 ≤ j.fr ∧ j.fr ≤ j.b - 1
    · rw [if_neg (by simp [h2])] at h
      cases h3 : isNm j.lf
      · rw [h3] at h; cases h
      · cases h4 : isNm j.rt
        · rw [h3, h4] at h; cases h
        · exact ⟨h1.1, h1.2, h2.1, h2.2, h3, h4⟩
    · rw [if_pos h2] at h; cases h
  · rw [if_pos h1] at h; cases h
theorem jErr_ok {nb : Int} : ∀ {l : List JP} {i : Nat} {last : Int} {ts : List Bool}, (jErr nb l i last ts).2 = 0 → ∀ j ∈ l, JOk nb j
  | [], _, _, _, _ => by simp
  | j :: l, i, last, ts, h => by
    rw [jErr_cons] at h
    by_cases h0 : je nb last j = 0
    · rw [if_neg (by simp [h0])] at h
      intro v hv
      rcases List.mem_cons.1 hv with rfl | hv
      · exact je_ok h0
      · exact jErr_ok h v hv
    · rw [if_pos h0] at h; exact absurd h h0
theorem kErr_ok {ns kn : List (List UInt8)} : ∀ {l : List KF} {i : Nat}, (kErr ns kn l i).2 = 0 → ∀ k ∈ l, ns.contains k.nm = true
  | [], _, _ => by simp
  | k :: l, i, h => by
    rw [kErr_cons] at h
    by_cases h0 : ke ns (kn.take i) k = 0
    · rw [if_neg (by simp [h0])] at h
      intro v hv
      rcases List.mem_cons.1 hv with rfl | hv
      · unfold ke at h0
        cases h1 : ns.contains v.nm
        · rw [h1] at h0; cases h0
        · rfl
      · exact kErr_ok h v hv
    · rw [if_pos h0] at h; exact absurd h h0
structure COk (ns : List (List UInt8)) (c : CN) : Prop where
  fd : ns.contains c.fd = true
  o0 : 0 ≤ c.op
  o1 : c.op ≤ 5
  n0 : -999999999999999 ≤ c.n
  n1 : c.n ≤ 999999999999999
  sl : c.s.length ≤ 256
  one : c.n = 0 ∨ c.s = []
theorem ce_ok {ns : List (List UInt8)} {c : CN} (h : ce ns c = 0) : COk ns c := by
  unfold ce at h
  cases h1 : ns.contains c.fd
  · rw [h1] at h; cases h
  · rw [h1, if_neg (by simp)] at h
    by_cases h2 : 0 ≤ c.op ∧ c.op ≤ 5
    · rw [if_neg (by simp [h2])] at h
      by_cases h3 : -999999999999999 ≤ c.n ∧ c.n ≤ 999999999999999
      · rw [if_neg (by simp [h3])] at h
        by_cases h4 : c.s.length > 256
        · rw [if_pos h4] at h; cases h
        · rw [if_neg h4] at h
          by_cases h5 : c.n ≠ 0 ∧ c.s ≠ []
          · rw [if_pos h5] at h; cases h
          · refine ⟨h1, h2.1, h2.2, h3.1, h3.2, by omega, ?_⟩
            by_cases h6 : c.n = 0
            · exact .inl h6
            · exact .inr (Classical.byContradiction fun h7 => h5 ⟨h6, h7⟩)
      · rw [if_pos h3] at h; cases h
    · rw [if_pos h2] at h; cases h
theorem cErr_ok {ns : List (List UInt8)} : ∀ {l : List CN}, cErr ns l = 0 → ∀ c ∈ l, COk ns c
  | [], _ => by simp
  | c :: l, h => by
    rw [cErr_cons] at h
    by_cases h0 : ce ns c = 0
    · rw [if_neg (by simp [h0])] at h
      intro v hv
      rcases List.mem_cons.1 hv with rfl | hv
      · exact ce_ok h0
      · exact cErr_ok h v hv
    · rw [if_pos h0] at h; exact absurd h h0
structure ROk (ns : List (List UInt8)) (r : RL) : Prop where
  len : r.cs.length ≤ 4
  cs : ∀ c ∈ r.cs, COk ns c
theorem rErr_ok {ns : List (List UInt8)} : ∀ {l : List RL} {i : Nat}, (rErr ns l i).2 = 0 → ∀ r ∈ l, ROk ns r
  | [], _, _ => by simp
  | r :: l, i, h => by
    rw [rErr_cons] at h
    by_cases h0 : re ns r = 0
    · rw [if_neg (by simp [h0])] at h
      intro v hv
      rcases List.mem_cons.1 hv with rfl | hv
      · unfold re at h0
        by_cases h1 : v.cs.length > 4
        · rw [if_pos h1] at h0; cases h0
        · rw [if_neg h1] at h0
          exact ⟨by omega, cErr_ok h0⟩
      · exact rErr_ok h v hv
    · rw [if_pos h0] at h; exact absurd h h0
structure LOk (nm fm : List UInt8) (ws : List (List UInt8)) (fs : List LF) (js : List JP) (ks : List KF) (uq : Bool) (rs : List RL) : Prop where
  nm : isNm nm = true
  fm : isNm fm = true
  w0 : 1 ≤ ws.length
  w1 : ws.length ≤ 3
  wsn : ∀ w ∈ ws, isNm w = true
  f0 : 1 ≤ fs.length
  f1 : fs.length ≤ 20
  fso : ∀ f ∈ fs, FOk ((ws.length : Int) - 1) f
  j1 : js.length ≤ 20
  jso : ∀ j ∈ js, JOk ((ws.length : Int) - 1) j
  k1 : ks.length ≤ 4
  kso : ∀ k ∈ ks, (names fs).contains k.nm = true
  ke : (kErrT (names fs) ks).2 = 0
  r1 : rs.length ≤ 8
  rso : ∀ r ∈ rs, ROk (names fs) r
theorem chkL_ok {nm fm : List UInt8} {ws : List (List UInt8)} {fs : List LF} {js : List JP} {ks : List KF} {uq : Bool} {rs : List RL} (h : (chkL nm fm ws fs js ks uq rs).2 = 0) : LOk nm fm ws fs js ks uq rs := by
  unfold chkL at h
  cases h1 : isNm nm
  · rw [h1] at h; cases h
  cases h2 : isNm fm
  · rw [h1, h2] at h; cases h
  rw [h1, h2, if_neg (by simp), if_neg (by simp)] at h
  by_cases h3 : (bErrT ws).2 = 0
  case neg => rw [if_pos h3] at h; exact absurd h h3
  rw [if_neg (by simp [h3])] at h
  by_cases h4 : (fErrT ws fs).2 = 0
  case neg => rw [if_pos h4] at h; exact absurd h h4
  rw [if_neg (by simp [h4])] at h
  by_cases h5 : (jErrT ws js).2 = 0
  case neg => rw [if_pos h5] at h; exact absurd h h5
  rw [if_neg (by simp [h5])] at h
  by_cases h6 : (kErrT (names fs) ks).2 = 0
  case neg => rw [if_pos h6] at h; exact absurd h h6
  rw [if_neg (by simp [h6])] at h
  by_cases h7 : (rErrT (names fs) rs).2 = 0
  case neg => rw [if_pos h7] at h; exact absurd h h7
  clear h
  have h6' := h6
  unfold bErrT at h3
  unfold fErrT at h4
  unfold jErrT at h5
  unfold kErrT at h6
  unfold rErrT at h7
  by_cases a1 : ws.length = 0
  · rw [if_pos a1] at h3; cases h3
  by_cases a2 : ws.length > 3
  · rw [if_neg a1, if_pos a2] at h3; cases h3
  rw [if_neg a1, if_neg a2] at h3
  by_cases a3 : fs.length = 0
  · rw [if_pos a3] at h4; cases h4
  by_cases a4 : fs.length > 20
  · rw [if_neg a3, if_pos a4] at h4; cases h4
  rw [if_neg a3, if_neg a4] at h4
  by_cases a5 : js.length > 20
  · rw [if_pos a5] at h5; cases h5
  rw [if_neg a5] at h5
  by_cases a6 : ks.length > 4
  · rw [if_pos a6] at h6; cases h6
  rw [if_neg a6] at h6
  by_cases a7 : rs.length > 8
  · rw [if_pos a7] at h7; cases h7
  rw [if_neg a7] at h7
  exact ⟨h1, h2, by omega, by omega, bErr_ok h3, by omega, by omega, fErr_ok h4, by omega, jErr_ok h5, by omega, kErr_ok h6, h6', by omega, rErr_ok h7⟩
end Go.Proofs.YtmpglmcjoelciaaGreatDoor.Ev
namespace Go.Proofs.YtmpglmcjoelciaaGreatDoor.Ev
open Go Go.Proofs Go.Proofs.Ev
set_option linter.unusedVariables false
set_option linter.unusedSimpArgs false
def opT (o : Int) : List UInt8 := ([[69, 81], [78, 69], [76, 84], [76, 69], [71, 84], [71, 69]] : List (List UInt8)).getD o.toNat []
def valT (c : CN) : List UInt8 := if c.s = [] then Lib.itoa c.n else qd c.s
def cndT (c : CN) : List UInt8 := [32] ++ c.fd ++ [32] ++ opT c.op ++ [32] ++ valT c
def cndsT : Nat → List CN → List UInt8
  | _, [] => []
  | i, c :: r => (if i > 0 then [32, 65, 78, 68] else []) ++ cndT c ++ cndsT (i + 1) r
theorem cndsT_cons (i : Nat) (c : CN) (r : List CN) : cndsT i (c :: r) = (if i > 0 then [32, 65, 78, 68] else []) ++ cndT c ++ cndsT (i + 1) r := rfl
def ruleT (r : RL) : List UInt8 := (if r.om then [79] else [83]) ++ cndsT 0 r.cs
def ruleOk (r : RL) : Bool := r.cs.all fun c => c.s.all okc
structure CFit (c : CN) : Prop where
  fd : c.fd.length ≤ 10
  o0 : 0 ≤ c.op
  o1 : c.op ≤ 5
  n0 : -999999999999999 ≤ c.n
  n1 : c.n ≤ 999999999999999
  sl : c.s.length ≤ 256
theorem nm_len {s : List UInt8} (h : isNm s = true) : s.length ≤ 10 := by
  unfold isNm at h
  rw [Bool.and_eq_true, Bool.and_eq_true, decide_eq_true_eq, decide_eq_true_eq] at h
  exact h.1.2
theorem names_nm {nb : Int} {fs : List LF} (h : ∀ f ∈ fs, FOk nb f) {s : List UInt8} (hs : (names fs).contains s = true) : isNm s = true := by
  have hm : s ∈ names fs := by simpa using hs
  obtain ⟨f, h1, rfl⟩ := List.mem_map.1 hm
  exact (h f h1).nm
theorem cfit_of {nb : Int} {fs : List LF} (h : ∀ f ∈ fs, FOk nb f) {c : CN} (hc : COk (names fs) c) : CFit c :=
  ⟨nm_len (names_nm h hc.fd), hc.o0, hc.o1, hc.n0, hc.n1, hc.sl⟩
theorem op_at {o : Int} (h0 : 0 ≤ o) (h1 : o ≤ 5) : gr0.getD o.toNat AV.undef = vs (bs (opT o)) ∧ (opT o).length = 2 := by
  have : ∀ k : Fin 6, gr0.getD k.1 AV.undef = vs (bs (opT (k.1 : Int))) ∧ (opT (k.1 : Int)).length = 2 := by
    intro k
    match k with
    | 0 => exact ⟨rfl, rfl⟩
    | 1 => exact ⟨rfl, rfl⟩
    | 2 => exact ⟨rfl, rfl⟩
    | 3 => exact ⟨rfl, rfl⟩
    | 4 => exact ⟨rfl, rfl⟩
    | 5 => exact ⟨rfl, rfl⟩
  have := this ⟨o.toNat, by omega⟩
  rw [show ((o.toNat : Nat) : Int) = o by omega] at this
  exact this
theorem valT_len {c : CN} (h : CFit c) : (valT c).length ≤ 520 := by
  unfold valT
  split
  · have := itoa_len c.n (by have := h.n0; omega) (by have := h.n1; omega)
    omega
  · have := dbl_len c.s
    have := h.sl
    unfold qd
    simp only [List.length_append, List.length_singleton]
    omega
theorem cndT_len {c : CN} (h : CFit c) : (cndT c).length ≤ 540 := by
  have h1 := valT_len h
  have h2 := (op_at h.o0 h.o1).2
  have h3 := h.fd
  unfold cndT
  simp only [List.length_append, List.length_singleton]
  omega
section
variable {n : Nat}
theorem cs_writ {cs : List CN} {i : Nat} (hi : i < cs.length) : (cs.drop i).all (fun c => c.s.all okc) = (cs[i].s.all okc && (cs.drop (i + 1)).all fun c => c.s.all okc) := by
  rw [List.drop_eq_getElem_cons hi, List.all_cons]
theorem rule_l (hn : 100002 ≤ n) (cs : List CN) (hc : cs.length ≤ 1000) (hf : ∀ c ∈ cs, CFit c) : ∀ (d i m : Nat) (acc : List UInt8) (ok : Bool), i + d = cs.length → 2 * d + 1 ≤ m → acc.length ≤ 1000 * i + 1 →
    Q15.l n m (.z5 (bs acc) ok (cs.map CN.av) cs.length i) = some (bs (acc ++ cndsT i (cs.drop i)), ok && (cs.drop i).all fun c => c.s.all okc)
  | 0, i, m, acc, ok, h, hm, ha => by
    obtain ⟨m, rfl⟩ : ∃ q, m = q + 1 := ⟨m - 1, by omega⟩
    rw [Q15.at5]
    unfold Q15.r5
    simp (disch := omega) only [Option.bind_some, Option.bind_none, cond_true, cond_false, Bool.not_true, Bool.not_false, List.length_map, Ws_length, bs_size, within_t, upto_t, wsucc, Int.toNat_natCast, at_mapN, Ws_getDN, cells_agg, cells_v, withCons_cons, withInt_mk, withStr_mk, withBool_mk, withSl_mk, cond_t, cond_f]
    rw [List.drop_of_length_le (by omega)]
    simp [cndsT]
  | d + 1, i, m, acc, ok, h, hm, ha => by
    obtain ⟨m, rfl⟩ : ∃ q, m = q + 1 + 1 := ⟨m - 2, by omega⟩
    have hi : i < cs.length := by omega
    have hfi := hf cs[i] (List.getElem_mem hi)
    obtain ⟨o1, o2⟩ := op_at hfi.o0 hfi.o1
    have vl := valT_len hfi
    have cl := cndT_len hfi
    have fl := hfi.fd
    have hs := hfi.sl
    have hol : (decide ((0 : Int) ≤ cs[i].op) && decide (cs[i].op < ((gr0.length : Nat) : Int))) = true := by
      have h0 := hfi.o0
      have h1 := hfi.o1
      rw [show gr0.length = 6 from rfl, Bool.and_eq_true, decide_eq_true_eq, decide_eq_true_eq]
      omega
    have mid : ∀ (acc' : List UInt8), acc'.length ≤ 1000 * i + 5 → Q15.l n (m + 1) (.z12 (bs acc') ok (bs (valT cs[i])) (cs.map CN.av) cs.length i (bs cs[i].fd) cs[i].op cs[i].n (bs cs[i].s)) =
        some (bs (acc' ++ cndT cs[i] ++ cndsT (i + 1) (cs.drop (i + 1))), ok && (cs.drop i).all fun c => c.s.all okc) := by
      intro acc' ha'
      have ih := rule_l hn cs hc hf d (i + 1) m (acc' ++ cndT cs[i]) (ok && cs[i].s.all okc) (by omega) (by omega) (by rw [List.length_append]; omega)
      have e : acc' ++ (([32] ++ cs[i].fd ++ [32] ++ opT cs[i].op ++ [32]) ++ valT cs[i]) = acc' ++ cndT cs[i] := by simp [cndT]
      rw [Q15.at12]
      unfold Q15.r12
      rw [hol]
      simp (disch := omega) only [Option.bind_some, Option.bind_none, cond_true, cond_false, Bool.not_true, Bool.not_false, List.length_map, Ws_length, bs_size, within_t, upto_t, wsucc, Int.toNat_natCast, at_mapN, Ws_getDN, cells_agg, cells_v, withCons_cons, withInt_mk, withStr_mk, withBool_mk, withSl_mk, cond_t, cond_f, lit1, bs_append, chk_t, List.length_append, List.length_singleton, o1, o2]
      rw [e, writable_eq cs[i].s (by omega) hn, Option.bind_some, cs_writ hi]
      cases ok
      · rw [cond_false]
        rw [Bool.false_and] at ih
        rw [ih]
        rfl
      · rw [cond_true]
        rw [Bool.true_and] at ih
        rw [ih]
        rfl
    rw [Q15.at5]
    unfold Q15.r5
    have it := itoaI_eq (n := n) cs[i].n (by have := hfi.n0; omega) (by have := hfi.n1; omega)
    have dl := dbl_len cs[i].s
    rw [List.drop_eq_getElem_cons hi, cndsT_cons]
    rw [List.drop_eq_getElem_cons hi] at mid
    have hz : decide ((i : Int) > 0) = decide (i > 0) := decide_eq_decide.2 (by omega)
    simp (disch := omega) only [Option.bind_some, Option.bind_none, cond_true, cond_false, Bool.not_true, Bool.not_false, List.length_map, Ws_length, bs_size, within_t, upto_t, wsucc, Int.toNat_natCast, at_mapN, Ws_getDN, cells_agg, cells_v, withCons_cons, withInt_mk, withStr_mk, withBool_mk, withSl_mk, cond_t, cond_f, CN.av, it, lit1, lit2, lit4, replaceAll_eq, empty_eq, bs_append, chk_t, List.length_append, List.length_singleton, List.length_cons, List.length_nil]
    rw [hz]
    by_cases hs0 : cs[i].s = []
    · have hv : valT cs[i] = Lib.itoa cs[i].n := by unfold valT; rw [if_pos hs0]
      rw [← hv]
      simp only [hs0, decide_true, Bool.not_true, cond_false] at mid ⊢
      by_cases h0 : i > 0
      · simp only [h0, decide_true, cond_true, if_true]
        rw [mid (acc ++ [32, 65, 78, 68]) (by simp; omega)]
        simp
      · simp only [h0, decide_false, cond_false, if_false]
        rw [mid acc (by omega)]
        simp
    · have hv : valT cs[i] = [39] ++ dbl cs[i].s ++ [39] := by unfold valT; rw [if_neg hs0]; rfl
      rw [← hv]
      simp only [hs0, decide_false, Bool.not_false, cond_true]
      by_cases h0 : i > 0
      · simp only [h0, decide_true, cond_true, if_true]
        rw [mid (acc ++ [32, 65, 78, 68]) (by simp; omega)]
        simp
      · simp only [h0, decide_false, cond_false, if_false]
        rw [mid acc (by omega)]
        simp
theorem ruleLine_eq (hn : 100002 ≤ n) (r : RL) (hc : r.cs.length ≤ 1000) (hf : ∀ c ∈ r.cs, CFit c) : Q15.F n r.om (r.cs.map CN.av) = some (bs (ruleT r), ruleOk r) := by
  unfold Q15.F Q15.e
  simp (disch := omega) only [Option.bind_some, Option.bind_none, cond_true, cond_false, Bool.not_true, Bool.not_false, List.length_map, Ws_length, bs_size, within_t, upto_t, wsucc, Int.toNat_natCast, at_mapN, Ws_getDN, cells_agg, cells_v, withCons_cons, withInt_mk, withStr_mk, withBool_mk, withSl_mk, cond_t, cond_f, lit1]
  have h1 := rule_l (n := n) hn r.cs hc hf r.cs.length 0 n [79] true (by omega) (by omega) (by simp)
  have h2 := rule_l (n := n) hn r.cs hc hf r.cs.length 0 n [83] true (by omega) (by omega) (by simp)
  rw [List.drop_zero] at h1 h2
  unfold ruleT ruleOk
  cases r.om
  · exact h2
  · exact h1
end
end Go.Proofs.YtmpglmcjoelciaaGreatDoor.Ev
namespace Go.Proofs.YtmpglmcjoelciaaGreatDoor.Ev
open Go Go.Proofs Go.Proofs.Ev
set_option linter.unusedVariables false
set_option linter.unusedSimpArgs false
def headT (t nm : List UInt8) (uq : Bool) : List UInt8 := if uq then t ++ [32] ++ nm ++ [32, 85, 78, 73, 81, 85, 69] else t ++ [32] ++ nm
def keyT (k : KF) : List UInt8 := if k.d then [75, 32] ++ k.nm ++ [32, 68, 69, 83, 67, 69, 78, 68] else [75, 32] ++ k.nm
def fldT (f : FD) : List UInt8 := [70, 32] ++ f.nm ++ [32] ++ tText f.k f.l f.s
def basT (w : List UInt8) : List UInt8 := [66, 32] ++ w
def joinT (j : JP) : List UInt8 := [74, 32] ++ Lib.itoa j.fr ++ [32] ++ j.lf ++ [32] ++ Lib.itoa j.b ++ [32] ++ j.rt
def lfT (f : LF) : List UInt8 := [70, 32] ++ f.nm ++ [32] ++ Lib.itoa f.b ++ [32] ++ f.fd
structure DFit (f : FD) : Prop where
  nm : f.nm.length ≤ 10
  k : f.k = 0 ∨ f.k = 1 ∨ f.k = 2 ∨ f.k = 3
  l0 : 0 ≤ f.l
  l1 : f.l ≤ 256
  s0 : 0 ≤ f.s
  s1 : f.s ≤ 15
structure JFit (j : JP) : Prop where
  f0 : 0 ≤ j.fr
  f1 : j.fr ≤ 1000
  b0 : 0 ≤ j.b
  b1 : j.b ≤ 1000
  lf : j.lf.length ≤ 10
  rt : j.rt.length ≤ 10
structure LFit (f : LF) : Prop where
  b0 : 0 ≤ f.b
  b1 : f.b ≤ 1000
  nm : f.nm.length ≤ 10
  fd : f.fd.length ≤ 10
theorem dfit_of {f : FD} (h : isNm f.nm = true) (h0 : chkT f.k f.l f.s = 0) (h4 : f.k ≠ 4) : DFit f := by
  obtain ⟨a, b, c, d, e, _⟩ := chkT_ok h0 h4
  exact ⟨nm_len h, a, by omega, c, d, e⟩
theorem tText_short {k a b : Int} (ha : 0 ≤ a) (ha2 : a ≤ 256) (hb : 0 ≤ b) (hb2 : b ≤ 15) : (tText k a b).length ≤ 10 := by
  obtain ⟨x, hx, _, h1⟩ := dec_small ha ha2
  obtain ⟨y, hy, _, h2⟩ := dec_small hb (by omega)
  unfold tText
  split <;> simp only [List.length_append, List.length_singleton, List.length_nil] <;> omega
section
variable {n : Nat}
theorem keyLines_l (ks : List KF) (hk : ks.length ≤ 1000) (hf : ∀ k ∈ ks, k.nm.length ≤ 10) : ∀ (d i m : Nat) (acc : List (List UInt8)), i + d = ks.length → d < m → acc.length ≤ i →
    Q0v.l n m (.z3 (ks.map KF.av) ks.length i (Ws acc)) = some (Ws (acc ++ (ks.drop i).map keyT))
  | _, _, 0, _, _, h, _ => absurd h (by omega)
  | 0, i, m + 1, acc, h, _, _ => by
    rw [Q0v.at3]
    unfold Q0v.r3
    simp (disch := omega) only [Option.bind_some, Option.bind_none, cond_true, cond_false, Bool.not_true, Bool.not_false, List.length_map, Ws_length, bs_size, within_t, upto_t, wsucc, Int.toNat_natCast, at_mapN, Ws_getDN, cells_agg, cells_v, withCons_cons, withInt_mk, withStr_mk, withBool_mk, withSl_mk, cond_t, cond_f]
    rw [List.drop_of_length_le (by omega)]
    simp
  | d + 1, i, m + 1, acc, h, hm, ha => by
    have hi : i < ks.length := by omega
    have hmost : most = 1000000000 := rfl
    have h10 := hf ks[i] (List.getElem_mem hi)
    have ih := keyLines_l ks hk hf d (i + 1) m (acc ++ [keyT ks[i]]) (by omega) (by omega) (by simp; omega)
    rw [List.append_assoc, List.singleton_append, ← List.map_cons, ← List.drop_eq_getElem_cons hi] at ih
    rw [Q0v.at3]
    unfold Q0v.r3
    simp (disch := omega) only [Option.bind_some, Option.bind_none, cond_true, cond_false, Bool.not_true, Bool.not_false, List.length_map, Ws_length, bs_size, within_t, upto_t, wsucc, Int.toNat_natCast, at_mapN, Ws_getDN, cells_agg, cells_v, withCons_cons, withInt_mk, withStr_mk, withBool_mk, withSl_mk, cond_t, cond_f, KF.av, lit2, lit8, bs_append, chk_t, List.length_append, List.length_singleton, List.length_cons, List.length_nil, Ws_snoc]
    unfold keyT at ih ⊢
    cases hd : ks[i].d
    · simp only [hd, cond_false, Bool.false_eq_true, if_false] at ih ⊢
      exact ih
    · simp only [hd, cond_true, if_true] at ih ⊢
      exact ih
theorem keyLines_eq (hn : 1001 ≤ n) (ks : List KF) (hk : ks.length ≤ 1000) (hf : ∀ k ∈ ks, k.nm.length ≤ 10) : Q0v.F n (ks.map KF.av) = some (Ws (ks.map keyT)) := by
  unfold Q0v.F Q0v.e
  rw [List.length_map]
  exact keyLines_l ks hk hf ks.length 0 n [] (by omega) (by omega) (by simp)
theorem heads_eq (t nm fm : List UInt8) (uq : Bool) (h : t.length ≤ 10) (h1 : nm.length ≤ 10) (h2 : fm.length ≤ 10) : Q0n.F n (bs t) (bs nm) (bs fm) uq = some (Ws [headT t nm uq, [82, 32] ++ fm]) := by
  unfold Q0n.F Q0n.e headT
  cases uq <;> simp (disch := omega) only [Option.bind_some, Option.bind_none, cond_true, cond_false, Bool.not_true, Bool.not_false, List.length_map, Ws_length, bs_size, within_t, upto_t, wsucc, Int.toNat_natCast, at_mapN, Ws_getDN, cells_agg, cells_v, withCons_cons, withInt_mk, withStr_mk, withBool_mk, withSl_mk, cond_t, cond_f, lit1, lit2, lit7, bs_append, chk_t, List.length_append, List.length_singleton, List.length_cons, List.length_nil] <;> rfl
variable {lg : Bool} {n1 n2 : ByteArray} {a3 a4 : List AV} {a5 : Bool} {n6 n7 : ByteArray} {a8 a9 a10 a11 : List AV} {a12 : Bool} {a13 : List AV}
theorem fmt7 (hn : 1001 ≤ n) (ds : List FD) (hd : ds.length ≤ 1000) (hf : ∀ f ∈ ds, DFit f) (ks : List KF) (hk : ks.length ≤ 1000) (hkf : ∀ k ∈ ks, k.nm.length ≤ 10) : ∀ (d i m : Nat) (acc : List (List UInt8)), i + d = ds.length → d < m → acc.length ≤ i + 2 →
    Q0a.l n m (.z7 (ds.map FD.av) ds.length i lg n1 n2 a3 (ks.map KF.av) a5 n6 n7 a8 a9 a10 a11 a12 a13 (Ws acc)) = some (Ws (acc ++ (ds.drop i).map fldT ++ ks.map keyT), 0)
  | _, _, 0, _, _, h, _ => absurd h (by omega)
  | 0, i, m + 1, acc, h, _, ha => by
    have hmost : most = 1000000000 := rfl
    rw [Q0a.at7]
    unfold Q0a.r7
    simp (disch := omega) only [Option.bind_some, Option.bind_none, cond_true, cond_false, Bool.not_true, Bool.not_false, List.length_map, Ws_length, bs_size, within_t, upto_t, wsucc, Int.toNat_natCast, at_mapN, Ws_getDN, cells_agg, cells_v, withCons_cons, withInt_mk, withStr_mk, withBool_mk, withSl_mk, cond_t, cond_f]
    rw [keyLines_eq hn ks hk hkf, Option.bind_some, cond_t (by rw [Ws_length, List.length_map]; omega), List.drop_of_length_le (by omega)]
    simp [Ws]
  | d + 1, i, m + 1, acc, h, hm, ha => by
    have hi : i < ds.length := by omega
    have hmost : most = 1000000000 := rfl
    have hfi := hf ds[i] (List.getElem_mem hi)
    have h10 := hfi.nm
    have htl := tText_short (k := ds[i].k) hfi.l0 hfi.l1 hfi.s0 hfi.s1
    have ht := typeText_eq (n := n) hfi.k hfi.l0 hfi.l1 hfi.s0 hfi.s1
    have ih := fmt7 hn ds hd hf ks hk hkf d (i + 1) m (acc ++ [fldT ds[i]]) (by omega) (by omega) (by simp; omega)
    rw [List.append_assoc acc, List.singleton_append, ← List.map_cons, ← List.drop_eq_getElem_cons hi] at ih
    rw [Q0a.at7]
    unfold Q0a.r7
    simp (disch := omega) only [Option.bind_some, Option.bind_none, cond_true, cond_false, Bool.not_true, Bool.not_false, List.length_map, Ws_length, bs_size, within_t, upto_t, wsucc, Int.toNat_natCast, at_mapN, Ws_getDN, cells_agg, cells_v, withCons_cons, withInt_mk, withStr_mk, withBool_mk, withSl_mk, cond_t, cond_f, FD.av, lit1, lit2, ht, bs_append, chk_t, List.length_append, List.length_singleton, List.length_cons, List.length_nil, Ws_snoc]
    exact ih
theorem longs_l (l : List (List UInt8)) (hl : l.length ≤ 100000) : ∀ (d i m : Nat), i + d = l.length → d < m → ∃ x, Q49.l n m (.z2 (Ws l) l.length i) = some x ∧ decide (x ≥ 0) = (l.drop i).any fun s => decide (240 < s.length)
  | _, _, 0, _, h => absurd h (by omega)
  | 0, i, m + 1, h, _ => by
    rw [Q49.at2]
    unfold Q49.r2
    simp (disch := omega) only [Option.bind_some, Option.bind_none, cond_true, cond_false, Bool.not_true, Bool.not_false, List.length_map, Ws_length, bs_size, within_t, upto_t, wsucc, Int.toNat_natCast, at_mapN, Ws_getDN, cells_agg, cells_v, withCons_cons, withInt_mk, withStr_mk, withBool_mk, withSl_mk, cond_t, cond_f]
    rw [List.drop_of_length_le (by omega)]
    exact ⟨-1, rfl, rfl⟩
  | d + 1, i, m + 1, h, hm => by
    have hi : i < l.length := by omega
    obtain ⟨x, h1, h2⟩ := longs_l l hl d (i + 1) m (by omega) (by omega)
    rw [Q49.at2]
    unfold Q49.r2
    simp (disch := omega) only [Option.bind_some, Option.bind_none, cond_true, cond_false, Bool.not_true, Bool.not_false, List.length_map, Ws_length, bs_size, within_t, upto_t, wsucc, Int.toNat_natCast, at_mapN, Ws_getDN, cells_agg, cells_v, withCons_cons, withInt_mk, withStr_mk, withBool_mk, withSl_mk, cond_t, cond_f, Q0b.F, Q0b.e]
    rw [List.drop_eq_getElem_cons hi, List.any_cons, h1]
    by_cases hz : 240 < l[i].length
    · refine ⟨i, by rw [cond_t (by omega)], ?_⟩
      simp [hz]
    · refine ⟨x, by rw [cond_f (by omega)], ?_⟩
      rw [h2]
      simp [hz]
theorem longs_eq (l : List (List UInt8)) (hl : l.length ≤ 100000) (hn : 100002 ≤ n) : Q46.F n (Ws l) = some (l.any fun s => decide (240 < s.length)) := by
  unfold Q46.F Q46.e Q49.F Q49.e
  obtain ⟨x, h1, h2⟩ := longs_l (n := n) l hl l.length 0 n (by omega) (by omega)
  rw [List.drop_zero] at h2
  have e0 : ((0 : Nat) : Int) = 0 := rfl
  rw [e0] at h1
  rw [Ws_length, h1, Option.bind_some, h2]
def rulesX (acc : List (List UInt8)) (rs : List RL) : List (List UInt8) × Int :=
  if (rs.any fun r => !ruleOk r) then ([], 39) else if ((acc ++ rs.map ruleT).any fun s => decide (240 < s.length)) then ([], 2) else (acc ++ rs.map ruleT, 0)
def Wp (p : List (List UInt8) × Int) : List AV × Int := (Ws p.1, p.2)
theorem fmt31 (hn : 100002 ≤ n) (rs : List RL) (hr : rs.length ≤ 1000) (hf : ∀ r ∈ rs, r.cs.length ≤ 1000 ∧ ∀ c ∈ r.cs, CFit c) : ∀ (d i m : Nat) (acc : List (List UInt8)), i + d = rs.length → d < m → acc.length ≤ 10000 + i →
    Q0a.l n m (.z31 (rs.map RL.av) rs.length i (Ws acc)) = some (Wp (rulesX acc (rs.drop i)))
  | _, _, 0, _, _, h, _ => absurd h (by omega)
  | 0, i, m + 1, acc, h, _, ha => by
    rw [Q0a.at31]
    unfold Q0a.r31
    simp (disch := omega) only [Option.bind_some, Option.bind_none, cond_true, cond_false, Bool.not_true, Bool.not_false, List.length_map, Ws_length, bs_size, within_t, upto_t, wsucc, Int.toNat_natCast, at_mapN, Ws_getDN, cells_agg, cells_v, withCons_cons, withInt_mk, withStr_mk, withBool_mk, withSl_mk, cond_t, cond_f]
    rw [longs_eq acc (by omega) hn, List.drop_of_length_le (by omega), Option.bind_some]
    unfold rulesX
    simp only [List.any_nil, Bool.false_eq_true, if_false, List.map_nil, List.append_nil]
    cases acc.any fun s => decide (240 < s.length) <;> rfl
  | d + 1, i, m + 1, acc, h, hm, ha => by
    have hi : i < rs.length := by omega
    have hmost : most = 1000000000 := rfl
    obtain ⟨f1, f2⟩ := hf rs[i] (List.getElem_mem hi)
    have ih := fmt31 hn rs hr hf d (i + 1) m (acc ++ [ruleT rs[i]]) (by omega) (by omega) (by simp; omega)
    rw [Q0a.at31]
    unfold Q0a.r31
    simp (disch := omega) only [Option.bind_some, Option.bind_none, cond_true, cond_false, Bool.not_true, Bool.not_false, List.length_map, Ws_length, bs_size, within_t, upto_t, wsucc, Int.toNat_natCast, at_mapN, Ws_getDN, cells_agg, cells_v, withCons_cons, withInt_mk, withStr_mk, withBool_mk, withSl_mk, cond_t, cond_f, RL.av]
    rw [ruleLine_eq hn rs[i] f1 f2]
    simp (disch := omega) only [Option.bind_some, Option.bind_none, cond_true, cond_false, Bool.not_true, Bool.not_false, List.length_map, Ws_length, bs_size, within_t, upto_t, wsucc, Int.toNat_natCast, at_mapN, Ws_getDN, cells_agg, cells_v, withCons_cons, withInt_mk, withStr_mk, withBool_mk, withSl_mk, cond_t, cond_f, List.length_singleton, Ws_snoc]
    rw [ih, List.drop_eq_getElem_cons hi]
    unfold rulesX
    rw [List.any_cons, List.map_cons, List.append_assoc, List.singleton_append]
    cases ruleOk rs[i]
    · rfl
    · rfl
theorem fmt25 (hn : 100002 ≤ n) (fs : List LF) (hfl : fs.length ≤ 1000) (hff : ∀ f ∈ fs, LFit f) (ks : List KF) (hk : ks.length ≤ 1000) (hkf : ∀ k ∈ ks, k.nm.length ≤ 10) (rs : List RL) (hr : rs.length ≤ 1000) (hf : ∀ r ∈ rs, r.cs.length ≤ 1000 ∧ ∀ c ∈ r.cs, CFit c) (b8 b9 b10 : List AV) : ∀ (d i m : Nat) (acc : List (List UInt8)), i + d = fs.length → d + 1001 < m → acc.length ≤ 5000 + i →
    Q0a.l n m (.z25 (fs.map LF.av) fs.length i n1 n2 b8 b9 b10 (ks.map KF.av) a5 (rs.map RL.av) (Ws acc)) = some (Wp (rulesX (acc ++ (fs.drop i).map lfT ++ ks.map keyT) rs))
  | _, _, 0, _, _, h, _ => absurd h (by omega)
  | 0, i, m + 1, acc, h, hm, ha => by
    have hmost : most = 1000000000 := rfl
    have := fmt31 (n := n) hn rs hr hf rs.length 0 m (acc ++ ks.map keyT) (by omega) (by omega) (by simp; omega)
    rw [List.drop_zero] at this
    rw [Q0a.at25]
    unfold Q0a.r25
    simp (disch := omega) only [Option.bind_some, Option.bind_none, cond_true, cond_false, Bool.not_true, Bool.not_false, List.length_map, Ws_length, bs_size, within_t, upto_t, wsucc, Int.toNat_natCast, at_mapN, Ws_getDN, cells_agg, cells_v, withCons_cons, withInt_mk, withStr_mk, withBool_mk, withSl_mk, cond_t, cond_f]
    rw [keyLines_eq (by omega) ks hk hkf, Option.bind_some, cond_t (by rw [Ws_length, List.length_map]; omega), List.drop_of_length_le (by omega), show Ws acc ++ Ws (ks.map keyT) = Ws (acc ++ ks.map keyT) by simp [Ws]]
    simp only [List.map_nil, List.append_nil]
    exact this
  | d + 1, i, m + 1, acc, h, hm, ha => by
    have hi : i < fs.length := by omega
    have hmost : most = 1000000000 := rfl
    have hfi := hff fs[i] (List.getElem_mem hi)
    obtain ⟨g1, g2, g3, g4⟩ := hfi
    have it := itoaI_eq (n := n) fs[i].b (by omega) (by omega)
    have il := itoa_len fs[i].b (by omega) (by omega)
    have ih := fmt25 hn fs hfl hff ks hk hkf rs hr hf b8 b9 b10 d (i + 1) m (acc ++ [lfT fs[i]]) (by omega) (by omega) (by simp; omega)
    rw [List.append_assoc acc, List.singleton_append, ← List.map_cons, ← List.drop_eq_getElem_cons hi] at ih
    rw [Q0a.at25]
    unfold Q0a.r25
    simp (disch := omega) only [Option.bind_some, Option.bind_none, cond_true, cond_false, Bool.not_true, Bool.not_false, List.length_map, Ws_length, bs_size, within_t, upto_t, wsucc, Int.toNat_natCast, at_mapN, Ws_getDN, cells_agg, cells_v, withCons_cons, withInt_mk, withStr_mk, withBool_mk, withSl_mk, cond_t, cond_f, LF.av, lit1, lit2, it, bs_append, chk_t, List.length_append, List.length_singleton, List.length_cons, List.length_nil, Ws_snoc]
    exact ih
theorem fmt20 (hn : 100002 ≤ n) (js : List JP) (hjl : js.length ≤ 1000) (hjf : ∀ j ∈ js, JFit j) (fs : List LF) (hfl : fs.length ≤ 1000) (hff : ∀ f ∈ fs, LFit f) (ks : List KF) (hk : ks.length ≤ 1000) (hkf : ∀ k ∈ ks, k.nm.length ≤ 10) (rs : List RL) (hr : rs.length ≤ 1000) (hf : ∀ r ∈ rs, r.cs.length ≤ 1000 ∧ ∀ c ∈ r.cs, CFit c) (b8 b10 : List AV) : ∀ (d i m : Nat) (acc : List (List UInt8)), i + d = js.length → d + 2003 < m → acc.length ≤ 2000 + i →
    Q0a.l n m (.z20 (js.map JP.av) js.length i n1 n2 b8 (fs.map LF.av) b10 (ks.map KF.av) a5 (rs.map RL.av) (Ws acc)) = some (Wp (rulesX (acc ++ (js.drop i).map joinT ++ fs.map lfT ++ ks.map keyT) rs))
  | _, _, 0, _, _, h, _ => absurd h (by omega)
  | 0, i, m + 1, acc, h, hm, ha => by
    have := fmt25 (n := n) (n1 := n1) (n2 := n2) (a5 := a5) hn fs hfl hff ks hk hkf rs hr hf b8 (fs.map LF.av) b10 fs.length 0 m acc (by omega) (by omega) (by omega)
    rw [List.drop_zero] at this
    rw [Q0a.at20]
    unfold Q0a.r20
    simp (disch := omega) only [Option.bind_some, Option.bind_none, cond_true, cond_false, Bool.not_true, Bool.not_false, List.length_map, Ws_length, bs_size, within_t, upto_t, wsucc, Int.toNat_natCast, at_mapN, Ws_getDN, cells_agg, cells_v, withCons_cons, withInt_mk, withStr_mk, withBool_mk, withSl_mk, cond_t, cond_f]
    rw [List.drop_of_length_le (by omega)]
    simp only [List.map_nil, List.append_nil]
    exact this
  | d + 1, i, m + 1, acc, h, hm, ha => by
    have hi : i < js.length := by omega
    have hmost : most = 1000000000 := rfl
    have hfi := hjf js[i] (List.getElem_mem hi)
    obtain ⟨g1, g2, g3, g4, g5, g6⟩ := hfi
    have it := itoaI_eq (n := n) js[i].b (by omega) (by omega)
    have il := itoa_len js[i].b (by omega) (by omega)
    have it2 := itoaI_eq (n := n) js[i].fr (by omega) (by omega)
    have il2 := itoa_len js[i].fr (by omega) (by omega)
    have ih := fmt20 hn js hjl hjf fs hfl hff ks hk hkf rs hr hf b8 b10 d (i + 1) m (acc ++ [joinT js[i]]) (by omega) (by omega) (by simp; omega)
    rw [List.append_assoc acc, List.singleton_append, ← List.map_cons, ← List.drop_eq_getElem_cons hi] at ih
    rw [Q0a.at20]
    unfold Q0a.r20
    simp (disch := omega) only [Option.bind_some, Option.bind_none, cond_true, cond_false, Bool.not_true, Bool.not_false, List.length_map, Ws_length, bs_size, within_t, upto_t, wsucc, Int.toNat_natCast, at_mapN, Ws_getDN, cells_agg, cells_v, withCons_cons, withInt_mk, withStr_mk, withBool_mk, withSl_mk, cond_t, cond_f, JP.av, lit1, lit2, it, it2, bs_append, chk_t, List.length_append, List.length_singleton, List.length_cons, List.length_nil, Ws_snoc]
    exact ih
theorem fmt15 (hn : 100002 ≤ n) (ws : List (List UInt8)) (hwl : ws.length ≤ 1000) (hwf : ∀ w ∈ ws, w.length ≤ 10) (js : List JP) (hjl : js.length ≤ 1000) (hjf : ∀ j ∈ js, JFit j) (fs : List LF) (hfl : fs.length ≤ 1000) (hff : ∀ f ∈ fs, LFit f) (ks : List KF) (hk : ks.length ≤ 1000) (hkf : ∀ k ∈ ks, k.nm.length ≤ 10) (rs : List RL) (hr : rs.length ≤ 1000) (hf : ∀ r ∈ rs, r.cs.length ≤ 1000 ∧ ∀ c ∈ r.cs, CFit c) (b8 : List AV) : ∀ (d i m : Nat) (acc : List (List UInt8)), i + d = ws.length → d + 3005 < m → acc.length ≤ 10 + i →
    Q0a.l n m (.z15 (Ws ws) ws.length i n1 n2 b8 (fs.map LF.av) (js.map JP.av) (ks.map KF.av) a5 (rs.map RL.av) (Ws acc)) = some (Wp (rulesX (acc ++ (ws.drop i).map basT ++ js.map joinT ++ fs.map lfT ++ ks.map keyT) rs))
  | _, _, 0, _, _, h, _ => absurd h (by omega)
  | 0, i, m + 1, acc, h, hm, ha => by
    have := fmt20 (n := n) (n1 := n1) (n2 := n2) (a5 := a5) hn js hjl hjf fs hfl hff ks hk hkf rs hr hf b8 (js.map JP.av) js.length 0 m acc (by omega) (by omega) (by omega)
    rw [List.drop_zero] at this
    rw [Q0a.at15]
    unfold Q0a.r15
    simp (disch := omega) only [Option.bind_some, Option.bind_none, cond_true, cond_false, Bool.not_true, Bool.not_false, List.length_map, Ws_length, bs_size, within_t, upto_t, wsucc, Int.toNat_natCast, at_mapN, Ws_getDN, cells_agg, cells_v, withCons_cons, withInt_mk, withStr_mk, withBool_mk, withSl_mk, cond_t, cond_f]
    rw [List.drop_of_length_le (show ws.length ≤ i by omega)]
    simp only [List.map_nil, List.append_nil]
    exact this
  | d + 1, i, m + 1, acc, h, hm, ha => by
    have hi : i < ws.length := by omega
    have hmost : most = 1000000000 := rfl
    have h10 := hwf ws[i] (List.getElem_mem hi)
    have ih := fmt15 hn ws hwl hwf js hjl hjf fs hfl hff ks hk hkf rs hr hf b8 d (i + 1) m (acc ++ [basT ws[i]]) (by omega) (by omega) (by simp; omega)
    rw [List.append_assoc acc, List.singleton_append, ← List.map_cons, ← List.drop_eq_getElem_cons hi] at ih
    rw [Q0a.at15]
    unfold Q0a.r15
    simp (disch := omega) only [Option.bind_some, Option.bind_none, cond_true, cond_false, Bool.not_true, Bool.not_false, List.length_map, Ws_length, bs_size, within_t, upto_t, wsucc, Int.toNat_natCast, at_mapN, Ws_getDN, cells_agg, cells_v, withCons_cons, withInt_mk, withStr_mk, withBool_mk, withSl_mk, cond_t, cond_f, lit2, bs_append, chk_t, List.length_append, List.length_singleton, List.length_cons, List.length_nil, Ws_snoc]
    exact ih
end
end Go.Proofs.YtmpglmcjoelciaaGreatDoor.Ev
namespace Go.Proofs.YtmpglmcjoelciaaGreatDoor.Ev
open Go Go.Proofs Go.Proofs.Ev
set_option linter.unusedVariables false
set_option linter.unusedSimpArgs false
structure FL where
  nm : List UInt8
  fm : List UInt8
  ds : List FD
  ks : List KF
  uq : Bool
  deriving Inhabited
def FL.few (g : FL) : Prop := g.ds.length ≤ 1000 ∧ g.ks.length ≤ 1000
end Go.Proofs.YtmpglmcjoelciaaGreatDoor.Ev
namespace Go.Proofs.YtmpglmcjoelciaaGreatDoor.Ev
open Go Go.Proofs Go.Proofs.Ev
set_option linter.unusedVariables false
set_option linter.unusedSimpArgs false
theorem file_ok {nm fm : List UInt8} {ds : List FD} {ks : List KF} (h : fileE nm fm ds ks = 0) : ds.length ≤ 20 ∧ okD ds ∧ ∀ f ∈ ds, f.k ≠ 4 := by
  unfold fileE at h
  cases h1 : isNm nm
  · rw [h1] at h; cases h
  cases h2 : isNm fm
  · rw [h1, h2] at h; cases h
  rw [h1, h2, if_neg (by simp), if_neg (by simp)] at h
  by_cases h3 : ds.length = 0
  · rw [if_pos h3] at h; cases h
  by_cases h4 : ds.length > 20
  · rw [if_neg h3, if_pos h4] at h; cases h
  rw [if_neg h3, if_neg h4] at h
  unfold fileT at h
  by_cases h5 : (dErr (dnames ds) ds 0).2 = 0
  · exact ⟨by omega, dErr_ok h5⟩
  · rw [if_pos h5] at h; exact absurd h h5
end Go.Proofs.YtmpglmcjoelciaaGreatDoor.Ev
namespace Go.Proofs.YtmpglmcjoelciaaGreatDoor.Ev
open Go Go.Proofs Go.Proofs.Ev
set_option linter.unusedVariables false
set_option linter.unusedSimpArgs false
structure LG where
  nm : List UInt8
  fm : List UInt8
  ws : List (List UInt8)
  fs : List LF
  js : List JP
  ks : List KF
  uq : Bool
  rs : List RL
def isZF (g : FL) : Bool := decide (g.nm = []) && (decide (g.fm = []) && (decide (g.ds.length = 0) && (decide (g.ks.length = 0) && !g.uq)))
def isZL (l : LG) : Bool := decide (l.nm = []) && (decide (l.fm = []) && (decide (l.ws.length = 0) && (decide (l.fs.length = 0) && (decide (l.js.length = 0) && (decide (l.ks.length = 0) && (!l.uq && decide (l.rs.length = 0)))))))
def isZ (lg : Bool) (g : FL) (l : LG) : Bool := if lg then isZF g else isZL l
def chkG (l : LG) : Int × Int := chkL l.nm l.fm l.ws l.fs l.js l.ks l.uq l.rs
def srcE (lg : Bool) (g : FL) (l : LG) : Int := if lg then (chkG l).2 else fileE g.nm g.fm g.ds g.ks
def pfL (g : FL) : List (List UInt8) := [headT [80, 70] g.nm g.uq, [82, 32] ++ g.fm] ++ g.ds.map fldT ++ g.ks.map keyT
def lfL (l : LG) : List (List UInt8) := [headT [76, 70] l.nm l.uq, [82, 32] ++ l.fm] ++ l.ws.map basT ++ l.js.map joinT ++ l.fs.map lfT ++ l.ks.map keyT
def linesX (lg : Bool) (g : FL) (l : LG) : List (List UInt8) × Int :=
  if isZ lg g l = false then ([], 5) else if srcE lg g l ≠ 0 then ([], srcE lg g l) else if lg then rulesX (lfL l) l.rs else (pfL g, 0)
structure Few (g : FL) (l : LG) : Prop where
  ds : g.ds.length ≤ 1000
  ks : g.ks.length ≤ 1000
  lw : l.ws.length ≤ 1000
  lf : l.fs.length ≤ 1000
  lj : l.js.length ≤ 1000
  lk : l.ks.length ≤ 1000
  lr : l.rs.length ≤ 1000
  lc : ∀ r ∈ l.rs, r.cs.length ≤ 1000
theorem dErr_nm {ns : List (List UInt8)} : ∀ {ds : List FD} {i : Nat}, (dErr ns ds i).2 = 0 → ∀ f ∈ ds, isNm f.nm = true
  | [], _, _ => by simp
  | f :: r, i, h => by
    rw [dErr_cons] at h
    by_cases h0 : de (ns.take i) f = 0
    · rw [if_neg (by simp [h0])] at h
      intro g hg
      rcases List.mem_cons.1 hg with rfl | hg
      · unfold de at h0
        by_cases ha : ne (ns.take i) g.nm = 0
        · exact (nm_of_ne ha).1
        · rw [if_pos ha] at h0; exact absurd h0 ha
      · exact dErr_nm h g hg
    · rw [if_pos h0] at h; exact absurd h h0
structure GOk (nm fm : List UInt8) (ds : List FD) (ks : List KF) : Prop where
  nm : isNm nm = true
  fm : isNm fm = true
  d0 : 1 ≤ ds.length
  d1 : ds.length ≤ 20
  dso : ∀ f ∈ ds, isNm f.nm = true ∧ chkT f.k f.l f.s = 0 ∧ f.k ≠ 4
  k1 : ks.length ≤ 4
  kso : ∀ k ∈ ks, (dnames ds).contains k.nm = true
theorem fileE_ok {nm fm : List UInt8} {ds : List FD} {ks : List KF} (h : fileE nm fm ds ks = 0) : GOk nm fm ds ks := by
  obtain ⟨x1, x2, x3⟩ := file_ok h
  unfold fileE at h
  cases h1 : isNm nm
  · rw [h1] at h; cases h
  cases h2 : isNm fm
  · rw [h1, h2] at h; cases h
  rw [h1, h2, if_neg (by simp), if_neg (by simp)] at h
  by_cases h3 : ds.length = 0
  · rw [if_pos h3] at h; cases h
  rw [if_neg h3, if_neg (by omega)] at h
  unfold fileT at h
  by_cases h5 : (dErr (dnames ds) ds 0).2 = 0
  case neg => rw [if_pos h5] at h; exact absurd h h5
  rw [if_neg (by simp [h5])] at h
  by_cases h6 : szs ds > 200
  · rw [if_pos h6] at h; cases h
  rw [if_neg h6] at h
  unfold kErrT at h
  by_cases h7 : ks.length > 4
  · rw [if_pos h7] at h; cases h
  rw [if_neg h7] at h
  have hn := dErr_nm h5
  exact ⟨h1, h2, by omega, x1, fun f hf => ⟨hn f hf, x2 f hf, x3 f hf⟩, by omega, kErr_ok h⟩
theorem GOk.knm {nm fm : List UInt8} {ds : List FD} {ks : List KF} (h : GOk nm fm ds ks) : ∀ k ∈ ks, isNm k.nm = true := by
  intro k hk
  have hm : k.nm ∈ dnames ds := by simpa using h.kso k hk
  obtain ⟨f, h1, h2⟩ := List.mem_map.1 hm
  rw [← h2]
  exact (h.dso f h1).1
theorem GOk.dfit {nm fm : List UInt8} {ds : List FD} {ks : List KF} (h : GOk nm fm ds ks) : ∀ f ∈ ds, DFit f := fun f hf => dfit_of (h.dso f hf).1 (h.dso f hf).2.1 (h.dso f hf).2.2
abbrev LG.Ok (l : LG) : Prop := LOk l.nm l.fm l.ws l.fs l.js l.ks l.uq l.rs
structure GFit (l : LG) : Prop where
  nm : l.nm.length ≤ 10
  fm : l.fm.length ≤ 10
  ws : ∀ w ∈ l.ws, w.length ≤ 10
  js : ∀ j ∈ l.js, JFit j
  fs : ∀ f ∈ l.fs, LFit f
  ks : ∀ k ∈ l.ks, k.nm.length ≤ 10
  rs : ∀ r ∈ l.rs, r.cs.length ≤ 1000 ∧ ∀ c ∈ r.cs, CFit c
theorem gfit_of {l : LG} (h : l.Ok) : GFit l := by
  obtain ⟨l1, l2, w0, w1, wsn, f0, f1, fso, j1, jso, k1, kso, ke, r1, rso⟩ := h
  refine ⟨nm_len l1, nm_len l2, fun w hw => nm_len (wsn w hw), ?_, ?_, fun k hk => nm_len (names_nm fso (kso k hk)), ?_⟩
  · intro j hj
    have := jso j hj
    obtain ⟨a, b, c, d, e, f⟩ := this
    exact ⟨by omega, by omega, by omega, by omega, nm_len e, nm_len f⟩
  · intro f hf
    obtain ⟨a, b, c, d⟩ := fso f hf
    exact ⟨by omega, by omega, nm_len a, nm_len d⟩
  · intro r hr
    have := rso r hr
    exact ⟨by have := this.len; omega, fun c hc => cfit_of fso (this.cs c hc)⟩
theorem len0 (k : Nat) : (((k : Nat) : Int) == 0) = decide (k = 0) := by rw [beq_int]; exact decide_eq_decide.2 (by omega)
theorem lenne (k : Nat) : (((k : Nat) : Int) != ((0 : Nat) : Int)) = !decide (k = 0) := by rw [bne, beq_int]; congr 1; exact decide_eq_decide.2 (by omega)
section
variable {n : Nat} {lg : Bool} {g : FL} {l : LG}
theorem isZero_eq : Q0t.F n lg (bs g.nm) (bs g.fm) (g.ds.map FD.av) (g.ks.map KF.av) g.uq (bs l.nm) (bs l.fm) (Ws l.ws) (l.fs.map LF.av) (l.js.map JP.av) (l.ks.map KF.av) l.uq (l.rs.map RL.av) = some (isZ lg g l) := by
  unfold Q0t.F Q0t.e isZ isZF isZL
  simp (disch := omega) only [Option.bind_some, Option.bind_none, cond_true, cond_false, Bool.not_true, Bool.not_false, List.length_map, Ws_length, bs_size, within_t, upto_t, wsucc, Int.toNat_natCast, at_mapN, Ws_getDN, cells_agg, cells_v, withCons_cons, withInt_mk, withStr_mk, withBool_mk, withSl_mk, cond_t, cond_f, empty_eq, len0]
  cases lg
  · simp only [cond_false, Bool.false_eq_true, if_false]
    cases decide (l.nm = [])
    · rfl
    cases decide (l.fm = [])
    · rfl
    cases decide (l.ws.length = 0)
    · rfl
    cases decide (l.fs.length = 0)
    · rfl
    cases decide (l.js.length = 0)
    · rfl
    cases decide (l.ks.length = 0)
    · rfl
    cases l.uq <;> rfl
  · simp only [cond_true, if_true]
    cases decide (g.nm = [])
    · rfl
    cases decide (g.fm = [])
    · rfl
    cases decide (g.ds.length = 0)
    · rfl
    cases decide (g.ks.length = 0) <;> rfl
theorem srcErr_eq (hn : 20010 ≤ n) (hf : Few g l) : Q0h.F n lg (bs g.nm) (bs g.fm) (g.ds.map FD.av) (g.ks.map KF.av) g.uq (bs l.nm) (bs l.fm) (Ws l.ws) (l.fs.map LF.av) (l.js.map JP.av) (l.ks.map KF.av) l.uq (l.rs.map RL.av) = some (srcE lg g l) := by
  unfold Q0h.F Q0h.e Q0x.F Q0x.e srcE chkG
  rw [checkLogical_eq (by omega) l.nm l.fm l.ws hf.lw l.fs hf.lf l.js hf.lj l.ks hf.lk l.uq l.rs hf.lr, fileErr_eq (by omega) g.nm g.fm g.ds hf.ds g.ks hf.ks]
  cases lg <;> rfl
theorem formatted_eq (hn : 200000 ≤ n) (hf : Few g l) : Q0a.F n lg (bs g.nm) (bs g.fm) (g.ds.map FD.av) (g.ks.map KF.av) g.uq (bs l.nm) (bs l.fm) (Ws l.ws) (l.fs.map LF.av) (l.js.map JP.av) (l.ks.map KF.av) l.uq (l.rs.map RL.av) = some (Wp (linesX lg g l)) := by
  unfold Q0a.F Q0a.e linesX
  rw [isZero_eq, Option.bind_some, cond_eq, Option.bind_some, srcErr_eq (by omega) hf, Option.bind_some, first2 (by omega), Option.bind_some, bif_ne]
  cases hz : isZ lg g l
  · rfl
  · simp only [Bool.not_true, Bool.false_eq_true, if_false, ne_eq, not_true_eq_false]
    by_cases he : srcE lg g l = 0
    · simp only [he, not_true_eq_false, if_false]
      cases lg
      · simp only [Bool.not_false, cond_true, Bool.false_eq_true, if_false]
        have hg : GOk g.nm g.fm g.ds g.ks := fileE_ok he
        have hdl := hf.ds
        have h7 := fmt7 (n := n) (lg := false) (n1 := bs g.nm) (n2 := bs g.fm) (a3 := g.ds.map FD.av) (a5 := g.uq) (n6 := bs l.nm) (n7 := bs l.fm) (a8 := Ws l.ws) (a9 := l.fs.map LF.av) (a10 := l.js.map JP.av) (a11 := l.ks.map KF.av) (a12 := l.uq) (a13 := l.rs.map RL.av) (by omega) g.ds hf.ds hg.dfit g.ks hf.ks (fun k hk => nm_len (hg.knm k hk)) g.ds.length 0 n [headT [80, 70] g.nm g.uq, [82, 32] ++ g.fm] (by omega) (by omega) (by simp)
        rw [List.drop_zero] at h7
        have e0 : ((0 : Nat) : Int) = 0 := rfl
        rw [e0] at h7
        rw [lit2, heads_eq [80, 70] g.nm g.fm g.uq (by simp) (nm_len hg.nm) (nm_len hg.fm), Option.bind_some, List.length_map, h7]
        rfl
      · simp only [Bool.not_true, cond_false, if_true]
        have hL : l.Ok := chkL_ok he
        have hG := gfit_of hL
        have hwl := hf.lw
        have h15 := fmt15 (n := n) (n1 := bs l.nm) (n2 := bs l.fm) (a5 := l.uq) (by omega) l.ws hf.lw hG.ws l.js hf.lj hG.js l.fs hf.lf hG.fs l.ks hf.lk hG.ks l.rs hf.lr hG.rs (Ws l.ws) l.ws.length 0 n [headT [76, 70] l.nm l.uq, [82, 32] ++ l.fm] (by omega) (by omega) (by simp)
        rw [List.drop_zero] at h15
        have e0 : ((0 : Nat) : Int) = 0 := rfl
        rw [e0] at h15
        rw [lit2, heads_eq [76, 70] l.nm l.fm l.uq (by simp) hG.nm hG.fm, Option.bind_some, Ws_length, h15]
        rfl
    · simp only [he, not_false_eq_true, if_true]
      rfl
end
end Go.Proofs.YtmpglmcjoelciaaGreatDoor.Ev
namespace Go.Proofs.YtmpglmcjoelciaaGreatDoor.Ev
open Go Go.Proofs Go.Proofs.Ev
set_option linter.unusedVariables false
set_option linter.unusedSimpArgs false
section
variable {n : Nat}
theorem ops_eq : Q3i.F n = some gr0 := rfl
theorem within_okc (c : UInt8) : Q1z.F n (IntKind.i64.wrap ((c.toNat : Nat) : Int)) 32 126 = some (okc c) := by
  have := c.toNat_lt
  rw [w64 (by omega) (by omega), Within_eq]
  congr 1
  unfold okc
  rw [← Bool.decide_and]
  exact decide_eq_decide.2 (by omega)
theorem chars_l (acc : List UInt8) (i : Nat) (om : Bool) (rows : List AV) (fd : ByteArray) (op nn : Int) (s : List UInt8) (hs : s.length ≤ 256) (M : Nat) (P : Bool → Option (ByteArray × Bool)) (hi : i ≤ 1000)
    (K : ∀ q ok, M ≤ q → Q3l.l n q (.z5 (bs acc) ok ((i + 1 : Nat) : Int) om rows) = P ok) : ∀ (e k q : Nat) (ok : Bool), k + e = s.length → M + e + 1 ≤ q →
    Q3l.l n q (.z15 (bs acc) ok i k om rows fd op nn (bs s)) = P (ok && (s.drop k).all okc)
  | 0, k, q, ok, h, hq => by
    obtain ⟨q, rfl⟩ : ∃ r, q = r + 1 := ⟨q - 1, by omega⟩
    rw [Q3l.at15]
    unfold Q3l.r15
    simp (disch := omega) only [Option.bind_some, Option.bind_none, cond_true, cond_false, Bool.not_true, Bool.not_false, List.length_map, Ws_length, bs_size, within_t, upto_t, wsucc, Int.toNat_natCast, at_mapN, Ws_getDN, cells_agg, cells_v, withCons_cons, withInt_mk, withStr_mk, withBool_mk, withSl_mk, cond_t, cond_f]
    rw [List.drop_of_length_le (by omega), K q ok (by omega)]
    simp
  | e + 1, k, q, ok, h, hq => by
    obtain ⟨q, rfl⟩ : ∃ r, q = r + 1 := ⟨q - 1, by omega⟩
    have hk : k < s.length := by omega
    have ih := chars_l acc i om rows fd op nn s hs M P hi K e (k + 1) q
    rw [Q3l.at15]
    unfold Q3l.r15
    simp (disch := omega) only [Option.bind_some, Option.bind_none, cond_true, cond_false, Bool.not_true, Bool.not_false, List.length_map, Ws_length, bs_size, within_t, upto_t, wsucc, Int.toNat_natCast, at_mapN, Ws_getDN, cells_agg, cells_v, withCons_cons, withInt_mk, withStr_mk, withBool_mk, withSl_mk, cond_t, cond_f, byte_at, within_okc]
    rw [List.drop_eq_getElem_cons hk, List.all_cons]
    cases ok
    · rw [cond_false, ih false (by omega) (by omega)]
      rfl
    · rw [cond_true, ih (okc s[k]) (by omega) (by omega), Bool.true_and]
theorem ruleR_l (hn : 1001 ≤ n) (om : Bool) (cs : List CN) (hc : cs.length ≤ 1000) (hf : ∀ c ∈ cs, CFit c) : ∀ (d i m : Nat) (acc : List UInt8) (ok : Bool), i + d = cs.length → 300 * d + 1 ≤ m → acc.length ≤ 1000 * i + 1 →
    Q3l.l n m (.z5 (bs acc) ok i om (cs.map CN.av)) = some (bs (acc ++ cndsT i (cs.drop i)), ok && (cs.drop i).all fun c => c.s.all okc)
  | 0, i, m, acc, ok, h, hm, ha => by
    obtain ⟨m, rfl⟩ : ∃ q, m = q + 1 := ⟨m - 1, by omega⟩
    rw [Q3l.at5]
    unfold Q3l.r5
    simp (disch := omega) only [Option.bind_some, Option.bind_none, cond_true, cond_false, Bool.not_true, Bool.not_false, List.length_map, Ws_length, bs_size, within_t, upto_t, wsucc, Int.toNat_natCast, at_mapN, Ws_getDN, cells_agg, cells_v, withCons_cons, withInt_mk, withStr_mk, withBool_mk, withSl_mk, cond_t, cond_f]
    rw [List.drop_of_length_le (by omega)]
    simp [cndsT]
  | d + 1, i, m, acc, ok, h, hm, ha => by
    obtain ⟨m, rfl⟩ : ∃ q, m = q + 1 + 1 := ⟨m - 2, by omega⟩
    have hi : i < cs.length := by omega
    have hfi := hf cs[i] (List.getElem_mem hi)
    obtain ⟨o1, o2⟩ := op_at hfi.o0 hfi.o1
    have vl := valT_len hfi
    have cl := cndT_len hfi
    have fl := hfi.fd
    have hs := hfi.sl
    have hol : (decide ((0 : Int) ≤ cs[i].op) && decide (cs[i].op < ((gr0.length : Nat) : Int))) = true := by
      have h0 := hfi.o0
      have h1 := hfi.o1
      rw [show gr0.length = 6 from rfl, Bool.and_eq_true, decide_eq_true_eq, decide_eq_true_eq]
      omega
    have mid : ∀ (acc' : List UInt8), acc'.length ≤ 1000 * i + 600 → Q3l.l n (m + 1) (.z14 (bs acc') ok i om (cs.map CN.av) (bs cs[i].fd) cs[i].op cs[i].n (bs cs[i].s)) =
        some (bs (acc' ++ cndsT (i + 1) (cs.drop (i + 1))), ok && (cs.drop i).all fun c => c.s.all okc) := by
      intro acc' ha'
      rw [Q3l.at14]
      unfold Q3l.r14
      have := chars_l (n := n) acc' i om (cs.map CN.av) (bs cs[i].fd) cs[i].op cs[i].n cs[i].s hs (300 * d + 1) (fun b => some (bs (acc' ++ cndsT (i + 1) (cs.drop (i + 1))), b && (cs.drop (i + 1)).all fun c => c.s.all okc)) (by omega)
        (fun q ok' hq => ruleR_l hn om cs hc hf d (i + 1) q acc' ok' (by omega) hq (by omega)) cs[i].s.length 0 m ok (by omega) (by omega)
      rw [List.drop_zero] at this
      have e0 : ((0 : Nat) : Int) = 0 := rfl
      rw [e0] at this
      rw [this, cs_writ hi, Bool.and_assoc]
    have dgt := digitsI_eq (n := n) (by omega) cs[i].n (by have := hfi.n0; omega) (by have := hfi.n1; omega)
    have itl := itoa_len cs[i].n (by have := hfi.n0; omega) (by have := hfi.n1; omega)
    have dl := dbl_len cs[i].s
    have ql : (qd cs[i].s).length ≤ 600 := by unfold qd; simp only [List.length_append, List.length_singleton]; omega
    have hq := quotedR_eq (n := n) cs[i].s (by omega) (by omega)
    rw [Q3l.at5]
    unfold Q3l.r5
    rw [List.drop_eq_getElem_cons hi, cndsT_cons]
    rw [List.drop_eq_getElem_cons hi] at mid
    have hz : decide ((i : Int) > 0) = decide (i > 0) := decide_eq_decide.2 (by omega)
    simp (disch := omega) only [Option.bind_some, Option.bind_none, cond_true, cond_false, Bool.not_true, Bool.not_false, List.length_map, Ws_length, bs_size, within_t, upto_t, wsucc, Int.toNat_natCast, at_mapN, Ws_getDN, cells_agg, cells_v, withCons_cons, withInt_mk, withStr_mk, withBool_mk, withSl_mk, cond_t, cond_f, CN.av, dgt, hq, lit1, lit4, empty_eq, bs_append, chk_t, List.length_append, List.length_singleton, List.length_cons, List.length_nil, ops_eq, hol, o1, o2]
    rw [hz]
    by_cases hs0 : cs[i].s = []
    · have hv : valT cs[i] = Lib.itoa cs[i].n := by unfold valT; rw [if_pos hs0]
      rw [← hv]
      simp only [hs0, decide_true, cond_true] at mid ⊢
      by_cases h0 : i > 0
      · simp only [h0, decide_true, cond_true, if_true]
        rw [mid _ (by simp; omega)]
        simp [cndT]
      · simp only [h0, decide_false, cond_false, if_false]
        rw [mid _ (by simp; omega)]
        simp [cndT]
    · have hv : valT cs[i] = qd cs[i].s := by unfold valT; rw [if_neg hs0]
      rw [← hv]
      simp only [hs0, decide_false, cond_false]
      by_cases h0 : i > 0
      · simp only [h0, decide_true, cond_true, if_true]
        rw [mid _ (by simp; omega)]
        simp [cndT]
      · simp only [h0, decide_false, cond_false, if_false]
        rw [mid _ (by simp; omega)]
        simp [cndT]
theorem ruleLineR_eq (hn : 302001 ≤ n) (r : RL) (hc : r.cs.length ≤ 1000) (hf : ∀ c ∈ r.cs, CFit c) : Q3l.F n r.om (r.cs.map CN.av) = some (bs (ruleT r), ruleOk r) := by
  unfold Q3l.F Q3l.e
  simp (disch := omega) only [Option.bind_some, Option.bind_none, cond_true, cond_false, Bool.not_true, Bool.not_false, List.length_map, Ws_length, bs_size, within_t, upto_t, wsucc, Int.toNat_natCast, at_mapN, Ws_getDN, cells_agg, cells_v, withCons_cons, withInt_mk, withStr_mk, withBool_mk, withSl_mk, cond_t, cond_f, lit1]
  have h1 := ruleR_l (n := n) (by omega) r.om r.cs hc hf r.cs.length 0 n [79] true (by omega) (by omega) (by simp)
  have h2 := ruleR_l (n := n) (by omega) r.om r.cs hc hf r.cs.length 0 n [83] true (by omega) (by omega) (by simp)
  rw [List.drop_zero] at h1 h2
  unfold ruleT ruleOk
  cases ho : r.om
  · rw [ho] at h2; exact h2
  · rw [ho] at h1; exact h1
end
end Go.Proofs.YtmpglmcjoelciaaGreatDoor.Ev
namespace Go.Proofs.YtmpglmcjoelciaaGreatDoor.Ev
open Go Go.Proofs Go.Proofs.Ev
set_option linter.unusedVariables false
set_option linter.unusedSimpArgs false
structure RFit (ds : List FD) (kl : List KF) (ws : List (List UInt8)) (fs : List LF) (js : List JP) (rs : List RL) : Prop where
  d : ds.length ≤ 1000
  k : kl.length ≤ 1000
  w : ws.length ≤ 1000
  f : fs.length ≤ 1000
  j : js.length ≤ 1000
  r : rs.length ≤ 1000
  df : ∀ f ∈ ds, DFit f
  kf : ∀ k ∈ kl, k.nm.length ≤ 10
  wf : ∀ w ∈ ws, w.length ≤ 10
  ff : ∀ f ∈ fs, LFit f
  jf : ∀ j ∈ js, JFit j
  rf : ∀ r ∈ rs, r.cs.length ≤ 1000 ∧ ∀ c ∈ r.cs, CFit c
def refX (acc : List (List UInt8)) (a b : Bool) (rs : List RL) : List (List UInt8) × Int :=
  if (a || rs.any fun r => !ruleOk r) then ([], 39) else if (b || rs.any fun r => decide (240 < (ruleT r).length)) then ([], 2) else (acc ++ rs.map ruleT, 0)
section
variable {n : Nat} {ds : List FD} {kl : List KF} {ws : List (List UInt8)} {fs : List LF} {js : List JP} {rs : List RL} {x y : ByteArray} {bw bf bj bk : List AV} {uq : Bool}
theorem lin42 (hn : 302001 ≤ n) (h0 : RFit ds kl ws fs js rs) : ∀ (d i m : Nat) (a b : Bool) (acc : List (List UInt8)), i + d = rs.length → 3 * d + 1 ≤ m → acc.length ≤ 10000 + i →
    Q2x.l n m (.z42 a b i x y bw bf bj bk uq (rs.map RL.av) (Ws acc)) = some (Wp (refX acc a b (rs.drop i)))
  | 0, i, m, a, b, acc, h, hm, ha => by
    obtain ⟨m, rfl⟩ : ∃ q, m = q + 1 := ⟨m - 1, by omega⟩
    have hr := h0.r
    rw [Q2x.at42]
    unfold Q2x.r42
    simp (disch := omega) only [Option.bind_some, Option.bind_none, cond_true, cond_false, Bool.not_true, Bool.not_false, List.length_map, Ws_length, bs_size, within_t, upto_t, wsucc, Int.toNat_natCast, at_mapN, Ws_getDN, cells_agg, cells_v, withCons_cons, withInt_mk, withStr_mk, withBool_mk, withSl_mk, cond_t, cond_f]
    rw [List.drop_of_length_le (by omega)]
    unfold refX
    cases a
    · cases b
      · simp [Wp]
      · rfl
    · rfl
  | d + 1, i, m, a, b, acc, h, hm, ha => by
    obtain ⟨m, rfl⟩ : ∃ q, m = q + 1 + 1 + 1 := ⟨m - 3, by omega⟩
    have hr := h0.r
    have hi : i < rs.length := by omega
    have hmost : most = 1000000000 := rfl
    obtain ⟨f1, f2⟩ := h0.rf rs[i] (List.getElem_mem hi)
    have step : ∀ a' b', Q2x.l n (m + 2) (.z46 a' b' i (bs (ruleT rs[i])) x y bw bf bj bk uq (rs.map RL.av) (Ws acc)) = some (Wp (refX (acc ++ [ruleT rs[i]]) a' b' (rs.drop (i + 1)))) := by
      intro a' b'
      have ih := lin42 hn h0 d (i + 1) m a' b' (acc ++ [ruleT rs[i]]) (by omega) (by omega) (by simp; omega)
      rw [Q2x.at46]
      unfold Q2x.r46
      rw [Q2x.at43]
      unfold Q2x.r43
      simp (disch := omega) only [Option.bind_some, Option.bind_none, cond_true, cond_false, Bool.not_true, Bool.not_false, List.length_map, Ws_length, bs_size, within_t, upto_t, wsucc, Int.toNat_natCast, at_mapN, Ws_getDN, cells_agg, cells_v, withCons_cons, withInt_mk, withStr_mk, withBool_mk, withSl_mk, cond_t, cond_f, List.length_singleton, Ws_snoc]
      exact ih
    rw [Q2x.at42]
    unfold Q2x.r42
    simp (disch := omega) only [Option.bind_some, Option.bind_none, cond_true, cond_false, Bool.not_true, Bool.not_false, List.length_map, Ws_length, bs_size, within_t, upto_t, wsucc, Int.toNat_natCast, at_mapN, Ws_getDN, cells_agg, cells_v, withCons_cons, withInt_mk, withStr_mk, withBool_mk, withSl_mk, cond_t, cond_f, RL.av]
    rw [ruleLineR_eq hn rs[i] f1 f2]
    simp (disch := omega) only [Option.bind_some, Option.bind_none, cond_true, cond_false, Bool.not_true, Bool.not_false, List.length_map, Ws_length, bs_size, within_t, upto_t, wsucc, Int.toNat_natCast, at_mapN, Ws_getDN, cells_agg, cells_v, withCons_cons, withInt_mk, withStr_mk, withBool_mk, withSl_mk, cond_t, cond_f, step]
    rw [List.drop_eq_getElem_cons hi]
    unfold refX
    have hg : decide (((ruleT rs[i]).length : Int) > 240) = decide (240 < (ruleT rs[i]).length) := decide_eq_decide.2 (by omega)
    rw [hg, List.any_cons, List.any_cons, List.map_cons, List.append_assoc, List.singleton_append]
    cases a
    · cases b
      · simp
      · simp
    · cases b
      · simp
      · simp
theorem lin34 (hn : 302001 ≤ n) (h0 : RFit ds kl ws fs js rs) : ∀ (d i m : Nat) (acc : List (List UInt8)), i + d = kl.length → d + 3002 ≤ m → acc.length ≤ 9000 + i →
    Q2x.l n m (.z34 (kl.map KF.av) i x y bw bf bj bk uq (rs.map RL.av) (Ws acc)) = some (Wp (refX (acc ++ (kl.drop i).map keyT) false false rs))
  | 0, i, m, acc, h, hm, ha => by
    obtain ⟨m, rfl⟩ : ∃ q, m = q + 1 := ⟨m - 1, by omega⟩
    have hk := h0.k
    have hr := h0.r
    have := lin42 (x := x) (y := y) (bw := bw) (bf := bf) (bj := bj) (bk := bk) (uq := uq) hn h0 rs.length 0 m false false acc (by omega) (by omega) (by omega)
    rw [List.drop_zero] at this
    rw [Q2x.at34]
    unfold Q2x.r34
    simp (disch := omega) only [Option.bind_some, Option.bind_none, cond_true, cond_false, Bool.not_true, Bool.not_false, List.length_map, Ws_length, bs_size, within_t, upto_t, wsucc, Int.toNat_natCast, at_mapN, Ws_getDN, cells_agg, cells_v, withCons_cons, withInt_mk, withStr_mk, withBool_mk, withSl_mk, cond_t, cond_f]
    rw [List.drop_of_length_le (by omega)]
    simp only [List.map_nil, List.append_nil]
    exact this
  | d + 1, i, m, acc, h, hm, ha => by
    obtain ⟨m, rfl⟩ : ∃ q, m = q + 1 := ⟨m - 1, by omega⟩
    have hk := h0.k
    have hi : i < kl.length := by omega
    have hmost : most = 1000000000 := rfl
    have h10 := h0.kf kl[i] (List.getElem_mem hi)
    have ih := lin34 hn h0 d (i + 1) m (acc ++ [keyT kl[i]]) (by omega) (by omega) (by simp; omega)
    rw [List.append_assoc, List.singleton_append, ← List.map_cons, ← List.drop_eq_getElem_cons hi] at ih
    rw [Q2x.at34]
    unfold Q2x.r34
    simp (disch := omega) only [Option.bind_some, Option.bind_none, cond_true, cond_false, Bool.not_true, Bool.not_false, List.length_map, Ws_length, bs_size, within_t, upto_t, wsucc, Int.toNat_natCast, at_mapN, Ws_getDN, cells_agg, cells_v, withCons_cons, withInt_mk, withStr_mk, withBool_mk, withSl_mk, cond_t, cond_f, KF.av, List.drop_succ_cons, List.drop_zero, lit2, lit8, bs_append, chk_t, List.length_append, List.length_singleton, List.length_cons, List.length_nil, Ws_snoc]
    unfold keyT at ih ⊢
    cases hd : kl[i].d
    · simp only [hd, cond_false, Bool.false_eq_true, if_false] at ih ⊢
      exact ih
    · simp only [hd, cond_true, if_true] at ih ⊢
      exact ih
theorem lin29 (hn : 302001 ≤ n) (h0 : RFit ds kl ws fs js rs) : ∀ (d i m : Nat) (acc : List (List UInt8)), i + d = fs.length → d + 4003 ≤ m → acc.length ≤ 8000 + i →
    Q2x.l n m (.z29 (kl.map KF.av) i x y bw (fs.map LF.av) bj bk uq (rs.map RL.av) (Ws acc)) = some (Wp (refX (acc ++ (fs.drop i).map lfT ++ kl.map keyT) false false rs))
  | 0, i, m, acc, h, hm, ha => by
    obtain ⟨m, rfl⟩ : ∃ q, m = q + 1 := ⟨m - 1, by omega⟩
    have hk := h0.k
    have hf := h0.f
    have := lin34 (x := x) (y := y) (bw := bw) (bf := fs.map LF.av) (bj := bj) (bk := bk) (uq := uq) hn h0 kl.length 0 m acc (by omega) (by omega) (by omega)
    rw [List.drop_zero] at this
    rw [Q2x.at29]
    unfold Q2x.r29
    simp (disch := omega) only [Option.bind_some, Option.bind_none, cond_true, cond_false, Bool.not_true, Bool.not_false, List.length_map, Ws_length, bs_size, within_t, upto_t, wsucc, Int.toNat_natCast, at_mapN, Ws_getDN, cells_agg, cells_v, withCons_cons, withInt_mk, withStr_mk, withBool_mk, withSl_mk, cond_t, cond_f]
    rw [List.drop_of_length_le (by omega)]
    simp only [List.map_nil, List.append_nil]
    exact this
  | d + 1, i, m, acc, h, hm, ha => by
    obtain ⟨m, rfl⟩ : ∃ q, m = q + 1 := ⟨m - 1, by omega⟩
    have hf := h0.f
    have hi : i < fs.length := by omega
    have hmost : most = 1000000000 := rfl
    obtain ⟨g1, g2, g3, g4⟩ := h0.ff fs[i] (List.getElem_mem hi)
    have it := digitsI_eq (n := n) (by omega) fs[i].b (by omega) (by omega)
    have il := itoa_len fs[i].b (by omega) (by omega)
    have ih := lin29 hn h0 d (i + 1) m (acc ++ [lfT fs[i]]) (by omega) (by omega) (by simp; omega)
    rw [List.append_assoc acc, List.singleton_append, ← List.map_cons, ← List.drop_eq_getElem_cons hi] at ih
    rw [Q2x.at29]
    unfold Q2x.r29
    simp (disch := omega) only [Option.bind_some, Option.bind_none, cond_true, cond_false, Bool.not_true, Bool.not_false, List.length_map, Ws_length, bs_size, within_t, upto_t, wsucc, Int.toNat_natCast, at_mapN, Ws_getDN, cells_agg, cells_v, withCons_cons, withInt_mk, withStr_mk, withBool_mk, withSl_mk, cond_t, cond_f, LF.av, lit1, lit2, it, bs_append, chk_t, List.length_append, List.length_singleton, List.length_cons, List.length_nil, Ws_snoc]
    exact ih
variable {lg fu lu : Bool} {fx fy lx ly : ByteArray} {cw cf cj ck cr fk : List AV}
theorem lin24 (hn : 302001 ≤ n) (h0 : RFit ds kl ws fs js rs) : ∀ (d i m : Nat) (acc : List (List UInt8)), i + d = ds.length → d + 5004 ≤ m → acc.length ≤ 7000 + i →
    Q2x.l n m (.z24 (kl.map KF.av) i lg fx fy (ds.map FD.av) fk fu lx ly cw cf cj ck lu cr x y bw (fs.map LF.av) bj bk uq (rs.map RL.av) (Ws acc)) = some (Wp (refX (acc ++ (ds.drop i).map fldT ++ fs.map lfT ++ kl.map keyT) false false rs))
  | 0, i, m, acc, h, hm, ha => by
    obtain ⟨m, rfl⟩ : ∃ q, m = q + 1 := ⟨m - 1, by omega⟩
    have hd := h0.d
    have hf := h0.f
    have := lin29 (x := x) (y := y) (bw := bw) (bj := bj) (bk := bk) (uq := uq) hn h0 fs.length 0 m acc (by omega) (by omega) (by omega)
    rw [List.drop_zero] at this
    rw [Q2x.at24]
    unfold Q2x.r24
    simp (disch := omega) only [Option.bind_some, Option.bind_none, cond_true, cond_false, Bool.not_true, Bool.not_false, List.length_map, Ws_length, bs_size, within_t, upto_t, wsucc, Int.toNat_natCast, at_mapN, Ws_getDN, cells_agg, cells_v, withCons_cons, withInt_mk, withStr_mk, withBool_mk, withSl_mk, cond_t, cond_f]
    rw [List.drop_of_length_le (by omega)]
    simp only [List.map_nil, List.append_nil]
    exact this
  | d + 1, i, m, acc, h, hm, ha => by
    obtain ⟨m, rfl⟩ : ∃ q, m = q + 1 := ⟨m - 1, by omega⟩
    have hd := h0.d
    have hi : i < ds.length := by omega
    have hmost : most = 1000000000 := rfl
    have hfi := h0.df ds[i] (List.getElem_mem hi)
    have h10 := hfi.nm
    have htl := tText_short (k := ds[i].k) hfi.l0 hfi.l1 hfi.s0 hfi.s1
    have ht := typeTextR_eq (n := n) (by omega) hfi.k hfi.l0 hfi.l1 hfi.s0 hfi.s1
    have ih := lin24 hn h0 d (i + 1) m (acc ++ [fldT ds[i]]) (by omega) (by omega) (by simp; omega)
    rw [List.append_assoc acc, List.singleton_append, ← List.map_cons, ← List.drop_eq_getElem_cons hi] at ih
    rw [Q2x.at24]
    unfold Q2x.r24
    simp (disch := omega) only [Option.bind_some, Option.bind_none, cond_true, cond_false, Bool.not_true, Bool.not_false, List.length_map, Ws_length, bs_size, within_t, upto_t, wsucc, Int.toNat_natCast, at_mapN, Ws_getDN, cells_agg, cells_v, withCons_cons, withInt_mk, withStr_mk, withBool_mk, withSl_mk, cond_t, cond_f, FD.av, lit1, lit2, ht, bs_append, chk_t, List.length_append, List.length_singleton, List.length_cons, List.length_nil, Ws_snoc]
    exact ih
theorem lin19 (hn : 302001 ≤ n) (h0 : RFit ds kl ws fs js rs) : ∀ (d i m : Nat) (acc : List (List UInt8)), i + d = js.length → d + 6005 ≤ m → acc.length ≤ 6000 + i →
    Q2x.l n m (.z19 (kl.map KF.av) i lg fx fy (ds.map FD.av) fk fu lx ly cw cf cj ck lu cr x y bw (fs.map LF.av) (js.map JP.av) bk uq (rs.map RL.av) (Ws acc)) = some (Wp (refX (acc ++ (js.drop i).map joinT ++ ds.map fldT ++ fs.map lfT ++ kl.map keyT) false false rs))
  | 0, i, m, acc, h, hm, ha => by
    obtain ⟨m, rfl⟩ : ∃ q, m = q + 1 := ⟨m - 1, by omega⟩
    have hd := h0.d
    have hj := h0.j
    have := lin24 (x := x) (y := y) (bw := bw) (bj := js.map JP.av) (bk := bk) (uq := uq) (lg := lg) (fu := fu) (lu := lu) (fx := fx) (fy := fy) (lx := lx) (ly := ly) (cw := cw) (cf := cf) (cj := cj) (ck := ck) (cr := cr) (fk := fk) hn h0 ds.length 0 m acc (by omega) (by omega) (by omega)
    rw [List.drop_zero] at this
    rw [Q2x.at19]
    unfold Q2x.r19
    simp (disch := omega) only [Option.bind_some, Option.bind_none, cond_true, cond_false, Bool.not_true, Bool.not_false, List.length_map, Ws_length, bs_size, within_t, upto_t, wsucc, Int.toNat_natCast, at_mapN, Ws_getDN, cells_agg, cells_v, withCons_cons, withInt_mk, withStr_mk, withBool_mk, withSl_mk, cond_t, cond_f]
    rw [List.drop_of_length_le (by omega)]
    simp only [List.map_nil, List.append_nil]
    exact this
  | d + 1, i, m, acc, h, hm, ha => by
    obtain ⟨m, rfl⟩ : ∃ q, m = q + 1 := ⟨m - 1, by omega⟩
    have hj := h0.j
    have hi : i < js.length := by omega
    have hmost : most = 1000000000 := rfl
    obtain ⟨g1, g2, g3, g4, g5, g6⟩ := h0.jf js[i] (List.getElem_mem hi)
    have it := digitsI_eq (n := n) (by omega) js[i].b (by omega) (by omega)
    have il := itoa_len js[i].b (by omega) (by omega)
    have it2 := digitsI_eq (n := n) (by omega) js[i].fr (by omega) (by omega)
    have il2 := itoa_len js[i].fr (by omega) (by omega)
    have ih := lin19 hn h0 d (i + 1) m (acc ++ [joinT js[i]]) (by omega) (by omega) (by simp; omega)
    rw [List.append_assoc acc, List.singleton_append, ← List.map_cons, ← List.drop_eq_getElem_cons hi] at ih
    rw [Q2x.at19]
    unfold Q2x.r19
    simp (disch := omega) only [Option.bind_some, Option.bind_none, cond_true, cond_false, Bool.not_true, Bool.not_false, List.length_map, Ws_length, bs_size, within_t, upto_t, wsucc, Int.toNat_natCast, at_mapN, Ws_getDN, cells_agg, cells_v, withCons_cons, withInt_mk, withStr_mk, withBool_mk, withSl_mk, cond_t, cond_f, JP.av, lit1, lit2, it, it2, bs_append, chk_t, List.length_append, List.length_singleton, List.length_cons, List.length_nil, Ws_snoc]
    exact ih
theorem lin15 (hn : 302001 ≤ n) (h0 : RFit ds kl ws fs js rs) : ∀ (d i m : Nat) (acc : List (List UInt8)), i + d = ws.length → d + 7006 ≤ m → acc.length ≤ 5000 + i →
    Q2x.l n m (.z15 (kl.map KF.av) i lg fx fy (ds.map FD.av) fk fu lx ly cw cf cj ck lu cr x y (Ws ws) (fs.map LF.av) (js.map JP.av) bk uq (rs.map RL.av) (Ws acc)) = some (Wp (refX (acc ++ (ws.drop i).map basT ++ js.map joinT ++ ds.map fldT ++ fs.map lfT ++ kl.map keyT) false false rs))
  | 0, i, m, acc, h, hm, ha => by
    obtain ⟨m, rfl⟩ : ∃ q, m = q + 1 := ⟨m - 1, by omega⟩
    have hw := h0.w
    have hj := h0.j
    have := lin19 (x := x) (y := y) (bw := Ws ws) (bk := bk) (uq := uq) (lg := lg) (fu := fu) (lu := lu) (fx := fx) (fy := fy) (lx := lx) (ly := ly) (cw := cw) (cf := cf) (cj := cj) (ck := ck) (cr := cr) (fk := fk) hn h0 js.length 0 m acc (by omega) (by omega) (by omega)
    rw [List.drop_zero] at this
    rw [Q2x.at15]
    unfold Q2x.r15
    simp (disch := omega) only [Option.bind_some, Option.bind_none, cond_true, cond_false, Bool.not_true, Bool.not_false, List.length_map, Ws_length, bs_size, within_t, upto_t, wsucc, Int.toNat_natCast, at_mapN, Ws_getDN, cells_agg, cells_v, withCons_cons, withInt_mk, withStr_mk, withBool_mk, withSl_mk, cond_t, cond_f]
    rw [List.drop_of_length_le (show ws.length ≤ i by omega)]
    simp only [List.map_nil, List.append_nil]
    exact this
  | d + 1, i, m, acc, h, hm, ha => by
    obtain ⟨m, rfl⟩ : ∃ q, m = q + 1 := ⟨m - 1, by omega⟩
    have hw := h0.w
    have hi : i < ws.length := by omega
    have hmost : most = 1000000000 := rfl
    have h10 := h0.wf ws[i] (List.getElem_mem hi)
    have ih := lin15 hn h0 d (i + 1) m (acc ++ [basT ws[i]]) (by omega) (by omega) (by simp; omega)
    rw [List.append_assoc acc, List.singleton_append, ← List.map_cons, ← List.drop_eq_getElem_cons hi] at ih
    rw [Q2x.at15]
    unfold Q2x.r15
    simp (disch := omega) only [Option.bind_some, Option.bind_none, cond_true, cond_false, Bool.not_true, Bool.not_false, List.length_map, Ws_length, bs_size, within_t, upto_t, wsucc, Int.toNat_natCast, at_mapN, Ws_getDN, cells_agg, cells_v, withCons_cons, withInt_mk, withStr_mk, withBool_mk, withSl_mk, cond_t, cond_f, lit2, bs_append, chk_t, List.length_append, List.length_singleton, List.length_cons, List.length_nil, Ws_snoc]
    exact ih
end
end Go.Proofs.YtmpglmcjoelciaaGreatDoor.Ev
namespace Go.Proofs.YtmpglmcjoelciaaGreatDoor.Ev
open Go Go.Proofs Go.Proofs.Ev
set_option linter.unusedVariables false
section
variable {n : Nat} {nm fm : ByteArray} {ws : List (List UInt8)} {fs : List LF} {js : List JP} {ks : List KF} {uq : Bool} {rs : List RL}
theorem fewKeys_l (hk : ks.length ≤ 1000) : ∀ (d i m : Nat), i + d = ks.length → d < m → ∃ b, Q2k.l n m (.z2 (ks.map KF.av) i) = some b
  | _, _, 0, _, h => absurd h (by omega)
  | 0, i, m + 1, h, _ => by
    rw [Q2k.at2]
    unfold Q2k.r2
    simp only [List.length_map]
    exact ⟨true, by rw [cond_f (by omega)]⟩
  | d + 1, i, m + 1, h, hm => by
    have hi : i < ks.length := by omega
    obtain ⟨b, ih⟩ := fewKeys_l hk d (i + 1) m (by omega) (by omega)
    rw [Q2k.at2]
    unfold Q2k.r2
    simp only [List.length_map]
    rw [cond_t (by omega), within_t hi, cond_true, at_map KF.av hi]
    show ∃ b, (bif decide ((((bs ks[i].nm).size : Nat) : Int) > 100) then some false else Q2k.l n m (.z2 (ks.map KF.av) (IntKind.i64.wrap ((i : Int) + 1)))) = some b
    rw [wsucc (by omega), ih]
    cases decide ((((bs ks[i].nm).size : Nat) : Int) > 100)
    · exact ⟨b, rfl⟩
    · exact ⟨false, rfl⟩
def fewC (rs : List RL) (i : Nat) : Prop := ∀ k (h : k < rs.length), i ≤ k → rs[k].cs.length ≤ 8
theorem few19 (hr : rs.length ≤ 1000) : ∀ (d i m : Nat), i + d = rs.length → 20 * d < m → ∃ b, Q2i.l n m (.z19 i nm fm (Ws ws) (fs.map LF.av) (js.map JP.av) (ks.map KF.av) uq (rs.map RL.av)) = some b ∧ (b = true → fewC rs i)
  | 0, i, m, h, hm => by
    obtain ⟨m, rfl⟩ : ∃ q, m = q + 1 := ⟨m - 1, by omega⟩
    rw [Q2i.at19]
    unfold Q2i.r19
    simp only [List.length_map]
    exact ⟨true, by rw [cond_f (by omega)], fun _ k hk hik => absurd hk (by omega)⟩
  | d + 1, i, m, h, hm => by
    obtain ⟨m, rfl⟩ : ∃ q, m = q + 1 := ⟨m - 1, by omega⟩
    have hi : i < rs.length := by omega
    have inner : ∀ (e j q : Nat), rs[i].cs.length ≤ 8 → j + e = rs[i].cs.length → 20 * d + 2 + e ≤ q → ∃ b, Q2i.l n q (.z24 i j nm fm (Ws ws) (fs.map LF.av) (js.map JP.av) (ks.map KF.av) uq (rs.map RL.av)) = some b ∧ (b = true → fewC rs (i + 1)) := by
      intro e
      induction e with
      | zero =>
        intro j q h8 hj hq
        obtain ⟨q, rfl⟩ : ∃ r, q = r + 1 := ⟨q - 1, by omega⟩
        obtain ⟨b, h1, h2⟩ := few19 hr d (i + 1) q (by omega) (by omega)
        refine ⟨b, ?_, h2⟩
        rw [Q2i.at24]
        unfold Q2i.r24
        simp only [List.length_map]
        rw [within_t hi, cond_true, at_map RL.av hi]
        show (bif decide ((j : Int) < (((rs[i].cs.map CN.av).length : Nat) : Int)) then _ else _) = _
        rw [List.length_map, cond_f (by omega), wsucc (by omega)]
        exact h1
      | succ e ih =>
        intro j q h8 hj hq
        obtain ⟨q, rfl⟩ : ∃ r, q = r + 1 := ⟨q - 1, by omega⟩
        have hjl : j < rs[i].cs.length := by omega
        obtain ⟨b, h1, h2⟩ := ih (j + 1) q h8 (by omega) (by omega)
        rw [Q2i.at24]
        unfold Q2i.r24
        simp only [List.length_map]
        rw [within_t hi, cond_true, at_map RL.av hi]
        show ∃ b, (bif decide ((j : Int) < (((rs[i].cs.map CN.av).length : Nat) : Int)) then (bif true then (bif decide ((0 : Int) ≤ (j : Int)) && decide ((j : Int) < (((rs[i].cs.map CN.av).length : Nat) : Int)) then
          (withCons (((rs[i].cs.map CN.av).getD (((j : Nat) : Int)).toNat .undef).cells) fun h44 r45 => withStr h44 fun s46 => withCons r45 fun h47 r48 => withInt .i64 h47 fun x49 => withCons r48 fun h50 r51 => withInt .i64 h50 fun x52 => withCons r51 fun h53 r54 => withStr h53 fun s55 =>
            bif decide (((s46.size : Nat) : Int) > 100) then some false else (bif decide (((s55.size : Nat) : Int) > 400) then some false else Q2i.l n q (.z24 i (IntKind.i64.wrap ((j : Int) + 1)) nm fm (Ws ws) (fs.map LF.av) (js.map JP.av) (ks.map KF.av) uq (rs.map RL.av)))) else none) else none) else _) = some b ∧ _
        rw [List.length_map, cond_t (by omega), cond_true, within_t hjl, cond_true, at_map CN.av hjl]
        show ∃ b, (bif decide ((((bs rs[i].cs[j].fd).size : Nat) : Int) > 100) then some false else (bif decide ((((bs rs[i].cs[j].s).size : Nat) : Int) > 400) then some false else Q2i.l n q (.z24 i (IntKind.i64.wrap ((j : Int) + 1)) nm fm (Ws ws) (fs.map LF.av) (js.map JP.av) (ks.map KF.av) uq (rs.map RL.av)))) = some b ∧ _
        rw [wsucc (by omega), h1]
        cases decide ((((bs rs[i].cs[j].fd).size : Nat) : Int) > 100)
        · cases decide ((((bs rs[i].cs[j].s).size : Nat) : Int) > 400)
          · exact ⟨b, rfl, h2⟩
          · exact ⟨false, rfl, nofun⟩
        · exact ⟨false, rfl, nofun⟩
    rw [Q2i.at19]
    unfold Q2i.r19
    simp only [List.length_map]
    rw [cond_t (by omega), within_t hi, cond_true, at_map RL.av hi]
    show ∃ b, (bif decide ((((rs[i].cs.map CN.av).length : Nat) : Int) > 8) then some false else Q2i.l n m (.z24 i 0 nm fm (Ws ws) (fs.map LF.av) (js.map JP.av) (ks.map KF.av) uq (rs.map RL.av))) = some b ∧ _
    rw [List.length_map]
    by_cases h8 : rs[i].cs.length > 8
    · exact ⟨false, by rw [cond_t (by omega)], nofun⟩
    · obtain ⟨b, h1, h2⟩ := inner rs[i].cs.length 0 m (by omega) (by omega) (by omega)
      refine ⟨b, by rw [cond_f (by omega)]; exact h1, fun hb k hk hik => ?_⟩
      by_cases hki : k = i
      · subst hki; omega
      · exact h2 hb k hk (by omega)
theorem few14 (hj : js.length ≤ 1000) (hr : rs.length ≤ 1000) : ∀ (d i m : Nat), i + d = js.length → d + 20002 < m → ∃ b, Q2i.l n m (.z14 i nm fm (Ws ws) (fs.map LF.av) (js.map JP.av) (ks.map KF.av) uq (rs.map RL.av)) = some b ∧ (b = true → fewC rs 0)
  | _, _, 0, _, h => absurd h (by omega)
  | 0, i, m + 1, h, hm => by
    rw [Q2i.at14]
    unfold Q2i.r14
    simp only [List.length_map]
    rw [cond_f (by omega)]
    exact few19 hr rs.length 0 m (by omega) (by omega)
  | d + 1, i, m + 1, h, hm => by
    have hi : i < js.length := by omega
    obtain ⟨b, h1, h2⟩ := few14 hj hr d (i + 1) m (by omega) (by omega)
    rw [Q2i.at14]
    unfold Q2i.r14
    simp only [List.length_map]
    rw [cond_t (by omega), within_t hi, cond_true, at_map JP.av hi]
    show ∃ b, (bif decide ((((bs js[i].lf).size : Nat) : Int) > 100) then some false else (bif true then (bif decide ((((bs js[i].rt).size : Nat) : Int) > 100) then some false else Q2i.l n m (.z14 (IntKind.i64.wrap ((i : Int) + 1)) nm fm (Ws ws) (fs.map LF.av) (js.map JP.av) (ks.map KF.av) uq (rs.map RL.av))) else none)) = some b ∧ _
    rw [wsucc (by omega), h1, cond_true]
    cases decide ((((bs js[i].lf).size : Nat) : Int) > 100)
    · cases decide ((((bs js[i].rt).size : Nat) : Int) > 100)
      · exact ⟨b, rfl, h2⟩
      · exact ⟨false, rfl, nofun⟩
    · exact ⟨false, rfl, nofun⟩
theorem few9 (hf : fs.length ≤ 1000) (hj : js.length ≤ 1000) (hr : rs.length ≤ 1000) : ∀ (d i m : Nat), i + d = fs.length → d + 21004 < m → ∃ b, Q2i.l n m (.z9 i nm fm (Ws ws) (fs.map LF.av) (js.map JP.av) (ks.map KF.av) uq (rs.map RL.av)) = some b ∧ (b = true → fewC rs 0)
  | _, _, 0, _, h => absurd h (by omega)
  | 0, i, m + 1, h, hm => by
    rw [Q2i.at9]
    unfold Q2i.r9
    simp only [List.length_map]
    rw [cond_f (by omega)]
    exact few14 hj hr js.length 0 m (by omega) (by omega)
  | d + 1, i, m + 1, h, hm => by
    have hi : i < fs.length := by omega
    obtain ⟨b, h1, h2⟩ := few9 hf hj hr d (i + 1) m (by omega) (by omega)
    rw [Q2i.at9]
    unfold Q2i.r9
    simp only [List.length_map]
    rw [cond_t (by omega), within_t hi, cond_true, at_map LF.av hi]
    show ∃ b, (bif decide ((((bs fs[i].nm).size : Nat) : Int) > 100) then some false else (bif true then (bif decide ((((bs fs[i].fd).size : Nat) : Int) > 100) then some false else Q2i.l n m (.z9 (IntKind.i64.wrap ((i : Int) + 1)) nm fm (Ws ws) (fs.map LF.av) (js.map JP.av) (ks.map KF.av) uq (rs.map RL.av))) else none)) = some b ∧ _
    rw [wsucc (by omega), h1, cond_true]
    cases decide ((((bs fs[i].nm).size : Nat) : Int) > 100)
    · cases decide ((((bs fs[i].fd).size : Nat) : Int) > 100)
      · exact ⟨b, rfl, h2⟩
      · exact ⟨false, rfl, nofun⟩
    · exact ⟨false, rfl, nofun⟩
theorem few4 (hw : ws.length ≤ 1000) (hf : fs.length ≤ 1000) (hj : js.length ≤ 1000) (hr : rs.length ≤ 1000) : ∀ (d i m : Nat), i + d = ws.length → d + 22006 < m → ∃ b, Q2i.l n m (.z4 i nm fm (Ws ws) (fs.map LF.av) (js.map JP.av) (ks.map KF.av) uq (rs.map RL.av)) = some b ∧ (b = true → fewC rs 0)
  | _, _, 0, _, h => absurd h (by omega)
  | 0, i, m + 1, h, hm => by
    rw [Q2i.at4]
    unfold Q2i.r4
    simp only [Ws_length]
    rw [cond_f (by omega)]
    exact few9 hf hj hr fs.length 0 m (by omega) (by omega)
  | d + 1, i, m + 1, h, hm => by
    have hi : i < ws.length := by omega
    obtain ⟨b, h1, h2⟩ := few4 hw hf hj hr d (i + 1) m (by omega) (by omega)
    rw [Q2i.at4]
    unfold Q2i.r4
    simp only [Ws_length]
    rw [cond_t (by omega), within_t hi, cond_true, Ws_getD hi]
    show ∃ b, (bif decide ((((bs ws[i]).size : Nat) : Int) > 100) then some false else Q2i.l n m (.z4 (IntKind.i64.wrap ((i : Int) + 1)) nm fm (Ws ws) (fs.map LF.av) (js.map JP.av) (ks.map KF.av) uq (rs.map RL.av))) = some b ∧ _
    rw [wsucc (by omega), h1]
    cases decide ((((bs ws[i]).size : Nat) : Int) > 100)
    · exact ⟨b, rfl, h2⟩
    · exact ⟨false, rfl, nofun⟩
theorem few_eq (hn : 30000 ≤ n) : ∃ b, Q2i.F n nm fm (Ws ws) (fs.map LF.av) (js.map JP.av) (ks.map KF.av) uq (rs.map RL.av) = some b ∧
    (b = true → ws.length ≤ 8 ∧ fs.length ≤ 40 ∧ js.length ≤ 40 ∧ ks.length ≤ 40 ∧ rs.length ≤ 12 ∧ fewC rs 0) := by
  obtain ⟨m, rfl⟩ : ∃ m, n = m + 1 := ⟨n - 1, by omega⟩
  have c2 : Q2i.l (m + 1) (m + 1) .z2 = some false := rfl
  unfold Q2i.F Q2i.e
  simp only [c2, Ws_length, List.length_map]
  cases decide (((nm.size : Nat) : Int) > 100)
  case true => exact ⟨false, rfl, nofun⟩
  cases decide (((fm.size : Nat) : Int) > 100)
  case true => exact ⟨false, rfl, nofun⟩
  simp only [cond_false]
  by_cases h1 : ws.length > 8
  · exact ⟨false, by rw [cond_t (by omega)], nofun⟩
  by_cases h2 : fs.length > 40
  · exact ⟨false, by rw [cond_f (by omega), cond_t (by omega)], nofun⟩
  by_cases h3 : js.length > 40
  · exact ⟨false, by rw [cond_f (by omega), cond_f (by omega), cond_t (by omega)], nofun⟩
  by_cases h4 : ks.length > 40
  · exact ⟨false, by rw [cond_f (by omega), cond_f (by omega), cond_f (by omega), cond_t (by omega)], nofun⟩
  by_cases h5 : rs.length > 12
  · exact ⟨false, by rw [cond_f (by omega), cond_f (by omega), cond_f (by omega), cond_f (by omega), cond_t (by omega)], nofun⟩
  rw [cond_f (by omega), cond_f (by omega), cond_f (by omega), cond_f (by omega), cond_f (by omega)]
  obtain ⟨b, hb⟩ : ∃ b, Q2k.F (m + 1) (ks.map KF.av) = some b := by
    unfold Q2k.F Q2k.e
    exact fewKeys_l (by omega) ks.length 0 (m + 1) (by omega) (by omega)
  rw [hb, Option.bind_some]
  cases b with
  | false => exact ⟨false, rfl, nofun⟩
  | true =>
    obtain ⟨b, e1, e2⟩ := few4 (n := m + 1) (nm := nm) (fm := fm) (ws := ws) (fs := fs) (js := js) (ks := ks) (uq := uq) (rs := rs) (by omega) (by omega) (by omega) (by omega) ws.length 0 (m + 1) (by omega) (by omega)
    exact ⟨b, e1, fun hb => ⟨by omega, by omega, by omega, by omega, by omega, e2 hb⟩⟩
end
theorem map_of {α : Type} (f : α → AV) (P : AV → Prop) (h : ∀ y, P y → ∃ a, y = f a) : ∀ xs : List AV, (∀ y ∈ xs, P y) → ∃ l : List α, xs = l.map f
  | [], _ => ⟨[], rfl⟩
  | x :: xs, hx => by
    obtain ⟨a, rfl⟩ := h x (hx x (by simp))
    obtain ⟨l, rfl⟩ := map_of f P h xs (fun y hy => hx y (by simp [hy]))
    exact ⟨a :: l, rfl⟩
theorem map_of' {α : Type} {f : α → AV} {P : AV → Prop} {xs : List AV} (hx : ∀ y ∈ xs, P y) (h : ∀ y, P y → ∃ a, y = f a) : ∃ l : List α, xs = l.map f := map_of f P h xs hx
end Go.Proofs.YtmpglmcjoelciaaGreatDoor.Ev
namespace Go.Proofs.YtmpglmcjoelciaaGreatDoor.Ev
open Go Go.Proofs Go.Proofs.Ev
set_option linter.unusedVariables false
set_option linter.unusedSimpArgs false
section
variable {n : Nat} {nm fm : ByteArray}
theorem fewFile_l (ds : List FD) (hd : ds.length ≤ 1000) (ks : List KF) (hk : ks.length ≤ 1000) (hn : 1001 ≤ n) (uq : Bool) : ∀ (d i m : Nat), i + d = ds.length → d < m → ∃ b, Q2g.l n m (.z4 i nm fm (ds.map FD.av) (ks.map KF.av) uq) = some b
  | _, _, 0, _, h => absurd h (by omega)
  | 0, i, m + 1, h, _ => by
    rw [Q2g.at4]
    unfold Q2g.r4
    obtain ⟨b, hb⟩ : ∃ b, Q2k.F n (ks.map KF.av) = some b := by
      unfold Q2k.F Q2k.e
      exact fewKeys_l (by omega) ks.length 0 n (by omega) (by omega)
    simp (disch := omega) only [Option.bind_some, Option.bind_none, cond_true, cond_false, Bool.not_true, Bool.not_false, List.length_map, Ws_length, bs_size, within_t, upto_t, wsucc, Int.toNat_natCast, at_mapN, Ws_getDN, cells_agg, cells_v, withCons_cons, withInt_mk, withStr_mk, withBool_mk, withSl_mk, cond_t, cond_f, hb]
    exact ⟨b, rfl⟩
  | d + 1, i, m + 1, h, hm => by
    have hi : i < ds.length := by omega
    obtain ⟨b, ih⟩ := fewFile_l ds hd ks hk hn uq d (i + 1) m (by omega) (by omega)
    rw [Q2g.at4]
    unfold Q2g.r4
    simp (disch := omega) only [Option.bind_some, Option.bind_none, cond_true, cond_false, Bool.not_true, Bool.not_false, List.length_map, Ws_length, bs_size, within_t, upto_t, wsucc, Int.toNat_natCast, at_mapN, Ws_getDN, cells_agg, cells_v, withCons_cons, withInt_mk, withStr_mk, withBool_mk, withSl_mk, cond_t, cond_f, FD.av, ih]
    cases decide ((ds[i].nm.length : Int) > 100)
    · exact ⟨b, rfl⟩
    · exact ⟨false, rfl⟩
theorem fewFile_eq (hn : 1002 ≤ n) (g : FL) : ∃ b, Q2g.F n (bs g.nm) (bs g.fm) (g.ds.map FD.av) (g.ks.map KF.av) g.uq = some b ∧ (b = true → g.few) := by
  obtain ⟨m, rfl⟩ : ∃ m, n = m + 1 := ⟨n - 1, by omega⟩
  have c2 : Q2g.l (m + 1) (m + 1) .z2 = some false := rfl
  unfold Q2g.F Q2g.e
  simp only [c2, List.length_map]
  cases decide ((((bs g.nm).size : Nat) : Int) > 100)
  case true => exact ⟨false, rfl, nofun⟩
  cases decide ((((bs g.fm).size : Nat) : Int) > 100)
  case true => exact ⟨false, rfl, nofun⟩
  simp only [cond_false]
  by_cases h1 : g.ds.length > 40
  · exact ⟨false, by rw [cond_t (by omega)], nofun⟩
  by_cases h2 : g.ks.length > 40
  · exact ⟨false, by rw [cond_f (by omega), cond_t (by omega)], nofun⟩
  rw [cond_f (by omega), cond_f (by omega)]
  obtain ⟨b, hb⟩ := fewFile_l (n := m + 1) (nm := bs g.nm) (fm := bs g.fm) g.ds (by omega) g.ks (by omega) (by omega) g.uq g.ds.length 0 (m + 1) (by omega) (by omega)
  exact ⟨b, hb, fun _ => ⟨by omega, by omega⟩⟩
end
end Go.Proofs.YtmpglmcjoelciaaGreatDoor.Ev
namespace Go.Proofs.YtmpglmcjoelciaaGreatDoor.Ev
open Go Go.Proofs Go.Proofs.Ev
set_option linter.unusedVariables false
set_option linter.unusedSimpArgs false
section
variable {n : Nat} {lg : Bool} {g : FL} {l : LG}
theorem sameF0 (hn : 1 ≤ n) (x : List UInt8) (ds : List FD) : Q34.F n (bs x) (ds.map FD.av) ⟨#[]⟩ [] = some (decide (x = []) && decide (ds.length = 0)) := by
  obtain ⟨m, rfl⟩ : ∃ m, n = m + 1 := ⟨n - 1, by omega⟩
  unfold Q34.F Q34.e
  simp (disch := omega) only [Option.bind_some, Option.bind_none, cond_true, cond_false, Bool.not_true, Bool.not_false, List.length_map, Ws_length, bs_size, within_t, upto_t, wsucc, Int.toNat_natCast, at_mapN, Ws_getDN, cells_agg, cells_v, withCons_cons, withInt_mk, withStr_mk, withBool_mk, withSl_mk, cond_t, cond_f, empty_eq, List.length_nil, lenne]
  by_cases h1 : x = []
  · by_cases h2 : ds.length = 0
    · have : ds = [] := List.eq_nil_of_length_eq_zero h2
      subst this
      subst h1
      rfl
    · simp [h1, h2]
  · simp [h1]
theorem sameK0 (hn : 1 ≤ n) (ks : List KF) : Q3m.F n (ks.map KF.av) [] = some (decide (ks.length = 0)) := by
  obtain ⟨m, rfl⟩ : ∃ m, n = m + 1 := ⟨n - 1, by omega⟩
  unfold Q3m.F Q3m.e
  simp (disch := omega) only [Option.bind_some, Option.bind_none, cond_true, cond_false, Bool.not_true, Bool.not_false, List.length_map, Ws_length, bs_size, within_t, upto_t, wsucc, Int.toNat_natCast, at_mapN, Ws_getDN, cells_agg, cells_v, withCons_cons, withInt_mk, withStr_mk, withBool_mk, withSl_mk, cond_t, cond_f, List.length_nil, lenne]
  by_cases h2 : ks.length = 0
  · have : ks = [] := List.eq_nil_of_length_eq_zero h2
    subst this
    rfl
  · simp [h2]
theorem sameS0 (hn : 1 ≤ n) (ws : List (List UInt8)) : Q1y.F n (Ws ws) [] = some (decide (ws.length = 0)) := by
  obtain ⟨m, rfl⟩ : ∃ m, n = m + 1 := ⟨n - 1, by omega⟩
  unfold Q1y.F Q1y.e
  simp (disch := omega) only [Option.bind_some, Option.bind_none, cond_true, cond_false, Bool.not_true, Bool.not_false, List.length_map, Ws_length, bs_size, within_t, upto_t, wsucc, Int.toNat_natCast, at_mapN, Ws_getDN, cells_agg, cells_v, withCons_cons, withInt_mk, withStr_mk, withBool_mk, withSl_mk, cond_t, cond_f, List.length_nil, lenne]
  by_cases h2 : ws.length = 0
  · have : ws = [] := List.eq_nil_of_length_eq_zero h2
    subst this
    rfl
  · simp [h2]
theorem sameFile0 (hn : 1 ≤ n) : Q33.F n (bs g.nm) (bs g.fm) (g.ds.map FD.av) (g.ks.map KF.av) g.uq ⟨#[]⟩ ⟨#[]⟩ [] [] false = some (isZF g) := by
  unfold Q33.F Q33.e isZF
  rw [empty_eq, sameF0 hn, sameK0 hn]
  cases decide (g.nm = [])
  · rfl
  cases decide (g.fm = [])
  · rfl
  cases decide (g.ds.length = 0)
  · rfl
  cases decide (g.ks.length = 0)
  · rfl
  cases g.uq <;> rfl
theorem sameLog0 (hn : 10 ≤ n) : Q35.F n (bs l.nm) (bs l.fm) (Ws l.ws) (l.fs.map LF.av) (l.js.map JP.av) (l.ks.map KF.av) l.uq (l.rs.map RL.av) ⟨#[]⟩ ⟨#[]⟩ [] [] [] [] false [] = some (isZL l) := by
  obtain ⟨m, rfl⟩ : ∃ m, n = m + 4 := ⟨n - 4, by omega⟩
  have c2 : Q35.l (m + 4) (m + 4) .z2 = some false := rfl
  unfold Q35.F Q35.e isZL
  rw [empty_eq, empty_eq, sameS0 (by omega), sameK0 (by omega)]
  simp only [c2, List.length_map, List.length_nil, lenne, Option.bind_some]
  by_cases h1 : l.nm = []
  case neg => simp [h1]
  by_cases h2 : l.fm = []
  case neg => simp [h2]
  by_cases h3 : l.ws.length = 0
  case neg => simp [h3]
  by_cases h4 : l.fs.length = 0
  case neg => simp [h4]
  by_cases h5 : l.js.length = 0
  case neg => simp [h5]
  by_cases h6 : l.ks.length = 0
  case neg => simp [h6]
  by_cases h8 : l.rs.length = 0
  case neg => cases l.uq <;> simp [h8]
  cases hu : l.uq
  case true => simp
  have e3 : l.ws = [] := List.eq_nil_of_length_eq_zero h3
  have e4 : l.fs = [] := List.eq_nil_of_length_eq_zero h4
  have e5 : l.js = [] := List.eq_nil_of_length_eq_zero h5
  have e6 : l.ks = [] := List.eq_nil_of_length_eq_zero h6
  have e8 : l.rs = [] := List.eq_nil_of_length_eq_zero h8
  rw [h1, h2, e3, e4, e5, e6, e8]
  rfl
theorem head_len {t nm : List UInt8} {uq : Bool} (ht : t.length ≤ 2) (hn : nm.length ≤ 10) : (headT t nm uq).length ≤ 240 := by
  unfold headT
  split <;> simp only [List.length_append, List.length_cons, List.length_nil] <;> omega
theorem lfL_short (h : GFit l) : ∀ s ∈ lfL l, s.length ≤ 240 := by
  obtain ⟨h1, h2, h3, h4, h5, h6, _⟩ := h
  intro s hs
  unfold lfL at hs
  simp only [List.mem_append, List.mem_cons, List.mem_map, List.not_mem_nil, or_false] at hs
  rcases hs with ((((rfl | rfl) | ⟨w, hw, rfl⟩) | ⟨j, hj, rfl⟩) | ⟨f, hf, rfl⟩) | ⟨k, hk, rfl⟩
  · exact head_len (by simp) h1
  · simp only [List.length_append, List.length_cons, List.length_nil]; omega
  · have := h3 w hw
    unfold basT
    simp only [List.length_append, List.length_cons, List.length_nil]; omega
  · obtain ⟨a, b, c, d, e, f⟩ := h4 j hj
    have i1 := itoa_len j.fr (by omega) (by omega)
    have i2 := itoa_len j.b (by omega) (by omega)
    unfold joinT
    simp only [List.length_append, List.length_cons, List.length_nil]; omega
  · obtain ⟨a, b, c, d⟩ := h5 f hf
    have i2 := itoa_len f.b (by omega) (by omega)
    unfold lfT
    simp only [List.length_append, List.length_cons, List.length_nil]; omega
  · have := h6 k hk
    unfold keyT
    split <;> simp only [List.length_append, List.length_cons, List.length_nil] <;> omega
theorem refX_eq {acc : List (List UInt8)} {rs : List RL} (h : ∀ s ∈ acc, s.length ≤ 240) : refX acc false false rs = rulesX acc rs := by
  have h1 : (acc.any fun s => decide (240 < s.length)) = false := by
    rw [List.any_eq_false]
    intro s hs
    have := h s hs
    simp; omega
  unfold refX rulesX
  rw [Bool.false_or, Bool.false_or, List.any_append, h1, Bool.false_or, List.any_map]
  rfl
theorem linesR_eq (hn : 400000 ≤ n) (hf : Few g l) : Q2x.F n lg (bs g.nm) (bs g.fm) (g.ds.map FD.av) (g.ks.map KF.av) g.uq (bs l.nm) (bs l.fm) (Ws l.ws) (l.fs.map LF.av) (l.js.map JP.av) (l.ks.map KF.av) l.uq (l.rs.map RL.av) = some (Wp (linesX lg g l)) := by
  obtain ⟨m, rfl⟩ : ∃ m, n = m + 2 := ⟨n - 2, by omega⟩
  have c2 : Q2x.l (m + 2) (m + 2) .z2 = some ([], 5) := rfl
  have hse : Q3o.F (m + 2) lg (bs g.nm) (bs g.fm) (g.ds.map FD.av) (g.ks.map KF.av) g.uq (bs l.nm) (bs l.fm) (Ws l.ws) (l.fs.map LF.av) (l.js.map JP.av) (l.ks.map KF.av) l.uq (l.rs.map RL.av) = some (srcE lg g l) := by
    unfold Q3o.F Q3o.e srcE chkG
    rw [checkRef_eq (by omega) l.nm l.fm hf.lw hf.lf hf.lj hf.lk hf.lr hf.lc, plainErr_eq (by omega) g.nm g.fm g.ds hf.ds g.ks hf.ks]
    cases lg <;> rfl
  unfold Q2x.F Q2x.e linesX
  rw [sameFile0 (by omega), sameLog0 (by omega)]
  simp only [c2, Option.bind_some]
  cases lg
  · simp only [cond_false, Bool.not_false, cond_true, isZ, Bool.false_eq_true, if_false]
    cases hz : isZL l
    · rfl
    · simp only [Bool.not_true, cond_false, Bool.true_eq_false, if_false]
      rw [show m + 2 = (m + 1) + 1 from rfl, Q2x.at3]
      unfold Q2x.r3
      rw [hse, Option.bind_some, bif_ne]
      by_cases he : srcE false g l = 0
      · rw [if_neg (by simp [he]), if_neg (by simp [he])]
        have hg : GOk g.nm g.fm g.ds g.ks := fileE_ok he
        have hnl := nm_len hg.nm
        have hfl := nm_len hg.fm
        unfold isZL at hz
        simp only [Bool.and_eq_true, decide_eq_true_eq] at hz
        obtain ⟨_, _, h3, h4, h5, h6, _, h8⟩ := hz
        have e3 : l.ws = [] := List.eq_nil_of_length_eq_zero h3
        have e4 : l.fs = [] := List.eq_nil_of_length_eq_zero h4
        have e5 : l.js = [] := List.eq_nil_of_length_eq_zero h5
        have e8 : l.rs = [] := List.eq_nil_of_length_eq_zero h8
        have h0 : RFit g.ds g.ks l.ws l.fs l.js l.rs := by
          rw [e3, e4, e5, e8]
          exact ⟨hf.ds, hf.ks, by simp, by simp, by simp, by simp, hg.dfit, fun k hk => nm_len (hg.knm k hk), by simp, by simp, by simp, by simp⟩
        have key : ∀ hd : List UInt8, Q2x.l (m + 1 + 1) (m + 1) (.z13 (g.ks.map KF.av) (bs hd) (bs g.fm) false (bs g.nm) (bs g.fm) (g.ds.map FD.av) (g.ks.map KF.av) g.uq (bs l.nm) (bs l.fm) (Ws l.ws) (l.fs.map LF.av) (l.js.map JP.av) (l.ks.map KF.av) l.uq (l.rs.map RL.av) (bs l.nm) (bs l.fm) (Ws l.ws) (l.fs.map LF.av) (l.js.map JP.av) (l.ks.map KF.av) l.uq (l.rs.map RL.av)) = some (Wp ([hd, [82, 32] ++ g.fm] ++ g.ds.map fldT ++ g.ks.map keyT, 0)) := by
          intro hd
          have := lin15 (n := m + 1 + 1) (x := bs l.nm) (y := bs l.fm) (bk := l.ks.map KF.av) (uq := l.uq) (lg := false) (fu := g.uq) (lu := l.uq) (fx := bs g.nm) (fy := bs g.fm) (lx := bs l.nm) (ly := bs l.fm) (cw := Ws l.ws) (cf := l.fs.map LF.av) (cj := l.js.map JP.av) (ck := l.ks.map KF.av) (cr := l.rs.map RL.av) (fk := g.ks.map KF.av) (by omega) h0 l.ws.length 0 m [hd, [82, 32] ++ g.fm] (by omega) (by omega) (by simp)
          rw [Q2x.at13]
          unfold Q2x.r13
          simp (disch := omega) only [Option.bind_some, Option.bind_none, cond_true, cond_false, Bool.not_true, Bool.not_false, List.length_map, Ws_length, bs_size, within_t, upto_t, wsucc, Int.toNat_natCast, at_mapN, Ws_getDN, cells_agg, cells_v, withCons_cons, withInt_mk, withStr_mk, withBool_mk, withSl_mk, cond_t, cond_f, lit2, bs_append, chk_t, List.length_cons, List.length_nil]
          rw [List.drop_zero] at this
          refine Eq.trans this ?_
          rw [e3, e4, e5, e8]
          simp [refX]
        unfold pfL headT
        have c3 : (⟨#[80, 70, 32]⟩ : ByteArray) = bs ([80, 70] ++ [32]) := rfl
        cases hu : g.uq
        · rw [hu] at key
          simp (disch := omega) only [Option.bind_some, Option.bind_none, cond_true, cond_false, Bool.not_true, Bool.not_false, List.length_map, Ws_length, bs_size, within_t, upto_t, wsucc, Int.toNat_natCast, at_mapN, Ws_getDN, cells_agg, cells_v, withCons_cons, withInt_mk, withStr_mk, withBool_mk, withSl_mk, cond_t, cond_f, c3, bs_append, chk_t, List.length_append, List.length_cons, List.length_nil]
          rw [key]
          rfl
        · rw [hu] at key
          simp (disch := omega) only [Option.bind_some, Option.bind_none, cond_true, cond_false, Bool.not_true, Bool.not_false, List.length_map, Ws_length, bs_size, within_t, upto_t, wsucc, Int.toNat_natCast, at_mapN, Ws_getDN, cells_agg, cells_v, withCons_cons, withInt_mk, withStr_mk, withBool_mk, withSl_mk, cond_t, cond_f, c3, lit7, bs_append, chk_t, List.length_append, List.length_cons, List.length_nil]
          rw [key]
          rfl
      · rw [if_pos he, if_pos he]
        rfl
  · simp only [cond_true, Bool.not_true, cond_false, isZ, if_true]
    cases hz : isZF g
    · rfl
    · simp only [Bool.not_true, cond_false, Bool.true_eq_false, if_false]
      rw [show m + 2 = (m + 1) + 1 from rfl, Q2x.at3]
      unfold Q2x.r3
      rw [hse, Option.bind_some, bif_ne]
      by_cases he : srcE true g l = 0
      · rw [if_neg (by simp [he]), if_neg (by simp [he])]
        have hL : l.Ok := chkL_ok he
        have hG := gfit_of hL
        have hnl := hG.nm
        have hfl := hG.fm
        unfold isZF at hz
        simp only [Bool.and_eq_true, decide_eq_true_eq] at hz
        obtain ⟨g1, _, g3, _, _⟩ := hz
        have e3 : g.ds = [] := List.eq_nil_of_length_eq_zero g3
        have h0 : RFit g.ds l.ks l.ws l.fs l.js l.rs := by
          rw [e3]
          exact ⟨by simp, hf.lk, hf.lw, hf.lf, hf.lj, hf.lr, by simp, hG.ks, hG.ws, hG.fs, hG.js, hG.rs⟩
        have hwl := hf.lw
        have key : ∀ hd : List UInt8, Q2x.l (m + 1 + 1) (m + 1) (.z13 (l.ks.map KF.av) (bs hd) (bs l.fm) true (bs g.nm) (bs g.fm) (g.ds.map FD.av) (g.ks.map KF.av) g.uq (bs l.nm) (bs l.fm) (Ws l.ws) (l.fs.map LF.av) (l.js.map JP.av) (l.ks.map KF.av) l.uq (l.rs.map RL.av) (bs l.nm) (bs l.fm) (Ws l.ws) (l.fs.map LF.av) (l.js.map JP.av) (l.ks.map KF.av) l.uq (l.rs.map RL.av)) = some (Wp (refX ([hd, [82, 32] ++ l.fm] ++ l.ws.map basT ++ l.js.map joinT ++ l.fs.map lfT ++ l.ks.map keyT) false false l.rs)) := by
          intro hd
          have := lin15 (n := m + 1 + 1) (x := bs l.nm) (y := bs l.fm) (bk := l.ks.map KF.av) (uq := l.uq) (lg := true) (fu := g.uq) (lu := l.uq) (fx := bs g.nm) (fy := bs g.fm) (lx := bs l.nm) (ly := bs l.fm) (cw := Ws l.ws) (cf := l.fs.map LF.av) (cj := l.js.map JP.av) (ck := l.ks.map KF.av) (cr := l.rs.map RL.av) (fk := g.ks.map KF.av) (by omega) h0 l.ws.length 0 m [hd, [82, 32] ++ l.fm] (by omega) (by omega) (by simp)
          rw [Q2x.at13]
          unfold Q2x.r13
          simp (disch := omega) only [Option.bind_some, Option.bind_none, cond_true, cond_false, Bool.not_true, Bool.not_false, List.length_map, Ws_length, bs_size, within_t, upto_t, wsucc, Int.toNat_natCast, at_mapN, Ws_getDN, cells_agg, cells_v, withCons_cons, withInt_mk, withStr_mk, withBool_mk, withSl_mk, cond_t, cond_f, lit2, bs_append, chk_t, List.length_cons, List.length_nil]
          rw [List.drop_zero] at this
          refine Eq.trans this ?_
          rw [e3]
          simp
        have sh := refX_eq (rs := l.rs) (lfL_short hG)
        rw [← sh]
        have c3 : (⟨#[76, 70, 32]⟩ : ByteArray) = bs ([76, 70] ++ [32]) := rfl
        have c4 : (3 : Nat) + g.nm.length ≤ 9223372036854775807 := by rw [g1]; decide
        unfold lfL headT
        cases hu : l.uq
        · rw [hu] at key
          simp (disch := omega) only [Option.bind_some, Option.bind_none, cond_true, cond_false, Bool.not_true, Bool.not_false, List.length_map, Ws_length, bs_size, within_t, upto_t, wsucc, Int.toNat_natCast, at_mapN, Ws_getDN, cells_agg, cells_v, withCons_cons, withInt_mk, withStr_mk, withBool_mk, withSl_mk, cond_t, cond_f, c3, bs_append, chk_t, List.length_append, List.length_cons, List.length_nil]
          rw [key]
          rfl
        · rw [hu] at key
          simp (disch := omega) only [Option.bind_some, Option.bind_none, cond_true, cond_false, Bool.not_true, Bool.not_false, List.length_map, Ws_length, bs_size, within_t, upto_t, wsucc, Int.toNat_natCast, at_mapN, Ws_getDN, cells_agg, cells_v, withCons_cons, withInt_mk, withStr_mk, withBool_mk, withSl_mk, cond_t, cond_f, c3, lit7, bs_append, chk_t, List.length_append, List.length_cons, List.length_nil]
          rw [key]
          rfl
      · rw [if_pos he, if_pos he]
        rfl
theorem strs_l (ws : List (List UInt8)) (hw : ws.length ≤ 100000) : ∀ (d i m : Nat), i + d = ws.length → d < m → Q1y.l n m (.z4 (Ws ws) (Ws ws) i) = some true
  | _, _, 0, _, h => absurd h (by omega)
  | 0, i, m + 1, h, _ => by
    rw [Q1y.at4]
    unfold Q1y.r4
    simp (disch := omega) only [Option.bind_some, Option.bind_none, cond_true, cond_false, Bool.not_true, Bool.not_false, List.length_map, Ws_length, bs_size, within_t, upto_t, wsucc, Int.toNat_natCast, at_mapN, Ws_getDN, cells_agg, cells_v, withCons_cons, withInt_mk, withStr_mk, withBool_mk, withSl_mk, cond_t, cond_f]
  | d + 1, i, m + 1, h, hm => by
    have hi : i < ws.length := by omega
    have ih := strs_l ws hw d (i + 1) m (by omega) (by omega)
    rw [Q1y.at4]
    unfold Q1y.r4
    simp (disch := omega) only [Option.bind_some, Option.bind_none, cond_true, cond_false, Bool.not_true, Bool.not_false, List.length_map, Ws_length, bs_size, within_t, upto_t, wsucc, Int.toNat_natCast, at_mapN, Ws_getDN, cells_agg, cells_v, withCons_cons, withInt_mk, withStr_mk, withBool_mk, withSl_mk, cond_t, cond_f, beq_self_eq_true]
    exact ih
theorem strs_eq (hn : 100002 ≤ n) (ws : List (List UInt8)) (hw : ws.length ≤ 100000) : Q1y.F n (Ws ws) (Ws ws) = some true := by
  unfold Q1y.F Q1y.e
  simp only [bne_self_eq_false, cond_false]
  exact strs_l ws hw ws.length 0 n (by omega) (by omega)
theorem linesX_len (hf : Few g l) : (linesX lg g l).1.length ≤ 100000 := by
  obtain ⟨h1, h2, h3, h4, h5, h6, h7, _⟩ := hf
  unfold linesX
  split
  · simp
  · split
    · simp
    · split
      · unfold rulesX
        split
        · simp
        · split
          · simp
          · simp only [lfL, List.length_append, List.length_map, List.length_cons, List.length_nil]
            omega
      · simp only [pfL, List.length_append, List.length_map, List.length_cons, List.length_nil]
        omega
theorem fewSrc_eq (hn : 30000 ≤ n) : ∃ b, Q2m.F n lg (bs g.nm) (bs g.fm) (g.ds.map FD.av) (g.ks.map KF.av) g.uq (bs l.nm) (bs l.fm) (Ws l.ws) (l.fs.map LF.av) (l.js.map JP.av) (l.ks.map KF.av) l.uq (l.rs.map RL.av) = some b ∧ (b = true → Few g l) := by
  unfold Q2m.F Q2m.e
  obtain ⟨b, h1, h2⟩ := fewFile_eq (n := n) (by omega) g
  obtain ⟨c, h3, h4⟩ := few_eq (n := n) (nm := bs l.nm) (fm := bs l.fm) (ws := l.ws) (fs := l.fs) (js := l.js) (ks := l.ks) (uq := l.uq) (rs := l.rs) (by omega)
  rw [h1, Option.bind_some]
  cases b
  · exact ⟨false, rfl, nofun⟩
  · rw [cond_true, h3, Option.bind_some]
    refine ⟨c, rfl, fun hc => ?_⟩
    obtain ⟨b1, b2, b3, b4, b5, b6⟩ := h4 hc
    obtain ⟨c1, c2⟩ := h2 rfl
    refine ⟨c1, c2, by omega, by omega, by omega, by omega, by omega, ?_⟩
    intro r hr
    obtain ⟨k, hk, rfl⟩ := List.getElem_of_mem hr
    have := b6 k hk (by omega)
    omega
theorem ownSrc_eq (hn : 1002 ≤ n) (hf : Few g l) : Q31.F n lg (bs g.nm) (bs g.fm) (g.ds.map FD.av) (g.ks.map KF.av) g.uq (bs l.nm) (bs l.fm) (Ws l.ws) (l.fs.map LF.av) (l.js.map JP.av) (l.ks.map KF.av) l.uq (l.rs.map RL.av) =
    some (lg, bs g.nm, bs g.fm, g.ds.map FD.av, g.ks.map KF.av, g.uq, bs l.nm, bs l.fm, Ws l.ws, l.fs.map LF.av, l.js.map JP.av, l.ks.map KF.av, l.uq, l.rs.map RL.av) := by
  have hmost : most = 1000000000 := rfl
  have h1 := hf.ds
  have h2 := hf.ks
  unfold Q31.F Q31.e Q2y.F Q2y.e
  rw [own_eq (by omega) hf.lw hf.lf hf.lj hf.lk hf.lr hf.lc]
  simp (disch := omega) only [Option.bind_some, Option.bind_none, cond_true, cond_false, Bool.not_true, Bool.not_false, List.length_map, Ws_length, bs_size, within_t, upto_t, wsucc, Int.toNat_natCast, at_mapN, Ws_getDN, cells_agg, cells_v, withCons_cons, withInt_mk, withStr_mk, withBool_mk, withSl_mk, cond_t, cond_f]
theorem lines_law (hn : 1000002 ≤ n) (lg : Bool) (nm fm : ByteArray) (ds : List FD) (ks : List KF) (uq : Bool) (lnm lfm : ByteArray) (ws : List (List UInt8)) (fs : List LF) (js : List JP) (lks : List KF) (luq : Bool) (rs : List RL) :
    Q29.F n lg nm fm (ds.map FD.av) (ks.map KF.av) uq lnm lfm (Ws ws) (fs.map LF.av) (js.map JP.av) (lks.map KF.av) luq (rs.map RL.av) = some true := by
  obtain ⟨a, rfl⟩ : ∃ l, nm = bs l := ⟨nm.data.toList, rfl⟩
  obtain ⟨b, rfl⟩ : ∃ l, fm = bs l := ⟨fm.data.toList, rfl⟩
  obtain ⟨c, rfl⟩ : ∃ l, lnm = bs l := ⟨lnm.data.toList, rfl⟩
  obtain ⟨d, rfl⟩ : ∃ l, lfm = bs l := ⟨lfm.data.toList, rfl⟩
  have h1 := fewSrc_eq (n := n) (lg := lg) (g := ⟨a, b, ds, ks, uq⟩) (l := ⟨c, d, ws, fs, js, lks, luq, rs⟩) (by omega)
  have h2 := ownSrc_eq (n := n) (lg := lg) (g := ⟨a, b, ds, ks, uq⟩) (l := ⟨c, d, ws, fs, js, lks, luq, rs⟩) (by omega)
  have h3 := formatted_eq (n := n) (lg := lg) (g := ⟨a, b, ds, ks, uq⟩) (l := ⟨c, d, ws, fs, js, lks, luq, rs⟩) (by omega)
  have h4 := linesR_eq (n := n) (lg := lg) (g := ⟨a, b, ds, ks, uq⟩) (l := ⟨c, d, ws, fs, js, lks, luq, rs⟩) (by omega)
  dsimp only at h1 h2 h3 h4
  obtain ⟨q, e1, e2⟩ := h1
  unfold Q29.F Q29.e
  rw [awake_eq, Option.bind_some]
  show (bif false then _ else _) = _
  rw [cond_false, e1, Option.bind_some]
  cases q with
  | false => rfl
  | true =>
    have hf := e2 rfl
    rw [Bool.not_true, cond_false, h2 hf, Option.bind_some]
    dsimp only
    rw [h3 hf, Option.bind_some, h4 hf, Option.bind_some]
    unfold Wp
    dsimp only
    rw [beq_self_eq_true, cond_true, strs_eq (by omega) _ (linesX_len hf)]
    rfl
end
end Go.Proofs.YtmpglmcjoelciaaGreatDoor.Ev
end
