/- Part 6: functions on the way, plain laws. Conditions: as said. -/
import Derived.Deep.RegionWith
import Derived.Test.YtmokkddidcmglaaK1
import Derived.Test.YtmokkddidcmglaaK2
import Derived.Test.YtmokkddidcmglaaK3
import Derived.Test.YtmokkddidcmglaaK4
import Derived.Test.YtmokkddidcmglaaK5
set_option maxRecDepth 100000
set_option maxHeartbeats 16000000
set_option linter.unusedVariables false
set_option linter.unusedSimpArgs false
open Bool renaming and_eq_true → bR6, not_eq_false' → bV2, not_eq_true' → bT6
open Inhabited renaming default → aK4
open List renaming all_eq_true → bS2, append_assoc → bV5, getD_eq_getElem?_getD → bR7, getElem?_append_left → bT3, getElem?_eq_getElem → bo2, getElem?_eq_some_iff → bS0, getElem_mem → bS9, length_append → bR8, length_cons → bS1, length_nil → bS6, length_set → bU7, mem_append → bS7, mem_cons → bU2, mem_of_getElem? → bT0, mem_range → bU9, mem_singleton → bU1, nil_append → bV6, replicate → a04, take → bS3
open Nat renaming le_refl → bS5, le_trans → bT4, zero_le → bU8
open True renaming intro → bS4

namespace Go.Proofs.Ytmokkddidcmglaa
open Go Go.RowKit
abbrev cdC (b : List UInt8) (j : Int) : j5 := ⟨81, [.ptr 0 0], [.box [.ref 1, iA j], dY b], [.box [.ref 1, iA (d9 b j).2], dY b, rI (d9 b j).1.vars, rI (d9 b j).1.arrays, rN (d9 b j).1.list], .agg [.ref 2, .ref 3, .ref 4]⟩
abbrev K6 (b : List UInt8) (j X : Int) (k : Nat) : List c7 × Int := rsD b ((w5 b j).2 + 1) (n7 b j).vars.length (n7 b j).arrays.length X k
section
variable {b : List UInt8} {j X : Int} {k : Nat}
theorem bI3 (hX : nm b (w5 b j).2 lnL = X) (hk : (k : Int) = X - 1) (h3 : ¬ X > 3) : (d9 b j).1.list = (K6 b j X k).1 ++ [⟨13, 0, 0, 0, 0⟩] ∧ (d9 b j).2 = (K6 b j X k).2 := by
 obtain rfl : k = (X - 1).toNat := by omega
 unfold d9 clD
 simp only [hX, if_neg h3]
 constructor <;> first | trivial | rfl
theorem bI2 (hX : nm b (w5 b j).2 lnL = X) (hk : (k : Int) = X - 1) (h3 : X > 3) (h : ¬ pk b (K6 b j X k).2 4 = 0) : (d9 b j).1.list = (K6 b j X k).1 ++ [⟨13, 0, 0, 0, 0⟩] ∧ (d9 b j).2 = (K6 b j X k).2 + 1 := by
 obtain rfl : k = (X - 1).toNat := by omega
 unfold K6 at h
 unfold d9 clD
 simp only [hX, if_pos h3, if_neg h]
 constructor <;> first | trivial | rfl
theorem bI1 (hX : nm b (w5 b j).2 lnL = X) (hk : (k : Int) = X - 1) (h3 : X > 3) (h : pk b (K6 b j X k).2 4 = 0) : (d9 b j).1.list = (((K6 b j X k).1 ++ [(⟨13, 0, 0, 0, 0⟩ : c7)]).set 0 ⟨1, 5, 1 + pk b ((K6 b j X k).2 + 1) 3, 0, 0⟩).set (X - 2).toNat ⟨10, 5, 1, 0, 0⟩ ∧ (d9 b j).2 = (K6 b j X k).2 + 1 + 1 := by
 obtain rfl : k = (X - 1).toNat := by omega
 unfold K6 at h
 unfold d9 clD
 simp only [hX, if_pos h3, if_pos h]
 constructor
 ·first | trivial | rfl
 ·exact (Int.add_assoc _ 1 1).symm
theorem pw3 (b : List UInt8) {i : Int} (h0 : 0 ≤ i) (h1 : i ≤ 1000000000) : IntKind.i64.wrap (1 + pk b i 3) = 1 + pk b i 3 := by
 have := V0 b (i := i) (m := 3) h0 h1
 exact w64 (by omega) (by omega)
theorem bD5 (b : List UInt8) {j : Int} (X : Int) (r0 : 0 ≤ j) (r1 : j ≤ 10000000) (k : Nat) : (K6 b j X k).1.length = k ∧ (w5 b j).2 + 1 ≤ (K6 b j X k).2 ∧ (K6 b j X k).2 ≤ (w5 b j).2 + 1 + 5 * k :=
 bw7 b ((w5 b j).2 + 1) _ _ X k
end
abbrev ay0 (b : List UInt8) (j : Int) (X : Int) (k : Nat) := Q2 b (K6 b j X k).snd (n7 b j).vars.length (n7 b j).arrays.length (k : Int) X
abbrev ax9 (b : List UInt8) (j : Int) : List It := [.box [.ref 1, iA (d9 b j).snd], dY b, .row 3 (D.ints (d9 b j).fst.vars), .row 3 (D.ints (d9 b j).fst.arrays), .row 122 (D.instrs (d9 b j).fst.list)]
abbrev aH6 : It := .box [.v (.slice none 0 0), .v (.slice none 0 0), .v (.slice none 0 0)]
abbrev ap4 (b : List UInt8) (j : Int) : It := .row 3 (D.ints (n7 b j).arrays)
abbrev ap3 (b : List UInt8) (j : Int) : It := .row 3 (D.ints (n7 b j).vars)
abbrev bs0 (b : List UInt8) (j : Int) (X : Int) (k : Nat) : It := .row 122 (D.instrs ((((K6 b j X k).fst ++ ([c7.mk 13 0 0 0 0] ++ [])).set 0 (c7.mk 1 5 (1 + pk b ((K6 b j X k).snd + 1) 3) 0 0)).set (X - 2).toNat (c7.mk 10 5 1 0 0)))
abbrev aX2 (b : List UInt8) (j : Int) (X : Int) (k : Nat) : It := .row 122 (D.instrs ((K6 b j X k).fst ++ ([c7.mk 13 0 0 0 0] ++ [])))
abbrev ak3 (X : Int) (r0 : List (Nat × AV)) : List (Nat × AV) := (0, .ptr 0 0) :: (2, .ptr 2 0) :: (4, .ptr 5 0) :: (5, iA X) :: r0
abbrev ao8 (b : List UInt8) (j : Int) (r0 : List It) : List It := dY b :: aH6 :: ap3 b j :: ap4 b j :: .box [.ref 3, .ref 4, .ref 6] :: r0
theorem bb5 (b : List UInt8) (j X : Int) (hX : nm b (w5 b j).2 lnL = X) (r0 : 0 ≤ j) (r1 : j ≤ 10000000) : j5.ok Try.prog (cdC b j) := by
  have hbd := bj2 b r0 r1; have hnum : j5.ok Try.prog ⟨27, [.ptr 0 0, .ref 2], [.box [.ref 1, iA (w5 b j).2], dY b, dI lnL], [.box [.ref 1, iA ((w5 b j).2 + 1)], dY b, dI lnL], iA X⟩ := hX ▸ H3 b (w5 b j).2 lnL (List.cons_ne_nil _ _) (by omega) (by omega); refine F5 60 Try.func81 [.box [.ref 1, iA j], dY b] [(0, .ptr 0 0)] fun G => ?_; have hop : 1 ≤ X ∧ X ≤ 12 := hX ▸ by4 b (by omega) (by omega); refine wp_seq (i7 G d8 [0, 1, 2] [.box [.ref 1, iA j], dY b, aH6] [(0, .ptr 0 0), (2, .ptr 2 0)] fun G => b0 (wp_seq (i7 G (r7 1 [0, 1] (Z5 b j (by assumption) (by assumption))) [0, 1, 2, 11, 12, 13, 19] [.box [.ref 1, iA (w5 b j).snd], dY b, aH6, ap3 b j, ap4 b j, .tree (D.stmts (n7 b j).body), .box [.ref 3, .ref 4, .tref 5]] [(0, .ptr 0 0), (2, .ptr 2 0), (3, .ptr 6 0)] fun G => b0 (wp_seq (i7 G d8 [0, 1, 2, 3, 4, 47] [.box [.ref 1, iA (w5 b j).snd], dY b, aH6, ap3 b j, ap4 b j, .box [.ref 3, .ref 4, .v (.slice none 0 0)]] [(0, .ptr 0 0), (2, .ptr 2 0), (4, .ptr 5 0)] fun G => b0 (wp_seq (i7 G (r7 2 [0, 1, 14] (j5.lend hnum [.no, .no, .row 3])) (rg 6) [.box [.ref 1, iA ((w5 b j).snd + 1)], dY b, aH6, ap3 b j, ap4 b j, .box [.ref 3, .ref 4, .v (.slice none 0 0)]] (ak3 X []) fun G => b0 (wp_seq (wp_seq (D6 G d8 (ak3 X [(6, iA 0)]) fun G => b0 (wp_block ?_))))))))))); obtain ⟨ρ, G⟩ := G.nil 6 122 (.instrs []) 5 [.box [.ref 1, iA ((w5 b j).snd + 1)], dY b, .box [.v (.slice none 0 0), .v (.slice none 0 0), .v (.slice none 0 0)], .row 3 (D.ints (n7 b j).vars), .row 3 (D.ints (n7 b j).arrays), .box [.ref 3, .ref 4, .ref 6]] (ak3 X [(6, iA 0)]); refine t6 (κ := Nat) (fun k => (k : Int) ≤ X - 1) (fun k => (X - 1).toNat - k) (fun k => (.box [.ref 1, iA (K6 b j X k).2] :: (ao8 b j [.row 122 (.instrs (K6 b j X k).1)]))) (fun k => (ak3 X [(6, iA k)])) 0 (by omega) (s5.at G _ _) ?_; clear G; intro k ρ a w hp G; replace G := s5.at G (.box [.ref 1, iA (K6 b j X k).snd] :: (ao8 b j [.row 122 (D.instrs (K6 b j X k).fst)])) (ak3 X [(6, iA k)]); have hrs := bD5 b X r0 r1 k; refine wp_seq (wp_seq (A0 G d8 [(20, bA (decide ((k : Int) < X - 1)))] [wO (X - 1)] (o1 (by omega)) fun G => b0 (rcD G (fun h0 q0 => ?_) fun h0 q0 => ?_)))
  ·
   refine wp_exit (t3 (t3 (t2 (b0 (wp_seq (G4 G d8 [0, 1, 2, 3, 4, 5, 39] (.box [.ref 1, iA (K6 b j X k).snd] :: (ao8 b j [aX2 b j X k])) (ak3 X []) (aP ((K6 b j X k).fst.length + ([c7.mk (13 : Int) (0 : Int) (0 : Int) (0 : Int) (0 : Int)] ++ []).length) 40 []) (aK (by simp only [bR8, bS1, bS6, bU7]; omega) bS4) fun G => b0 (wp_seq (wp_seq ?_)))))))); cases h1 : (decide (X > 3))
   · have q1 := T8 h1; refine j7 G (E7 (fc h1 fz) [(3, 0), (4, 0), (5, 0), (1006, 0)]) [(45, bA false)] fun G => b0 (rF G false (by kernel_rfl) (wp_skip (b0 (wp_seq (i7 G d8 [0, 1, 2, 3, 4, 6] [.box [.ref 1, iA (K6 b j X k).snd], dY b, .box (pL 3), ap3 b j, ap4 b j, aX2 b j X k] [(2, .ptr 2 0)] fun G => b0 (wp_ret ?_)))))); exact D8 G [0, 1, 3, 4, 5] (by show _ = mR [0, 1, 3, 4, 5] (ax9 b j); unfold ax9; have e1 : ((d9 b j).snd : Int) = ((K6 b j X k).snd) := ((bI3 hX (by omega) (by omega)).2); have e2 : ((d9 b j).fst.list : List c7) = ((K6 b j X k).fst ++ ([c7.mk 13 0 0 0 0] ++ [])) := ((bI3 hX (by omega) (by omega)).1); (first | rw [e1, e2] | simp only [e1, e2]) <;> rfl)
   ·
    have q1 := T7 h1; refine i7 G (K9 (A2 4 [0, 1] (n5 b ((K6 b j X k).snd) 4 (by omega) (by omega)) K8) (fc h1 fz) [(3, 0), (4, 0), (5, 0), (1006, 0)]) (rg 7) (.box [.ref 1, iA ((K6 b j X k).snd + 1)] :: (ao8 b j [aX2 b j X k])) (ak3 X [(45, bA (pk b (K6 b j X k).snd 4 == 0))]) fun G => b0 (H6 G (fun h2 q2 => ?_) fun h2 q2 => ?_)
    · refine wp_skip (b0 (wp_seq (i7 G d8 [0, 1, 2, 3, 4, 6] [.box [.ref 1, iA ((K6 b j X k).snd + 1)], dY b, .box (pL 3), ap3 b j, ap4 b j, aX2 b j X k] [(2, .ptr 2 0)] fun G => b0 (wp_ret ?_)))); exact D8 G [0, 1, 3, 4, 5] (by show _ = mR [0, 1, 3, 4, 5] (ax9 b j); unfold ax9; have e1 : ((d9 b j).snd : Int) = ((K6 b j X k).snd + 1) := ((bI2 hX (by omega) (by omega) (by omega)).2); have e2 : ((d9 b j).fst.list : List c7) = ((K6 b j X k).fst ++ ([c7.mk 13 0 0 0 0] ++ [])) := ((bI2 hX (by omega) (by omega) (by omega)).1); (first | rw [e1, e2] | simp only [e1, e2]) <;> rfl)
    · refine wp_seq (C8 G (r7 3 [0, 1] (n5 b ((K6 b j X k).snd + 1) 3 (by omega) (by omega))) [0, 1, 0, 4, 12, 28, 63, 127] (rg 7) (.box [.ref 1, iA ((K6 b j X k).snd + 1 + 1)] :: (ao8 b j [.row 122 (D.instrs (((K6 b j X k).fst ++ ([c7.mk 13 0 0 0 0] ++ [])).set 0 (c7.mk 1 5 (1 + pk b ((K6 b j X k).snd + 1) 3) 0 0)))])) [(2, .ptr 2 0), (4, .ptr 5 0), (5, iA X)] [wO ((1 : Int) + pk b ((K6 b j X k).snd + 1) (3 : Int)), (0 : Int) ≤ 0, (0 : Int) < (((K6 b j X k).fst ++ ([c7.mk (13 : Int) (0 : Int) (0 : Int) (0 : Int) (0 : Int)] ++ [])).length : Int), (0 : Nat) < ((K6 b j X k).fst ++ ([c7.mk (13 : Int) (0 : Int) (0 : Int) (0 : Int) (0 : Int)] ++ [])).length] ⟨(pw3 b (by omega) (by omega)), (by omega), (by simp [h0, h1, h2]), (by simp [h0, h1, h2]), bS4⟩ fun G => b0 (G4 G d8 (rg 7) (.box [.ref 1, iA ((K6 b j X k).snd + 1 + 1)] :: (ao8 b j [bs0 b j X k])) [(2, .ptr 2 0), (4, .ptr 5 0)] [wO (X - 2), (0 : Int) ≤ X - 2, X - 2 < ((((K6 b j X k).fst ++ ([c7.mk (13 : Int) (0 : Int) (0 : Int) (0 : Int) (0 : Int)] ++ [])).set (0 : Nat) (c7.mk (1 : Int) (5 : Int) ((1 : Int) + pk b ((K6 b j X k).snd + 1) (3 : Int)) (0 : Int) (0 : Int))).length : Int), (X - 2).toNat < (((K6 b j X k).fst ++ ([c7.mk (13 : Int) (0 : Int) (0 : Int) (0 : Int) (0 : Int)] ++ [])).set (0 : Nat) (c7.mk (1 : Int) (5 : Int) ((1 : Int) + pk b ((K6 b j X k).snd + 1) (3 : Int)) (0 : Int) (0 : Int))).length] ⟨oW (by omega), (by omega), (by simp only [bR8, bS1, bS6, bU7]; omega), (by simp only [bR8, bS1, bS6, bU7]; omega), bS4⟩ fun G => b0 (wp_seq (i7 G d8 [0, 1, 2, 3, 4, 6] [.box [.ref 1, iA ((K6 b j X k).snd + 1 + 1)], dY b, .box (pL 3), ap3 b j, ap4 b j, bs0 b j X k] [(2, .ptr 2 0)] fun G => b0 (wp_ret ?_))))); exact D8 G [0, 1, 3, 4, 5] (by show _ = mR [0, 1, 3, 4, 5] (ax9 b j); unfold ax9; have e1 : ((d9 b j).snd : Int) = ((K6 b j X k).snd + 1 + 1) := ((bI1 hX (by omega) (by omega) (by omega)).2); have e2 : ((d9 b j).fst.list : List c7) = ((((K6 b j X k).fst ++ ([c7.mk 13 0 0 0 0] ++ [])).set 0 (c7.mk 1 5 (1 + pk b ((K6 b j X k).snd + 1) 3) 0 0)).set (X - 2).toNat (c7.mk 10 5 1 0 0)) := ((bI1 hX (by omega) (by omega) (by omega)).1); (first | rw [e1, e2] | simp only [e1, e2]) <;> rfl)
  · refine wp_skip (b0 (wp_seq (wp_block (C8 G (r7 6 [0, 1, 3, 4, 6] (j5.lend (aU1 b ((K6 b j X k).snd) ((n7 b j).vars) ((n7 b j).arrays) ((K6 b j X k).fst) ((k : Int)) X (by omega) (by omega) (by omega) (by omega)) [.no, .no, .row 3, .row 3, .row 122])) [0, 1, 0, 0, 0, 0, 60, 124, 255, 511, 1023] [0, 1, 2, 3, 4, 5, 71] (.box [.ref 1, iA (ay0 b j X k).snd] :: (ao8 b j [.row 122 (D.instrs ((K6 b j X k).fst ++ ([c7.mk (ay0 b j X k).fst.op (ay0 b j X k).fst.a (ay0 b j X k).fst.b (ay0 b j X k).fst.c (ay0 b j X k).fst.d] ++ [])))])) (ak3 X [(6, iA k)]) (aP ((K6 b j X k).fst.length + ([c7.mk (Q2 b (K6 b j X k).snd (n7 b j).vars.length (n7 b j).arrays.length (k : Int) X).fst.op (Q2 b (K6 b j X k).snd (n7 b j).vars.length (n7 b j).arrays.length (k : Int) X).fst.a (Q2 b (K6 b j X k).snd (n7 b j).vars.length (n7 b j).arrays.length (k : Int) X).fst.b (Q2 b (K6 b j X k).snd (n7 b j).vars.length (n7 b j).arrays.length (k : Int) X).fst.c (Q2 b (K6 b j X k).snd (n7 b j).vars.length (n7 b j).arrays.length (k : Int) X).fst.d] ++ []).length) 40 []) (aK (by simp only [bR8, bS1, bS6, bU7]; omega) bS4) fun G => i8 (b0 (A0 G d8 [(6, iA ((k : Int) + 1))] [wO ((k : Int) + 1)] (o1 (by omega)) fun G => b0 ?_)))))); exact H9 G (k + 1) (by assumption) (by omega) (rg 7)
theorem ah3 (b : List UInt8) (j : Int) (r0 : 0 ≤ j) (r1 : j ≤ 10000000) : j5.ok Try.prog (cdC b j) := bb5 b j _ rfl r0 r1
abbrev muC (b : List UInt8) (j : Int) (vs ars : List Int) (l : List c7) : j5 := ⟨54, [.ptr 0 0, .agg [.ref 2, .ref 3, .ref 4]], [.box [.ref 1, iA j], dY b, dI vs, dI ars, dN l], [.box [.ref 1, iA (muD b j ⟨vs, ars, l⟩).2], dY b, dI vs, dI ars, dN l, rI (muD b j ⟨vs, ars, l⟩).1.vars, rI (muD b j ⟨vs, ars, l⟩).1.arrays, rN (muD b j ⟨vs, ars, l⟩).1.list], .agg [.ref 5, .ref 6, .ref 7]⟩
section
variable {b : List UInt8} {j : Int} {vs ars : List Int} {l : List c7}
theorem bO8 (h : (([] ++ l).length : Int) = 0) : muD b j ⟨vs, ars, l⟩ = (⟨[] ++ vs, [] ++ ars, [] ++ l⟩, j) := by
 unfold muD; rw [if_pos (by rw [bV6] at h; show l.length = 0; omega)]
 rfl
theorem bP4 (h : ¬ (([] ++ l).length : Int) = 0) (h1 : pk b j 60 = 0) : muD b j ⟨vs, ars, l⟩ = (⟨vs, ars, bx1 l 0 (nm b (j + 1) bF3)⟩, j + 1 + 1) := by
 unfold muD; rw [if_neg (by rw [bV6] at h; show ¬ l.length = 0; omega), if_pos h1, Int.add_assoc]; rfl
theorem bP3 (h : ¬ (([] ++ l).length : Int) = 0) (h1 : pk b j 60 = 1) : muD b j ⟨vs, ars, l⟩ = (⟨vs, ars, bc9 l (pk b (j + 1) l.length).toNat (nm b (j + 1 + 1) bF2)⟩, j + 1 + 1 + 1) := by
 unfold muD; rw [if_neg (by rw [bV6] at h; show ¬ l.length = 0; omega), if_neg (by omega), if_pos h1, Int.add_assoc j 1 1, Int.add_assoc]; rfl
theorem bP2 (h : ¬ (([] ++ l).length : Int) = 0) (h1 : pk b j 60 = 2) : muD b j ⟨vs, ars, l⟩ = (⟨vs, ars, ([] ++ l).set ((([] ++ l).length : Int) - 1).toNat ⟨12, 0, 0, 0, 0⟩⟩, j + 1) := by
 unfold muD; rw [if_neg (by rw [bV6] at h; show ¬ l.length = 0; omega), if_neg (by omega), if_neg (by omega), if_pos h1]
 rw [bV6] at h ⊢
 exact congrArg (fun i => ((⟨vs, ars, l.set i _⟩ : d7), j + 1)) (by show l.length - 1 = _; omega)
theorem bP1 (h : ¬ (([] ++ l).length : Int) = 0) (h1 : pk b j 60 = 3) : muD b j ⟨vs, ars, l⟩ = (⟨vs, ars, ([] ++ l).set ((([] ++ l).length : Int) - 1).toNat ⟨8, 0, 0, 0, 0⟩⟩, j + 1) := by
 unfold muD; rw [if_neg (by rw [bV6] at h; show ¬ l.length = 0; omega), if_neg (by omega), if_neg (by omega), if_neg (by omega), if_pos h1]
 rw [bV6] at h ⊢
 exact congrArg (fun i => ((⟨vs, ars, l.set i _⟩ : d7), j + 1)) (by show l.length - 1 = _; omega)
theorem bP0 (h : ¬ (([] ++ l).length : Int) = 0) (h1 : pk b j 60 = 4) : muD b j ⟨vs, ars, l⟩ = (⟨vs, ars, bx2 l (pk b (j + 1) l.length).toNat (nm b (j + 1 + 1) bF1)⟩, j + 1 + 1 + 1) := by
 unfold muD; rw [if_neg (by rw [bV6] at h; show ¬ l.length = 0; omega), if_neg (by omega), if_neg (by omega), if_neg (by omega), if_neg (by omega), if_pos h1, Int.add_assoc j 1 1, Int.add_assoc]; rfl
theorem bO9 (h : ¬ (([] ++ l).length : Int) = 0) (h1 : pk b j 60 = 5) : muD b j ⟨vs, ars, l⟩ = (⟨[], ars, l⟩, j + 1) := by
 unfold muD; rw [if_neg (by rw [bV6] at h; show ¬ l.length = 0; omega), if_neg (by omega), if_neg (by omega), if_neg (by omega), if_neg (by omega), if_neg (by omega), if_pos h1]
theorem bO7 (h : ¬ (([] ++ l).length : Int) = 0) (h1 : ¬ pk b j 60 = 0 ∧ ¬ pk b j 60 = 1 ∧ ¬ pk b j 60 = 2 ∧ ¬ pk b j 60 = 3 ∧ ¬ pk b j 60 = 4 ∧ ¬ pk b j 60 = 5) : muD b j ⟨vs, ars, l⟩ = (⟨[] ++ vs, [] ++ ars, [] ++ l⟩, j + 1) := by
 unfold muD; rw [if_neg (by rw [bV6] at h; show ¬ l.length = 0; omega), if_neg (by omega), if_neg (by omega), if_neg (by omega), if_neg (by omega), if_neg (by omega), if_neg (by omega)]
 rfl
theorem bO6 (h : ¬ (([] ++ l).length : Int) = 0) (r0 : 0 ≤ j) (r1 : j ≤ 100000000) : 0 ≤ pk b (j + 1) (([] ++ l).length : Int) ∧ pk b (j + 1) (([] ++ l).length : Int) < (([] ++ l).length : Int) := bo0 b (by omega) (by omega) (by omega)
end
abbrev O7 (b : List UInt8) (j : Int) (vs : List Int) (ars : List Int) (l : List c7) : List It := [.box [.ref 1, iA (muD b j (d7.mk vs ars l)).snd], dY b, dI vs, dI ars, dN l, .row 3 (D.ints (muD b j (d7.mk vs ars l)).fst.vars), .row 3 (D.ints (muD b j (d7.mk vs ars l)).fst.arrays), .row 122 (D.instrs (muD b j (d7.mk vs ars l)).fst.list)]
abbrev br9 (b : List UInt8) (j : Int) (l : List c7) : It := .row 122 (D.instrs (([] ++ l).set (pk b (j + 1) (([] ++ l).length : Int)).toNat (c7.mk (([] ++ l).getD (pk b (j + 1) (([] ++ l).length : Int)).toNat aK4).op (nm b (j + 1 + 1) ([-1] ++ ([14] ++ ([0] ++ ([400] ++ []))))) (([] ++ l).getD (pk b (j + 1) (([] ++ l).length : Int)).toNat aK4).b (([] ++ l).getD (pk b (j + 1) (([] ++ l).length : Int)).toNat aK4).c (([] ++ l).getD (pk b (j + 1) (([] ++ l).length : Int)).toNat aK4).d)))
abbrev br8 (b : List UInt8) (j : Int) (l : List c7) : It := .row 122 (D.instrs (([] ++ l).set (pk b (j + 1) (([] ++ l).length : Int)).toNat (c7.mk (([] ++ l).getD (pk b (j + 1) (([] ++ l).length : Int)).toNat aK4).op (([] ++ l).getD (pk b (j + 1) (([] ++ l).length : Int)).toNat aK4).a (([] ++ l).getD (pk b (j + 1) (([] ++ l).length : Int)).toNat aK4).b (([] ++ l).getD (pk b (j + 1) (([] ++ l).length : Int)).toNat aK4).c (nm b (j + 1 + 1) ([1] ++ ([-1] ++ []))))))
abbrev ae9 : It := .box [.v (.slice none 0 0), .v (.slice none 0 0), .v (.slice none 0 0)]
abbrev br7 (b : List UInt8) (j : Int) (l : List c7) : It := .row 122 (D.instrs (([] ++ l).set 0 (c7.mk (nm b (j + 1) ([0] ++ ([14] ++ ([1] ++ ([12] ++ []))))) (([] ++ l).getD 0 aK4).a (([] ++ l).getD 0 aK4).b (([] ++ l).getD 0 aK4).c (([] ++ l).getD 0 aK4).d)))
abbrev R4 (vs : List Int) (ars : List Int) (r0 : List It) : List It := .row 3 (D.ints ([] ++ vs)) :: .row 3 (D.ints ([] ++ ars)) :: r0
theorem au6 (b : List UInt8) (j : Int) (vs ars : List Int) (l : List c7) (hb : vs.length ≤ 1048576 ∧ ars.length ≤ 1048576 ∧ l.length ≤ 9000000) (r0 : 0 ≤ j) (r1 : j ≤ 100000000) : j5.ok Try.prog (muC b j vs ars l) := by
  refine F5 82 Try.func54 [.box [.ref 1, iA j], dY b, dI vs, dI ars, dN l] [(0, .ptr 0 0), (1, pA 2)] fun G => ?_
  have hmp := fun (h : ¬ (([] ++ l).length : Int) = 0) => bO6 (b := b) (j := j) (l := l) h r0 r1
  have hll : ([] ++ l).length ≤ 9000000 := hb.2.2; refine wp_seq (i7 G d8 [0, 1, 2, 3, 4, 5, 13] [.box [.ref 1, iA j], dY b, dI vs, dI ars, dN l, .box (pL 2), ae9] [(0, .ptr 0 0), (3, .ptr 5 0), (4, .ptr 6 0)] fun G => b0 (wp_seq (C8 G d8 [0, 0, 2, 7, 0, 0, 32, 127, 0, 0, 512, 2047, 4095, 0, 16383] [0, 1, 2, 3, 4, 6, 31, 63, 95, 111] (.box [.ref 1, iA j] :: dY b :: dI vs :: dI ars :: dN l :: ae9 :: (R4 vs ars [.row 122 (D.instrs ([] ++ l)), .box (pL 6)])) [(0, .ptr 0 0), (4, .ptr 5 0), (5, .ptr 9 0)] (aP ((0 : Nat) + vs.length) 8 (aP ((0 : Nat) + ars.length) 8 (aP ((0 : Nat) + l.length) 40 []))) (aK (by omega) (aK (by omega) (aK (by omega) bS4))) fun G => b0 (wp_seq (j7 G d8 [(6, iA (([] ++ l).length : Int))] fun G => b0 (wp_seq (wp_seq (j7 G d8 [(24, bA ((([] ++ l).length : Int) == 0))] fun G => b0 (H6 G (fun h0 q0 => ?_) fun h0 q0 => ?_)))))))))
  ·
   refine wp_skip (b0 (wp_seq (wp_seq (i7 G (r7 1 [0, 1] (n5 b j 60 (by assumption) (by omega))) (rg 10) (.box [.ref 1, iA (j + 1)] :: dY b :: dI vs :: dI ars :: dN l :: ae9 :: (R4 vs ars [.row 122 (D.instrs ([] ++ l)), .box (pL 6)])) [(0, .ptr 0 0), (4, .ptr 5 0), (5, .ptr 9 0), (6, iA (([] ++ l).length : Int)), (27, iA (pk b j 60))] fun G => b0 (wp_block (wp_seq (j7 G d8 [(28, bA (pk b j 60 == 0))] fun G => b0 (H6 G (fun h1 q1 => ?_) fun h1 q1 => ?_))))))))
   ·
    refine wp_seq (j7 G d8 [(37, bA (pk b j 60 == 1))] fun G => b0 (H6 G (fun h2 q2 => ?_) fun h2 q2 => ?_))
    ·
     refine wp_seq (j7 G d8 [(49, bA (pk b j 60 == 2))] fun G => b0 (H6 G (fun h3 q3 => ?_) fun h3 q3 => ?_))
     ·
      refine wp_seq (j7 G d8 [(57, bA (pk b j 60 == 3))] fun G => b0 (H6 G (fun h4 q4 => ?_) fun h4 q4 => ?_))
      ·
       refine wp_seq (j7 G d8 [(65, bA (pk b j 60 == 4))] fun G => b0 (H6 G (fun h5 q5 => ?_) fun h5 q5 => ?_))
       ·
        refine wp_seq (j7 G d8 [(77, bA (pk b j 60 == 5))] fun G => b0 (H6 G (fun h6 q6 => ?_) fun h6 q6 => ?_))
        · refine wp_skip (i8 (b0 (wp_seq (i7 G d8 (rg 9) (.box [.ref 1, iA (j + 1)] :: dY b :: dI vs :: dI ars :: dN l :: .box (pL 6) :: (R4 vs ars [.row 122 (D.instrs ([] ++ l))])) [(4, .ptr 5 0)] fun G => b0 (wp_ret ?_))))); exact D8 G [0, 1, 2, 3, 4, 6, 7, 8] (by show _ = mR [0, 1, 2, 3, 4, 6, 7, 8] (O7 b j vs ars l); unfold O7; rw [bO7 (by omega) (by omega)] <;> rfl)
        · refine i7 G d8 [0, 1, 2, 3, 4, 5, 7, 8, 9, 10] [.box [.ref 1, iA (j + 1)], dY b, dI vs, dI ars, dN l, ae9, .row 3 (D.ints ([] ++ ars)), .row 122 (D.instrs ([] ++ l)), .box [.ref 9, .ref 6, .ref 7], .row 3 (D.ints [])] [(4, .ptr 5 0), (5, .ptr 8 0)] fun G => i8 (b0 (wp_seq (i7 G d8 [0, 1, 2, 3, 4, 5, 6, 7, 9] [.box [.ref 1, iA (j + 1)], dY b, dI vs, dI ars, dN l, .box [.ref 8, .ref 6, .ref 7], .row 3 (D.ints ([] ++ ars)), .row 122 (D.instrs ([] ++ l)), .row 3 (D.ints [])] [(4, .ptr 5 0)] fun G => b0 (wp_ret ?_)))); exact D8 G [0, 1, 2, 3, 4, 8, 6, 7] (by show _ = mR [0, 1, 2, 3, 4, 8, 6, 7] (O7 b j vs ars l); unfold O7; rw [bO9 (by omega) (by omega)] <;> rfl)
       · refine C8 G (K9 (A2 4 [0, 1] (n5 b (j + 1) ((([] ++ l).length : Int)) (by omega) (by omega)) (A2 7 [0, 1, 58] (j5.lend (H3 b (j + 1 + 1) ([1] ++ ([-1] ++ [])) (by simp [h0, h1, h2, h3, h4, h5]) (by omega) (by omega)) [.no, .no, .row 3]) K8)) fz []) [0, 1, 0, 0, 12, 0, 0, 124, 255, 511, 1023] (rg 10) (.box [.ref 1, iA (j + 1 + 1 + 1)] :: dY b :: dI vs :: dI ars :: dN l :: ae9 :: (R4 vs ars [br8 b j l, .box (pL 6)])) [(4, .ptr 5 0), (5, .ptr 9 0)] (iX (pk b (j + 1) (([] ++ l).length : Int)) ((pk b (j + 1) (([] ++ l).length : Int)).toNat) (([] ++ l).length) []) (iK (by omega) bS4) fun G => i8 (b0 (wp_seq (i7 G d8 (rg 9) (.box [.ref 1, iA (j + 1 + 1 + 1)] :: dY b :: dI vs :: dI ars :: dN l :: .box (pL 6) :: (R4 vs ars [br8 b j l])) [(4, .ptr 5 0)] fun G => b0 (wp_ret ?_)))); exact D8 G [0, 1, 2, 3, 4, 6, 7, 8] (by show _ = mR [0, 1, 2, 3, 4, 6, 7, 8] (O7 b j vs ars l); unfold O7; rw [bP0 (by omega) (by omega)] <;> rfl)
      · refine G4 G d8 (rg 10) (.box [.ref 1, iA (j + 1)] :: dY b :: dI vs :: dI ars :: dN l :: ae9 :: (R4 vs ars [.row 122 (D.instrs (([] ++ l).set ((([] ++ l).length : Int) - 1).toNat (c7.mk 8 0 0 0 0))), .box (pL 6)])) [(4, .ptr 5 0), (5, .ptr 9 0)] ((wO ((([] ++ l).length : Int) - 1)) :: (iX ((([] ++ l).length : Int) - 1) (((([] ++ l).length : Int) - 1).toNat) (([] ++ l).length) [])) ⟨oW (by omega), (iK (by omega) bS4)⟩ fun G => i8 (b0 (wp_seq (i7 G d8 (rg 9) (.box [.ref 1, iA (j + 1)] :: dY b :: dI vs :: dI ars :: dN l :: .box (pL 6) :: (R4 vs ars [.row 122 (D.instrs (([] ++ l).set ((([] ++ l).length : Int) - 1).toNat (c7.mk 8 0 0 0 0)))])) [(4, .ptr 5 0)] fun G => b0 (wp_ret ?_)))); exact D8 G [0, 1, 2, 3, 4, 6, 7, 8] (by show _ = mR [0, 1, 2, 3, 4, 6, 7, 8] (O7 b j vs ars l); unfold O7; rw [bP1 (by omega) (by omega)] <;> rfl)
     · refine G4 G d8 (rg 10) (.box [.ref 1, iA (j + 1)] :: dY b :: dI vs :: dI ars :: dN l :: ae9 :: (R4 vs ars [.row 122 (D.instrs (([] ++ l).set ((([] ++ l).length : Int) - 1).toNat (c7.mk 12 0 0 0 0))), .box (pL 6)])) [(4, .ptr 5 0), (5, .ptr 9 0)] ((wO ((([] ++ l).length : Int) - 1)) :: (iX ((([] ++ l).length : Int) - 1) (((([] ++ l).length : Int) - 1).toNat) (([] ++ l).length) [])) ⟨oW (by omega), (iK (by omega) bS4)⟩ fun G => i8 (b0 (wp_seq (i7 G d8 (rg 9) (.box [.ref 1, iA (j + 1)] :: dY b :: dI vs :: dI ars :: dN l :: .box (pL 6) :: (R4 vs ars [.row 122 (D.instrs (([] ++ l).set ((([] ++ l).length : Int) - 1).toNat (c7.mk 12 0 0 0 0)))])) [(4, .ptr 5 0)] fun G => b0 (wp_ret ?_)))); exact D8 G [0, 1, 2, 3, 4, 6, 7, 8] (by show _ = mR [0, 1, 2, 3, 4, 6, 7, 8] (O7 b j vs ars l); unfold O7; rw [bP2 (by omega) (by omega)] <;> rfl)
    · refine C8 G (K9 (A2 4 [0, 1] (n5 b (j + 1) ((([] ++ l).length : Int)) (by omega) (by omega)) (A2 7 [0, 1, 58] (j5.lend (H3 b (j + 1 + 1) ([-1] ++ ([14] ++ ([0] ++ ([400] ++ [])))) (by simp [h0, h1, h2]) (by omega) (by omega)) [.no, .no, .row 3]) K8)) fz []) [0, 1, 0, 0, 12, 0, 0, 124, 255, 511, 1023] (rg 10) (.box [.ref 1, iA (j + 1 + 1 + 1)] :: dY b :: dI vs :: dI ars :: dN l :: ae9 :: (R4 vs ars [br9 b j l, .box (pL 6)])) [(4, .ptr 5 0), (5, .ptr 9 0)] (iX (pk b (j + 1) (([] ++ l).length : Int)) ((pk b (j + 1) (([] ++ l).length : Int)).toNat) (([] ++ l).length) []) (iK (by omega) bS4) fun G => i8 (b0 (wp_seq (i7 G d8 (rg 9) (.box [.ref 1, iA (j + 1 + 1 + 1)] :: dY b :: dI vs :: dI ars :: dN l :: .box (pL 6) :: (R4 vs ars [br9 b j l])) [(4, .ptr 5 0)] fun G => b0 (wp_ret ?_)))); exact D8 G [0, 1, 2, 3, 4, 6, 7, 8] (by show _ = mR [0, 1, 2, 3, 4, 6, 7, 8] (O7 b j vs ars l); unfold O7; rw [bP3 (by omega) (by omega)] <;> rfl)
   · refine C8 G (r7 4 [0, 1, 34] (j5.lend (H3 b (j + 1) ([0] ++ ([14] ++ ([1] ++ ([12] ++ [])))) (by simp [h0, h1]) (by omega) (by omega)) [.no, .no, .row 3])) [0, 1, 0, 0, 12, 31, 63, 127] (rg 10) (.box [.ref 1, iA (j + 1 + 1)] :: dY b :: dI vs :: dI ars :: dN l :: ae9 :: (R4 vs ars [br7 b j l, .box (pL 6)])) [(4, .ptr 5 0), (5, .ptr 9 0)] (iX 0 0 (([] ++ l).length) []) (iK (by omega) bS4) fun G => i8 (b0 (wp_seq (i7 G d8 (rg 9) (.box [.ref 1, iA (j + 1 + 1)] :: dY b :: dI vs :: dI ars :: dN l :: .box (pL 6) :: (R4 vs ars [br7 b j l])) [(4, .ptr 5 0)] fun G => b0 (wp_ret ?_)))); exact D8 G [0, 1, 2, 3, 4, 6, 7, 8] (by show _ = mR [0, 1, 2, 3, 4, 6, 7, 8] (O7 b j vs ars l); unfold O7; rw [bP4 (by omega) (by omega)] <;> rfl)
  · refine wp_seq (i7 G d8 (rg 10) (.box [.ref 1, iA j] :: dY b :: dI vs :: dI ars :: dN l :: .box (pL 6) :: (R4 vs ars [.row 122 (D.instrs ([] ++ l)), .box (pL 6)])) [(0, .ptr 0 0), (4, .ptr 5 0), (5, .ptr 9 0), (6, iA (([] ++ l).length : Int))] fun G => b0 (wp_ret (n8 ?_))); exact D8 G [0, 1, 2, 3, 4, 6, 7, 8] (by show _ = mR [0, 1, 2, 3, 4, 6, 7, 8] (O7 b j vs ars l); unfold O7; rw [bO8 (by omega)] <;> rfl)
def jpE (b : List UInt8) (j : Int) : d7 × Int :=
 if pk b (d9 b j).2 2 = 0 then (if Y9 (n7 b ((d9 b j).2 + 1)) = true then ⟨cvP (n7 b ((d9 b j).2 + 1)), caP (n7 b ((d9 b j).2 + 1)), (j9 (n7 b ((d9 b j).2 + 1))).1⟩ else (d9 b j).1, (w5 b ((d9 b j).2 + 1)).2)
 else ((d9 b j).1, (d9 b j).2 + 1)
def U7 (b : List UInt8) (c : d7) (q : Int) : d7 × Int :=
 if c.list.length ≤ 40 then (⟨c.vars, c.arrays, (t8 b c.list.length (c.list, q) (c.list.length - 1)).1⟩, (t8 b c.list.length (c.list, q) (c.list.length - 1)).2) else (c, q)
def jpD (b : List UInt8) (j : Int) : d7 × Int := U7 b (jpE b j).1 (jpE b j).2
section
variable {b : List UInt8} {j q n : Int} {vs ars : List Int} {l : List c7} {x : List c7 × Int} {k : Nat}
theorem bQ3 (h : ¬ pk b (d9 b j).2 2 = 0) : jpD b j = U7 b (d9 b j).1 ((d9 b j).2 + 1) := by unfold jpD jpE; rw [if_neg h]
theorem bQ4 (h : pk b (d9 b j).2 2 = 0) (h2 : Y9 (n7 b ((d9 b j).2 + 1)) = false) : jpD b j = U7 b (d9 b j).1 (w5 b ((d9 b j).2 + 1)).2 := by unfold jpD jpE; rw [if_pos h, if_neg (by rw [h2]; decide)]
theorem bQ2 (h : pk b (d9 b j).2 2 = 0) (h2 : Y9 (n7 b ((d9 b j).2 + 1)) = true) : jpD b j = U7 b ⟨cvP (n7 b ((d9 b j).2 + 1)), caP (n7 b ((d9 b j).2 + 1)), (j9 (n7 b ((d9 b j).2 + 1))).1⟩ (w5 b ((d9 b j).2 + 1)).2 := by unfold jpD jpE; rw [if_pos h, if_pos h2]
theorem am5 (h : ((t8 b n x k).1.getD k aK4).op = 10 ∨ ((t8 b n x k).1.getD k aK4).op = 1) : t8 b n x (k + 1) = t8 b n x k := by
 rw [t8, jmS, if_neg (by omega)]
theorem a47 (h1 : ¬ ((t8 b n x k).1.getD k aK4).op = 10) (h2 : ¬ ((t8 b n x k).1.getD k aK4).op = 1) (h : ¬ pk b (t8 b n x k).2 4 = 0) : t8 b n x (k + 1) = ((t8 b n x k).1, (t8 b n x k).2 + 1) := by
 rw [t8, jmS, if_pos ⟨h1, h2⟩, if_neg h]
theorem a46 (h1 : ¬ ((t8 b n x k).1.getD k aK4).op = 10) (h2 : ¬ ((t8 b n x k).1.getD k aK4).op = 1) (h : pk b (t8 b n x k).2 4 = 0) : t8 b n x (k + 1) = ((t8 b n x k).1.set k ⟨8, (k : Int) + 1 + pk b ((t8 b n x k).2 + 1) (n - k - 1), 0, 0, 0⟩, (t8 b n x k).2 + 1 + 1) := by
 rw [t8, jmS, if_pos ⟨h1, h2⟩, if_pos h, Int.add_assoc _ 1 1]; rfl
theorem aS5 {c : d7} {k : Nat} (h : c.list.length ≤ 40) (hk : k = c.list.length - 1) : U7 b c q = (⟨c.vars, c.arrays, (t8 b c.list.length (c.list, q) k).1⟩, (t8 b c.list.length (c.list, q) k).2) := by
 subst hk; unfold U7; rw [if_pos h]
theorem by5 {c : d7} (h : ¬ c.list.length ≤ 40) : U7 b c q = (c, q) := by unfold U7; rw [if_neg h]
theorem ag9 (b : List UInt8) (c : d7) (q : Int) : (U7 b c q).1.list.length = c.list.length ∧ (U7 b c q).1.vars = c.vars ∧ (U7 b c q).1.arrays = c.arrays ∧ q ≤ (U7 b c q).2 ∧ (U7 b c q).2 ≤ q + 100 := by
 unfold U7
 split
 ·rename_i h
  obtain ⟨h1, h2, h3⟩ := by7 b c.list.length (c.list, q) (c.list.length - 1)
  refine ⟨h1, rfl, rfl, h2, ?_⟩
  have h3' : (t8 b c.list.length (c.list, q) (c.list.length - 1)).2 ≤ q + 2 * ((c.list.length - 1 : Nat) : Int) := h3
  show (t8 b c.list.length (c.list, q) (c.list.length - 1)).2 ≤ q + 100
  omega
 ·exact ⟨rfl, rfl, rfl, Int.le_refl _, by show q ≤ q + 100; omega⟩
theorem bF7 (b : List UInt8) {j : Int} (hj : 0 ≤ j) (hj2 : j ≤ 1000000) : j ≤ (jpE b j).2 ∧ (jpE b j).2 ≤ j + 400000 ∧ (jpE b j).1.list.length ≤ 400 ∧ (jpE b j).1.vars.length ≤ 1000 ∧ (jpE b j).1.arrays.length ≤ 1000 := by
 have h1 := bh8 b (j := j) hj (by omega)
 have h2 := bj2 b (j := (d9 b j).2 + 1) (by omega) (by omega)
 have h3 := aD0 b j
 have h4 := aD0 b ((d9 b j).2 + 1)
 have e1 : (d9 b j).1.vars = (n7 b j).vars := rfl
 have e2 : (d9 b j).1.arrays = (n7 b j).arrays := rfl
 unfold jpE
 split
 ·split
  ·rename_i h5
   have h6 : (an1 (n7 b ((d9 b j).2 + 1))).1.length ≤ 400 := by
    unfold Y9 at h5; rw [bR6, decide_eq_true_eq] at h5; exact h5.2
   refine ⟨by show j ≤ (w5 b ((d9 b j).2 + 1)).2; omega, by show (w5 b ((d9 b j).2 + 1)).2 ≤ _; omega, ?_, ?_, ?_⟩
   ·show (j9 (n7 b ((d9 b j).2 + 1))).1.length ≤ 400
    unfold j9; rw [if_pos h5]; exact h6
   ·show (cvP _).length ≤ 1000; rw [bH8 h5]; omega
   ·show (caP _).length ≤ 1000; rw [bI7 h5]; omega
  ·exact ⟨by show j ≤ (w5 b ((d9 b j).2 + 1)).2; omega, by show (w5 b ((d9 b j).2 + 1)).2 ≤ _; omega, by show (d9 b j).1.list.length ≤ 400; omega, by show (d9 b j).1.vars.length ≤ 1000; rw [e1]; omega, by show (d9 b j).1.arrays.length ≤ 1000; rw [e2]; omega⟩
 ·exact ⟨by show j ≤ (d9 b j).2 + 1; omega, by show (d9 b j).2 + 1 ≤ _; omega, by show (d9 b j).1.list.length ≤ 400; omega, by show (d9 b j).1.vars.length ≤ 1000; rw [e1]; omega, by show (d9 b j).1.arrays.length ≤ 1000; rw [e2]; omega⟩
end
abbrev jpC (b : List UInt8) (j : Int) (c : d7) (q : Int) : j5 := ⟨55, [.ptr 0 0], [.box [.ref 1, iA j], dY b], [.box [.ref 1, iA (U7 b c q).2], dY b, rI (U7 b c q).1.vars, rI (U7 b c q).1.arrays, rN (U7 b c q).1.list], .agg [.ref 2, .ref 3, .ref 4]⟩
theorem by6 (b : List UInt8) (n : Int) (l : List c7) (q : Int) (k : Nat) : (t8 b n (l, q) k).1.length = l.length ∧ q ≤ (t8 b n (l, q) k).2 ∧ (t8 b n (l, q) k).2 ≤ q + 2 * k := by7 b n (l, q) k
theorem bu3 {p : j8} {x : Bool} (hb : p.size ≤ 1048576) (h : Y9 p = x) : j5.ok Try.prog ⟨92, [pA 0], pS p, pS p ++ [rI (cvP p), rI (caP p), rN (j9 p).1], .tup [.agg [.ref 3, .ref 4, .ref 5], bA x]⟩ := h ▸ aj5 p hb
theorem bf5 {b : List UInt8} {n : Int} {x : List c7 × Int} {k : Nat} (h1 : (k : Int) + 1 < n) (h2 : n ≤ 40) (h3 : 0 ≤ (t8 b n x k).2) (h4 : (t8 b n x k).2 ≤ 100000000) : IntKind.i64.wrap ((k : Int) + 1 + pk b ((t8 b n x k).2 + 1) (n - k - 1)) = (k : Int) + 1 + pk b ((t8 b n x k).2 + 1) (n - k - 1) := by
 have := bo0 b (k := (t8 b n x k).2 + 1) (n := n - k - 1) (by omega) (by omega) (by omega)
 exact w64 (by omega) (by omega)
abbrev ab9 (b : List UInt8) (j : Int) (k : Nat) := t8 b ((d9 b j).fst.list.length : Int) ((d9 b j).fst.list, (d9 b j).snd + 1) k
abbrev ax8 : It := .box [.v (.slice none 0 0), .v (.slice none 0 0), .v (.slice none 0 0)]
abbrev ax7 (b : List UInt8) (j : Int) : AV := iA ((d9 b j).fst.list.length : Int)
abbrev aw8 (b : List UInt8) (j : Int) (r0 : List It) : List It := .row 3 (D.ints (d9 b j).fst.vars) :: .row 3 (D.ints (d9 b j).fst.arrays) :: r0
abbrev ao7 (r0 : List (Nat × AV)) : List (Nat × AV) := (0, .ptr 0 0) :: (2, .ptr 2 0) :: (3, .ptr 6 0) :: r0
theorem bb8 (b : List UInt8) (j : Int) (hpk : ¬ pk b (d9 b j).2 2 = 0) (r0 : 0 ≤ j) (r1 : j ≤ 1000000) : j5.ok Try.prog (jpC b j (d9 b j).1 ((d9 b j).2 + 1)) := by
  have hcd := bh8 b r0 (show j ≤ 10000000 by omega); refine F5 70 Try.func55 [.box [.ref 1, iA j], dY b] [(0, .ptr 0 0)] fun G => ?_; refine wp_seq (i7 G d8 [0, 1, 2] [.box [.ref 1, iA j], dY b, ax8] [(0, .ptr 0 0), (2, .ptr 2 0)] fun G => b0 (wp_seq (i7 G (r7 1 [0, 1] (ah3 b j (by assumption) (by omega))) [0, 1, 2, 11, 12, 13, 19] (.box [.ref 1, iA (d9 b j).snd] :: dY b :: ax8 :: (aw8 b j [.row 122 (D.instrs (d9 b j).fst.list), .box (pL 3)])) (ao7 []) fun G => b0 (wp_seq (wp_seq (i7 G (r7 1 [0, 1] (n5 b ((d9 b j).snd) 2 (by omega) (by omega))) (rg 7) (.box [.ref 1, iA ((d9 b j).snd + 1)] :: dY b :: ax8 :: (aw8 b j [.row 122 (D.instrs (d9 b j).fst.list), .box (pL 3)])) (ao7 [(12, bA (pk b (d9 b j).snd 2 == 0))]) fun G => b0 ?_)))))); cases h0 : (pk b (d9 b j).snd (2 : Int) == 0)
  ·
   have q0 := ne_of_beq_false h0; refine rF G _ h0 (wp_skip (b0 (wp_seq (j7 G d8 [(6, ax7 b j)] fun G => b0 (wp_seq (wp_seq (D6 G d8 (ao7 [(6, ax7 b j), (7, iA 0)]) fun G => b0 (wp_block ?_)))))))); refine t6 (κ := Nat) (fun k => (k = 0 ∨ (k + 1 ≤ (d9 b j).1.list.length ∧ (d9 b j).1.list.length ≤ 40))) (fun k => (d9 b j).1.list.length - k) (fun k => [.box [.ref 1, iA (t8 b (d9 b j).1.list.length ((d9 b j).1.list, (d9 b j).2 + 1) k).2], dY b, .box [.v (.slice none 0 0), .v (.slice none 0 0), .v (.slice none 0 0)], .row 3 (D.ints (d9 b j).fst.vars), .row 3 (D.ints (d9 b j).fst.arrays), .row 122 (.instrs (t8 b (d9 b j).1.list.length ((d9 b j).1.list, (d9 b j).2 + 1) k).1), .box (pL 3)]) (fun k => [(0, .ptr 0 0), (2, .ptr 2 0), (3, .ptr 6 0), (6, iA ((d9 b j).fst.list.length : Int)), (7, iA k)]) 0 (by omega) (s5.at G _ _) ?_; clear G; intro k ρ a w hp G; replace G := s5.at G (.box [.ref 1, iA (ab9 b j k).snd] :: dY b :: ax8 :: (aw8 b j [.row 122 (D.instrs (ab9 b j k).fst), .box (pL 3)])) (ao7 [(6, ax7 b j), (7, iA k)]); have hjm := by6 b (d9 b j).1.list.length ((d9 b j).1.list) ((d9 b j).2 + 1) k; refine wp_seq (wp_seq ?_); cases h1 : (decide ((k : Int) + 1 < ((d9 b j).fst.list.length : Int)))
   · have q1 := T8 h1; refine A0 G (E7 (fc h1 fz) [(5, 0), (6, 0), (1007, 0)]) [(31, bA false)] [wO ((k : Int) + 1)] (o1 (by omega)) fun G => b0 (rF G false (by kernel_rfl) (wp_exit (t3 (t3 (t2 (b0 (wp_seq (i7 G d8 (rg 6) (.box [.ref 1, iA (ab9 b j k).snd] :: dY b :: .box (pL 3) :: (aw8 b j [.row 122 (D.instrs (ab9 b j k).fst)])) [(2, .ptr 2 0)] fun G => b0 (wp_ret ?_))))))))); exact D8 G [0, 1, 3, 4, 5] (by show _ = mR [0, 1, 3, 4, 5] [.box [.ref 1, iA (U7 b (d9 b j).fst ((d9 b j).snd + 1)).snd], dY b, .row 3 (D.ints (U7 b (d9 b j).fst ((d9 b j).snd + 1)).fst.vars), .row 3 (D.ints (U7 b (d9 b j).fst ((d9 b j).snd + 1)).fst.arrays), .row 122 (D.instrs (U7 b (d9 b j).fst ((d9 b j).snd + 1)).fst.list)]; have e2 : ((U7 b (d9 b j).fst ((d9 b j).snd + 1)).fst.vars : List Int) = ((d9 b j).fst.vars) := ((ag9 b _ _).2.1); have e3 : ((U7 b (d9 b j).fst ((d9 b j).snd + 1)).fst.arrays : List Int) = ((d9 b j).fst.arrays) := ((ag9 b _ _).2.2.1); rw [e2, e3, aS5 (k := k) (by omega) (by omega)] <;> rfl)
   ·
    have q1 := T7 h1; refine rB1 G (E7 (fc h1 fz) [(5, 0), (6, 0), (1007, 0)]) (ao7 [(6, ax7 b j), (7, iA k), (31, bA (decide (((d9 b j).fst.list.length : Int) ≤ 40)))]) [wO ((k : Int) + 1)] (o1 (by omega)) fun G => b0 ?_; cases h2 : (decide (((d9 b j).fst.list.length : Int) ≤ 40))
    · have q2 := T8 h2; exact False.elim (by omega)
    ·
     have q2 := T7 h2; refine rT G _ h2 (wp_skip (b0 (wp_seq (wp_block (wp_seq ?_))))); cases h3 : (((t8 b ((d9 b j).fst.list.length : Int) ((d9 b j).fst.list, (d9 b j).snd + 1) k).fst.getD k aK4).op != 10)
     · have q3 := bne_eq_false_iff_eq.1 h3; refine A0 G (E7 (fc h3 (fc (b := false) rfl fz)) (us [(8, 14, 0), (1015, 1015, 0), (17, 19, 1), (1020, 1020, 1)])) [(54, bA false)] (iX k k ((t8 b ((d9 b j).fst.list.length : Int) ((d9 b j).fst.list, (d9 b j).snd + 1) k).fst.length) []) (iK (by omega) bS4) fun G => b0 (rF G false (by kernel_rfl) (wp_skip (i8 (b0 (A0 G d8 [(7, iA ((k : Int) + 1))] [wO ((k : Int) + 1)] (o1 (by omega)) fun G => b0 ?_))))); exact H9 G (k + 1) (by omega) (by omega) (rg 7) (by have e1 : ((t8 b ((d9 b j).fst.list.length : Int) ((d9 b j).fst.list, (d9 b j).snd + 1) (k + 1)).snd : Int) = ((t8 b ((d9 b j).fst.list.length : Int) ((d9 b j).fst.list, (d9 b j).snd + 1) k).snd) := (by rw [am5 (by omega)]; done); have e2 : ((t8 b ((d9 b j).fst.list.length : Int) ((d9 b j).fst.list, (d9 b j).snd + 1) (k + 1)).fst : List c7) = ((t8 b ((d9 b j).fst.list.length : Int) ((d9 b j).fst.list, (d9 b j).snd + 1) k).fst) := (by rw [am5 (by omega)]; done); (first | rw [e1, e2] | simp only [e1, e2]) <;> rfl)
     ·
      have q3 := bne_iff_ne.1 h3; cases h4 : (((t8 b ((d9 b j).fst.list.length : Int) ((d9 b j).fst.list, (d9 b j).snd + 1) k).fst.getD k aK4).op != 1)
      · have q4 := bne_eq_false_iff_eq.1 h4; refine A0 G (E7 (fc h3 (fc h4 fz)) (us [(8, 14, 0), (1015, 1015, 0), (17, 19, 1), (1020, 1020, 1)])) [(54, bA false)] (iX k k ((t8 b ((d9 b j).fst.list.length : Int) ((d9 b j).fst.list, (d9 b j).snd + 1) k).fst.length) (iX k k ((t8 b ((d9 b j).fst.list.length : Int) ((d9 b j).fst.list, (d9 b j).snd + 1) k).fst.length) [])) (iK (by omega) (iK (by omega) bS4)) fun G => b0 (rF G false (by kernel_rfl) (wp_skip (i8 (b0 (A0 G d8 [(7, iA ((k : Int) + 1))] [wO ((k : Int) + 1)] (o1 (by omega)) fun G => b0 ?_))))); exact H9 G (k + 1) (by omega) (by omega) (rg 7) (by have e1 : ((t8 b ((d9 b j).fst.list.length : Int) ((d9 b j).fst.list, (d9 b j).snd + 1) (k + 1)).snd : Int) = ((t8 b ((d9 b j).fst.list.length : Int) ((d9 b j).fst.list, (d9 b j).snd + 1) k).snd) := (by rw [am5 (by omega)]; done); have e2 : ((t8 b ((d9 b j).fst.list.length : Int) ((d9 b j).fst.list, (d9 b j).snd + 1) (k + 1)).fst : List c7) = ((t8 b ((d9 b j).fst.list.length : Int) ((d9 b j).fst.list, (d9 b j).snd + 1) k).fst) := (by rw [am5 (by omega)]; done); (first | rw [e1, e2] | simp only [e1, e2]) <;> rfl)
      ·
       have q4 := bne_iff_ne.1 h4; refine G4 G (K9 (A2 18 [0, 1] (n5 b ((t8 b ((d9 b j).fst.list.length : Int) ((d9 b j).fst.list, (d9 b j).snd + 1) k).snd) 4 (by omega) (by omega)) K8) (fc h3 (fc h4 fz)) (us [(8, 14, 0), (1015, 1015, 0), (17, 19, 1), (1020, 1020, 1)])) (rg 7) (.box [.ref 1, iA ((ab9 b j k).snd + 1)] :: dY b :: ax8 :: (aw8 b j [.row 122 (D.instrs (ab9 b j k).fst), .box (pL 3)])) (ao7 [(6, ax7 b j), (7, iA k), (54, bA (pk b (ab9 b j k).snd 4 == 0))]) (iX k k ((t8 b ((d9 b j).fst.list.length : Int) ((d9 b j).fst.list, (d9 b j).snd + 1) k).fst.length) (iX k k ((t8 b ((d9 b j).fst.list.length : Int) ((d9 b j).fst.list, (d9 b j).snd + 1) k).fst.length) [])) (iK (by omega) (iK (by omega) bS4)) fun G => b0 (H6 (u := (pk b (t8 b ((d9 b j).fst.list.length : Int) ((d9 b j).fst.list, (d9 b j).snd + 1) k).snd (4 : Int))) (v := (0 : Int)) G (fun h5 q5 => ?_) fun h5 q5 => ?_)
       · refine wp_skip (i8 (b0 (A0 G d8 [(7, iA ((k : Int) + 1))] [wO ((k : Int) + 1)] (o1 (by omega)) fun G => b0 ?_))); exact H9 G (k + 1) (by omega) (by omega) (rg 7) (by have e1 : ((t8 b ((d9 b j).fst.list.length : Int) ((d9 b j).fst.list, (d9 b j).snd + 1) (k + 1)).snd : Int) = ((t8 b ((d9 b j).fst.list.length : Int) ((d9 b j).fst.list, (d9 b j).snd + 1) k).snd + 1) := (by rw [a47 (by omega) (by omega) (by omega)]; done); have e2 : ((t8 b ((d9 b j).fst.list.length : Int) ((d9 b j).fst.list, (d9 b j).snd + 1) (k + 1)).fst : List c7) = ((t8 b ((d9 b j).fst.list.length : Int) ((d9 b j).fst.list, (d9 b j).snd + 1) k).fst) := (by rw [a47 (by omega) (by omega) (by omega)]; done); (first | rw [e1, e2] | simp only [e1, e2]) <;> rfl)
       · refine C8 G (r7 10 [0, 1] (n5 b ((t8 b ((d9 b j).fst.list.length : Int) ((d9 b j).fst.list, (d9 b j).snd + 1) k).snd + 1) (((d9 b j).fst.list.length : Int) - (k : Int) - 1) (by omega) (by omega))) [0, 1, 0, 0, 8, 0, 0, 0, 192, 448, 992, 2040, 4088, 8191, 16383] (rg 7) (.box [.ref 1, iA ((ab9 b j k).snd + 1 + 1)] :: dY b :: ax8 :: (aw8 b j [.row 122 (D.instrs ((ab9 b j k).fst.set k (c7.mk 8 ((k : Int) + 1 + pk b ((ab9 b j k).snd + 1) (((d9 b j).fst.list.length : Int) - (k : Int) - 1)) 0 0 0))), .box (pL 3)])) (ao7 [(6, ax7 b j), (7, iA k)]) ((wO ((k : Int) + 1)) :: ((wO (((d9 b j).fst.list.length : Int) - (k : Int))) :: ((wO (((d9 b j).fst.list.length : Int) - (k : Int) - 1)) :: ((wO ((k : Int) + 1 + pk b ((t8 b ((d9 b j).fst.list.length : Int) ((d9 b j).fst.list, (d9 b j).snd + 1) k).snd + 1) (((d9 b j).fst.list.length : Int) - (k : Int) - 1))) :: (iX k k ((t8 b ((d9 b j).fst.list.length : Int) ((d9 b j).fst.list, (d9 b j).snd + 1) k).fst.length) []))))) ⟨oW (by omega), ⟨oW (by omega), ⟨oW (by omega), ⟨(bf5 (by omega) (by omega) (by omega) (by omega)), (iK (by omega) bS4)⟩⟩⟩⟩ fun G => i8 (b0 (A0 G d8 [(7, iA ((k : Int) + 1))] [wO ((k : Int) + 1)] (o1 (by omega)) fun G => b0 ?_)); exact H9 G (k + 1) (by omega) (by omega) (rg 7) (by have e1 : ((t8 b ((d9 b j).fst.list.length : Int) ((d9 b j).fst.list, (d9 b j).snd + 1) (k + 1)).snd : Int) = ((t8 b ((d9 b j).fst.list.length : Int) ((d9 b j).fst.list, (d9 b j).snd + 1) k).snd + 1 + 1) := (by rw [a46 (by omega) (by omega) (by omega)]; done); have e2 : ((t8 b ((d9 b j).fst.list.length : Int) ((d9 b j).fst.list, (d9 b j).snd + 1) (k + 1)).fst : List c7) = ((t8 b ((d9 b j).fst.list.length : Int) ((d9 b j).fst.list, (d9 b j).snd + 1) k).fst.set k (c7.mk 8 ((k : Int) + 1 + pk b ((t8 b ((d9 b j).fst.list.length : Int) ((d9 b j).fst.list, (d9 b j).snd + 1) k).snd + 1) (((d9 b j).fst.list.length : Int) - (k : Int) - 1)) 0 0 0)) := (by rw [a46 (by omega) (by omega) (by omega)]; done); (first | rw [e1, e2] | simp only [e1, e2]) <;> rfl)
  · have q0 := eq_of_beq h0; exact False.elim (by omega)
abbrev ab8 (b : List UInt8) (j : Int) (k : Nat) := t8 b ((d9 b j).fst.list.length : Int) ((d9 b j).fst.list, (w5 b ((d9 b j).snd + 1)).snd) k
abbrev ak9 : It := .box [.v (.slice none 0 0), .v (.slice none 0 0), .v (.slice none 0 0)]
abbrev ak8 (b : List UInt8) (j : Int) : It := .row 3 (D.ints (d9 b j).fst.arrays)
abbrev ak7 (b : List UInt8) (j : Int) : It := .row 3 (D.ints (d9 b j).fst.vars)
abbrev ax6 (b : List UInt8) (j : Int) : AV := iA ((d9 b j).fst.list.length : Int)
abbrev ae5 (r0 : List (Nat × AV)) : List (Nat × AV) := (0, .ptr 0 0) :: (2, .ptr 2 0) :: (3, .ptr 6 0) :: r0
theorem bb9 (b : List UInt8) (j : Int) (hpk : pk b (d9 b j).2 2 = 0) (hok : Y9 (n7 b ((d9 b j).2 + 1)) = false) (r0 : 0 ≤ j) (r1 : j ≤ 1000000) : j5.ok Try.prog (jpC b j (d9 b j).1 ((w5 b ((d9 b j).2 + 1)).2)) := by
  have hcd := bh8 b r0 (show j ≤ 10000000 by omega); have hbd := bj2 b (j := (d9 b j).2 + 1) (by omega) (by omega); have hsz : (n7 b ((d9 b j).2 + 1)).size ≤ 1048576 := bT4 (bd2 (b := b) (k := (d9 b j).2 + 1) (by omega) (by omega)) (by omega); have hcp := bu3 hsz hok; refine F5 70 Try.func55 [.box [.ref 1, iA j], dY b] [(0, .ptr 0 0)] fun G => ?_; refine wp_seq (i7 G d8 [0, 1, 2] [.box [.ref 1, iA j], dY b, ak9] [(0, .ptr 0 0), (2, .ptr 2 0)] fun G => b0 (wp_seq (i7 G (r7 1 [0, 1] (ah3 b j (by assumption) (by omega))) [0, 1, 2, 11, 12, 13, 19] [.box [.ref 1, iA (d9 b j).snd], dY b, ak9, ak7 b j, ak8 b j, .row 122 (D.instrs (d9 b j).fst.list), .box (pL 3)] (ae5 []) fun G => b0 (wp_seq (wp_seq (i7 G (r7 1 [0, 1] (n5 b ((d9 b j).snd) 2 (by omega) (by omega))) (rg 7) [.box [.ref 1, iA ((d9 b j).snd + 1)], dY b, ak9, ak7 b j, ak8 b j, .row 122 (D.instrs (d9 b j).fst.list), .box (pL 3)] (ae5 [(12, bA (pk b (d9 b j).snd 2 == 0))]) fun G => b0 ?_)))))); cases h0 : (pk b (d9 b j).snd (2 : Int) == 0)
  · have q0 := ne_of_beq_false h0; exact False.elim (by omega)
  ·
   have q0 := eq_of_beq h0; refine rT G _ h0 (wp_seq (i7 G (K9 (A2 1 [0, 1] (Z5 b ((d9 b j).snd + 1) (by omega) (by omega)) (A2 2 [15, 16, 17] (j5.lend hcp [.row 3, .row 3, .tree]) K8)) fz []) [0, 1, 2, 3, 4, 5, 6, 23, 24, 25, 55] [.box [.ref 1, iA (w5 b ((d9 b j).snd + 1)).snd], dY b, ak9, ak7 b j, ak8 b j, .row 122 (D.instrs (d9 b j).fst.list), .box (pL 3), .row 3 (D.ints (cvP (n7 b ((d9 b j).snd + 1)))), .row 3 (D.ints (caP (n7 b ((d9 b j).snd + 1)))), .row 122 (D.instrs (j9 (n7 b ((d9 b j).snd + 1))).fst), .box (pL 7)] (ae5 [(4, .ptr 10 0), (5, bA false)]) fun G => b0 (wp_seq (j7 G d8 [(19, bA false)] fun G => b0 (rF G false (by kernel_rfl) (wp_skip (b0 (wp_seq (i7 G d8 (rg 7) [.box [.ref 1, iA (w5 b ((d9 b j).snd + 1)).snd], dY b, ak9, ak7 b j, ak8 b j, .row 122 (D.instrs (d9 b j).fst.list), .box (pL 3)] (ae5 [(6, ax6 b j)]) fun G => b0 (wp_seq (wp_seq (D6 G d8 (ae5 [(6, ax6 b j), (7, iA 0)]) fun G => b0 (wp_block ?_))))))))))))); refine t6 (κ := Nat) (fun k => (k = 0 ∨ (k + 1 ≤ (d9 b j).1.list.length ∧ (d9 b j).1.list.length ≤ 40))) (fun k => (d9 b j).1.list.length - k) (fun k => [.box [.ref 1, iA (t8 b (d9 b j).1.list.length ((d9 b j).1.list, (w5 b ((d9 b j).2 + 1)).2) k).2], dY b, .box [.v (.slice none 0 0), .v (.slice none 0 0), .v (.slice none 0 0)], .row 3 (D.ints (d9 b j).fst.vars), .row 3 (D.ints (d9 b j).fst.arrays), .row 122 (.instrs (t8 b (d9 b j).1.list.length ((d9 b j).1.list, (w5 b ((d9 b j).2 + 1)).2) k).1), .box (pL 3)]) (fun k => [(0, .ptr 0 0), (2, .ptr 2 0), (3, .ptr 6 0), (6, iA ((d9 b j).fst.list.length : Int)), (7, iA k)]) 0 (by omega) (s5.at G _ _) ?_; clear G; intro k ρ a w hp G; replace G := s5.at G [.box [.ref 1, iA (ab8 b j k).snd], dY b, ak9, ak7 b j, ak8 b j, .row 122 (D.instrs (ab8 b j k).fst), .box (pL 3)] (ae5 [(6, ax6 b j), (7, iA k)]); have hjm := by6 b (d9 b j).1.list.length ((d9 b j).1.list) ((w5 b ((d9 b j).2 + 1)).2) k; refine wp_seq (wp_seq ?_); cases h1 : (decide ((k : Int) + 1 < ((d9 b j).fst.list.length : Int)))
   · have q1 := T8 h1; refine A0 G (E7 (fc h1 fz) [(5, 0), (6, 0), (1007, 0)]) [(31, bA false)] [wO ((k : Int) + 1)] (o1 (by omega)) fun G => b0 (rF G false (by kernel_rfl) (wp_exit (t3 (t3 (t2 (b0 (wp_seq (i7 G d8 (rg 6) [.box [.ref 1, iA (ab8 b j k).snd], dY b, .box (pL 3), ak7 b j, ak8 b j, .row 122 (D.instrs (ab8 b j k).fst)] [(2, .ptr 2 0)] fun G => b0 (wp_ret ?_))))))))); exact D8 G [0, 1, 3, 4, 5] (by show _ = mR [0, 1, 3, 4, 5] [.box [.ref 1, iA (U7 b (d9 b j).fst (w5 b ((d9 b j).snd + 1)).snd).snd], dY b, .row 3 (D.ints (U7 b (d9 b j).fst (w5 b ((d9 b j).snd + 1)).snd).fst.vars), .row 3 (D.ints (U7 b (d9 b j).fst (w5 b ((d9 b j).snd + 1)).snd).fst.arrays), .row 122 (D.instrs (U7 b (d9 b j).fst (w5 b ((d9 b j).snd + 1)).snd).fst.list)]; have e2 : ((U7 b (d9 b j).fst (w5 b ((d9 b j).snd + 1)).snd).fst.vars : List Int) = ((d9 b j).fst.vars) := ((ag9 b _ _).2.1); have e3 : ((U7 b (d9 b j).fst (w5 b ((d9 b j).snd + 1)).snd).fst.arrays : List Int) = ((d9 b j).fst.arrays) := ((ag9 b _ _).2.2.1); rw [e2, e3, aS5 (k := k) (by omega) (by omega)] <;> rfl)
   ·
    have q1 := T7 h1; refine rB1 G (E7 (fc h1 fz) [(5, 0), (6, 0), (1007, 0)]) (ae5 [(6, ax6 b j), (7, iA k), (31, bA (decide (((d9 b j).fst.list.length : Int) ≤ 40)))]) [wO ((k : Int) + 1)] (o1 (by omega)) fun G => b0 ?_; cases h2 : (decide (((d9 b j).fst.list.length : Int) ≤ 40))
    · have q2 := T8 h2; exact False.elim (by omega)
    ·
     have q2 := T7 h2; refine rT G _ h2 (wp_skip (b0 (wp_seq (wp_block (wp_seq ?_))))); cases h3 : (((t8 b ((d9 b j).fst.list.length : Int) ((d9 b j).fst.list, (w5 b ((d9 b j).snd + 1)).snd) k).fst.getD k aK4).op != 10)
     · have q3 := bne_eq_false_iff_eq.1 h3; refine A0 G (E7 (fc h3 (fc (b := false) rfl fz)) (us [(8, 14, 0), (1015, 1015, 0), (17, 19, 1), (1020, 1020, 1)])) [(54, bA false)] (iX k k ((t8 b ((d9 b j).fst.list.length : Int) ((d9 b j).fst.list, (w5 b ((d9 b j).snd + 1)).snd) k).fst.length) []) (iK (by omega) bS4) fun G => b0 (rF G false (by kernel_rfl) (wp_skip (i8 (b0 (A0 G d8 [(7, iA ((k : Int) + 1))] [wO ((k : Int) + 1)] (o1 (by omega)) fun G => b0 ?_))))); exact H9 G (k + 1) (by omega) (by omega) (rg 7) (by have e1 : ((t8 b ((d9 b j).fst.list.length : Int) ((d9 b j).fst.list, (w5 b ((d9 b j).snd + 1)).snd) (k + 1)).snd : Int) = ((t8 b ((d9 b j).fst.list.length : Int) ((d9 b j).fst.list, (w5 b ((d9 b j).snd + 1)).snd) k).snd) := (by rw [am5 (by omega)]; done); have e2 : ((t8 b ((d9 b j).fst.list.length : Int) ((d9 b j).fst.list, (w5 b ((d9 b j).snd + 1)).snd) (k + 1)).fst : List c7) = ((t8 b ((d9 b j).fst.list.length : Int) ((d9 b j).fst.list, (w5 b ((d9 b j).snd + 1)).snd) k).fst) := (by rw [am5 (by omega)]; done); (first | rw [e1, e2] | simp only [e1, e2]) <;> rfl)
     ·
      have q3 := bne_iff_ne.1 h3; cases h4 : (((t8 b ((d9 b j).fst.list.length : Int) ((d9 b j).fst.list, (w5 b ((d9 b j).snd + 1)).snd) k).fst.getD k aK4).op != 1)
      · have q4 := bne_eq_false_iff_eq.1 h4; refine A0 G (E7 (fc h3 (fc h4 fz)) (us [(8, 14, 0), (1015, 1015, 0), (17, 19, 1), (1020, 1020, 1)])) [(54, bA false)] (iX k k ((t8 b ((d9 b j).fst.list.length : Int) ((d9 b j).fst.list, (w5 b ((d9 b j).snd + 1)).snd) k).fst.length) (iX k k ((t8 b ((d9 b j).fst.list.length : Int) ((d9 b j).fst.list, (w5 b ((d9 b j).snd + 1)).snd) k).fst.length) [])) (iK (by omega) (iK (by omega) bS4)) fun G => b0 (rF G false (by kernel_rfl) (wp_skip (i8 (b0 (A0 G d8 [(7, iA ((k : Int) + 1))] [wO ((k : Int) + 1)] (o1 (by omega)) fun G => b0 ?_))))); exact H9 G (k + 1) (by omega) (by omega) (rg 7) (by have e1 : ((t8 b ((d9 b j).fst.list.length : Int) ((d9 b j).fst.list, (w5 b ((d9 b j).snd + 1)).snd) (k + 1)).snd : Int) = ((t8 b ((d9 b j).fst.list.length : Int) ((d9 b j).fst.list, (w5 b ((d9 b j).snd + 1)).snd) k).snd) := (by rw [am5 (by omega)]; done); have e2 : ((t8 b ((d9 b j).fst.list.length : Int) ((d9 b j).fst.list, (w5 b ((d9 b j).snd + 1)).snd) (k + 1)).fst : List c7) = ((t8 b ((d9 b j).fst.list.length : Int) ((d9 b j).fst.list, (w5 b ((d9 b j).snd + 1)).snd) k).fst) := (by rw [am5 (by omega)]; done); (first | rw [e1, e2] | simp only [e1, e2]) <;> rfl)
      ·
       have q4 := bne_iff_ne.1 h4; refine G4 G (K9 (A2 18 [0, 1] (n5 b ((t8 b ((d9 b j).fst.list.length : Int) ((d9 b j).fst.list, (w5 b ((d9 b j).snd + 1)).snd) k).snd) 4 (by omega) (by omega)) K8) (fc h3 (fc h4 fz)) (us [(8, 14, 0), (1015, 1015, 0), (17, 19, 1), (1020, 1020, 1)])) (rg 7) [.box [.ref 1, iA ((ab8 b j k).snd + 1)], dY b, ak9, ak7 b j, ak8 b j, .row 122 (D.instrs (ab8 b j k).fst), .box (pL 3)] (ae5 [(6, ax6 b j), (7, iA k), (54, bA (pk b (ab8 b j k).snd 4 == 0))]) (iX k k ((t8 b ((d9 b j).fst.list.length : Int) ((d9 b j).fst.list, (w5 b ((d9 b j).snd + 1)).snd) k).fst.length) (iX k k ((t8 b ((d9 b j).fst.list.length : Int) ((d9 b j).fst.list, (w5 b ((d9 b j).snd + 1)).snd) k).fst.length) [])) (iK (by omega) (iK (by omega) bS4)) fun G => b0 (H6 (u := (pk b (t8 b ((d9 b j).fst.list.length : Int) ((d9 b j).fst.list, (w5 b ((d9 b j).snd + 1)).snd) k).snd (4 : Int))) (v := (0 : Int)) G (fun h5 q5 => ?_) fun h5 q5 => ?_)
       · refine wp_skip (i8 (b0 (A0 G d8 [(7, iA ((k : Int) + 1))] [wO ((k : Int) + 1)] (o1 (by omega)) fun G => b0 ?_))); exact H9 G (k + 1) (by omega) (by omega) (rg 7) (by have e1 : ((t8 b ((d9 b j).fst.list.length : Int) ((d9 b j).fst.list, (w5 b ((d9 b j).snd + 1)).snd) (k + 1)).snd : Int) = ((t8 b ((d9 b j).fst.list.length : Int) ((d9 b j).fst.list, (w5 b ((d9 b j).snd + 1)).snd) k).snd + 1) := (by rw [a47 (by omega) (by omega) (by omega)]; done); have e2 : ((t8 b ((d9 b j).fst.list.length : Int) ((d9 b j).fst.list, (w5 b ((d9 b j).snd + 1)).snd) (k + 1)).fst : List c7) = ((t8 b ((d9 b j).fst.list.length : Int) ((d9 b j).fst.list, (w5 b ((d9 b j).snd + 1)).snd) k).fst) := (by rw [a47 (by omega) (by omega) (by omega)]; done); (first | rw [e1, e2] | simp only [e1, e2]) <;> rfl)
       · refine C8 G (r7 10 [0, 1] (n5 b ((t8 b ((d9 b j).fst.list.length : Int) ((d9 b j).fst.list, (w5 b ((d9 b j).snd + 1)).snd) k).snd + 1) (((d9 b j).fst.list.length : Int) - (k : Int) - 1) (by omega) (by omega))) [0, 1, 0, 0, 8, 0, 0, 0, 192, 448, 992, 2040, 4088, 8191, 16383] (rg 7) [.box [.ref 1, iA ((ab8 b j k).snd + 1 + 1)], dY b, ak9, ak7 b j, ak8 b j, .row 122 (D.instrs ((ab8 b j k).fst.set k (c7.mk 8 ((k : Int) + 1 + pk b ((ab8 b j k).snd + 1) (((d9 b j).fst.list.length : Int) - (k : Int) - 1)) 0 0 0))), .box (pL 3)] (ae5 [(6, ax6 b j), (7, iA k)]) ((wO ((k : Int) + 1)) :: ((wO (((d9 b j).fst.list.length : Int) - (k : Int))) :: ((wO (((d9 b j).fst.list.length : Int) - (k : Int) - 1)) :: ((wO ((k : Int) + 1 + pk b ((t8 b ((d9 b j).fst.list.length : Int) ((d9 b j).fst.list, (w5 b ((d9 b j).snd + 1)).snd) k).snd + 1) (((d9 b j).fst.list.length : Int) - (k : Int) - 1))) :: (iX k k ((t8 b ((d9 b j).fst.list.length : Int) ((d9 b j).fst.list, (w5 b ((d9 b j).snd + 1)).snd) k).fst.length) []))))) ⟨oW (by omega), ⟨oW (by omega), ⟨oW (by omega), ⟨(bf5 (by omega) (by omega) (by omega) (by omega)), (iK (by omega) bS4)⟩⟩⟩⟩ fun G => i8 (b0 (A0 G d8 [(7, iA ((k : Int) + 1))] [wO ((k : Int) + 1)] (o1 (by omega)) fun G => b0 ?_)); exact H9 G (k + 1) (by omega) (by omega) (rg 7) (by have e1 : ((t8 b ((d9 b j).fst.list.length : Int) ((d9 b j).fst.list, (w5 b ((d9 b j).snd + 1)).snd) (k + 1)).snd : Int) = ((t8 b ((d9 b j).fst.list.length : Int) ((d9 b j).fst.list, (w5 b ((d9 b j).snd + 1)).snd) k).snd + 1 + 1) := (by rw [a46 (by omega) (by omega) (by omega)]; done); have e2 : ((t8 b ((d9 b j).fst.list.length : Int) ((d9 b j).fst.list, (w5 b ((d9 b j).snd + 1)).snd) (k + 1)).fst : List c7) = ((t8 b ((d9 b j).fst.list.length : Int) ((d9 b j).fst.list, (w5 b ((d9 b j).snd + 1)).snd) k).fst.set k (c7.mk 8 ((k : Int) + 1 + pk b ((t8 b ((d9 b j).fst.list.length : Int) ((d9 b j).fst.list, (w5 b ((d9 b j).snd + 1)).snd) k).snd + 1) (((d9 b j).fst.list.length : Int) - (k : Int) - 1)) 0 0 0)) := (by rw [a46 (by omega) (by omega) (by omega)]; done); (first | rw [e1, e2] | simp only [e1, e2]) <;> rfl)
theorem bp6 {b : List UInt8} {vs ars : List Int} {l : List c7} {q : Int} {k : Nat} (h : l.length ≤ 40) (hk : k = l.length - 1) : U7 b ⟨vs, ars, l⟩ q = (⟨vs, ars, (t8 b l.length (l, q) k).1⟩, (t8 b l.length (l, q) k).2) := aS5 (c := ⟨vs, ars, l⟩) h hk
theorem bp7 {b : List UInt8} {vs ars : List Int} {l : List c7} {q : Int} (h : ¬ l.length ≤ 40) : U7 b ⟨vs, ars, l⟩ q = (⟨vs, ars, l⟩, q) := by5 (c := ⟨vs, ars, l⟩) h
abbrev W8 (b : List UInt8) (j : Int) (k : Nat) := t8 b ((j9 (n7 b ((d9 b j).snd + 1))).fst.length : Int) ((j9 (n7 b ((d9 b j).snd + 1))).fst, (w5 b ((d9 b j).snd + 1)).snd) k
abbrev aX1 (b : List UInt8) (j : Int) : List It := [.box [.ref 1, iA (U7 b (d7.mk (cvP (n7 b ((d9 b j).snd + 1))) (caP (n7 b ((d9 b j).snd + 1))) (j9 (n7 b ((d9 b j).snd + 1))).fst) (w5 b ((d9 b j).snd + 1)).snd).snd], dY b, .row 3 (D.ints (U7 b (d7.mk (cvP (n7 b ((d9 b j).snd + 1))) (caP (n7 b ((d9 b j).snd + 1))) (j9 (n7 b ((d9 b j).snd + 1))).fst) (w5 b ((d9 b j).snd + 1)).snd).fst.vars), .row 3 (D.ints (U7 b (d7.mk (cvP (n7 b ((d9 b j).snd + 1))) (caP (n7 b ((d9 b j).snd + 1))) (j9 (n7 b ((d9 b j).snd + 1))).fst) (w5 b ((d9 b j).snd + 1)).snd).fst.arrays), .row 122 (D.instrs (U7 b (d7.mk (cvP (n7 b ((d9 b j).snd + 1))) (caP (n7 b ((d9 b j).snd + 1))) (j9 (n7 b ((d9 b j).snd + 1))).fst) (w5 b ((d9 b j).snd + 1)).snd).fst.list)]
abbrev ax5 : It := .box [.v (.slice none 0 0), .v (.slice none 0 0), .v (.slice none 0 0)]
abbrev ap2 (b : List UInt8) (j : Int) : It := .row 3 (D.ints (cvP (n7 b ((d9 b j).snd + 1))))
abbrev ap1 (b : List UInt8) (j : Int) : It := .row 3 (D.ints (caP (n7 b ((d9 b j).snd + 1))))
abbrev aH5 (b : List UInt8) (j : Int) : AV := iA ((j9 (n7 b ((d9 b j).snd + 1))).fst.length : Int)
abbrev a81 (b : List UInt8) (j : Int) (r0 : List It) : List It := dY b :: ax5 :: .row 3 (D.ints (d9 b j).fst.vars) :: .row 3 (D.ints (d9 b j).fst.arrays) :: .row 122 (D.instrs (d9 b j).fst.list) :: .box (pL 3) :: r0
theorem bb7 (b : List UInt8) (j : Int) (hpk : pk b (d9 b j).2 2 = 0) (hok : Y9 (n7 b ((d9 b j).2 + 1)) = true) (r0 : 0 ≤ j) (r1 : j ≤ 1000000) : j5.ok Try.prog (jpC b j (⟨cvP (n7 b ((d9 b j).2 + 1)), caP (n7 b ((d9 b j).2 + 1)), (j9 (n7 b ((d9 b j).2 + 1))).1⟩ : d7) ((w5 b ((d9 b j).2 + 1)).2)) := by
  have hcd := bh8 b r0 (show j ≤ 10000000 by omega); have hbd := bj2 b (j := (d9 b j).2 + 1) (by omega) (by omega); have hsz : (n7 b ((d9 b j).2 + 1)).size ≤ 1048576 := bT4 (bd2 (b := b) (k := (d9 b j).2 + 1) (by omega) (by omega)) (by omega); have hcp := bu3 hsz hok; refine F5 70 Try.func55 [.box [.ref 1, iA j], dY b] [(0, .ptr 0 0)] fun G => ?_; refine wp_seq (i7 G d8 [0, 1, 2] [.box [.ref 1, iA j], dY b, ax5] [(0, .ptr 0 0), (2, .ptr 2 0)] fun G => b0 (wp_seq (i7 G (r7 1 [0, 1] (ah3 b j (by assumption) (by omega))) [0, 1, 2, 11, 12, 13, 19] (.box [.ref 1, iA (d9 b j).snd] :: (a81 b j [])) [(0, .ptr 0 0), (2, .ptr 2 0), (3, .ptr 6 0)] fun G => b0 (wp_seq (wp_seq (i7 G (r7 1 [0, 1] (n5 b ((d9 b j).snd) 2 (by omega) (by omega))) (rg 7) (.box [.ref 1, iA ((d9 b j).snd + 1)] :: (a81 b j [])) [(0, .ptr 0 0), (2, .ptr 2 0), (3, .ptr 6 0), (12, bA (pk b (d9 b j).snd 2 == 0))] fun G => b0 ?_)))))); cases h0 : (pk b (d9 b j).snd (2 : Int) == 0)
  · have q0 := ne_of_beq_false h0; exact False.elim (by omega)
  ·
   have q0 := eq_of_beq h0; refine rT G _ h0 (wp_seq (i7 G (K9 (A2 1 [0, 1] (Z5 b ((d9 b j).snd + 1) (by omega) (by omega)) (A2 2 [15, 16, 17] (j5.lend hcp [.row 3, .row 3, .tree]) K8)) fz []) [0, 1, 2, 3, 4, 5, 6, 23, 24, 25, 55] (.box [.ref 1, iA (w5 b ((d9 b j).snd + 1)).snd] :: (a81 b j [ap2 b j, ap1 b j, .row 122 (D.instrs (j9 (n7 b ((d9 b j).snd + 1))).fst), .box (pL 7)])) [(0, .ptr 0 0), (2, .ptr 2 0), (3, .ptr 6 0), (4, .ptr 10 0), (5, bA true)] fun G => b0 (wp_seq (j7 G d8 [(19, bA true)] fun G => b0 (rT G true (by kernel_rfl) (i7 G d8 [0, 1, 2, 6, 7, 8, 9] [.box [.ref 1, iA (w5 b ((d9 b j).snd + 1)).snd], dY b, ax5, .box (pL 4), ap2 b j, ap1 b j, .row 122 (D.instrs (j9 (n7 b ((d9 b j).snd + 1))).fst)] [(0, .ptr 0 0), (2, .ptr 2 0), (3, .ptr 3 0)] fun G => b0 (wp_seq (j7 G d8 [(6, aH5 b j)] fun G => b0 (wp_seq (wp_seq (D6 G d8 [(0, .ptr 0 0), (2, .ptr 2 0), (3, .ptr 3 0), (6, aH5 b j), (7, iA 0)] fun G => b0 (wp_block ?_)))))))))))); refine t6 (κ := Nat) (fun k => (k = 0 ∨ (k + 1 ≤ (j9 (n7 b ((d9 b j).2 + 1))).1.length ∧ (j9 (n7 b ((d9 b j).2 + 1))).1.length ≤ 40))) (fun k => (j9 (n7 b ((d9 b j).2 + 1))).1.length - k) (fun k => [.box [.ref 1, iA (t8 b (j9 (n7 b ((d9 b j).2 + 1))).1.length ((j9 (n7 b ((d9 b j).2 + 1))).1, (w5 b ((d9 b j).2 + 1)).2) k).2], dY b, .box [.v (.slice none 0 0), .v (.slice none 0 0), .v (.slice none 0 0)], .box (pL 4), .row 3 (D.ints (cvP (n7 b ((d9 b j).snd + 1)))), .row 3 (D.ints (caP (n7 b ((d9 b j).snd + 1)))), .row 122 (.instrs (t8 b (j9 (n7 b ((d9 b j).2 + 1))).1.length ((j9 (n7 b ((d9 b j).2 + 1))).1, (w5 b ((d9 b j).2 + 1)).2) k).1)]) (fun k => [(0, .ptr 0 0), (2, .ptr 2 0), (3, .ptr 3 0), (6, iA ((j9 (n7 b ((d9 b j).snd + 1))).fst.length : Int)), (7, iA k)]) 0 (by omega) (s5.at G _ _) ?_; clear G; intro k ρ a w hp G; replace G := s5.at G [.box [.ref 1, iA (W8 b j k).snd], dY b, ax5, .box (pL 4), ap2 b j, ap1 b j, .row 122 (D.instrs (W8 b j k).fst)] [(0, .ptr 0 0), (2, .ptr 2 0), (3, .ptr 3 0), (6, aH5 b j), (7, iA k)]; have hjm := by6 b (j9 (n7 b ((d9 b j).2 + 1))).1.length ((j9 (n7 b ((d9 b j).2 + 1))).1) ((w5 b ((d9 b j).2 + 1)).2) k; refine wp_seq (wp_seq ?_); cases h1 : (decide ((k : Int) + 1 < ((j9 (n7 b ((d9 b j).snd + 1))).fst.length : Int)))
   · have q1 := T8 h1; refine A0 G (E7 (fc h1 fz) [(5, 0), (6, 0), (1007, 0)]) [(31, bA false)] [wO ((k : Int) + 1)] (o1 (by omega)) fun G => b0 (rF G false (by kernel_rfl) (wp_exit (t3 (t3 (t2 (b0 (wp_seq (i7 G d8 [0, 1, 2, 4, 5, 6] [.box [.ref 1, iA (W8 b j k).snd], dY b, .box (pL 3), ap2 b j, ap1 b j, .row 122 (D.instrs (W8 b j k).fst)] [(2, .ptr 2 0)] fun G => b0 (wp_ret ?_))))))))); exact D8 G [0, 1, 3, 4, 5] (by show _ = mR [0, 1, 3, 4, 5] (aX1 b j); unfold aX1; have e2 : ((U7 b (d7.mk (cvP (n7 b ((d9 b j).snd + 1))) (caP (n7 b ((d9 b j).snd + 1))) (j9 (n7 b ((d9 b j).snd + 1))).fst) (w5 b ((d9 b j).snd + 1)).snd).fst.vars : List Int) = (cvP (n7 b ((d9 b j).snd + 1))) := ((ag9 b _ _).2.1); have e3 : ((U7 b (d7.mk (cvP (n7 b ((d9 b j).snd + 1))) (caP (n7 b ((d9 b j).snd + 1))) (j9 (n7 b ((d9 b j).snd + 1))).fst) (w5 b ((d9 b j).snd + 1)).snd).fst.arrays : List Int) = (caP (n7 b ((d9 b j).snd + 1))) := ((ag9 b _ _).2.2.1); rw [e2, e3, bp6 (k := k) (by omega) (by omega)] <;> rfl)
   ·
    have q1 := T7 h1; refine A0 G (E7 (fc h1 fz) [(5, 0), (6, 0), (1007, 0)]) [(31, bA (decide (((j9 (n7 b ((d9 b j).snd + 1))).fst.length : Int) ≤ 40)))] [wO ((k : Int) + 1)] (o1 (by omega)) fun G => b0 (rcD G (fun h2 q2 => ?_) fun h2 q2 => ?_)
    · refine wp_exit (t3 (t3 (t2 (b0 (wp_seq (i7 G d8 [0, 1, 2, 4, 5, 6] [.box [.ref 1, iA (W8 b j k).snd], dY b, .box (pL 3), ap2 b j, ap1 b j, .row 122 (D.instrs (W8 b j k).fst)] [(2, .ptr 2 0)] fun G => b0 (wp_ret ?_))))))); exact D8 G [0, 1, 3, 4, 5] (by show _ = mR [0, 1, 3, 4, 5] (aX1 b j); unfold aX1; have e2 : ((U7 b (d7.mk (cvP (n7 b ((d9 b j).snd + 1))) (caP (n7 b ((d9 b j).snd + 1))) (j9 (n7 b ((d9 b j).snd + 1))).fst) (w5 b ((d9 b j).snd + 1)).snd).fst.vars : List Int) = (cvP (n7 b ((d9 b j).snd + 1))) := ((ag9 b _ _).2.1); have e3 : ((U7 b (d7.mk (cvP (n7 b ((d9 b j).snd + 1))) (caP (n7 b ((d9 b j).snd + 1))) (j9 (n7 b ((d9 b j).snd + 1))).fst) (w5 b ((d9 b j).snd + 1)).snd).fst.arrays : List Int) = (caP (n7 b ((d9 b j).snd + 1))) := ((ag9 b _ _).2.2.1); rw [e2, e3, bp7 (by omega), show k = 0 by omega] <;> rfl)
    ·
     refine wp_skip (b0 (wp_seq (wp_block (wp_seq ?_)))); cases h3 : (((t8 b ((j9 (n7 b ((d9 b j).snd + 1))).fst.length : Int) ((j9 (n7 b ((d9 b j).snd + 1))).fst, (w5 b ((d9 b j).snd + 1)).snd) k).fst.getD k aK4).op != 10)
     · have q3 := bne_eq_false_iff_eq.1 h3; refine A0 G (E7 (fc h3 (fc (b := false) rfl fz)) (us [(8, 14, 0), (1015, 1015, 0), (17, 19, 1), (1020, 1020, 1)])) [(54, bA false)] (iX k k ((t8 b ((j9 (n7 b ((d9 b j).snd + 1))).fst.length : Int) ((j9 (n7 b ((d9 b j).snd + 1))).fst, (w5 b ((d9 b j).snd + 1)).snd) k).fst.length) []) (iK (by omega) bS4) fun G => b0 (rF G false (by kernel_rfl) (wp_skip (i8 (b0 (A0 G d8 [(7, iA ((k : Int) + 1))] [wO ((k : Int) + 1)] (o1 (by omega)) fun G => b0 ?_))))); exact H9 G (k + 1) (by omega) (by omega) (rg 7) (by have e1 : ((t8 b ((j9 (n7 b ((d9 b j).snd + 1))).fst.length : Int) ((j9 (n7 b ((d9 b j).snd + 1))).fst, (w5 b ((d9 b j).snd + 1)).snd) (k + 1)).snd : Int) = ((t8 b ((j9 (n7 b ((d9 b j).snd + 1))).fst.length : Int) ((j9 (n7 b ((d9 b j).snd + 1))).fst, (w5 b ((d9 b j).snd + 1)).snd) k).snd) := (by rw [am5 (by omega)]; done); have e2 : ((t8 b ((j9 (n7 b ((d9 b j).snd + 1))).fst.length : Int) ((j9 (n7 b ((d9 b j).snd + 1))).fst, (w5 b ((d9 b j).snd + 1)).snd) (k + 1)).fst : List c7) = ((t8 b ((j9 (n7 b ((d9 b j).snd + 1))).fst.length : Int) ((j9 (n7 b ((d9 b j).snd + 1))).fst, (w5 b ((d9 b j).snd + 1)).snd) k).fst) := (by rw [am5 (by omega)]; done); (first | rw [e1, e2] | simp only [e1, e2]) <;> rfl)
     ·
      have q3 := bne_iff_ne.1 h3; cases h4 : (((t8 b ((j9 (n7 b ((d9 b j).snd + 1))).fst.length : Int) ((j9 (n7 b ((d9 b j).snd + 1))).fst, (w5 b ((d9 b j).snd + 1)).snd) k).fst.getD k aK4).op != 1)
      · have q4 := bne_eq_false_iff_eq.1 h4; refine A0 G (E7 (fc h3 (fc h4 fz)) (us [(8, 14, 0), (1015, 1015, 0), (17, 19, 1), (1020, 1020, 1)])) [(54, bA false)] (iX k k ((t8 b ((j9 (n7 b ((d9 b j).snd + 1))).fst.length : Int) ((j9 (n7 b ((d9 b j).snd + 1))).fst, (w5 b ((d9 b j).snd + 1)).snd) k).fst.length) (iX k k ((t8 b ((j9 (n7 b ((d9 b j).snd + 1))).fst.length : Int) ((j9 (n7 b ((d9 b j).snd + 1))).fst, (w5 b ((d9 b j).snd + 1)).snd) k).fst.length) [])) (iK (by omega) (iK (by omega) bS4)) fun G => b0 (rF G false (by kernel_rfl) (wp_skip (i8 (b0 (A0 G d8 [(7, iA ((k : Int) + 1))] [wO ((k : Int) + 1)] (o1 (by omega)) fun G => b0 ?_))))); exact H9 G (k + 1) (by omega) (by omega) (rg 7) (by have e1 : ((t8 b ((j9 (n7 b ((d9 b j).snd + 1))).fst.length : Int) ((j9 (n7 b ((d9 b j).snd + 1))).fst, (w5 b ((d9 b j).snd + 1)).snd) (k + 1)).snd : Int) = ((t8 b ((j9 (n7 b ((d9 b j).snd + 1))).fst.length : Int) ((j9 (n7 b ((d9 b j).snd + 1))).fst, (w5 b ((d9 b j).snd + 1)).snd) k).snd) := (by rw [am5 (by omega)]; done); have e2 : ((t8 b ((j9 (n7 b ((d9 b j).snd + 1))).fst.length : Int) ((j9 (n7 b ((d9 b j).snd + 1))).fst, (w5 b ((d9 b j).snd + 1)).snd) (k + 1)).fst : List c7) = ((t8 b ((j9 (n7 b ((d9 b j).snd + 1))).fst.length : Int) ((j9 (n7 b ((d9 b j).snd + 1))).fst, (w5 b ((d9 b j).snd + 1)).snd) k).fst) := (by rw [am5 (by omega)]; done); (first | rw [e1, e2] | simp only [e1, e2]) <;> rfl)
      ·
       have q4 := bne_iff_ne.1 h4; refine G4 G (K9 (A2 18 [0, 1] (n5 b ((t8 b ((j9 (n7 b ((d9 b j).snd + 1))).fst.length : Int) ((j9 (n7 b ((d9 b j).snd + 1))).fst, (w5 b ((d9 b j).snd + 1)).snd) k).snd) 4 (by omega) (by omega)) K8) (fc h3 (fc h4 fz)) (us [(8, 14, 0), (1015, 1015, 0), (17, 19, 1), (1020, 1020, 1)])) (rg 7) [.box [.ref 1, iA ((W8 b j k).snd + 1)], dY b, ax5, .box (pL 4), ap2 b j, ap1 b j, .row 122 (D.instrs (W8 b j k).fst)] [(0, .ptr 0 0), (2, .ptr 2 0), (3, .ptr 3 0), (6, aH5 b j), (7, iA k), (54, bA (pk b (W8 b j k).snd 4 == 0))] (iX k k ((t8 b ((j9 (n7 b ((d9 b j).snd + 1))).fst.length : Int) ((j9 (n7 b ((d9 b j).snd + 1))).fst, (w5 b ((d9 b j).snd + 1)).snd) k).fst.length) (iX k k ((t8 b ((j9 (n7 b ((d9 b j).snd + 1))).fst.length : Int) ((j9 (n7 b ((d9 b j).snd + 1))).fst, (w5 b ((d9 b j).snd + 1)).snd) k).fst.length) [])) (iK (by omega) (iK (by omega) bS4)) fun G => b0 (H6 (u := (pk b (t8 b ((j9 (n7 b ((d9 b j).snd + 1))).fst.length : Int) ((j9 (n7 b ((d9 b j).snd + 1))).fst, (w5 b ((d9 b j).snd + 1)).snd) k).snd (4 : Int))) (v := (0 : Int)) G (fun h5 q5 => ?_) fun h5 q5 => ?_)
       · refine wp_skip (i8 (b0 (A0 G d8 [(7, iA ((k : Int) + 1))] [wO ((k : Int) + 1)] (o1 (by omega)) fun G => b0 ?_))); exact H9 G (k + 1) (by omega) (by omega) (rg 7) (by have e1 : ((t8 b ((j9 (n7 b ((d9 b j).snd + 1))).fst.length : Int) ((j9 (n7 b ((d9 b j).snd + 1))).fst, (w5 b ((d9 b j).snd + 1)).snd) (k + 1)).snd : Int) = ((t8 b ((j9 (n7 b ((d9 b j).snd + 1))).fst.length : Int) ((j9 (n7 b ((d9 b j).snd + 1))).fst, (w5 b ((d9 b j).snd + 1)).snd) k).snd + 1) := (by rw [a47 (by omega) (by omega) (by omega)]; done); have e2 : ((t8 b ((j9 (n7 b ((d9 b j).snd + 1))).fst.length : Int) ((j9 (n7 b ((d9 b j).snd + 1))).fst, (w5 b ((d9 b j).snd + 1)).snd) (k + 1)).fst : List c7) = ((t8 b ((j9 (n7 b ((d9 b j).snd + 1))).fst.length : Int) ((j9 (n7 b ((d9 b j).snd + 1))).fst, (w5 b ((d9 b j).snd + 1)).snd) k).fst) := (by rw [a47 (by omega) (by omega) (by omega)]; done); (first | rw [e1, e2] | simp only [e1, e2]) <;> rfl)
       · refine C8 G (r7 10 [0, 1] (n5 b ((t8 b ((j9 (n7 b ((d9 b j).snd + 1))).fst.length : Int) ((j9 (n7 b ((d9 b j).snd + 1))).fst, (w5 b ((d9 b j).snd + 1)).snd) k).snd + 1) (((j9 (n7 b ((d9 b j).snd + 1))).fst.length : Int) - (k : Int) - 1) (by omega) (by omega))) [0, 1, 0, 0, 8, 0, 0, 0, 192, 448, 992, 2040, 4088, 8191, 16383] (rg 7) [.box [.ref 1, iA ((W8 b j k).snd + 1 + 1)], dY b, ax5, .box (pL 4), ap2 b j, ap1 b j, .row 122 (D.instrs ((W8 b j k).fst.set k (c7.mk 8 ((k : Int) + 1 + pk b ((W8 b j k).snd + 1) (((j9 (n7 b ((d9 b j).snd + 1))).fst.length : Int) - (k : Int) - 1)) 0 0 0)))] [(0, .ptr 0 0), (2, .ptr 2 0), (3, .ptr 3 0), (6, aH5 b j), (7, iA k)] ((wO ((k : Int) + 1)) :: ((wO (((j9 (n7 b ((d9 b j).snd + 1))).fst.length : Int) - (k : Int))) :: ((wO (((j9 (n7 b ((d9 b j).snd + 1))).fst.length : Int) - (k : Int) - 1)) :: ((wO ((k : Int) + 1 + pk b ((t8 b ((j9 (n7 b ((d9 b j).snd + 1))).fst.length : Int) ((j9 (n7 b ((d9 b j).snd + 1))).fst, (w5 b ((d9 b j).snd + 1)).snd) k).snd + 1) (((j9 (n7 b ((d9 b j).snd + 1))).fst.length : Int) - (k : Int) - 1))) :: (iX k k ((t8 b ((j9 (n7 b ((d9 b j).snd + 1))).fst.length : Int) ((j9 (n7 b ((d9 b j).snd + 1))).fst, (w5 b ((d9 b j).snd + 1)).snd) k).fst.length) []))))) ⟨oW (by omega), ⟨oW (by omega), ⟨oW (by omega), ⟨(bf5 (by omega) (by omega) (by omega) (by omega)), (iK (by omega) bS4)⟩⟩⟩⟩ fun G => i8 (b0 (A0 G d8 [(7, iA ((k : Int) + 1))] [wO ((k : Int) + 1)] (o1 (by omega)) fun G => b0 ?_)); exact H9 G (k + 1) (by omega) (by omega) (rg 7) (by have e1 : ((t8 b ((j9 (n7 b ((d9 b j).snd + 1))).fst.length : Int) ((j9 (n7 b ((d9 b j).snd + 1))).fst, (w5 b ((d9 b j).snd + 1)).snd) (k + 1)).snd : Int) = ((t8 b ((j9 (n7 b ((d9 b j).snd + 1))).fst.length : Int) ((j9 (n7 b ((d9 b j).snd + 1))).fst, (w5 b ((d9 b j).snd + 1)).snd) k).snd + 1 + 1) := (by rw [a46 (by omega) (by omega) (by omega)]; done); have e2 : ((t8 b ((j9 (n7 b ((d9 b j).snd + 1))).fst.length : Int) ((j9 (n7 b ((d9 b j).snd + 1))).fst, (w5 b ((d9 b j).snd + 1)).snd) (k + 1)).fst : List c7) = ((t8 b ((j9 (n7 b ((d9 b j).snd + 1))).fst.length : Int) ((j9 (n7 b ((d9 b j).snd + 1))).fst, (w5 b ((d9 b j).snd + 1)).snd) k).fst.set k (c7.mk 8 ((k : Int) + 1 + pk b ((t8 b ((j9 (n7 b ((d9 b j).snd + 1))).fst.length : Int) ((j9 (n7 b ((d9 b j).snd + 1))).fst, (w5 b ((d9 b j).snd + 1)).snd) k).snd + 1) (((j9 (n7 b ((d9 b j).snd + 1))).fst.length : Int) - (k : Int) - 1)) 0 0 0)) := (by rw [a46 (by omega) (by omega) (by omega)]; done); (first | rw [e1, e2] | simp only [e1, e2]) <;> rfl)
theorem a60 (b : List UInt8) (j : Int) (r0 : 0 ≤ j) (r1 : j ≤ 1000000) : j5.ok Try.prog ⟨55, [.ptr 0 0], [.box [.ref 1, iA j], dY b], [.box [.ref 1, iA (jpD b j).2], dY b, rI (jpD b j).1.vars, rI (jpD b j).1.arrays, rN (jpD b j).1.list], .agg [.ref 2, .ref 3, .ref 4]⟩ := by
 by_cases h : pk b (d9 b j).2 2 = 0
 ·cases h2 : Y9 (n7 b ((d9 b j).2 + 1)) with
  | true => rw [bQ2 h h2]; exact bb7 b j h h2 r0 r1
  | false => rw [bQ4 h h2]; exact bb9 b j h h2 r0 r1
 ·rw [bQ3 h]; exact bb8 b j h r0 r1
theorem jp0 (b : List UInt8) : 0 ≤ (jpD b 0).2 ∧ (jpD b 0).2 ≤ 1000000 ∧ (jpD b 0).1.list.length ≤ 400 ∧ (jpD b 0).1.vars.length ≤ 1000 ∧ (jpD b 0).1.arrays.length ≤ 1000 := by
 obtain ⟨h1, h2, h3, h4, h5⟩ := bF7 b (j := 0) (by omega) (by omega)
 obtain ⟨g1, g2, g3, g4, g5⟩ := ag9 b (jpE b 0).1 (jpE b 0).2
 unfold jpD
 rw [g1, g2, g3]
 omega
def zB (bit : Int) (l : Int) : Bool := !(bj8 l bit == 0)
section
variable {bit : Int} {p : j8} {m : o8}
theorem bJ9 (h : m.arrs.all N9 = true) {i : Nat} (hi : i < m.arrs.length) : (m.arrs.getD i []).length = 4 := by
 have := bS2.1 h (m.arrs.getD i []) (by rw [o5 hi]; exact bS9 hi)
 unfold N9 at this
 simp only [bR6, decide_eq_true_eq] at this
 exact this.1
end
section
variable {ls xs : List Int} {rs : List (List Int)} {k : Nat} {b : Bool}
end
theorem zbt {bit l : Int} (h : ¬ bj8 l bit = 0) : zB bit l = true := by unfold zB; rw [beq_eq_false_iff_ne.2 h]; rfl
theorem zbf {bit l : Int} (h : bj8 l bit = 0) : zB bit l = false := by unfold zB; rw [h]; rfl
def x7 (b : List UInt8) (bit : Int) (ls : List Int) (j : Int) (xs : List Int) : Nat → List Int × Int
 | 0 => (xs, j)
 | k + 1 => if zB bit (ls.getD k 0) = true then ((x7 b bit ls j xs k).1.set k (nm b (x7 b bit ls j xs k).2 W9), (x7 b bit ls j xs k).2 + 1) else x7 b bit ls j xs k
theorem ay5 (b : List UInt8) (bit : Int) (ls : List Int) (j : Int) (xs : List Int) : ∀ k : Nat, (x7 b bit ls j xs k).1.length = xs.length ∧ j ≤ (x7 b bit ls j xs k).2 ∧ (x7 b bit ls j xs k).2 ≤ j + k
 | 0 => ⟨rfl, Int.le_refl _, by simp [x7]⟩
 | k + 1 => by
  have h := ay5 b bit ls j xs k
  rw [x7]
  split
  ·refine ⟨by simp [h.1], ?_, ?_⟩ <;> dsimp only <;> omega
  ·omega
theorem bs8 {b : List UInt8} {bit : Int} {ls : List Int} {j : Int} {xs : List Int} {k : Nat} (h : zB bit (ls.getD k 0) = true) : x7 b bit ls j xs (k + 1) = ((x7 b bit ls j xs k).1.set k (nm b (x7 b bit ls j xs k).2 W9), (x7 b bit ls j xs k).2 + 1) := by rw [x7, if_pos h]
theorem bs9 {b : List UInt8} {bit : Int} {ls : List Int} {j : Int} {xs : List Int} {k : Nat} (h : zB bit (ls.getD k 0) = false) : x7 b bit ls j xs (k + 1) = x7 b bit ls j xs k := by rw [x7, if_neg (by rw [h]; decide)]
theorem aC4 (b : List UInt8) (bit : Int) (ls : List Int) {j : Int} (xs : List Int) (hx : C0 xs = true) (r0 : 0 ≤ j) : ∀ k : Nat, j + k ≤ 1000000000 → C0 (x7 b bit ls j xs k).1 = true
 | 0, _ => hx
 | k + 1, r1 => by
  have ih := aC4 b bit ls xs hx r0 k (by omega)
  have hb := ay5 b bit ls j xs k
  rw [x7]
  split
  ·unfold C0 at ih ⊢
   rw [bS2] at ih ⊢
   intro x hx
   rcases List.mem_or_eq_of_mem_set hx with h | h
   ·exact ih x h
   ·subst h; exact va_in b (by omega) (by omega)
  ·exact ih
where
 va_in (b : List UInt8) {j : Int} (r0 : 0 ≤ j) (r1 : j ≤ 1000000000) : (decide (0 ≤ nm b j W9) && decide (nm b j W9 ≤ 255)) = true := by
  have h := ad3 b r0 r1 (l := W9) (List.cons_ne_nil _ _)
  have key : ∀ x ∈ W9, (decide (0 ≤ x) && decide (x ≤ 255)) = true := by decide
  exact key _ h
theorem bv4 (b : List UInt8) {j : Int} (r0 : 0 ≤ j) (r1 : j ≤ 1000000000) : (decide (0 ≤ nm b j W9) && decide (nm b j W9 ≤ 255)) = true := aC4.va_in b r0 r1
theorem aP1 (b : List UInt8) {j : Int} (r0 : 0 ≤ j) (n : Nat) (r1 : j + n ≤ 1000000000) : C0 (H8 b j n) = true := by
 unfold C0
 rw [bS2]
 intro x hx
 unfold H8 at hx
 obtain ⟨i, hi, rfl⟩ := List.mem_map.1 hx
 have hi := bU9.1 hi
 exact bv4 b (by omega) (by omega)
def Y6 (b : List UInt8) (bit : Int) (ls : List Int) (j : Int) (rs : List (List Int)) : Nat → List (List Int) × Int
 | 0 => (rs, j)
 | i + 1 => if zB bit (ls.getD i 0) = true then ((Y6 b bit ls j rs i).1.set i (H8 b (Y6 b bit ls j rs i).2 4), (Y6 b bit ls j rs i).2 + 4) else Y6 b bit ls j rs i
theorem aq3 (b : List UInt8) (bit : Int) (ls : List Int) (j : Int) (rs : List (List Int)) : ∀ k : Nat, (Y6 b bit ls j rs k).1.length = rs.length ∧ j ≤ (Y6 b bit ls j rs k).2 ∧ (Y6 b bit ls j rs k).2 ≤ j + 4 * k
 | 0 => ⟨rfl, Int.le_refl _, by simp [Y6]⟩
 | k + 1 => by
  have h := aq3 b bit ls j rs k
  rw [Y6]
  split
  ·refine ⟨by simp [h.1], ?_, ?_⟩ <;> dsimp only <;> omega
  ·omega
theorem aQ0 (b : List UInt8) (bit : Int) (ls : List Int) (j : Int) (rs : List (List Int)) (i : Nat) : ∀ k : Nat, k ≤ i ∨ zB bit (ls.getD i 0) = false → (Y6 b bit ls j rs k).1.getD i [] = rs.getD i []
 | 0, _ => rfl
 | k + 1, h => by
  have ih := aQ0 b bit ls j rs i k (h.elim (fun h => .inl (by omega)) .inr)
  rw [Y6]
  split
  ·rename_i hk
   have : k ≠ i := fun e => by
    rcases h with h | h
    ·omega
    ·rw [e, h] at hk; cases hk
   dsimp only
   rw [bR7, List.getElem?_set_ne this, ← bR7]; exact ih
  ·exact ih
theorem aY4 (b : List UInt8) (bit : Int) (ls : List Int) {j : Int} (rs : List (List Int)) (hx : rs.all N9 = true) (r0 : 0 ≤ j) : ∀ k : Nat, j + 4 * k ≤ 1000000000 → (Y6 b bit ls j rs k).1.all N9 = true
 | 0, _ => hx
 | k + 1, r1 => by
  have ih := aY4 b bit ls rs hx r0 k (by omega)
  have hb := aq3 b bit ls j rs k
  rw [Y6]
  split
  ·rw [bS2] at ih ⊢
   intro x hx
   rcases List.mem_or_eq_of_mem_set hx with h | h
   ·exact ih x h
   ·subst h
    unfold N9
    rw [T3, aP1 b (by omega) 4 (by omega)]; rfl
  ·exact ih
def G2 (b : List UInt8) (bit : Int) (ls : List Int) (j : Int) (rs : List (List Int)) (i k : Nat) : List (List Int) × Int :=
 if zB bit (ls.getD i 0) = true then ((Y6 b bit ls j rs i).1.set i (H8 b (Y6 b bit ls j rs i).2 k ++ (rs.getD i []).drop k), (Y6 b bit ls j rs i).2 + k) else Y6 b bit ls j rs i
section
variable {b : List UInt8} {bit : Int} {ls : List Int} {j : Int} {rs : List (List Int)} {i k : Nat}
theorem bD3 : (G2 b bit ls j rs i k).1.length = rs.length ∧ j ≤ (G2 b bit ls j rs i k).2 ∧ (G2 b bit ls j rs i k).2 ≤ j + 4 * i + k := by
 have h := aq3 b bit ls j rs i
 unfold G2
 split
 ·refine ⟨by simp [h.1], ?_, ?_⟩ <;> dsimp only <;> omega
 ·omega
theorem bt2 (hi : i < rs.length) : G2 b bit ls j rs i 0 = Y6 b bit ls j rs i := by
 have h := aq3 b bit ls j rs i
 have h2 := aQ0 b bit ls j rs i i (.inl (bS5 _))
 unfold G2
 split
 ·rw [bL1, bV6, List.drop_zero, ← h2, o5 (by omega)]
  rw [List.set_getElem_self]; simp
 ·rfl
theorem ba4 (hi : i < rs.length) : (G2 b bit ls j rs i k).1.getD i [] = if zB bit (ls.getD i 0) = true then H8 b (Y6 b bit ls j rs i).2 k ++ (rs.getD i []).drop k else rs.getD i [] := by
 have h := aq3 b bit ls j rs i
 unfold G2
 split
 ·dsimp only
  rw [bR7, List.getElem?_set_self (by omega)]; rfl
 ·exact aQ0 b bit ls j rs i i (.inl (bS5 _))
theorem bm0 (hi : i < rs.length) (hr : (rs.getD i []).length = 4) (hk : k ≤ 4) : ((G2 b bit ls j rs i k).1.getD i []).length = 4 := by
 rw [ba4 hi]; split
 ·simp only [bR8, T3, List.length_drop]; omega
 ·exact hr
theorem bt0 (hi : i < rs.length) (hr : (rs.getD i []).length = 4) (hk : k < 4) (h : zB bit (ls.getD i 0) = true) : G2 b bit ls j rs i (k + 1) = ((G2 b bit ls j rs i k).1.set i (((G2 b bit ls j rs i k).1.getD i []).set k (nm b (G2 b bit ls j rs i k).2 W9)), (G2 b bit ls j rs i k).2 + 1) := by
 rw [ba4 hi, if_pos h]
 unfold G2
 rw [if_pos h, if_pos h]
 dsimp only
 rw [List.set_set, mk_set' (T3 _ _ _) (by omega), an4]
 exact Prod.ext rfl (by dsimp only; omega)
where
 mk_set' {l m : List Int} {j : Nat} {y : Int} (hl : l.length = j) (hj : j < m.length) : (l ++ m.drop j).set j y = (l ++ [y]) ++ m.drop (j + 1) := by
  rw [List.set_append_right _ _ (by omega), hl, Nat.sub_self, List.drop_eq_getElem_cons hj, List.set_cons_zero, bV5]
  rfl
theorem bt1 (h : zB bit (ls.getD i 0) = false) : G2 b bit ls j rs i (k + 1) = G2 b bit ls j rs i k := by
 unfold G2; rw [if_neg (by rw [h]; decide), if_neg (by rw [h]; decide)]
theorem aY3 (hi : i < rs.length) (hr : (rs.getD i []).length = 4) : G2 b bit ls j rs i 4 = Y6 b bit ls j rs (i + 1) := by
 unfold G2
 rw [Y6]
 split
 ·rw [List.drop_eq_nil_of_le (by omega), List.append_nil]; rfl
 ·rfl
end
def scM (b : List UInt8) (bit : Int) (p : j8) (m : o8) (j : Int) : o8 × Int :=
 (⟨(x7 b bit p.vars j m.vals m.vals.length).1, (Y6 b bit p.arrays (x7 b bit p.vars j m.vals m.vals.length).2 m.arrs m.arrs.length).1⟩, (Y6 b bit p.arrays (x7 b bit p.vars j m.vals m.vals.length).2 m.arrs m.arrs.length).2)
theorem bo9 (v1 v2 : Value) (xs : List Int) (rs : List (List Int)) (w : World) (h1 : H4 w v1 xs.length 1 (ints xs)) (h2 : S9 w v2 rs) (hx : xs.length ≤ 1048576) (hr : rs.length ≤ 1048576) (hi : ∀ r ∈ rs, r.length ≤ 1048576) :
  Calls Try.prog 91 #[.agg #[v1, v2]] w fun e w' => ∃ u1 u2 mid, w.heap.size ≤ mid ∧ e = .returned (.agg #[u1, u2]) ∧ A9 w' w.heap.size mid 3 1 u1 xs.length (ints xs) ∧ H1 w' mid w'.heap.size u2 rs ∧ Below w.heap.size w w' := by
 obtain ⟨vs, hv, hrows⟩ := h2
 have hvl : vs.length = rs.length := by have := hv.1; omega
 have hone : ∀ u ∈ vs, u.oneCell' = true := by
  intro u hu
  obtain ⟨i, hi, rfl⟩ := List.mem_iff_getElem.1 hu
  obtain ⟨a', c', e⟩ := (hrows i _ _ (bo2 hi) (bo2 (by omega))).form
  rw [e]; rfl
 obtain ⟨n, hn⟩ : ∃ n, n = w.heap.size := ⟨_, rfl⟩
 obtain ⟨W, hW⟩ : ∃ W, W = (w.alloc (.cells #[v1, v2] 34)).alloc (.cells #[.slice none 0 0, .slice none 0 0] 34) := ⟨_, rfl⟩
 have B0 : Below n w W := by rw [hW, hn]; go_grown
 have sW : W.heap.size = n + 1 + 1 := by rw [hW, hn]; simp
 have L1 : C2 W n [v1, v2] := by rw [hW, hn]; exact (C2.new w [v1, v2] _).alloc _
 have L2 : C2 W (n + 1) [.slice none 0 0, .slice none 0 0] := by rw [hW, hn]; exact C2.new' (w.alloc _) [.slice none 0 0, .slice none 0 0] _ (by simp)
 have HR1 := show Hid (∀ W', Below n w W' → H4 W' v1 xs.length 1 (ints xs)) from fun W' g => h1.below (by rw [← hn]; exact g)
 have HR2 := show Hid (∀ W', Below n w W' → H4 W' v2 rs.length 1 vs) from fun W' g => hv.below (by rw [← hn]; exact g)
 have HR3 := show Hid (∀ W', Below n w W' → ∀ (i : Nat) (u : Value) (r : List Int), vs[i]? = some u → rs[i]? = some r → H4 W' u r.length 1 (ints r)) from fun W' g i u r a b => (hrows i u r a b).below (by rw [← hn]; exact g)
 have HA := show Hid (∀ W', Below (n + 1 + 1) W W' → Below n w W') from fun W' g => B0.trans (g.mono (by omega))
 have HT := show Hid (∀ W', Below (n + 1 + 1) W W' → W'.cell? ⟨n, 0, none⟩ = some v1 ∧ W'.cell? ⟨n, 1, none⟩ = some v2 ∧ W'.frozen? ⟨n, 0, none⟩ = false ∧ W'.frozen? ⟨n, 1, none⟩ = false) from by
  intro W' hb
  have L' := L1.below hb (by omega)
  exact ⟨by simpa using L'.cell 0, by simpa using L'.cell 1, L'.free 0, L'.free 1⟩
 have HQ := show Hid (∀ W' W'', Below (n + 1 + 1) W W' → Below W'.heap.size W' W'' → Below (n + 1 + 1) W W'') from fun W' W'' g k => g.trans (k.mono (by have := g.size; omega))
 have hb0 : Below (n + 1 + 1) W W.drew := (Below.refl _ W).drew
 obtain ⟨c0, c1, f0, f1⟩ := HT.out _ hb0
 have HN := show Hid (n = w.heap.size) from hn
 have HB0 := show Hid _ from B0
 have HL2 := show Hid _ from L2
 have HL1 := show Hid _ from L1
 have HO := show Hid _ from hone
 have HVL := show Hid _ from hvl
 clear h1 hv hrows B0 L1 L2 hone hvl
 go_enter Try.func91, Try.ntmps91
 go_wp2_with fail
 rw [← HN.out]
 rw [← hW]
 clear hn hW
 go_region_with (first
  | (go_at_call 90; refine (ae0 v1 xs _ (HR1.out _ (HA.out _ hb0)) (by omega)).mono ?_; rintro e w7 ⟨u1, rfl, o1, b7⟩; obtain ⟨x1, k1, rfl⟩ := o1.form; have q7 := HQ.out _ _ hb0 b7; obtain ⟨c2, c3, f2, f3⟩ := HT.out _ q7)
  | (go_at_call 128; refine (aT8 v2 rs.length vs _ (HR2.out _ (HA.out _ q7)) HO.out (by omega)).mono ?_; rintro e w8 ⟨u2, rfl, o2, b8⟩; obtain ⟨x2, k2, rfl⟩ := o2.form; have q8 := HQ.out _ _ q7 b8; obtain ⟨c4, c5, f4, f5⟩ := HT.out _ q8))
 all_goals
  have s7 := b7.size
  have s8 := b8.size
  have sd : W.drew.heap.size = n + 1 + 1 := sW
  have LX := ((C2.below HL1.out q8 (by omega)).set (j := 0) (.slice x1 xs.length k1)).set (j := 1) (.slice x2 rs.length k2)
  have MX := ((C2.below HL2.out q8 (by omega)).other (p := ⟨n, 0, none⟩) (by show n + 1 ≠ n; omega) (.slice x1 xs.length k1)).other (p := ⟨n, 1, none⟩) (by show n + 1 ≠ n; omega) (.slice x2 rs.length k2)
  have OX := ((o1.keep b8 (bS5 _)).other (b := n) (by omega) 0 (.slice x1 xs.length k1)).other (b := n) (by omega) 1 (.slice x2 rs.length k2)
  have PX := (o2.other (b := n) (by omega) 0 (.slice x1 xs.length k1)).other (b := n) (by omega) 1 (.slice x2 rs.length k2)
  have BX := ((HB0.out.trans (q8.mono (by omega))).setCell (p := ⟨n, 0, none⟩) (bS5 _) (.slice x1 xs.length k1)).setCell (p := ⟨n, 1, none⟩) (bS5 _) (.slice x2 rs.length k2)
  have SX : ((w8.setCell ⟨n, 0, none⟩ (.slice x1 xs.length k1)).setCell ⟨n, 1, none⟩ (.slice x2 rs.length k2)).heap.size = w8.heap.size := by simp
  generalize (w8.setCell ⟨n, 0, none⟩ (.slice x1 xs.length k1)).setCell ⟨n, 1, none⟩ (.slice x2 rs.length k2) = wX at *
  clear c0 c1 c2 c3 c4 c5 f0 f1 f2 f3 f4 f5 hb0 q7 q8 HQ HT HA HL1 HL2 HB0 b7 b8 o1 o2
  have r0 := LX.cell 0
  have r1 := LX.cell 1
  simp at r0 r1
  obtain ⟨A, hA⟩ : ∃ A, A = w7.heap.size := ⟨_, rfl⟩
  obtain ⟨B, hB⟩ : ∃ B, B = w8.heap.size := ⟨_, rfl⟩
  rw [← hA] at OX PX s7 s8
  rw [← hB] at PX s8 SX
  rw [sd] at OX s7
  have HLX := show Hid _ from LX
  have HMX := show Hid _ from MX
  clear hA hB LX MX sd sW
  go_wp2_with fail
  clear r0 r1
  go_loopw [3, 4, 16] (fun _ _ i wr => ∃ (k : Nat) (cs : List Value), k ≤ rs.length ∧ i = .int .i64 k ∧ A9 wr A B 23 1 (.slice x2 rs.length k2) rs.length cs ∧ (∀ (i : Nat) (u : Value) (r : List Int), i < k → cs[i]? = some u → rs[i]? = some r → A9 wr B wr.heap.size 3 1 u r.length (ints r)) ∧
    (∀ (i j : Nat) (u u' : Value), i < j → j < k → cs[i]? = some u → cs[j]? = some u' → ah7 u u') ∧ (∀ i, k ≤ i → cs[i]? = vs[i]?) ∧ A9 wr (n + 1 + 1) A 3 1 (.slice x1 xs.length k1) xs.length (ints xs) ∧ C2 wr n [.slice x1 xs.length k1, .slice x2 rs.length k2] ∧ C2 wr (n + 1) [.slice none 0 0, .slice none 0 0] ∧ Below n w wr ∧ B ≤ wr.heap.size) (fun _ _ i _ => rs.length - (intOf i).toNat)
  case atStart => exact ⟨0, vs, bU8 _, rfl, PX, fun i u r h => by omega, fun i j u u' _ h => by omega, fun i _ => rfl, OX, HLX.out, HMX.out, BX, Nat.le_of_eq SX.symm⟩
  case round =>
   obtain ⟨k, cs, hk, rfl, ho, hrow, hdis, hrest, hvals, hL, hM, hb, hsz⟩ := hrel
   have HROW := show Hid _ from hrow
   have HDIS := show Hid _ from hdis
   have HREST := show Hid _ from hrest
   have HLL := show Hid _ from hL
   have HMM := show Hid _ from hM
   have hcl : cs.length = rs.length := by have := ho.1.1; omega
   clear hrow hdis hrest OX PX BX SX HLX HMX
   have r1 := hL.cell 1
   simp at r1
   by_cases hlt : k < rs.length
   ·obtain ⟨g, cap, hv, hg1, hg2, hg3, -, -, hfz, hcc⟩ := ho.open (by omega)
    cases hv
    have hkc : k < cs.length := by omega
    obtain ⟨u0, hu0⟩ : ∃ u0, u0 = cs[k] := ⟨_, rfl⟩
    have hcu : cs[k]? = some u0 := by rw [hu0]; exact bo2 hkc
    have hvu : vs[k]? = some u0 := by rw [← HREST.out k (bS5 _)]; exact hcu
    have hrk : rs[k]? = some rs[k] := bo2 hlt
    have hrow := HR3.out wr hb k u0 rs[k] hvu hrk
    obtain ⟨au, cu, rfl⟩ := hrow.form
    have hx := hcc k _ hcu
    have f0 := hfz k
    have hlen := hi rs[k] (bS9 hlt)
    have HCU := show Hid _ from hcu
    have HHR := show Hid _ from hrow
    have HHO := show Hid _ from ho
    have HVA := show Hid _ from hvals
    have HB := show Hid _ from hb
    have HRK := show Hid _ from hrk
    have hm1 : rs.length ≤ 9223372036854775807 := by omega
    have HRR := show Hid (H4 wr.drew (.slice au rs[k].length cu) rs[k].length 1 (ints rs[k])) from HR3.out wr.drew hb.drew k _ rs[k] hvu hrk
    have h0g : n + 1 < g := by omega
    clear hu0 hcc hfz hcu hvu hrow ho hvals hb hL hM hrk
    go_wp2_with fail
    go_region_with (go_at_call 90; refine (ae0 _ rs[k] _ HRR.out (by omega)).mono ?_; rintro e w9 ⟨u9, rfl, o9, b9⟩; obtain ⟨x9, k9, rfl⟩ := o9.form; have q9 := ae1 b9 (Below.refl _ wr).drew (bS5 _); have f9 := ((S8 q9).2 g k hg3).trans f0; have c9 := ((S8 q9).1 g k hg3).trans hx; have r9 := ((S8 q9).1 n 1 (by omega)).trans r1)
    all_goals
     have s9 := q9.size
     have sz9 : wr.drew.heap.size = wr.heap.size := rfl
     rw [sz9] at o9 b9
     clear f0 hx r1 f9 c9 r9 HRR
     go_wp2_with fail
     refine ⟨⟨k + 1, cs.set k (.slice x9 rs[k].length k9), by omega, by go_num, A9.setCell (A9.keep HHO.out q9 (by omega)) hkc _, ?_, ?_, ?_, (A9.other (A9.keep HVA.out q9 (by omega)) (b := g) (by omega) _ _), (C2.other (C2.below HLL.out q9 (by omega)) (p := ⟨g, k, none⟩) (by show n ≠ g; omega) _), (C2.other (C2.below HMM.out q9 (by omega)) (p := ⟨g, k, none⟩) (by show n + 1 ≠ g; omega) _), (HB.out.trans (q9.mono (by omega))).setCell (p := ⟨g, k, none⟩) (by show n ≤ g; omega) _, by simp; omega⟩, by simp [intOf]; omega⟩
     ·intro i u r hik hu hr'
      by_cases e : i = k
      ·subst e
       rw [List.getElem?_set_self hkc] at hu
       cases hu
       rw [HRK.out] at hr'
       cases hr'
       exact (o9.other (b := g) (by omega) _ _).wide (by omega) (by simp)
      ·rw [List.getElem?_set_ne (by omega)] at hu
       exact (((HROW.out i u r (by omega) hu hr').keep q9 (bS5 _)).other (b := g) (by omega) _ _).wide (bS5 _) (by simpa using s9)
     ·intro i j u u' hij hj hu hu'
      rw [List.getElem?_set_ne (by omega)] at hu
      by_cases e : j = k
      ·subst e
       rw [List.getElem?_set_self hkc] at hu'
       cases hu'
       exact a16 (HROW.out i u _ (by omega) hu (bo2 (by omega))) o9 (by omega)
      ·rw [List.getElem?_set_ne (by omega)] at hu'
       exact HDIS.out i j u u' hij (by omega) hu hu'
     ·intro i hik
      rw [List.getElem?_set_ne (by omega)]
      exact HREST.out i (by omega)
   ·have hke : k = rs.length := by omega
    subst hke
    have r0 := hL.cell 0
    have m0 := hM.cell 0
    have m1 := hM.cell 1
    have fm0 := hM.free 0
    have fm1 := hM.free 1
    simp at r0 m0 m1
    have hF := ((hM.set (j := 0) (.slice x1 xs.length k1)).set (j := 1) (.slice x2 rs.length k2))
    have BF := (hb.setCell (p := ⟨n + 1, 0, none⟩) (by show n ≤ n + 1; omega) (.slice x1 xs.length k1)).setCell (p := ⟨n + 1, 1, none⟩) (by show n ≤ n + 1; omega) (.slice x2 rs.length k2)
    have OF := (hvals.other (b := n + 1) (by omega) 0 (.slice x1 xs.length k1)).other (b := n + 1) (by omega) 1 (.slice x2 rs.length k2)
    have PF := (ho.other (b := n + 1) (by omega) 0 (.slice x1 xs.length k1)).other (b := n + 1) (by omega) 1 (.slice x2 rs.length k2)
    have HRF := show Hid (∀ (i : Nat) (u : Value) (r : List Int), cs[i]? = some u → rs[i]? = some r → A9 ((wr.setCell ⟨n + 1, 0, none⟩ (.slice x1 xs.length k1)).setCell ⟨n + 1, 1, none⟩ (.slice x2 rs.length k2)) B wr.heap.size 3 1 u r.length (ints r)) from fun i u r hu hr' =>
     ((HROW.out i u r (by have := (bS0.1 hr').1; omega) hu hr').other (b := n + 1) (by omega) 0 _).other (b := n + 1) (by omega) 1 _
    have zF : ((wr.setCell ⟨n + 1, 0, none⟩ (.slice x1 xs.length k1)).setCell ⟨n + 1, 1, none⟩ (.slice x2 rs.length k2)).heap.size = wr.heap.size := by simp
    have y0 := hF.cell 0
    have y1 := hF.cell 1
    simp at y0 y1
    have HBF := show Hid _ from BF
    have HOF := show Hid _ from OF
    have HPF := show Hid _ from PF
    have HZF := show Hid _ from zF
    clear hF BF OF PF zF ho hvals hL hM hb
    go_wp2_with fail
    refine bodyPost_ret (v := .agg #[.slice x1 xs.length k1, .slice x2 rs.length k2]) (by simp [results, Try.results91, go_sem, y0, y1]) rfl ⟨_, _, A, by rw [← HN.out]; omega, rfl, ?_, ⟨cs, ?_, ?_, ?_, ?_⟩, ?_⟩
    ·rw [← HN.out]; exact A9.wide HOF.out (by omega) (bS5 _)
    ·exact A9.wide HPF.out (bS5 _) (by rw [HZF.out]; omega)
    ·intro i u r hu hr'
     exact (HRF.out i u r hu hr').wide (by omega) (by rw [HZF.out]; exact bS5 _)
    ·intro i j u u' hij hu hu'
     exact HDIS.out i j u u' hij (by have := (bS0.1 hu').1; omega) hu hu'
    ·intro i u hu
     have hil : i < rs.length := by have := (bS0.1 hu).1; omega
     exact a16 (HRF.out i u _ hu (bo2 hil)) HPF.out (by omega)
    ·rw [← HN.out]; exact HBF.out
theorem bn1 {w : World} {φ : Nat → Prop} {v : Value} {m : List (List Int)} (h : RD w φ (.rows m) v) : S9 w v m := by
 obtain ⟨vs, h1, h2⟩ := h
 refine ⟨vs, v6.row h1, fun i u r hu hr => ?_⟩
 have hi : i < m.length := (bS0.1 hr).1
 obtain ⟨u', a, b⟩ := h2 i hi
 rw [hu] at a; cases a
 rw [bo2 hi] at hr; cases hr
 exact v6.row b
theorem be6 {w : World} {lo hi : Nat} {v : Value} {m : List (List Int)} (h : H1 w lo hi v m) : z5 w (fun b => lo ≤ b ∧ b < hi) (.rows m) v := by
 obtain ⟨vs, h1, h2, h3, h4⟩ := h
 have hl : vs.length = m.length := by have := h1.1.1; omega
 refine ⟨_, vs, fun b => ∃ (i : Nat) (u : Value), vs[i]? = some u ∧ u.ownBlock = some b, rfl, B7 h1.1 (bU8 _), fun g hg => ⟨⟨(h1.lt g hg).1, (h1.lt g hg).2.1⟩, ?_⟩, ?_, av8.tree ⟨hl, fun i hi' => ?_, fun i j u u' hij hu hu' g hg => ?_⟩⟩
 ·rintro ⟨i, u, hu, hb⟩
  exact h4 i u hu g hb hg
 ·rintro b ⟨i, u, hu, hb⟩
  have hi' : i < m.length := by have := (bS0.1 hu).1; omega
  have := (h2 i u _ hu (bo2 hi')).lt b hb
  exact ⟨this.1, this.2.1⟩
 ·have hv : i < vs.length := by omega
  exact ⟨vs[i], bo2 hv, fun _ => B7 (h2 i _ _ (bo2 hv) (bo2 hi')).1 (bU8 _), fun g hg => ⟨i, _, bo2 hv, hg⟩⟩
 ·exact h3 i j u u' hij hu hu' g hg
theorem bs2 (m : o8) (hx : m.vals.length ≤ 1048576) (hr : m.arrs.length ≤ 1048576) (hi : ∀ r ∈ m.arrs, r.length ≤ 1048576) : j5.ok Try.prog ⟨91, [mA 0], mS m, mS m ++ mO m, mT 2⟩ := by
 intro ι φ ψ w0 w F ρ M
 have r1 := M.datAt (id := 0) (d := .ints m.vals) rfl
 have r2 := M.datAt (id := 1) (d := .rows m.arrs) rfl
 refine (bo9 (ρ 0) (ρ 1) m.vals m.arrs w (v6.row r1) (bn1 r2) hx hr hi).mono ?_
 rintro e w' ⟨u1, u2, mid, hmid, rfl, o1, o2, hbl⟩
 obtain ⟨z, hz1, hz2⟩ := ad9 u2 (fun b => mid ≤ b ∧ b < w'.heap.size) w'.heap.size fun b h => h.2
 refine ⟨fun i => if i = 2 then u1 else if i = 3 then z else ρ i, fun i hi => ?_, by simp [AV.val, AV.vals, hz1], ?_⟩
 ·have : i < 2 := hi
  simp only [if_neg (show ¬ i = 2 by omega), if_neg (show ¬ i = 3 by omega)]
 ·refine M.grow hbl (fun k => k = .inr 2 ∨ k = .inr 3) (fun k hk => ?_) ?_ ?_ ?_
  ·cases k with
   | inl i => rfl
   | inr j =>
    match j, hk with
    | 0, _ => rfl
    | 1, _ => rfl
    | 2, h => exact absurd (.inl rfl) h
    | 3, h => exact absurd (.inr rfl) h
    | j + 4, _ => rfl
  ·rintro k (rfl | rfl) b hb
   ·exact (o1.lt b hb).1
   ·exact bT4 hmid ((hz2 b).1 hb).1
  ·rintro j k b hjk (rfl | rfl) (rfl | rfl) hj hk
   ·exact hjk rfl
   ·have h1 := (o1.lt b hj).2.1
    have h2 := ((hz2 b).1 hk).1
    omega
   ·have h1 := (o1.lt b hk).2.1
    have h2 := ((hz2 b).1 hj).1
    omega
   ·exact hjk rfl
  ·rintro k (rfl | rfl)
   ·exact ay9 (B7 o1.1 (bU8 _))
   ·have e : v8 z = fun b => mid ≤ b ∧ b < w'.heap.size := funext fun b => propext (hz2 b)
    show (Rs.own (v8 z) fun w => z5 w (v8 z) (.rows m.arrs) (z3 z)).holds _ _
    rw [hz1, e]
    exact ⟨fun _ _ h hs => h.same hs, be6 o2, fun b hb => hb.2⟩
abbrev ae7 : It := .box [.v (.slice none 0 0), .v (.slice none 0 0)]
abbrev ax2 (b : List UInt8) (j : Int) (bit : Int) (p : j8) (m : o8) : It := .row 3 (D.ints (x7 b bit p.vars j m.vals m.vals.length).fst)
abbrev O4 (bit : Int) (r0 : List (Nat × AV)) : List (Nat × AV) := (0, .ptr 0 0) :: (3, iA bit) :: (5, .ptr 7 0) :: (8, .ptr 8 0) :: (9, .ptr 11 0) :: r0
abbrev X9 (b : List UInt8) (p : j8) (m : o8) (r0 : List It) : List It := dY b :: dI p.vars :: dI p.arrays :: dT p.body :: dI m.vals :: dR m.arrs :: .box (pL 2) :: r0
theorem aJ1 (b : List UInt8) (j bit : Int) (p : j8) (m : o8) (hv : m.vals.length = p.vars.length) (ha : m.arrs.length = p.arrays.length) (hr : m.arrs.all N9 = true) (r0 : 0 ≤ j) (r1 : j ≤ 100000000) (r2 : m.vals.length ≤ 1000000 ∧ m.arrs.length ≤ 1000000) (hi : ∀ l ∈ m.arrs, l.length ≤ 1048576) : j5.ok Try.prog ⟨58, [.ptr 0 0, pA 2, mA 5, iA bit], [.box [.ref 1, iA j], dY b] ++ pS p ++ mS m, [.box [.ref 1, iA (scM b bit p m j).2], dY b] ++ pS p ++ mS m ++ mO (scM b bit p m j).1, mT 7⟩ := by
  refine F5 85 Try.func58 [.box [.ref 1, iA j], dY b, dI p.vars, dI p.arrays, dT p.body, dI m.vals, dR m.arrs] [(0, .ptr 0 0), (1, pA 2), (2, .agg [.ref 5, .ref 6]), (3, iA bit)] fun G => ?_
  have hvb := fun k : Nat => ay5 b bit p.vars j m.vals k
  have hvl := ay5 b bit p.vars j m.vals m.vals.length; refine wp_seq (i7 G d8 [0, 1, 2, 3, 4, 5, 6, 7, 15, 23] (.box [.ref 1, iA j] :: (X9 b p m [.box [.ref 5, .ref 6], ae7])) [(0, .ptr 0 0), (3, iA bit), (5, .ptr 7 0), (6, .ptr 8 0), (8, .ptr 9 0)] fun G => b0 (wp_seq (i7 G (r7 1 [5, 6] (aN4 m.vals m.arrs (by omega) (by omega) (by assumption))) [0, 1, 2, 3, 4, 5, 6, 7, 9, 18, 19, 26] (.box [.ref 1, iA j] :: (X9 b p m [ae7, .row 3 (D.ints m.vals), .tree (D.rows m.arrs), .box [.ref 9, .tref 10]])) (O4 bit []) fun G => b0 (wp_seq (wp_seq (D6 G d8 (O4 bit [(10, iA 0)]) fun G => b0 (wp_block ?_))))))); refine t6 (κ := Nat) (fun i => i ≤ m.vals.length) (fun i => m.vals.length - i) (fun i => [.box [.ref 1, iA (x7 b bit p.vars j m.vals i).2], dY b, dI p.vars, dI p.arrays, dT p.body, dI m.vals, dR m.arrs, .box (pL 2), .box [.v (.slice none 0 0), .v (.slice none 0 0)], .row 3 (.ints (x7 b bit p.vars j m.vals i).1), .tree (D.rows m.arrs), .box [.ref 9, .tref 10]]) (fun i => [(0, .ptr 0 0), (3, iA bit), (5, .ptr 7 0), (8, .ptr 8 0), (9, .ptr 11 0), (10, iA i)]) 0 (by omega) (s5.at G _ _) ?_; clear G; intro i ρ a w hp G; replace G := s5.at G (.box [.ref 1, iA (x7 b bit p.vars j m.vals i).snd] :: (X9 b p m [ae7, .row 3 (D.ints (x7 b bit p.vars j m.vals i).fst), .tree (D.rows m.arrs), .box [.ref 9, .tref 10]])) (O4 bit [(10, iA i)]); have hs1 := ay5 b bit p.vars j m.vals i; refine wp_seq (wp_seq ?_); cases h0 : (decide ((i : Int) < ((x7 b bit p.vars j m.vals i).fst.length : Int)))
  ·
   have q0 := T8 h0
   obtain rfl : i = m.vals.length := by omega
   refine j7 G (E7 (fc (a := decide ((m.vals.length : Int) < ((x7 b bit p.vars j m.vals m.vals.length).fst.length : Int))) (b := false) (by assumption) fz) (us [(6, 10, 0), (1011, 1011, 0)])) [(10, iA (m.vals.length : Int)), (26, bA false)] fun G => b0 (rF G false (by kernel_rfl) (wp_exit (t3 (t3 (t2 (b0 (wp_seq (wp_seq (D6 G d8 (O4 bit [(11, iA 0)]) fun G => b0 (wp_block ?_)))))))))); refine t6 (κ := Nat) (fun i2 => i2 ≤ m.arrs.length) (fun i2 => m.arrs.length - i2) (fun i2 => [.box [.ref 1, iA (Y6 b bit p.arrays (x7 b bit p.vars j m.vals m.vals.length).2 m.arrs i2).2], dY b, dI p.vars, dI p.arrays, dT p.body, dI m.vals, dR m.arrs, .box (pL 2), .box [.v (.slice none 0 0), .v (.slice none 0 0)], .row 3 (D.ints (x7 b bit p.vars j m.vals m.vals.length).fst), .tree (.rows (Y6 b bit p.arrays (x7 b bit p.vars j m.vals m.vals.length).2 m.arrs i2).1), .box [.ref 9, .tref 10]]) (fun i2 => [(0, .ptr 0 0), (3, iA bit), (5, .ptr 7 0), (8, .ptr 8 0), (9, .ptr 11 0), (11, iA i2)]) 0 (by omega) (s5.at G _ _) ?_; clear G; intro i2 ρ a w hp G; replace G := s5.at G (.box [.ref 1, iA (Y6 b bit p.arrays (x7 b bit p.vars j m.vals m.vals.length).snd m.arrs i2).snd] :: (X9 b p m [ae7, ax2 b j bit p m, .tree (D.rows (Y6 b bit p.arrays (x7 b bit p.vars j m.vals m.vals.length).snd m.arrs i2).fst), .box [.ref 9, .tref 10]])) (O4 bit [(11, iA i2)]); have hs2 := aq3 b bit p.arrays (x7 b bit p.vars j m.vals m.vals.length).2 m.arrs i2; refine wp_seq (wp_seq ?_); cases h3 : (decide ((i2 : Int) < ((Y6 b bit p.arrays (x7 b bit p.vars j m.vals m.vals.length).snd m.arrs i2).fst.length : Int)))
   ·
    have q3 := T8 h3
    obtain rfl : i2 = m.arrs.length := by omega
    refine j7 G (E7 (fc (a := decide ((m.arrs.length : Int) < ((Y6 b bit p.arrays (x7 b bit p.vars j m.vals m.vals.length).snd m.arrs m.arrs.length).fst.length : Int))) (b := false) (by assumption) fz) (us [(6, 10, 0), (1011, 1011, 0)])) [(11, iA (m.arrs.length : Int)), (54, bA false)] fun G => b0 (rF G false (by kernel_rfl) (wp_exit (t3 (t3 (t2 (b0 (wp_seq (i7 G d8 [0, 1, 2, 3, 4, 5, 6, 8, 9, 10] [.box [.ref 1, iA (Y6 b bit p.arrays (x7 b bit p.vars j m.vals m.vals.length).snd m.arrs m.arrs.length).snd], dY b, dI p.vars, dI p.arrays, dT p.body, dI m.vals, dR m.arrs, .box [.ref 8, .tref 9], ax2 b j bit p m, .tree (D.rows (Y6 b bit p.arrays (x7 b bit p.vars j m.vals m.vals.length).snd m.arrs m.arrs.length).fst)] [(8, .ptr 7 0)] fun G => b0 (wp_ret ?_))))))))); exact D8 G [0, 1, 2, 3, 4, 5, 6, 8, 9]
   ·
    have q3 := T7 h3; refine D6 G (E7 (fc h3 fz) (us [(6, 10, 0), (1011, 1011, 0)])) (O4 bit [(11, iA i2), (54, bA (decide ((i2 : Int) < p.arrays.length)))]) fun G => b0 ?_; cases h4 : (decide ((i2 : Int) < p.arrays.length))
    · have q4 := T8 h4; exact False.elim (by omega)
    ·
     have q4 := T7 h4; refine rT G _ h4 (wp_skip (b0 (wp_seq (wp_block (wp_seq (D6 G d8 (O4 bit [(11, iA i2), (12, iA 0)]) fun G => b0 (wp_block ?_))))))); replace G := G.as (.box [.ref 1, iA (G2 b bit p.arrays (x7 b bit p.vars j m.vals m.vals.length).snd m.arrs i2 0).snd] :: (X9 b p m [.box [.v (.slice none 0 0), .v (.slice none 0 0)], .row 3 (D.ints (x7 b bit p.vars j m.vals m.vals.length).fst), .tree (D.rows (G2 b bit p.arrays (x7 b bit p.vars j m.vals m.vals.length).snd m.arrs i2 0).fst), .box [.ref 9, .tref 10]])) (O4 bit [(11, iA i2), (12, iA 0)]) (by have e1 : ((G2 b bit p.arrays (x7 b bit p.vars j m.vals m.vals.length).snd m.arrs i2 0).snd : Int) = ((Y6 b bit p.arrays (x7 b bit p.vars j m.vals m.vals.length).snd m.arrs i2).snd) := (by rw [bt2 (by omega)]; done); have e2 : ((G2 b bit p.arrays (x7 b bit p.vars j m.vals m.vals.length).snd m.arrs i2 0).fst : List (List Int)) = ((Y6 b bit p.arrays (x7 b bit p.vars j m.vals m.vals.length).snd m.arrs i2).fst) := (by rw [bt2 (by omega)]; done); (first | rw [e1, e2] | simp only [e1, e2]) <;> rfl) (by kernel_rfl); refine t6 (κ := Nat) (fun k2 => k2 ≤ 4) (fun k2 => 4 - k2) (fun k2 => [.box [.ref 1, iA (G2 b bit p.arrays (x7 b bit p.vars j m.vals m.vals.length).2 m.arrs i2 k2).2], dY b, dI p.vars, dI p.arrays, dT p.body, dI m.vals, dR m.arrs, .box (pL 2), .box [.v (.slice none 0 0), .v (.slice none 0 0)], .row 3 (D.ints (x7 b bit p.vars j m.vals m.vals.length).fst), .tree (.rows (G2 b bit p.arrays (x7 b bit p.vars j m.vals m.vals.length).2 m.arrs i2 k2).1), .box [.ref 9, .tref 10]]) (fun k2 => [(0, .ptr 0 0), (3, iA bit), (5, .ptr 7 0), (8, .ptr 8 0), (9, .ptr 11 0), (11, iA i2), (12, iA k2)]) 0 (by omega) (s5.at G _ _) ?_; clear G; intro k2 ρ a w hp G; replace G := s5.at G (.box [.ref 1, iA (G2 b bit p.arrays (x7 b bit p.vars j m.vals m.vals.length).snd m.arrs i2 k2).snd] :: (X9 b p m [ae7, ax2 b j bit p m, .tree (D.rows (G2 b bit p.arrays (x7 b bit p.vars j m.vals m.vals.length).snd m.arrs i2 k2).fst), .box [.ref 9, .tref 10]])) (O4 bit [(11, iA i2), (12, iA k2)]); have ha4 := bJ9 (m := m) hr (i := i2) (by omega); have hs3 := bD3 (b := b) (bit := bit) (ls := p.arrays) (j := (x7 b bit p.vars j m.vals m.vals.length).2) (rs := m.arrs) (i := i2) (k := k2); have hs4 := bm0 (b := b) (bit := bit) (ls := p.arrays) (j := (x7 b bit p.vars j m.vals m.vals.length).2) (rs := m.arrs) (i := i2) (k := k2) (by omega) ha4 (by omega); refine wp_seq (wp_seq (G4 G d8 [0, 1, 2, 3, 4, 5, 6, 7, 8, 9, 10, 11, 52] [.box [.ref 1, iA (G2 b bit p.arrays (x7 b bit p.vars j m.vals m.vals.length).snd m.arrs i2 k2).snd], dY b, dI p.vars, dI p.arrays, dT p.body, dI m.vals, dR m.arrs, .box (pL 2), .box [.v (.slice none 0 0), .v (.slice none 0 0)], .row 3 (D.ints (x7 b bit p.vars j m.vals m.vals.length).fst), .hole 12 i2 (G2 b bit p.arrays (x7 b bit p.vars j m.vals m.vals.length).snd m.arrs i2 k2).fst, .box [.ref 9, .tref 10], .row 3 (D.ints ((G2 b bit p.arrays (x7 b bit p.vars j m.vals m.vals.length).snd m.arrs i2 k2).fst.getD i2 []))] (O4 bit [(11, iA i2), (12, iA k2), (64, bA (decide ((k2 : Int) < (((G2 b bit p.arrays (x7 b bit p.vars j m.vals m.vals.length).snd m.arrs i2 k2).fst.getD i2 []).length : Int))))]) (iX i2 i2 ((G2 b bit p.arrays (x7 b bit p.vars j m.vals m.vals.length).snd m.arrs i2 k2).fst.length) []) (iK (by omega) bS4) fun G => ?_))
     replace G := G.heal0 10 12 i2 ((G2 b bit p.arrays (x7 b bit p.vars j m.vals m.vals.length).snd m.arrs i2 k2).fst) [.box [.ref 1, iA (G2 b bit p.arrays (x7 b bit p.vars j m.vals m.vals.length).snd m.arrs i2 k2).snd], dY b, dI p.vars, dI p.arrays, dT p.body, dI m.vals, dR m.arrs, .box (pL 2), .box [.v (.slice none 0 0), .v (.slice none 0 0)], .row 3 (D.ints (x7 b bit p.vars j m.vals m.vals.length).fst), .tree (D.rows (G2 b bit p.arrays (x7 b bit p.vars j m.vals m.vals.length).snd m.arrs i2 k2).fst), .box [.ref 9, .tref 10], .dead]; refine b0 ?_; cases h5 : (decide ((k2 : Int) < (((G2 b bit p.arrays (x7 b bit p.vars j m.vals m.vals.length).snd m.arrs i2 k2).fst.getD i2 []).length : Int)))
     ·
      have q5 := T8 h5
      obtain rfl : k2 = 4 := by omega
      refine rF G (decide ((↑(4 : Nat) : Int) < (((G2 b bit p.arrays (x7 b bit p.vars j m.vals m.vals.length).snd m.arrs i2 (4 : Nat)).fst.getD i2 []).length : Int))) (by assumption) (wp_exit (t3 (t3 (t2 (i8 (b0 (G4 G d8 (rg 12) (.box [.ref 1, iA (G2 b bit p.arrays (x7 b bit p.vars j m.vals m.vals.length).snd m.arrs i2 4).snd] :: (X9 b p m [ae7, ax2 b j bit p m, .tree (D.rows (G2 b bit p.arrays (x7 b bit p.vars j m.vals m.vals.length).snd m.arrs i2 4).fst), .box [.ref 9, .tref 10]])) (O4 bit [(11, iA ((i2 : Int) + 1))]) [wO ((i2 : Int) + 1)] (o1 (by omega)) fun G => b0 ?_))))))); exact H9 G (i2 + 1) (by omega) (by omega) (rg 12) (by have e1 : ((Y6 b bit p.arrays (x7 b bit p.vars j m.vals m.vals.length).snd m.arrs (i2 + 1)).snd : Int) = ((G2 b bit p.arrays (x7 b bit p.vars j m.vals m.vals.length).snd m.arrs i2 4).snd) := (by rw [← aY3 (by omega) ha4]; done); have e2 : ((Y6 b bit p.arrays (x7 b bit p.vars j m.vals m.vals.length).snd m.arrs (i2 + 1)).fst : List (List Int)) = ((G2 b bit p.arrays (x7 b bit p.vars j m.vals m.vals.length).snd m.arrs i2 4).fst) := (by rw [← aY3 (by omega) ha4]; done); (first | rw [e1, e2] | simp only [e1, e2]) <;> rfl)
     ·
      have q5 := T7 h5; refine rT G _ h5 (wp_skip (b0 (wp_seq (wp_block (wp_seq (G4 G d8 (rg 12) (.box [.ref 1, iA (G2 b bit p.arrays (x7 b bit p.vars j m.vals m.vals.length).snd m.arrs i2 k2).snd] :: (X9 b p m [ae7, ax2 b j bit p m, .tree (D.rows (G2 b bit p.arrays (x7 b bit p.vars j m.vals m.vals.length).snd m.arrs i2 k2).fst), .box [.ref 9, .tref 10]])) (O4 bit [(11, iA i2), (12, iA k2), (74, bA (bj8 (p.arrays.getD i2 0) bit != 0))]) (iX i2 i2 p.arrays.length []) (iK (by omega) bS4) fun G => b0 (rcN G (fun h6 q6 => ?_) fun h6 q6 => ?_)))))))
      · refine wp_skip (i8 (b0 (A0 G d8 [(12, iA ((k2 : Int) + 1))] [wO ((k2 : Int) + 1)] (o1 (by omega)) fun G => b0 ?_))); exact H9 G (k2 + 1) (by omega) (by omega) (rg 12) (by have e1 : ((G2 b bit p.arrays (x7 b bit p.vars j m.vals m.vals.length).snd m.arrs i2 (k2 + 1)).snd : Int) = ((G2 b bit p.arrays (x7 b bit p.vars j m.vals m.vals.length).snd m.arrs i2 k2).snd) := (by rw [bt1 (zbf (by omega))]; done); have e2 : ((G2 b bit p.arrays (x7 b bit p.vars j m.vals m.vals.length).snd m.arrs i2 (k2 + 1)).fst : List (List Int)) = ((G2 b bit p.arrays (x7 b bit p.vars j m.vals m.vals.length).snd m.arrs i2 k2).fst) := (by rw [bt1 (zbf (by omega))]; done); (first | rw [e1, e2] | simp only [e1, e2]) <;> rfl)
      · refine C8 G (r7 7 [0, 1] (H0 b ((G2 b bit p.arrays (x7 b bit p.vars j m.vals m.vals.length).snd m.arrs i2 k2).snd) (by omega) (by omega))) [0, 1, 0, 7, 15, 0, 0, 64, 255, 511] [0, 1, 2, 3, 4, 5, 6, 7, 8, 9, 10, 11, 44] [.box [.ref 1, iA ((G2 b bit p.arrays (x7 b bit p.vars j m.vals m.vals.length).snd m.arrs i2 k2).snd + 1)], dY b, dI p.vars, dI p.arrays, dT p.body, dI m.vals, dR m.arrs, .box (pL 2), .box [.v (.slice none 0 0), .v (.slice none 0 0)], .row 3 (D.ints (x7 b bit p.vars j m.vals m.vals.length).fst), .hole 12 i2 (G2 b bit p.arrays (x7 b bit p.vars j m.vals m.vals.length).snd m.arrs i2 k2).fst, .box [.ref 9, .tref 10], .row 3 (D.ints (((G2 b bit p.arrays (x7 b bit p.vars j m.vals m.vals.length).snd m.arrs i2 k2).fst.getD i2 []).set k2 (nm b (G2 b bit p.arrays (x7 b bit p.vars j m.vals m.vals.length).snd m.arrs i2 k2).snd W9)))] (O4 bit [(11, iA i2), (12, iA k2)]) (iX i2 i2 ((G2 b bit p.arrays (x7 b bit p.vars j m.vals m.vals.length).snd m.arrs i2 k2).fst.length) (iX k2 k2 (((G2 b bit p.arrays (x7 b bit p.vars j m.vals m.vals.length).snd m.arrs i2 k2).fst.getD i2 []).length) [])) (iK (by omega) (iK (by omega) bS4)) fun G => ?_; replace G := G.heal 10 12 i2 ((G2 b bit p.arrays (x7 b bit p.vars j m.vals m.vals.length).snd m.arrs i2 k2).fst) (((G2 b bit p.arrays (x7 b bit p.vars j m.vals m.vals.length).snd m.arrs i2 k2).fst.getD i2 []).set k2 (nm b (G2 b bit p.arrays (x7 b bit p.vars j m.vals m.vals.length).snd m.arrs i2 k2).snd W9)) (.box [.ref 1, iA ((G2 b bit p.arrays (x7 b bit p.vars j m.vals m.vals.length).snd m.arrs i2 k2).snd + 1)] :: (X9 b p m [.box [.v (.slice none 0 0), .v (.slice none 0 0)], .row 3 (D.ints (x7 b bit p.vars j m.vals m.vals.length).fst), .tree (D.rows ((G2 b bit p.arrays (x7 b bit p.vars j m.vals m.vals.length).snd m.arrs i2 k2).fst.set i2 (((G2 b bit p.arrays (x7 b bit p.vars j m.vals m.vals.length).snd m.arrs i2 k2).fst.getD i2 []).set k2 (nm b (G2 b bit p.arrays (x7 b bit p.vars j m.vals m.vals.length).snd m.arrs i2 k2).snd W9)))), .box [.ref 9, .tref 10], .dead])); refine i8 (b0 (G4 G d8 (rg 12) (.box [.ref 1, iA ((G2 b bit p.arrays (x7 b bit p.vars j m.vals m.vals.length).snd m.arrs i2 k2).snd + 1)] :: (X9 b p m [ae7, ax2 b j bit p m, .tree (D.rows ((G2 b bit p.arrays (x7 b bit p.vars j m.vals m.vals.length).snd m.arrs i2 k2).fst.set i2 (((G2 b bit p.arrays (x7 b bit p.vars j m.vals m.vals.length).snd m.arrs i2 k2).fst.getD i2 []).set k2 (nm b (G2 b bit p.arrays (x7 b bit p.vars j m.vals m.vals.length).snd m.arrs i2 k2).snd W9)))), .box [.ref 9, .tref 10]])) (O4 bit [(11, iA i2), (12, iA ((k2 : Int) + 1))]) [wO ((k2 : Int) + 1)] (o1 (by omega)) fun G => b0 ?_)); exact H9 G (k2 + 1) (by omega) (by omega) (rg 12) (by have e1 : ((G2 b bit p.arrays (x7 b bit p.vars j m.vals m.vals.length).snd m.arrs i2 (k2 + 1)).snd : Int) = ((G2 b bit p.arrays (x7 b bit p.vars j m.vals m.vals.length).snd m.arrs i2 k2).snd + 1) := (by rw [bt0 (by omega) ha4 (by omega) (zbt (by omega))]; done); have e2 : ((G2 b bit p.arrays (x7 b bit p.vars j m.vals m.vals.length).snd m.arrs i2 (k2 + 1)).fst : List (List Int)) = ((G2 b bit p.arrays (x7 b bit p.vars j m.vals m.vals.length).snd m.arrs i2 k2).fst.set i2 (((G2 b bit p.arrays (x7 b bit p.vars j m.vals m.vals.length).snd m.arrs i2 k2).fst.getD i2 []).set k2 (nm b (G2 b bit p.arrays (x7 b bit p.vars j m.vals m.vals.length).snd m.arrs i2 k2).snd W9))) := (by rw [bt0 (by omega) ha4 (by omega) (zbt (by omega))]; done); (first | rw [e1, e2] | simp only [e1, e2]) <;> rfl)
  ·
   have q0 := T7 h0; refine D6 G (E7 (fc h0 fz) (us [(6, 10, 0), (1011, 1011, 0)])) (O4 bit [(10, iA i), (26, bA (decide ((i : Int) < p.vars.length)))]) fun G => b0 ?_; cases h1 : (decide ((i : Int) < p.vars.length))
   · have q1 := T8 h1; exact False.elim (by omega)
   ·
    have q1 := T7 h1; refine rT G _ h1 (wp_skip (b0 (wp_seq (wp_block (wp_seq (A0 G d8 [(36, bA (bj8 (p.vars.getD i 0) bit != 0))] (iX i i p.vars.length []) (iK (by omega) bS4) fun G => b0 (rcN G (fun h2 q2 => ?_) fun h2 q2 => ?_)))))))
    · refine wp_skip (i8 (b0 (A0 G d8 [(10, iA ((i : Int) + 1))] [wO ((i : Int) + 1)] (o1 (by omega)) fun G => b0 ?_))); exact H9 G (i + 1) (by omega) (by omega) (rg 12) (by have e1 : ((x7 b bit p.vars j m.vals (i + 1)).snd : Int) = ((x7 b bit p.vars j m.vals i).snd) := (by rw [bs9 (zbf (by omega))]; done); have e2 : ((x7 b bit p.vars j m.vals (i + 1)).fst : List Int) = ((x7 b bit p.vars j m.vals i).fst) := (by rw [bs9 (zbf (by omega))]; done); (first | rw [e1, e2] | simp only [e1, e2]) <;> rfl)
    · refine C8 G (r7 4 [0, 1] (H0 b ((x7 b bit p.vars j m.vals i).snd) (by omega) (by omega))) [0, 1, 0, 0, 8, 31, 63] (rg 12) (.box [.ref 1, iA ((x7 b bit p.vars j m.vals i).snd + 1)] :: (X9 b p m [ae7, .row 3 (D.ints ((x7 b bit p.vars j m.vals i).fst.set i (nm b (x7 b bit p.vars j m.vals i).snd W9))), .tree (D.rows m.arrs), .box [.ref 9, .tref 10]])) (O4 bit [(10, iA i)]) (iX i i ((x7 b bit p.vars j m.vals i).fst.length) []) (iK (by omega) bS4) fun G => i8 (b0 (A0 G d8 [(10, iA ((i : Int) + 1))] [wO ((i : Int) + 1)] (o1 (by omega)) fun G => b0 ?_)); exact H9 G (i + 1) (by omega) (by omega) (rg 12) (by have e1 : ((x7 b bit p.vars j m.vals (i + 1)).snd : Int) = ((x7 b bit p.vars j m.vals i).snd + 1) := (by rw [bs8 (zbt (by omega))]; done); have e2 : ((x7 b bit p.vars j m.vals (i + 1)).fst : List Int) = ((x7 b bit p.vars j m.vals i).fst.set i (nm b (x7 b bit p.vars j m.vals i).snd W9)) := (by rw [bs8 (zbt (by omega))]; done); (first | rw [e1, e2] | simp only [e1, e2]) <;> rfl)
theorem aN3 (b : List UInt8) (j bit : Int) (vs ars : List Int) (bd : List c6) (xs : List Int) (rs : List (List Int)) (hv : xs.length = vs.length) (ha : rs.length = ars.length) (hr : rs.all N9 = true) (r0 : 0 ≤ j) (r1 : j ≤ 100000000) (r2 : xs.length ≤ 1000000 ∧ rs.length ≤ 1000000) (hi : ∀ l ∈ rs, l.length ≤ 1048576) : j5.ok Try.prog ⟨58, [.ptr 0 0, pA 2, mA 5, iA bit], [.box [.ref 1, iA j], dY b, dI vs, dI ars, dT bd, dI xs, dR rs], [.box [.ref 1, iA (scM b bit ⟨vs, ars, bd⟩ ⟨xs, rs⟩ j).2], dY b, dI vs, dI ars, dT bd, dI xs, dR rs] ++ mO (scM b bit ⟨vs, ars, bd⟩ ⟨xs, rs⟩ j).1, mT 7⟩ :=
 aJ1 b j bit ⟨vs, ars, bd⟩ ⟨xs, rs⟩ hv ha hr r0 r1 r2 hi
def gX (nv na : Nat) (L : Int) (x : c7) : Prop :=
 (x.op = 1 ∧ (0 ≤ x.a ∧ x.a ≤ 13) ∧ (0 ≤ x.b ∧ x.b ≤ 255) ∧ x.c = 0 ∧ x.d = 0) ∨
 (x.op = 2 ∧ (0 ≤ x.a ∧ x.a ≤ 13) ∧ (0 ≤ x.b ∧ x.b < nv) ∧ x.c = 0 ∧ x.d = 0) ∨
 (x.op = 3 ∧ (0 ≤ x.a ∧ x.a < nv) ∧ (0 ≤ x.b ∧ x.b ≤ 13) ∧ x.c = 0 ∧ x.d = 0) ∨
 (x.op = 4 ∧ (0 ≤ x.a ∧ x.a ≤ 13) ∧ (0 ≤ x.b ∧ x.b < na) ∧ (0 ≤ x.c ∧ x.c ≤ 13) ∧ x.d = 0) ∨
 (x.op = 5 ∧ (0 ≤ x.a ∧ x.a < na) ∧ (0 ≤ x.b ∧ x.b ≤ 13) ∧ (0 ≤ x.c ∧ x.c ≤ 13) ∧ x.d = 0) ∨
 (x.op = 6 ∧ (0 ≤ x.a ∧ x.a ≤ 13) ∧ (4 ≤ x.b ∧ x.b ≤ 10) ∧ (0 ≤ x.c ∧ x.c ≤ 13) ∧ (0 ≤ x.d ∧ x.d ≤ 13)) ∨
 (x.op = 7 ∧ (0 ≤ x.a ∧ x.a ≤ 13) ∧ (0 ≤ x.b ∧ x.b ≤ 13) ∧ (0 ≤ x.c ∧ x.c ≤ 13) ∧ (0 ≤ x.d ∧ x.d ≤ 13)) ∨
 (x.op = 8 ∧ (0 ≤ x.a ∧ x.a < L) ∧ x.b = 0 ∧ x.c = 0 ∧ x.d = 0) ∨
 (x.op = 9 ∧ (0 ≤ x.a ∧ x.a ≤ 13) ∧ (0 ≤ x.b ∧ x.b < L) ∧ x.c = 0 ∧ x.d = 0) ∨
 (x.op = 10 ∧ (0 ≤ x.a ∧ x.a ≤ 13) ∧ (0 ≤ x.b ∧ x.b < L) ∧ x.c = 0 ∧ x.d = 0) ∨
 (x.op = 11 ∧ (0 ≤ x.a ∧ x.a ≤ 13) ∧ x.b = 0 ∧ x.c = 0 ∧ x.d = 0)
def gL (nv na : Nat) (L : Int) (l : List c7) : Prop := ∀ x ∈ l, gX nv na L x
theorem by9 {nv na : Nat} {L : Int} {a b : List c7} (h : gL nv na L a) (k : gL nv na L b) : gL nv na L (a ++ b) := by
 intro x hx
 rcases bS7.1 hx with hx | hx
 ·exact h x hx
 ·exact k x hx
theorem aE5 {nv na : Nat} {L : Int} {a : c7} (h : gX nv na L a) : gL nv na L [a] := by
 intro x hx
 rw [bU1] at hx
 subst hx; exact h
def Gd (nv na : Nat) (L : Int) (x y : E8) : Prop := ∃ ys, y.1 = x.1 ++ ys ∧ gL nv na L ys
theorem Gd.refl {nv na : Nat} {L : Int} (x : E8) : Gd nv na L x x := ⟨[], by simp, fun x hx => by cases hx⟩
theorem Gd.trans {nv na : Nat} {L : Int} {x y z : E8} (h : Gd nv na L x y) (k : Gd nv na L y z) : Gd nv na L x z := by
 obtain ⟨a, a1, a2⟩ := h
 obtain ⟨b, b1, b2⟩ := k
 exact ⟨a ++ b, by rw [b1, a1, bV5], by9 a2 b2⟩
theorem Gd.add {nv na : Nat} {L : Int} {x : E8} {n : Int} {c : List c7} (h : gL nv na L c) : Gd nv na L x (D5 x n c) := ⟨c, rfl, h⟩
theorem bx0 : (0 : Int) ≤ 0 ∧ (0 : Int) ≤ 13 := by decide
theorem bM8 : (0 : Int) ≤ 1 ∧ (1 : Int) ≤ 13 := by decide
theorem g1 {nv na : Nat} {L a b : Int} (h1 : 0 ≤ a ∧ a ≤ 13) (h2 : 0 ≤ b ∧ b ≤ 255) : gL nv na L [⟨1, a, b, 0, 0⟩] := aE5 (.inl ⟨rfl, h1, h2, rfl, rfl⟩)
theorem g3 {nv na : Nat} {L a : Int} (h1 : 0 ≤ a ∧ a < nv) : gL nv na L [⟨3, a, 0, 0, 0⟩] := aE5 (.inr (.inr (.inl ⟨rfl, h1, bx0, rfl, rfl⟩)))
theorem g5 {nv na : Nat} {L a : Int} (h1 : 0 ≤ a ∧ a < na) : gL nv na L [⟨5, a, 1, 0, 0⟩] := aE5 (.inr (.inr (.inr (.inr (.inl ⟨rfl, h1, bM8, bx0, rfl⟩)))))
theorem g8 {nv na : Nat} {L a : Int} (h1 : 0 ≤ a ∧ a < L) : gX nv na L ⟨8, a, 0, 0, 0⟩ := .inr (.inr (.inr (.inr (.inr (.inr (.inr (.inl ⟨rfl, h1, rfl, rfl, rfl⟩)))))))
theorem g9 {nv na : Nat} {L b : Int} (h1 : 0 ≤ b ∧ b < L) : gX nv na L ⟨9, 0, b, 0, 0⟩ := .inr (.inr (.inr (.inr (.inr (.inr (.inr (.inr (.inl ⟨rfl, bx0, h1, rfl, rfl⟩))))))))
theorem g10 {nv na : Nat} {L a b : Int} (h0 : 0 ≤ a ∧ a ≤ 13) (h1 : 0 ≤ b ∧ b < L) : gL nv na L [⟨10, a, b, 0, 0⟩] := aE5 (.inr (.inr (.inr (.inr (.inr (.inr (.inr (.inr (.inr (.inl ⟨rfl, h0, h1, rfl, rfl⟩))))))))))
def inV (x : Int) : Prop := 0 ≤ x ∧ x ≤ 255
theorem bG5 {l : List Int} (h : ∀ x ∈ l, inV x) (i : Nat) : inV (l.getD i 0) := by
 rw [bR7]
 cases hx : l[i]? with
 | none => exact ⟨Int.le_refl _, by decide⟩
 | some x => exact h x (bT0 hx)
theorem bv3 {l : List Int} (h : C0 l = true) : ∀ x ∈ l, inV x := fun x hx => by
 have := bS2.1 h x hx
 simpa [inV] using this
theorem bM3 {l : List (List Int)} (h : l.all N9 = true) (i : Nat) : ∀ x ∈ l.getD i [], inV x := by
 rw [bR7]
 cases hx : l[i]? with
 | none => intro x hx; simp at hx
 | some r =>
  have := bS2.1 h r (bT0 hx)
  unfold N9 at this
  rw [bR6] at this
  exact bv3 this.2
structure i9 where
 pc : Int
 regs : List Int
 mem : o8
def stR (m : o8) (x : c7) (r : List Int) : List Int :=
 if x.op = 1 then r.set x.a.toNat x.b
 else if x.op = 2 then r.set x.a.toNat (m.vals.getD x.b.toNat 0)
 else if x.op = 4 then r.set x.a.toNat ((m.arrs.getD x.b.toNat []).getD ((r.getD x.c.toNat 0).tmod 4).toNat 0)
 else if x.op = 6 then r.set x.a.toNat (G5 x.b (r.getD x.c.toNat 0) (r.getD x.d.toNat 0))
 else if x.op = 7 then r.set x.a.toNat (if r.getD x.b.toNat 0 = 0 then r.getD x.d.toNat 0 else r.getD x.c.toNat 0)
 else if x.op = 10 then r.set x.a.toNat ((r.getD x.a.toNat 0 + 255).tmod 256)
 else r
def stM (m : o8) (x : c7) (r : List Int) : o8 :=
 if x.op = 3 then ⟨m.vals.set x.a.toNat (r.getD x.b.toNat 0), m.arrs⟩
 else if x.op = 5 then ⟨m.vals, m.arrs.set x.a.toNat ((m.arrs.getD x.a.toNat []).set ((r.getD x.b.toNat 0).tmod 4).toNat (r.getD x.c.toNat 0))⟩
 else m
def stE (x : c7) (r : List Int) : List (Int × Int) :=
 if x.op = 4 then [(2, x.b * 4 + (r.getD x.c.toNat 0).tmod 4)]
 else if x.op = 5 then [(3, x.a * 4 + (r.getD x.b.toNat 0).tmod 4)]
 else if x.op = 11 then [(4, r.getD x.a.toNat 0)]
 else []
def stP (x : c7) (r : List Int) (pc : Int) : Int :=
 if x.op = 8 then x.a
 else if x.op = 9 then (if r.getD x.a.toNat 0 = 0 then x.b else pc + 1)
 else if x.op = 10 then (if (r.getD x.a.toNat 0 + 255).tmod 256 = 0 then pc + 1 else x.b)
 else if x.op = 13 then pc
 else pc + 1
def aw2 (c : d7) (s : i9) : c7 := al6 c s.pc.toNat
def e7 (c : d7) (s : i9) : i9 := ⟨stP (aw2 c s) s.regs s.pc, stR s.mem (aw2 c s) s.regs, stM s.mem (aw2 c s) s.regs⟩
def z9 (c : d7) (s : i9) : List (Int × Int) := (5, s.pc) :: stE (aw2 c s) s.regs
def T5 (c : d7) (s : i9) : Bool := decide ((aw2 c s).op = 13)
def n6 (c : d7) (s : i9) : Nat → i9
 | 0 => s
 | n + 1 => e7 c (n6 c s n)
def M4 (c : d7) (s : i9) : Nat → List (Int × Int)
 | 0 => []
 | n + 1 => M4 c s n ++ z9 c (n6 c s n)
def J3 (c : d7) (s : i9) : Bool := decide (0 ≤ s.pc) && (decide (s.pc < c.list.length) && (decide (s.regs.length = 14) && (C0 s.regs && G8 c.vars.length c.arrays.length s.mem)))
theorem N0 {c : d7} {s : i9} (h : J3 c s = true) : 0 ≤ s.pc ∧ s.pc < c.list.length ∧ s.regs.length = 14 ∧ C0 s.regs = true ∧ G8 c.vars.length c.arrays.length s.mem = true := by
 unfold J3 at h
 simpa [bR6] using h
theorem a02 {c : d7} {s : i9} (h1 : 0 ≤ s.pc) (h2 : s.pc < c.list.length) (h3 : s.regs.length = 14) (h4 : C0 s.regs = true) (h5 : G8 c.vars.length c.arrays.length s.mem = true) : J3 c s = true := by
 unfold J3
 simp [*]
theorem bv2 {l : List Int} (h : ∀ x ∈ l, inV x) : C0 l = true := by
 unfold C0
 rw [bS2]
 intro x hx
 have := h x hx
 unfold inV at this
 simp [this]
theorem R7 {l : List Int} (h : C0 l = true) {x : Int} (hx : inV x) (i : Nat) : C0 (l.set i x) = true := by
 refine bv2 fun y hy => ?_
 rcases List.mem_or_eq_of_mem_set hy with h1 | h1
 ·exact bv3 h y h1
 ·exact h1 ▸ hx
theorem R8 {l : List Int} (h : C0 l = true) (i : Nat) : inV (l.getD i 0) := bG5 (bv3 h) i
theorem bB7 {x n : Int} (h : 0 ≤ x) (hn : 0 < n) (h2 : n ≤ 256) : inV (x.tmod n) := by
 have := Int.tmod_lt_of_pos x hn
 have := Int.tmod_nonneg n h
 unfold inV; omega
theorem bk8 (m : o8) (x : c7) (r : List Int) : (stR m x r).length = r.length := by
 unfold stR
 repeat' split
 all_goals simp
theorem bk7 {c : d7} {m : o8} {x : c7} {r : List Int} (hx : y8 c x = true) (hm : G8 c.vars.length c.arrays.length m = true) (hr : C0 r = true) : C0 (stR m x r) = true := by
 obtain ⟨f1, f2, f3, f4⟩ := at4 hm
 unfold stR
 split
 ·rename_i e
  refine R7 hr ?_ _
  unfold y8 at hx
  simp only [bR6, decide_eq_true_eq] at hx
  obtain ⟨_, ⟨⟨_, hb⟩, _⟩, _⟩ := hx
  rw [e] at hb
  simp [e6, C3, J9] at hb
  exact hb
 split
 ·exact R7 hr (R8 f3 _) _
 split
 ·exact R7 hr (bG5 (bM3 f4 _) _) _
 split
 ·have a := R8 hr x.c.toNat
  have b := R8 hr x.d.toNat
  exact R7 hr (aM0 a.1 a.2 b.1 b.2) _
 split
 ·refine R7 hr ?_ _
  split <;> exact R8 hr _
 split
 ·have a := R8 hr x.a.toNat
  exact R7 hr (bB7 (by have := a.1; omega) (by decide) (by decide)) _
 ·exact hr
theorem bA8 {a : List Int} (h1 : a.length = 4) (h2 : C0 a = true) : N9 a = true := by unfold N9; simp [h1, h2]
theorem bj6 {a : List Int} (h : N9 a = true) : a.length = 4 ∧ C0 a = true := by
 unfold N9 at h; simpa [bR6] using h
theorem bl0 {nv na : Nat} {m : o8} {r : List Int} (x : c7) (hm : G8 nv na m = true) (hr : C0 r = true) : G8 nv na (stM m x r) = true := by
 obtain ⟨f1, f2, f3, f4⟩ := at4 hm
 have key : ∀ m' : o8, m'.vals.length = nv → m'.arrs.length = na → C0 m'.vals = true → m'.arrs.all N9 = true → G8 nv na m' = true := by
  intro m' h1 h2 h3 h4
  unfold G8; simp [h1, h2, h3]; simpa using h4
 unfold stM
 split
 ·exact key _ (by simp [f1]) f2 (R7 f3 (R8 hr _) _) f4
 split
 ·refine key _ f1 (by simp [f2]) f3 ?_
  rw [bS2] at f4 ⊢
  intro a ha
  rcases List.mem_or_eq_of_mem_set ha with h | h
  ·exact f4 a h
  ·subst h
   by_cases hl : x.a.toNat < m.arrs.length
   ·have := bj6 (f4 (m.arrs.getD x.a.toNat []) (by rw [bR7, bo2 hl]; exact bS9 hl))
    exact bA8 (by simp only [bU7]; exact this.1) (R7 this.2 (R8 hr _) _)
   ·rw [List.set_eq_of_length_le (by omega)] at ha
    exact f4 _ ha
 ·exact hm
theorem aL3 {c : d7} {s : i9} (h0 : 0 ≤ s.pc) (h1 : s.pc < c.list.length) : aw2 c s = c.list[s.pc.toNat]'(by omega) := a48 (by omega)
theorem a07 {c : d7} {s : i9} (hc : f8 c = true) (h0 : 0 ≤ s.pc) (h1 : s.pc < c.list.length) : y8 c (aw2 c s) = true := by
 rw [aL3 h0 h1]; exact (x6 hc).2.2.2.1 _ (by omega)
theorem bO2 {c : d7} {s : i9} (h0 : 0 ≤ s.pc) (h1 : s.pc < c.list.length) : nx c s.pc = J2 (aw2 c s) s.pc := by
 rw [aL3 h0 h1]; exact aZ6 (by omega)
theorem a98 {x : c7} {r : List Int} {pc : Int} (h : x.op ≠ 13) : stP x r pc ∈ J2 x pc := by
 unfold stP J2
 rw [if_neg h]
 by_cases h8 : x.op = 8
 ·simp [h8]
 rw [if_neg h8, if_neg h8]
 by_cases h9 : x.op = 9
 ·rw [if_pos h9, if_pos (.inl h9)]; split <;> simp
 rw [if_neg h9]
 by_cases h10 : x.op = 10
 ·rw [if_pos h10, if_pos (.inr h10)]; split <;> simp
 rw [if_neg h10, if_neg h, if_neg (by omega)]; simp
theorem bk9 {x : c7} {r : List Int} {pc : Int} (h : x.op = 13) : stP x r pc = pc := by
 unfold stP
 rw [if_neg (by omega), if_neg (by omega), if_neg (by omega), if_pos h]
theorem aX8 {c : d7} {s : i9} (hc : f8 c = true) (h0 : 0 ≤ s.pc) (h1 : s.pc < c.list.length) : (0 ≤ (e7 c s).pc ∧ (e7 c s).pc < c.list.length) ∧ ((e7 c s).pc = s.pc ∨ (e7 c s).pc ∈ nx c s.pc) := by
 by_cases h : (aw2 c s).op = 13
 ·have : (e7 c s).pc = s.pc := bk9 h
  rw [this]; exact ⟨⟨h0, h1⟩, .inl rfl⟩
 ·have hn : (e7 c s).pc ∈ nx c s.pc := by rw [bO2 h0 h1]; exact a98 h
  exact ⟨aK6 hc h0 hn, .inr hn⟩
theorem aB7 {c : d7} {s : i9} (hc : f8 c = true) (h : J3 c s = true) : J3 c (e7 c s) = true := by
 obtain ⟨h1, h2, h3, h4, h5⟩ := N0 h
 have hp := (aX8 hc h1 h2).1
 exact a02 hp.1 hp.2 ((bk8 _ _ _).trans h3) (bk7 (a07 hc h1 h2) h5 h4) (bl0 _ h5 h4)
theorem aq6 {c : d7} {s : i9} (hc : f8 c = true) (h : J3 c s = true) : ∀ n, J3 c (n6 c s n) = true
 | 0 => h
 | n + 1 => aB7 hc (aq6 hc h n)
theorem bl1 (x : c7) (r : List Int) : (stE x r).length ≤ 1 := by
 unfold stE
 repeat' split
 all_goals simp
theorem ay3 (c : d7) (s : i9) : (z9 c s).length ≤ 2 := by
 have := bl1 (aw2 c s) s.regs
 unfold z9; simp; omega
theorem aq7 (c : d7) (s : i9) : ∀ n, (M4 c s n).length ≤ 2 * n
 | 0 => by simp [M4]
 | n + 1 => by
  have := aq7 c s n
  have := ay3 c (n6 c s n)
  rw [M4, bR8]; omega
theorem aX7 {c : d7} {s : i9} (hc : f8 c = true) (h0 : 0 ≤ s.pc) (h1 : s.pc < c.list.length) (hr : Rc c s.pc) : Rc c (e7 c s).pc := by
 rcases (aX8 hc h0 h1).2 with h | h
 ·rw [h]; exact hr
 ·exact .step hr h
def m9 (m : o8) : i9 := ⟨0, a04 14 0, m⟩
theorem af4 {c : d7} {m : o8} (hc : f8 c = true) (h : G8 c.vars.length c.arrays.length m = true) : J3 c (m9 m) = true := by
 have hn := (x6 hc).2.1
 exact a02 (Int.le_refl _) (by show (0 : Int) < _; omega) rfl (show C0 (a04 14 0) = true by decide) h
structure br2 (c : d7) (m : o8) (n : Nat) : Prop where
 lt : n < 20000
 fin : T5 c (n6 c (m9 m) n) = true
 no : ∀ k, k < n → T5 c (n6 c (m9 m) k) = false
def bM6 (c : d7) (m : o8) (n : Nat) : o8 := (n6 c (m9 m) (n + 1)).mem
def bw8 (c : d7) (m : o8) (n : Nat) : List (Int × Int) := M4 c (m9 m) (n + 1)
theorem bm8 {c : d7} {m : o8} {n : Nat} (hn : n < 20000) (h : T5 c (n6 c (m9 m) n) = true) : ∃ k, k ≤ n ∧ br2 c m k := by
 induction n using Nat.strongRecOn with
 | _ n ih =>
  by_cases hk : ∃ k, k < n ∧ T5 c (n6 c (m9 m) k) = true
  ·obtain ⟨k, h1, h2⟩ := hk
   obtain ⟨j, h3, h4⟩ := ih k h1 (by omega) h2
   exact ⟨j, by omega, h4⟩
  ·refine ⟨n, bS5 _, hn, h, fun k h1 => ?_⟩
   cases he : T5 c (n6 c (m9 m) k) with
   | false => rfl
   | true => exact absurd ⟨k, h1, he⟩ hk
theorem bm7 (c : d7) (m : o8) : (∃ n, br2 c m n) ∨ ∀ k, k < 20000 → T5 c (n6 c (m9 m) k) = false := by
 by_cases h : ∃ k, k < 20000 ∧ T5 c (n6 c (m9 m) k) = true
 ·obtain ⟨k, h1, h2⟩ := h
  obtain ⟨j, _, h4⟩ := bm8 h1 h2
  exact .inl ⟨j, h4⟩
 ·right
  intro k h1
  cases he : T5 c (n6 c (m9 m) k) with
  | false => rfl
  | true => exact absurd ⟨k, h1, he⟩ h
theorem bm9 {c : d7} {m : o8} (hc : f8 c = true) (h : G8 c.vars.length c.arrays.length m = true) (n : Nat) : Rc c (n6 c (m9 m) n).pc := by
 induction n with
 | zero => exact .zero
 | succ n ih =>
  obtain ⟨h1, h2, -⟩ := N0 (aq6 hc (af4 hc h) n)
  exact aX7 hc h1 h2 ih
theorem aY7 {c : d7} {m : o8} (hc : f8 c = true) (h : G8 c.vars.length c.arrays.length m = true) : ∀ (n : Nat) (e : Int × Int), e ∈ M4 c (m9 m) n → e.1 = 5 → Rc c e.2 ∧ 0 ≤ e.2 ∧ e.2 < c.list.length
 | 0, e, he, _ => by simp [M4] at he
 | n + 1, e, he, h5 => by
  rw [M4, bS7] at he
  rcases he with he | he
  ·exact aY7 hc h n e he h5
  ·unfold z9 at he
   rw [bU2] at he
   rcases he with rfl | he
   ·have := N0 (aq6 hc (af4 hc h) n)
    exact ⟨bm9 hc h n, this.1, this.2.1⟩
   ·exfalso
    unfold stE at he
    split at he
    ·simp at he; subst he; simp at h5
    split at he
    ·simp at he; subst he; simp at h5
    split at he
    ·simp at he; subst he; simp at h5
    ·simp at he
section
variable {c : d7} {s : i9}
theorem z7 : e7 c s = ⟨stP (c.list.getD s.pc.toNat aK4) s.regs s.pc, stR s.mem (c.list.getD s.pc.toNat aK4) s.regs, stM s.mem (c.list.getD s.pc.toNat aK4) s.regs⟩ ∧ z9 c s = (5, s.pc) :: stE (c.list.getD s.pc.toNat aK4) s.regs := ⟨rfl, rfl⟩
theorem bL0 (h : (c.list.getD s.pc.toNat aK4).op = 1) : e7 c s = ⟨s.pc + 1, s.regs.set (c.list.getD s.pc.toNat aK4).a.toNat (c.list.getD s.pc.toNat aK4).b, s.mem⟩ ∧ z9 c s = [(5, s.pc)] := by
 rw [z7.1, z7.2]; generalize (c.list.getD s.pc.toNat aK4) = x at *; simp [stP, stR, stM, stE, h]
theorem bK9 (h : (c.list.getD s.pc.toNat aK4).op = 2) : e7 c s = ⟨s.pc + 1, s.regs.set (c.list.getD s.pc.toNat aK4).a.toNat (s.mem.vals.getD (c.list.getD s.pc.toNat aK4).b.toNat 0), s.mem⟩ ∧ z9 c s = [(5, s.pc)] := by
 rw [z7.1, z7.2]; generalize (c.list.getD s.pc.toNat aK4) = x at *; simp [stP, stR, stM, stE, h]
theorem bK8 (h : (c.list.getD s.pc.toNat aK4).op = 3) : e7 c s = ⟨s.pc + 1, s.regs, ⟨s.mem.vals.set (c.list.getD s.pc.toNat aK4).a.toNat (s.regs.getD (c.list.getD s.pc.toNat aK4).b.toNat 0), s.mem.arrs⟩⟩ ∧ z9 c s = [(5, s.pc)] := by
 rw [z7.1, z7.2]; generalize (c.list.getD s.pc.toNat aK4) = x at *; simp [stP, stR, stM, stE, h]
theorem bK7 (h : (c.list.getD s.pc.toNat aK4).op = 4) : e7 c s = ⟨s.pc + 1, s.regs.set (c.list.getD s.pc.toNat aK4).a.toNat ((s.mem.arrs.getD (c.list.getD s.pc.toNat aK4).b.toNat []).getD ((s.regs.getD (c.list.getD s.pc.toNat aK4).c.toNat 0).tmod 4).toNat 0), s.mem⟩ ∧ z9 c s = [(5, s.pc)] ++ [(2, (c.list.getD s.pc.toNat aK4).b * 4 + (s.regs.getD (c.list.getD s.pc.toNat aK4).c.toNat 0).tmod 4)] := by
 rw [z7.1, z7.2]; generalize (c.list.getD s.pc.toNat aK4) = x at *; simp [stP, stR, stM, stE, h]
theorem bK6 (h : (c.list.getD s.pc.toNat aK4).op = 5) : e7 c s = ⟨s.pc + 1, s.regs, ⟨s.mem.vals, s.mem.arrs.set (c.list.getD s.pc.toNat aK4).a.toNat ((s.mem.arrs.getD (c.list.getD s.pc.toNat aK4).a.toNat []).set ((s.regs.getD (c.list.getD s.pc.toNat aK4).b.toNat 0).tmod 4).toNat (s.regs.getD (c.list.getD s.pc.toNat aK4).c.toNat 0))⟩⟩ ∧ z9 c s = [(5, s.pc)] ++ [(3, (c.list.getD s.pc.toNat aK4).a * 4 + (s.regs.getD (c.list.getD s.pc.toNat aK4).b.toNat 0).tmod 4)] := by
 rw [z7.1, z7.2]; generalize (c.list.getD s.pc.toNat aK4) = x at *; simp [stP, stR, stM, stE, h]
theorem bK5 (h : (c.list.getD s.pc.toNat aK4).op = 6) : e7 c s = ⟨s.pc + 1, s.regs.set (c.list.getD s.pc.toNat aK4).a.toNat (G5 (c.list.getD s.pc.toNat aK4).b (s.regs.getD (c.list.getD s.pc.toNat aK4).c.toNat 0) (s.regs.getD (c.list.getD s.pc.toNat aK4).d.toNat 0)), s.mem⟩ ∧ z9 c s = [(5, s.pc)] := by
 rw [z7.1, z7.2]; generalize (c.list.getD s.pc.toNat aK4) = x at *; simp [stP, stR, stM, stE, h]
theorem aG1 (h : (c.list.getD s.pc.toNat aK4).op = 7) (h2 : ¬ s.regs.getD (c.list.getD s.pc.toNat aK4).b.toNat 0 = 0) : e7 c s = ⟨s.pc + 1, s.regs.set (c.list.getD s.pc.toNat aK4).a.toNat (s.regs.getD (c.list.getD s.pc.toNat aK4).c.toNat 0), s.mem⟩ ∧ z9 c s = [(5, s.pc)] := by
 rw [z7.1, z7.2]; generalize (c.list.getD s.pc.toNat aK4) = x at *; simp only [stP, stR, stM, stE, h, h2]; simp
theorem aG2 (h : (c.list.getD s.pc.toNat aK4).op = 7) (h2 : s.regs.getD (c.list.getD s.pc.toNat aK4).b.toNat 0 = 0) : e7 c s = ⟨s.pc + 1, s.regs.set (c.list.getD s.pc.toNat aK4).a.toNat (s.regs.getD (c.list.getD s.pc.toNat aK4).d.toNat 0), s.mem⟩ ∧ z9 c s = [(5, s.pc)] := by
 rw [z7.1, z7.2]; generalize (c.list.getD s.pc.toNat aK4) = x at *; simp only [stP, stR, stM, stE, h, h2]; simp
theorem bK4 (h : (c.list.getD s.pc.toNat aK4).op = 8) : e7 c s = ⟨(c.list.getD s.pc.toNat aK4).a, s.regs, s.mem⟩ ∧ z9 c s = [(5, s.pc)] := by
 rw [z7.1, z7.2]; generalize (c.list.getD s.pc.toNat aK4) = x at *; simp [stP, stR, stM, stE, h]
theorem aF9 (h : (c.list.getD s.pc.toNat aK4).op = 9) (h2 : s.regs.getD (c.list.getD s.pc.toNat aK4).a.toNat 0 = 0) : e7 c s = ⟨(c.list.getD s.pc.toNat aK4).b, s.regs, s.mem⟩ ∧ z9 c s = [(5, s.pc)] := by
 rw [z7.1, z7.2]; generalize (c.list.getD s.pc.toNat aK4) = x at *; simp only [stP, stR, stM, stE, h, h2]; simp
theorem aG0 (h : (c.list.getD s.pc.toNat aK4).op = 9) (h2 : ¬ s.regs.getD (c.list.getD s.pc.toNat aK4).a.toNat 0 = 0) : e7 c s = ⟨s.pc + 1, s.regs, s.mem⟩ ∧ z9 c s = [(5, s.pc)] := by
 rw [z7.1, z7.2]; generalize (c.list.getD s.pc.toNat aK4) = x at *; simp only [stP, stR, stM, stE, h, h2]; simp
theorem ao2 (h : (c.list.getD s.pc.toNat aK4).op = 10) (h2 : ¬ (s.regs.getD (c.list.getD s.pc.toNat aK4).a.toNat 0 + 255).tmod 256 = 0) : e7 c s = ⟨(c.list.getD s.pc.toNat aK4).b, s.regs.set (c.list.getD s.pc.toNat aK4).a.toNat ((s.regs.getD (c.list.getD s.pc.toNat aK4).a.toNat 0 + 255).tmod 256), s.mem⟩ ∧ z9 c s = [(5, s.pc)] := by
 rw [z7.1, z7.2]; generalize (c.list.getD s.pc.toNat aK4) = x at *; simp only [stP, stR, stM, stE, h, h2]; simp
theorem ao3 (h : (c.list.getD s.pc.toNat aK4).op = 10) (h2 : (s.regs.getD (c.list.getD s.pc.toNat aK4).a.toNat 0 + 255).tmod 256 = 0) : e7 c s = ⟨s.pc + 1, s.regs.set (c.list.getD s.pc.toNat aK4).a.toNat ((s.regs.getD (c.list.getD s.pc.toNat aK4).a.toNat 0 + 255).tmod 256), s.mem⟩ ∧ z9 c s = [(5, s.pc)] := by
 rw [z7.1, z7.2]; generalize (c.list.getD s.pc.toNat aK4) = x at *; simp only [stP, stR, stM, stE, h, h2]; simp
theorem bB3 (h : (c.list.getD s.pc.toNat aK4).op = 11) : e7 c s = ⟨s.pc + 1, s.regs, s.mem⟩ ∧ z9 c s = [(5, s.pc)] ++ [(4, s.regs.getD (c.list.getD s.pc.toNat aK4).a.toNat 0)] := by
 rw [z7.1, z7.2]; generalize (c.list.getD s.pc.toNat aK4) = x at *; simp [stP, stR, stM, stE, h]
theorem bB2 (h : (c.list.getD s.pc.toNat aK4).op = 12) : e7 c s = ⟨s.pc + 1, s.regs, s.mem⟩ ∧ z9 c s = [(5, s.pc)] := by
 rw [z7.1, z7.2]; generalize (c.list.getD s.pc.toNat aK4) = x at *; simp [stP, stR, stM, stE, h]
theorem bB1 (h : (c.list.getD s.pc.toNat aK4).op = 13) : e7 c s = ⟨s.pc, s.regs, s.mem⟩ ∧ z9 c s = [(5, s.pc)] := by
 rw [z7.1, z7.2]; generalize (c.list.getD s.pc.toNat aK4) = x at *; simp [stP, stR, stM, stE, h]
theorem br3 (hc : f8 c = true) (h : J3 c s = true) : y8 c (c.list.getD s.pc.toNat aK4) = true := by
 obtain ⟨h1, h2, -⟩ := N0 h
 exact a07 hc h1 h2
theorem bA9 (hc : f8 c = true) (h : J3 c s = true) : 1 ≤ (c.list.getD s.pc.toNat aK4).op ∧ (c.list.getD s.pc.toNat aK4).op ≤ 13 := by
 have hx := br3 hc h
 unfold y8 at hx
 simp only [bR6, decide_eq_true_eq] at hx
 exact hx.1
theorem bB0 (hc : f8 c = true) : c.arrays.length ≤ 2 ∧ c.vars.length ≤ 12 := by
 obtain ⟨h1, -⟩ := x6 hc
 unfold D4 at h1
 simp only [bR6, decide_eq_true_eq] at h1
 omega
theorem bu9 {l : List Int} {i : Nat} {v : Int} (h : i < l.length) : (l.set i v).getD i 0 = v := by
 rw [bR7, List.getElem?_set, if_pos rfl, if_pos h]; rfl
end
theorem a59 (k x y : Int) (r0 : inV x) (r1 : inV y) : j5.ok Try.prog (X8 71 [iA k, iA x, iA y] [] (iA (G5 k x y))) :=
 ar7 fun φ w ρ h => (aE0 k x y w r0.1 r0.2 r1.1 r1.2).mono fun e w' ⟨h1, h2⟩ => ⟨h1, h2 ▸ Below.refl _ _⟩
theorem tmV {x : Int} (h : inV x) : 0 ≤ x.tmod 4 ∧ x.tmod 4 < 4 := by
 have h1 : 0 ≤ x ∧ x ≤ 255 := h
 rw [Int.tmod_eq_emod_of_nonneg (by omega)]; omega
theorem aA2 (x y : Int) (r0 : 0 ≤ x ∧ x ≤ 1000) (r1 : inV y) : j5.ok Try.prog (X8 79 [iA x, iA y] [] (iA (x * 4 + y.tmod 4))) := by
 refine F5 10 Try.func79 [] [(0, iA x), (1, iA y)] fun G => ?_; have htm := tmV r1; have hyy : 0 ≤ y ∧ y ≤ 255 := r1; refine wp_seq (j7 G d8 [(4, iA 0)] fun G => b0 (wp_seq (A0 G d8 [(4, iA (x * 4 + y.tmod 4))] [wO (x * 4), (4 : Int) ≠ 0, wO (x * 4 + y.tmod (4 : Int))] ⟨oW (by omega), (by omega), (oW (by omega)), bS4⟩ fun G => b0 (wp_ret ?_)))); exact D8 G []
section
variable {nv na d : Nat} {m : o8} {e : c8}
end
section
variable {m : o8} {e : c8}
theorem bD8 {nv na : Nat} (hm : G8 nv na m = true) {i : Int} (h0 : 0 ≤ i) (h1 : i < na) : (m.arrs.getD i.toNat []).length = 4 := by
 obtain ⟨f1, f2, f3, f4⟩ := at4 hm
 have hi : i.toNat < m.arrs.length := by omega
 have := bS2.1 f4 (m.arrs.getD i.toNat []) (by rw [o5 hi]; exact bS9 hi)
 unfold N9 at this
 simp only [bR6, decide_eq_true_eq] at this
 exact this.1
end
abbrev X3 (c : d7) : List It := [dI c.vars, dI c.arrays, .dat (.instrs c.list)]
abbrev stI (s : i9) : List It := [.box [iA s.pc, .ref 1, .ref 2, .tref 3], .row 3 (.ints s.regs), .row 3 (.ints s.mem.vals), .tree (.rows s.mem.arrs)]
abbrev aH3 (c : d7) (s : i9) := s.regs.set (c.list.getD s.pc.toNat aK4).a.toNat ((s.regs.getD (c.list.getD s.pc.toNat aK4).a.toNat 0 + 255).tmod 256)
abbrev ae6 (c : d7) (s : i9) := s.regs.getD (c.list.getD s.pc.toNat aK4).c.toNat 0
abbrev ao9 (c : d7) (s : i9) := s.regs.getD (c.list.getD s.pc.toNat aK4).b.toNat 0
abbrev z8 (c : d7) (s : i9) (E : List (Int × Int)) : List It := [.box [iA (e7 c s).pc, .ref 1, .ref 2, .tref 3], .row 3 (D.ints (e7 c s).regs), .row 3 (D.ints (e7 c s).mem.vals), .tree (D.rows (e7 c s).mem.arrs), dI c.vars, dI c.arrays, dN c.list, .row 65 (D.events E)]
abbrev aH2 (c : d7) (s : i9) : It := .box [iA (c.list.getD s.pc.toNat aK4).op, iA (c.list.getD s.pc.toNat aK4).a, iA (c.list.getD s.pc.toNat aK4).b, iA (c.list.getD s.pc.toNat aK4).c, iA (c.list.getD s.pc.toNat aK4).d]
abbrev F7 (s : i9) : It := .row 65 (D.events ([(5, s.pc)] ++ []))
abbrev L3 (s : i9) : It := .box [iA s.pc, .ref 1, .ref 2, .tref 3]
abbrev W7 (s : i9) : It := .box [iA (s.pc + 1), .ref 1, .ref 2, .tref 3]
abbrev W6 (c : d7) (s : i9) : AV := iA (c.list.getD s.pc.toNat aK4).op
abbrev br5 (c : d7) (s : i9) : It := .row 3 (D.ints (s.regs.set (c.list.getD s.pc.toNat aK4).a.toNat (G5 (c.list.getD s.pc.toNat aK4).b (ae6 c s) (s.regs.getD (c.list.getD s.pc.toNat aK4).d.toNat 0))))
abbrev A4 (c : d7) (s : i9) (r0 : List It) : List It := .row 3 (D.ints s.mem.vals) :: .tree (D.rows s.mem.arrs) :: dI c.vars :: dI c.arrays :: dN c.list :: r0
abbrev R2 (s : i9) (r0 : List (Nat × AV)) : List (Nat × AV) := (0, .ptr 0 0) :: (4, .v (.slice none 0 0)) :: (5, .ptr 7 0) :: (6, .ref 1) :: (7, .ref 8) :: (8, iA (s.pc + 1)) :: r0
abbrev C4 (r0 : List (Nat × AV)) : List (Nat × AV) := (4, .v (.slice none 0 0)) :: (7, .ref 7) :: r0
theorem bw2 (c : d7) (s : i9) (hc : f8 c = true) (hs : J3 c s = true) (E : List (Int × Int)) (hE : z9 c s = E) : j5.ok Try.prog ⟨53, [.ptr 0 0, pA 4], stI s ++ X3 c, stI (e7 c s) ++ X3 c ++ [.row 65 (.events E)], .ref 7⟩ := by
  refine F5 240 Try.func53 (L3 s :: .row 3 (D.ints s.regs) :: (A4 c s [])) [(0, .ptr 0 0), (1, pA 4)] fun G => ?_; obtain ⟨m1, m2, m3, m4, m5⟩ := N0 hs; have hop : 1 ≤ (c.list.getD s.pc.toNat aK4).op ∧ (c.list.getD s.pc.toNat aK4).op ≤ 13 := bA9 hc hs; have hn := (x6 hc).2.2.1; obtain ⟨f1, f11, f2, f3, f4, f5, f6, f7, f9, f10⟩ := aS6 (x := c.list.getD s.pc.toNat aK4) (br3 hc hs); obtain ⟨w1, w2, w3, w4⟩ := at4 m5; have hna := bB0 hc
  have hrv := fun i => R8 m4 i
  refine wp_seq (i7 G d8 (rg 8) (L3 s :: .row 3 (D.ints s.regs) :: (A4 c s [.box (pL 4)])) [(0, .ptr 0 0), (3, .ptr 7 0), (4, .v (.slice none 0 0))] fun G => b0 (wp_seq (C8 G d8 [0, 1, 0, 4, 12, 28, 63, 127, 0, 256, 768, 1792, 0, 4351, 16383] [0, 1, 2, 3, 4, 5, 6, 104] (L3 s :: .row 3 (D.ints s.regs) :: (A4 c s [aH2 c s])) [(0, .ptr 0 0), (4, .v (.slice none 0 0)), (5, .ptr 7 0), (6, .ref 1)] (iX s.pc s.pc.toNat c.list.length []) (iK (by omega) bS4) fun G => b0 (wp_seq (i7 G d8 [0, 1, 2, 3, 4, 5, 6, 7, 48] (L3 s :: .row 3 (D.ints s.regs) :: (A4 c s [aH2 c s, F7 s])) [(0, .ptr 0 0), (4, .v (.slice none 0 0)), (5, .ptr 7 0), (6, .ref 1), (7, .ref 8)] fun G => b0 (wp_seq (A0 G d8 [(8, iA (s.pc + 1))] [wO (s.pc + 1)] (o1 (by omega)) fun G => b0 (wp_seq (wp_seq (j7 G d8 [(35, W6 c s)] fun G => b0 (wp_block (wp_seq (D6 G d8 (R2 s [(35, W6 c s), (36, bA ((c.list.getD s.pc.toNat aK4).op == 1))]) fun G => b0 ?_))))))))))))); cases h0 : ((c.list.getD s.pc.toNat aK4).op == 1)
  ·
   have q0 := ne_of_beq_false h0; refine rF G _ h0 (wp_seq (D6 G d8 (R2 s [(35, W6 c s), (44, bA ((c.list.getD s.pc.toNat aK4).op == 2))]) fun G => b0 ?_)); cases h1 : ((c.list.getD s.pc.toNat aK4).op == 2)
   ·
    have q1 := ne_of_beq_false h1; refine rF G _ h1 (wp_seq (D6 G d8 (R2 s [(35, W6 c s), (59, bA ((c.list.getD s.pc.toNat aK4).op == 3))]) fun G => b0 ?_)); cases h2 : ((c.list.getD s.pc.toNat aK4).op == 3)
    ·
     have q2 := ne_of_beq_false h2; refine rF G _ h2 (wp_seq (D6 G d8 (R2 s [(35, W6 c s), (74, bA ((c.list.getD s.pc.toNat aK4).op == 4))]) fun G => b0 ?_)); cases h3 : ((c.list.getD s.pc.toNat aK4).op == 4)
     ·
      have q3 := ne_of_beq_false h3; refine rF G _ h3 (wp_seq (D6 G d8 (R2 s [(35, W6 c s), (106, bA ((c.list.getD s.pc.toNat aK4).op == 5))]) fun G => b0 ?_)); cases h4 : ((c.list.getD s.pc.toNat aK4).op == 5)
      ·
       have q4 := ne_of_beq_false h4; refine rF G _ h4 (wp_seq (D6 G d8 (R2 s [(35, W6 c s), (138, bA ((c.list.getD s.pc.toNat aK4).op == 6))]) fun G => b0 ?_)); cases h5 : ((c.list.getD s.pc.toNat aK4).op == 6)
       ·
        have q5 := ne_of_beq_false h5; refine rF G _ h5 (wp_seq (D6 G d8 (R2 s [(35, W6 c s), (157, bA ((c.list.getD s.pc.toNat aK4).op == 7))]) fun G => b0 ?_)); cases h6 : ((c.list.getD s.pc.toNat aK4).op == 7)
        ·
         have q6 := ne_of_beq_false h6; refine rF G _ h6 (wp_seq (D6 G d8 (R2 s [(35, W6 c s), (183, bA ((c.list.getD s.pc.toNat aK4).op == 8))]) fun G => b0 ?_)); cases h7 : ((c.list.getD s.pc.toNat aK4).op == 8)
         ·
          have q7 := ne_of_beq_false h7; refine rF G _ h7 (wp_seq (D6 G d8 (R2 s [(35, W6 c s), (187, bA ((c.list.getD s.pc.toNat aK4).op == 9))]) fun G => b0 ?_)); cases h8 : ((c.list.getD s.pc.toNat aK4).op == 9)
          ·
           have q8 := ne_of_beq_false h8; refine rF G _ h8 (wp_seq (D6 G d8 (R2 s [(35, W6 c s), (197, bA ((c.list.getD s.pc.toNat aK4).op == 10))]) fun G => b0 ?_)); cases h9 : ((c.list.getD s.pc.toNat aK4).op == 10)
           ·
            have q9 := ne_of_beq_false h9; refine rF G _ h9 (wp_seq (D6 G d8 (R2 s [(35, W6 c s), (218, bA ((c.list.getD s.pc.toNat aK4).op == 11))]) fun G => b0 ?_)); cases h10 : ((c.list.getD s.pc.toNat aK4).op == 11)
            ·
             have q10 := ne_of_beq_false h10; refine rF G _ h10 (wp_seq (i7 G d8 [0, 1, 2, 3, 4, 5, 6, 8] (L3 s :: .row 3 (D.ints s.regs) :: (A4 c s [F7 s])) ((0, .ptr 0 0) :: (C4 [(8, iA (s.pc + 1)), (229, bA ((c.list.getD s.pc.toNat aK4).op == 13))])) fun G => b0 ?_)); cases h11 : ((c.list.getD s.pc.toNat aK4).op == 13)
             · have q11 := ne_of_beq_false h11; have hst := bB2 (c := c) (s := s) (show (c.list.getD s.pc.toNat aK4).op = 12 by omega); refine rF G _ h11 (wp_skip (i8 (b0 (wp_seq (i7 G d8 (rg 8) (W7 s :: .row 3 (D.ints s.regs) :: (A4 c s [F7 s])) (C4 []) fun G => b0 (wp_seq (j7 G d8 [(4, .ref 7)] fun G => b0 (wp_ret ?_)))))))); exact D8 G (rg 8) (by show _ = mR (rg 8) (z8 c s E); unfold z8; have e1 : ((e7 c s).pc : Int) = (s.pc + 1) := (by rw [hst.1]); have e2 : ((e7 c s).regs : List Int) = (s.regs) := (by rw [hst.1]); have e3 : ((e7 c s).mem.vals : List Int) = (s.mem.vals) := (by rw [hst.1]); have e4 : ((e7 c s).mem.arrs : List (List Int)) = (s.mem.arrs) := (by rw [hst.1]); rw [e1, e2, e3, e4, ← hE, hst.2] <;> rfl)
             · have q11 := eq_of_beq h11; have hst := bB1 (c := c) (s := s) (show (c.list.getD s.pc.toNat aK4).op = 13 by omega); refine rT G _ h11 (j7 G d8 [(8, iA s.pc)] fun G => i8 (b0 (wp_seq (j7 G d8 [] fun G => b0 (wp_seq (j7 G d8 [(4, .ref 7)] fun G => b0 (wp_ret ?_))))))); exact D8 G (rg 8) (by show _ = mR (rg 8) (z8 c s E); unfold z8; have e1 : ((e7 c s).pc : Int) = (s.pc) := (by rw [hst.1]); have e2 : ((e7 c s).regs : List Int) = (s.regs) := (by rw [hst.1]); have e3 : ((e7 c s).mem.vals : List Int) = (s.mem.vals) := (by rw [hst.1]); have e4 : ((e7 c s).mem.arrs : List (List Int)) = (s.mem.arrs) := (by rw [hst.1]); rw [e1, e2, e3, e4, ← hE, hst.2] <;> rfl)
            · have q10 := eq_of_beq h10; have hst := bB3 (c := c) (s := s) (show (c.list.getD s.pc.toNat aK4).op = 11 by omega); have hfi := f11 (by omega); refine rT G _ h10 (G4 G d8 [0, 1, 2, 3, 4, 5, 6, 73] (L3 s :: .row 3 (D.ints s.regs) :: (A4 c s [.row 65 (D.events ([(5, s.pc)] ++ [] ++ ([(4, s.regs.getD (c.list.getD s.pc.toNat aK4).a.toNat 0)] ++ [])))])) ((0, .ptr 0 0) :: (C4 [(8, iA (s.pc + 1))])) (iX ((c.list.getD s.pc.toNat aK4).a) ((c.list.getD s.pc.toNat aK4).a.toNat) s.regs.length ((([((5 : Int), s.pc)] ++ []).length + ([((4 : Int), s.regs.getD (c.list.getD s.pc.toNat aK4).a.toNat (0 : Int))] ++ []).length ≤ (9223372036854775807 : Nat)) :: (((([((5 : Int), s.pc)] ++ []).length + ([((4 : Int), s.regs.getD (c.list.getD s.pc.toNat aK4).a.toNat (0 : Int))] ++ []).length) * (16 : Nat) ≤ (140737488355328 : Nat)) :: []))) (iK (by omega) ⟨(by simp [hc, hs, m4, m5, w3, w4, h0, h1, h2, h3, h4, h5, h6, h7, h8, h9, h10]), ⟨(by simp [hc, hs, m4, m5, w3, w4, h0, h1, h2, h3, h4, h5, h6, h7, h8, h9, h10]), bS4⟩⟩) fun G => i8 (b0 (wp_seq (i7 G d8 (rg 8) (W7 s :: .row 3 (D.ints s.regs) :: (A4 c s [.row 65 (D.events ([(5, s.pc)] ++ [] ++ ([(4, s.regs.getD (c.list.getD s.pc.toNat aK4).a.toNat 0)] ++ [])))])) (C4 []) fun G => b0 (wp_seq (j7 G d8 [(4, .ref 7)] fun G => b0 (wp_ret ?_))))))); exact D8 G (rg 8) (by show _ = mR (rg 8) (z8 c s E); unfold z8; have e1 : ((e7 c s).pc : Int) = (s.pc + 1) := (by rw [hst.1]); have e2 : ((e7 c s).regs : List Int) = (s.regs) := (by rw [hst.1]); have e3 : ((e7 c s).mem.vals : List Int) = (s.mem.vals) := (by rw [hst.1]); have e4 : ((e7 c s).mem.arrs : List (List Int)) = (s.mem.arrs) := (by rw [hst.1]); rw [e1, e2, e3, e4, ← hE, hst.2] <;> rfl)
           ·
            have q9 := eq_of_beq h9; have hfi := f10 (by omega); have hv10 : 0 ≤ s.regs.getD (c.list.getD s.pc.toNat aK4).a.toNat 0 ∧ s.regs.getD (c.list.getD s.pc.toNat aK4).a.toNat 0 ≤ 255 := hrv _; have hgs := bu9 (l := s.regs) (i := (c.list.getD s.pc.toNat aK4).a.toNat) (v := (s.regs.getD (c.list.getD s.pc.toNat aK4).a.toNat 0 + 255).tmod 256) (by omega); refine rT G _ h9 (wp_seq (C8 G d8 [0, 0, 2, 0, 0, 16, 56, 120, 248, 504, 1023, 2047] (rg 9) (L3 s :: .row 3 (D.ints (aH3 c s)) :: (A4 c s [aH2 c s, F7 s])) (R2 s []) (iX ((c.list.getD s.pc.toNat aK4).a) ((c.list.getD s.pc.toNat aK4).a.toNat) s.regs.length ((wO (s.regs.getD (c.list.getD s.pc.toNat aK4).a.toNat (0 : Int) + 255)) :: (((256 : Int) ≠ 0) :: (iX ((c.list.getD s.pc.toNat aK4).a) ((c.list.getD s.pc.toNat aK4).a.toNat) s.regs.length [])))) (iK (by omega) ⟨oW (by omega), ⟨(by omega), (iK (by omega) bS4)⟩⟩) fun G => b0 (wp_seq (A0 G d8 [(215, bA ((aH3 c s).getD (c.list.getD s.pc.toNat aK4).a.toNat 0 != 0))] (iX ((c.list.getD s.pc.toNat aK4).a) ((c.list.getD s.pc.toNat aK4).a.toNat) ((s.regs.set (c.list.getD s.pc.toNat aK4).a.toNat ((s.regs.getD (c.list.getD s.pc.toNat aK4).a.toNat (0 : Int) + 255).tmod (256 : Int))).length) []) (iK (by rw [bU7]; omega) bS4) fun G => b0 (rcN (u := ((s.regs.set (c.list.getD s.pc.toNat aK4).a.toNat ((s.regs.getD (c.list.getD s.pc.toNat aK4).a.toNat (0 : Int) + 255).tmod (256 : Int))).getD (c.list.getD s.pc.toNat aK4).a.toNat (0 : Int))) (v := (0 : Int)) G (fun h12 q12 => ?_) fun h12 q12 => ?_)))))
            · refine wp_skip (i8 (b0 (wp_seq (i7 G d8 [0, 1, 2, 3, 4, 5, 6, 8] (W7 s :: .row 3 (D.ints (aH3 c s)) :: (A4 c s [F7 s])) (C4 []) fun G => b0 (wp_seq (j7 G d8 [(4, .ref 7)] fun G => b0 (wp_ret ?_))))))); exact D8 G (rg 8) (by show _ = mR (rg 8) (z8 c s E); unfold z8; have e1 : ((e7 c s).pc : Int) = (s.pc + 1) := (by rw [(ao3 (by omega) (by omega)).1]); have e2 : ((e7 c s).regs : List Int) = (s.regs.set (c.list.getD s.pc.toNat aK4).a.toNat ((s.regs.getD (c.list.getD s.pc.toNat aK4).a.toNat 0 + 255).tmod 256)) := (by rw [(ao3 (by omega) (by omega)).1]); have e3 : ((e7 c s).mem.vals : List Int) = (s.mem.vals) := (by rw [(ao3 (by omega) (by omega)).1]); have e4 : ((e7 c s).mem.arrs : List (List Int)) = (s.mem.arrs) := (by rw [(ao3 (by omega) (by omega)).1]); rw [e1, e2, e3, e4, ← hE, (ao3 (by omega) (by omega)).2] <;> rfl)
            · refine i7 G d8 [0, 1, 2, 3, 4, 5, 6, 8] (L3 s :: .row 3 (D.ints (aH3 c s)) :: (A4 c s [F7 s])) ((0, .ptr 0 0) :: (C4 [(8, iA (c.list.getD s.pc.toNat aK4).b)])) fun G => i8 (b0 (wp_seq (i7 G d8 (rg 8) (.box [iA (c.list.getD s.pc.toNat aK4).b, .ref 1, .ref 2, .tref 3] :: .row 3 (D.ints (aH3 c s)) :: (A4 c s [F7 s])) (C4 []) fun G => b0 (wp_seq (j7 G d8 [(4, .ref 7)] fun G => b0 (wp_ret ?_)))))); exact D8 G (rg 8) (by show _ = mR (rg 8) (z8 c s E); unfold z8; have e1 : ((e7 c s).pc : Int) = ((c.list.getD s.pc.toNat aK4).b) := (by rw [(ao2 (by omega) (by omega)).1]); have e2 : ((e7 c s).regs : List Int) = (s.regs.set (c.list.getD s.pc.toNat aK4).a.toNat ((s.regs.getD (c.list.getD s.pc.toNat aK4).a.toNat 0 + 255).tmod 256)) := (by rw [(ao2 (by omega) (by omega)).1]); have e3 : ((e7 c s).mem.vals : List Int) = (s.mem.vals) := (by rw [(ao2 (by omega) (by omega)).1]); have e4 : ((e7 c s).mem.arrs : List (List Int)) = (s.mem.arrs) := (by rw [(ao2 (by omega) (by omega)).1]); rw [e1, e2, e3, e4, ← hE, (ao2 (by omega) (by omega)).2] <;> rfl)
          ·
           have q8 := eq_of_beq h8; have hfi := f9 (by omega); refine rT G _ h8 (wp_seq (A0 G d8 [(194, bA (s.regs.getD (c.list.getD s.pc.toNat aK4).a.toNat 0 == 0))] (iX ((c.list.getD s.pc.toNat aK4).a) ((c.list.getD s.pc.toNat aK4).a.toNat) s.regs.length []) (iK (by omega) bS4) fun G => b0 (H6 G (fun h13 q13 => ?_) fun h13 q13 => ?_)))
           · refine wp_skip (i8 (b0 (wp_seq (i7 G d8 [0, 1, 2, 3, 4, 5, 6, 8] (W7 s :: .row 3 (D.ints s.regs) :: (A4 c s [F7 s])) (C4 []) fun G => b0 (wp_seq (j7 G d8 [(4, .ref 7)] fun G => b0 (wp_ret ?_))))))); exact D8 G (rg 8) (by show _ = mR (rg 8) (z8 c s E); unfold z8; have e1 : ((e7 c s).pc : Int) = (s.pc + 1) := (by rw [(aG0 (by omega) (by omega)).1]); have e2 : ((e7 c s).regs : List Int) = (s.regs) := (by rw [(aG0 (by omega) (by omega)).1]); have e3 : ((e7 c s).mem.vals : List Int) = (s.mem.vals) := (by rw [(aG0 (by omega) (by omega)).1]); have e4 : ((e7 c s).mem.arrs : List (List Int)) = (s.mem.arrs) := (by rw [(aG0 (by omega) (by omega)).1]); rw [e1, e2, e3, e4, ← hE, (aG0 (by omega) (by omega)).2] <;> rfl)
           · refine i7 G d8 [0, 1, 2, 3, 4, 5, 6, 8] (L3 s :: .row 3 (D.ints s.regs) :: (A4 c s [F7 s])) ((0, .ptr 0 0) :: (C4 [(8, iA (c.list.getD s.pc.toNat aK4).b)])) fun G => i8 (b0 (wp_seq (i7 G d8 (rg 8) (.box [iA (c.list.getD s.pc.toNat aK4).b, .ref 1, .ref 2, .tref 3] :: .row 3 (D.ints s.regs) :: (A4 c s [F7 s])) (C4 []) fun G => b0 (wp_seq (j7 G d8 [(4, .ref 7)] fun G => b0 (wp_ret ?_)))))); exact D8 G (rg 8) (by show _ = mR (rg 8) (z8 c s E); unfold z8; have e1 : ((e7 c s).pc : Int) = ((c.list.getD s.pc.toNat aK4).b) := (by rw [(aF9 (by omega) (by omega)).1]); have e2 : ((e7 c s).regs : List Int) = (s.regs) := (by rw [(aF9 (by omega) (by omega)).1]); have e3 : ((e7 c s).mem.vals : List Int) = (s.mem.vals) := (by rw [(aF9 (by omega) (by omega)).1]); have e4 : ((e7 c s).mem.arrs : List (List Int)) = (s.mem.arrs) := (by rw [(aF9 (by omega) (by omega)).1]); rw [e1, e2, e3, e4, ← hE, (aF9 (by omega) (by omega)).2] <;> rfl)
         · have q7 := eq_of_beq h7; have hst := bK4 (c := c) (s := s) (show (c.list.getD s.pc.toNat aK4).op = 8 by omega); refine rT G _ h7 (i7 G d8 [0, 1, 2, 3, 4, 5, 6, 8] (L3 s :: .row 3 (D.ints s.regs) :: (A4 c s [F7 s])) ((0, .ptr 0 0) :: (C4 [(8, iA (c.list.getD s.pc.toNat aK4).a)])) fun G => i8 (b0 (wp_seq (i7 G d8 (rg 8) (.box [iA (c.list.getD s.pc.toNat aK4).a, .ref 1, .ref 2, .tref 3] :: .row 3 (D.ints s.regs) :: (A4 c s [F7 s])) (C4 []) fun G => b0 (wp_seq (j7 G d8 [(4, .ref 7)] fun G => b0 (wp_ret ?_))))))); exact D8 G (rg 8) (by show _ = mR (rg 8) (z8 c s E); unfold z8; have e1 : ((e7 c s).pc : Int) = ((c.list.getD s.pc.toNat aK4).a) := (by rw [hst.1]); have e2 : ((e7 c s).regs : List Int) = (s.regs) := (by rw [hst.1]); have e3 : ((e7 c s).mem.vals : List Int) = (s.mem.vals) := (by rw [hst.1]); have e4 : ((e7 c s).mem.arrs : List (List Int)) = (s.mem.arrs) := (by rw [hst.1]); rw [e1, e2, e3, e4, ← hE, hst.2] <;> rfl)
        ·
         have q6 := eq_of_beq h6; have hfi := f7 (by omega); refine rT G _ h6 (wp_seq (A0 G d8 [(164, bA (s.regs.getD (c.list.getD s.pc.toNat aK4).b.toNat 0 != 0))] (iX ((c.list.getD s.pc.toNat aK4).b) ((c.list.getD s.pc.toNat aK4).b.toNat) s.regs.length []) (iK (by omega) bS4) fun G => b0 (rcN G (fun h14 q14 => ?_) fun h14 q14 => ?_)))
         · refine C8 G d8 [0, 0, 2, 0, 0, 16, 56, 120, 255, 511] [0, 1, 2, 3, 4, 5, 6, 8] (L3 s :: .row 3 (D.ints (s.regs.set (c.list.getD s.pc.toNat aK4).a.toNat (s.regs.getD (c.list.getD s.pc.toNat aK4).d.toNat 0))) :: (A4 c s [F7 s])) ((0, .ptr 0 0) :: (C4 [(8, iA (s.pc + 1))])) (iX ((c.list.getD s.pc.toNat aK4).d) ((c.list.getD s.pc.toNat aK4).d.toNat) s.regs.length (iX ((c.list.getD s.pc.toNat aK4).a) ((c.list.getD s.pc.toNat aK4).a.toNat) s.regs.length [])) (iK (by omega) (iK (by omega) bS4)) fun G => i8 (b0 (wp_seq (i7 G d8 (rg 8) (W7 s :: .row 3 (D.ints (s.regs.set (c.list.getD s.pc.toNat aK4).a.toNat (s.regs.getD (c.list.getD s.pc.toNat aK4).d.toNat 0))) :: (A4 c s [F7 s])) (C4 []) fun G => b0 (wp_seq (j7 G d8 [(4, .ref 7)] fun G => b0 (wp_ret ?_)))))); exact D8 G (rg 8) (by show _ = mR (rg 8) (z8 c s E); unfold z8; have e1 : ((e7 c s).pc : Int) = (s.pc + 1) := (by rw [(aG2 (by omega) (by omega)).1]); have e2 : ((e7 c s).regs : List Int) = (s.regs.set (c.list.getD s.pc.toNat aK4).a.toNat (s.regs.getD (c.list.getD s.pc.toNat aK4).d.toNat 0)) := (by rw [(aG2 (by omega) (by omega)).1]); have e3 : ((e7 c s).mem.vals : List Int) = (s.mem.vals) := (by rw [(aG2 (by omega) (by omega)).1]); have e4 : ((e7 c s).mem.arrs : List (List Int)) = (s.mem.arrs) := (by rw [(aG2 (by omega) (by omega)).1]); rw [e1, e2, e3, e4, ← hE, (aG2 (by omega) (by omega)).2] <;> rfl)
         · refine C8 G d8 [0, 0, 2, 0, 0, 16, 56, 120, 255, 511] [0, 1, 2, 3, 4, 5, 6, 8] (L3 s :: .row 3 (D.ints (s.regs.set (c.list.getD s.pc.toNat aK4).a.toNat (ae6 c s))) :: (A4 c s [F7 s])) ((0, .ptr 0 0) :: (C4 [(8, iA (s.pc + 1))])) (iX ((c.list.getD s.pc.toNat aK4).c) ((c.list.getD s.pc.toNat aK4).c.toNat) s.regs.length (iX ((c.list.getD s.pc.toNat aK4).a) ((c.list.getD s.pc.toNat aK4).a.toNat) s.regs.length [])) (iK (by omega) (iK (by omega) bS4)) fun G => i8 (b0 (wp_seq (i7 G d8 (rg 8) (W7 s :: .row 3 (D.ints (s.regs.set (c.list.getD s.pc.toNat aK4).a.toNat (ae6 c s))) :: (A4 c s [F7 s])) (C4 []) fun G => b0 (wp_seq (j7 G d8 [(4, .ref 7)] fun G => b0 (wp_ret ?_)))))); exact D8 G (rg 8) (by show _ = mR (rg 8) (z8 c s E); unfold z8; have e1 : ((e7 c s).pc : Int) = (s.pc + 1) := (by rw [(aG1 (by omega) (by omega)).1]); have e2 : ((e7 c s).regs : List Int) = (s.regs.set (c.list.getD s.pc.toNat aK4).a.toNat (s.regs.getD (c.list.getD s.pc.toNat aK4).c.toNat 0)) := (by rw [(aG1 (by omega) (by omega)).1]); have e3 : ((e7 c s).mem.vals : List Int) = (s.mem.vals) := (by rw [(aG1 (by omega) (by omega)).1]); have e4 : ((e7 c s).mem.arrs : List (List Int)) = (s.mem.arrs) := (by rw [(aG1 (by omega) (by omega)).1]); rw [e1, e2, e3, e4, ← hE, (aG1 (by omega) (by omega)).2] <;> rfl)
       · have q5 := eq_of_beq h5; have hst := bK5 (c := c) (s := s) (show (c.list.getD s.pc.toNat aK4).op = 6 by omega); have hfi := f6 (by omega); refine rT G _ h5 (C8 G (r7 15 [] (a59 ((c.list.getD s.pc.toNat aK4).b) (s.regs.getD (c.list.getD s.pc.toNat aK4).c.toNat 0) (s.regs.getD (c.list.getD s.pc.toNat aK4).d.toNat 0) (hrv _) (hrv _))) [0, 0, 2, 0, 8, 0, 0, 64, 224, 480, 0, 0, 2048, 7168, 15360, 32760, 65535, 131071] [0, 1, 2, 3, 4, 5, 6, 8] (L3 s :: br5 c s :: (A4 c s [F7 s])) ((0, .ptr 0 0) :: (C4 [(8, iA (s.pc + 1))])) (iX ((c.list.getD s.pc.toNat aK4).c) ((c.list.getD s.pc.toNat aK4).c.toNat) s.regs.length (iX ((c.list.getD s.pc.toNat aK4).d) ((c.list.getD s.pc.toNat aK4).d.toNat) s.regs.length (iX ((c.list.getD s.pc.toNat aK4).a) ((c.list.getD s.pc.toNat aK4).a.toNat) s.regs.length []))) (iK (by omega) (iK (by omega) (iK (by omega) bS4))) fun G => i8 (b0 (wp_seq (i7 G d8 (rg 8) (W7 s :: br5 c s :: (A4 c s [F7 s])) (C4 []) fun G => b0 (wp_seq (j7 G d8 [(4, .ref 7)] fun G => b0 (wp_ret ?_))))))); exact D8 G (rg 8) (by show _ = mR (rg 8) (z8 c s E); unfold z8; have e1 : ((e7 c s).pc : Int) = (s.pc + 1) := (by rw [hst.1]); have e2 : ((e7 c s).regs : List Int) = (s.regs.set (c.list.getD s.pc.toNat aK4).a.toNat (G5 (c.list.getD s.pc.toNat aK4).b (s.regs.getD (c.list.getD s.pc.toNat aK4).c.toNat 0) (s.regs.getD (c.list.getD s.pc.toNat aK4).d.toNat 0))) := (by rw [hst.1]); have e3 : ((e7 c s).mem.vals : List Int) = (s.mem.vals) := (by rw [hst.1]); have e4 : ((e7 c s).mem.arrs : List (List Int)) = (s.mem.arrs) := (by rw [hst.1]); rw [e1, e2, e3, e4, ← hE, hst.2] <;> rfl)
      ·
       have q4 := eq_of_beq h4; have hst := bK6 (c := c) (s := s) (show (c.list.getD s.pc.toNat aK4).op = 5 by omega); have hfi := f5 (by omega); have hr4 := bD8 m5 (i := (c.list.getD s.pc.toNat aK4).a) (by omega) (by omega); have htm := tmV (hrv (c.list.getD s.pc.toNat aK4).b.toNat); refine rT G _ h4 (wp_seq (A0 G d8 [(10, iA (ao9 c s))] (iX ((c.list.getD s.pc.toNat aK4).b) ((c.list.getD s.pc.toNat aK4).b.toNat) s.regs.length []) (iK (by omega) bS4) fun G => b0 (wp_seq (G4 G (r7 4 [] (aA2 ((c.list.getD s.pc.toNat aK4).a) (s.regs.getD (c.list.getD s.pc.toNat aK4).b.toNat 0) (by omega) (hrv _))) [0, 1, 2, 3, 4, 5, 6, 7, 65] (L3 s :: .row 3 (D.ints s.regs) :: (A4 c s [aH2 c s, .row 65 (D.events ([(5, s.pc)] ++ [] ++ ([(3, (c.list.getD s.pc.toNat aK4).a * 4 + (ao9 c s).tmod 4)] ++ [])))])) (R2 s [(10, iA (ao9 c s))]) [([((5 : Int), s.pc)] ++ []).length + ([((3 : Int), (c.list.getD s.pc.toNat aK4).a * 4 + (s.regs.getD (c.list.getD s.pc.toNat aK4).b.toNat (0 : Int)).tmod (4 : Int))] ++ []).length ≤ (9223372036854775807 : Nat), (([((5 : Int), s.pc)] ++ []).length + ([((3 : Int), (c.list.getD s.pc.toNat aK4).a * 4 + (s.regs.getD (c.list.getD s.pc.toNat aK4).b.toNat (0 : Int)).tmod (4 : Int))] ++ []).length) * (16 : Nat) ≤ (140737488355328 : Nat)] ⟨(by simp [hc, hs, m4, m5, w3, w4, h0, h1, h2, h3, h4]), (by simp [hc, hs, m4, m5, w3, w4, h0, h1, h2, h3, h4]), bS4⟩ fun G => b0 (C8 G d8 [0, 1, 3, 7, 15, 0, 32, 127, 255, 0, 512, 0, 0, 4096, 14336, 30720, 65535, 131071] [0, 1, 2, 3, 4, 5, 6, 8, 73] [.box [iA s.pc, .ref 1, .ref 2, .tref 3], .row 3 (D.ints s.regs), .row 3 (D.ints s.mem.vals), .hole 8 (c.list.getD s.pc.toNat aK4).a.toNat s.mem.arrs, dI c.vars, dI c.arrays, dN c.list, .row 65 (D.events ([(5, s.pc)] ++ [] ++ ([(3, (c.list.getD s.pc.toNat aK4).a * 4 + (s.regs.getD (c.list.getD s.pc.toNat aK4).b.toNat 0).tmod 4)] ++ []))), .row 3 (D.ints ((s.mem.arrs.getD (c.list.getD s.pc.toNat aK4).a.toNat []).set ((s.regs.getD (c.list.getD s.pc.toNat aK4).b.toNat 0).tmod 4).toNat (s.regs.getD (c.list.getD s.pc.toNat aK4).c.toNat 0)))] ((0, .ptr 0 0) :: (C4 [(8, iA (s.pc + 1))])) (iX ((c.list.getD s.pc.toNat aK4).a) ((c.list.getD s.pc.toNat aK4).a.toNat) s.mem.arrs.length (((4 : Int) ≠ 0) :: (iX ((c.list.getD s.pc.toNat aK4).c) ((c.list.getD s.pc.toNat aK4).c.toNat) s.regs.length (iX ((s.regs.getD (c.list.getD s.pc.toNat aK4).b.toNat (0 : Int)).tmod (4 : Int)) (((s.regs.getD (c.list.getD s.pc.toNat aK4).b.toNat (0 : Int)).tmod (4 : Int)).toNat) ((s.mem.arrs.getD (c.list.getD s.pc.toNat aK4).a.toNat []).length) [])))) (iK (by omega) ⟨(by omega), (iK (by omega) (iK (by omega) bS4))⟩) fun G => ?_))))); replace G := G.heal 3 8 ((c.list.getD s.pc.toNat aK4).a.toNat) s.mem.arrs ((s.mem.arrs.getD (c.list.getD s.pc.toNat aK4).a.toNat []).set ((s.regs.getD (c.list.getD s.pc.toNat aK4).b.toNat 0).tmod 4).toNat (s.regs.getD (c.list.getD s.pc.toNat aK4).c.toNat 0)) [.box [iA s.pc, .ref 1, .ref 2, .tref 3], .row 3 (D.ints s.regs), .row 3 (D.ints s.mem.vals), .tree (D.rows (s.mem.arrs.set (c.list.getD s.pc.toNat aK4).a.toNat ((s.mem.arrs.getD (c.list.getD s.pc.toNat aK4).a.toNat []).set ((s.regs.getD (c.list.getD s.pc.toNat aK4).b.toNat 0).tmod 4).toNat (s.regs.getD (c.list.getD s.pc.toNat aK4).c.toNat 0)))), dI c.vars, dI c.arrays, dN c.list, .row 65 (D.events ([(5, s.pc)] ++ [] ++ ([(3, (c.list.getD s.pc.toNat aK4).a * 4 + (s.regs.getD (c.list.getD s.pc.toNat aK4).b.toNat 0).tmod 4)] ++ []))), .dead]
       refine i8 (b0 (wp_seq (i7 G d8 (rg 8) [W7 s, .row 3 (D.ints s.regs), .row 3 (D.ints s.mem.vals), .tree (D.rows (s.mem.arrs.set (c.list.getD s.pc.toNat aK4).a.toNat ((s.mem.arrs.getD (c.list.getD s.pc.toNat aK4).a.toNat []).set ((ao9 c s).tmod 4).toNat (ae6 c s)))), dI c.vars, dI c.arrays, dN c.list, .row 65 (D.events ([(5, s.pc)] ++ [] ++ ([(3, (c.list.getD s.pc.toNat aK4).a * 4 + (ao9 c s).tmod 4)] ++ [])))] (C4 []) fun G => b0 (wp_seq (j7 G d8 [(4, .ref 7)] fun G => b0 (wp_ret ?_)))))); exact D8 G (rg 8) (by show _ = mR (rg 8) (z8 c s E); unfold z8; have e1 : ((e7 c s).pc : Int) = (s.pc + 1) := (by rw [hst.1]); have e2 : ((e7 c s).regs : List Int) = (s.regs) := (by rw [hst.1]); have e3 : ((e7 c s).mem.vals : List Int) = (s.mem.vals) := (by rw [hst.1]); have e4 : ((e7 c s).mem.arrs : List (List Int)) = (s.mem.arrs.set (c.list.getD s.pc.toNat aK4).a.toNat ((s.mem.arrs.getD (c.list.getD s.pc.toNat aK4).a.toNat []).set ((s.regs.getD (c.list.getD s.pc.toNat aK4).b.toNat 0).tmod 4).toNat (s.regs.getD (c.list.getD s.pc.toNat aK4).c.toNat 0))) := (by rw [hst.1]); rw [e1, e2, e3, e4, ← hE, hst.2] <;> rfl)
     ·
      have q3 := eq_of_beq h3; have hst := bK7 (c := c) (s := s) (show (c.list.getD s.pc.toNat aK4).op = 4 by omega); have hfi := f4 (by omega); have hr4 := bD8 m5 (i := (c.list.getD s.pc.toNat aK4).b) (by omega) (by omega); have htm := tmV (hrv (c.list.getD s.pc.toNat aK4).c.toNat); refine rT G _ h3 (wp_seq (A0 G d8 [(9, iA (ae6 c s))] (iX ((c.list.getD s.pc.toNat aK4).c) ((c.list.getD s.pc.toNat aK4).c.toNat) s.regs.length []) (iK (by omega) bS4) fun G => b0 (wp_seq (G4 G (r7 4 [] (aA2 ((c.list.getD s.pc.toNat aK4).b) (s.regs.getD (c.list.getD s.pc.toNat aK4).c.toNat 0) (by omega) (hrv _))) [0, 1, 2, 3, 4, 5, 6, 7, 65] (L3 s :: .row 3 (D.ints s.regs) :: (A4 c s [aH2 c s, .row 65 (D.events ([(5, s.pc)] ++ [] ++ ([(2, (c.list.getD s.pc.toNat aK4).b * 4 + (ae6 c s).tmod 4)] ++ [])))])) (R2 s [(9, iA (ae6 c s))]) [([((5 : Int), s.pc)] ++ []).length + ([((2 : Int), (c.list.getD s.pc.toNat aK4).b * 4 + (s.regs.getD (c.list.getD s.pc.toNat aK4).c.toNat (0 : Int)).tmod (4 : Int))] ++ []).length ≤ (9223372036854775807 : Nat), (([((5 : Int), s.pc)] ++ []).length + ([((2 : Int), (c.list.getD s.pc.toNat aK4).b * 4 + (s.regs.getD (c.list.getD s.pc.toNat aK4).c.toNat (0 : Int)).tmod (4 : Int))] ++ []).length) * (16 : Nat) ≤ (140737488355328 : Nat)] ⟨(by simp [hc, hs, m4, m5, w3, w4, h0, h1, h2, h3]), (by simp [hc, hs, m4, m5, w3, w4, h0, h1, h2, h3]), bS4⟩ fun G => b0 (C8 G d8 [0, 0, 2, 0, 8, 24, 56, 120, 0, 256, 1016, 2040, 0, 4096, 16376, 32760, 65535, 131071] [0, 1, 2, 3, 4, 5, 6, 8, 97] [.box [iA s.pc, .ref 1, .ref 2, .tref 3], .row 3 (D.ints (s.regs.set (c.list.getD s.pc.toNat aK4).a.toNat ((s.mem.arrs.getD (c.list.getD s.pc.toNat aK4).b.toNat []).getD ((s.regs.getD (c.list.getD s.pc.toNat aK4).c.toNat 0).tmod 4).toNat 0))), .row 3 (D.ints s.mem.vals), .hole 8 (c.list.getD s.pc.toNat aK4).b.toNat s.mem.arrs, dI c.vars, dI c.arrays, dN c.list, .row 65 (D.events ([(5, s.pc)] ++ [] ++ ([(2, (c.list.getD s.pc.toNat aK4).b * 4 + (s.regs.getD (c.list.getD s.pc.toNat aK4).c.toNat 0).tmod 4)] ++ []))), .row 3 (D.ints (s.mem.arrs.getD (c.list.getD s.pc.toNat aK4).b.toNat []))] ((0, .ptr 0 0) :: (C4 [(8, iA (s.pc + 1))])) (iX ((c.list.getD s.pc.toNat aK4).b) ((c.list.getD s.pc.toNat aK4).b.toNat) s.mem.arrs.length (((4 : Int) ≠ 0) :: (iX ((s.regs.getD (c.list.getD s.pc.toNat aK4).c.toNat (0 : Int)).tmod (4 : Int)) (((s.regs.getD (c.list.getD s.pc.toNat aK4).c.toNat (0 : Int)).tmod (4 : Int)).toNat) ((s.mem.arrs.getD (c.list.getD s.pc.toNat aK4).b.toNat []).length) (iX ((c.list.getD s.pc.toNat aK4).a) ((c.list.getD s.pc.toNat aK4).a.toNat) s.regs.length [])))) (iK (by omega) ⟨(by omega), (iK (by omega) (iK (by omega) bS4))⟩) fun G => ?_))))); replace G := G.heal0 3 8 ((c.list.getD s.pc.toNat aK4).b.toNat) s.mem.arrs (.box [iA s.pc, .ref 1, .ref 2, .tref 3] :: .row 3 (D.ints (s.regs.set (c.list.getD s.pc.toNat aK4).a.toNat ((s.mem.arrs.getD (c.list.getD s.pc.toNat aK4).b.toNat []).getD ((s.regs.getD (c.list.getD s.pc.toNat aK4).c.toNat 0).tmod 4).toNat 0))) :: (A4 c s [.row 65 (D.events ([(5, s.pc)] ++ [] ++ ([(2, (c.list.getD s.pc.toNat aK4).b * 4 + (s.regs.getD (c.list.getD s.pc.toNat aK4).c.toNat 0).tmod 4)] ++ []))), .dead]))
      refine i8 (b0 (wp_seq (i7 G d8 (rg 8) (W7 s :: .row 3 (D.ints (s.regs.set (c.list.getD s.pc.toNat aK4).a.toNat ((s.mem.arrs.getD (c.list.getD s.pc.toNat aK4).b.toNat []).getD ((ae6 c s).tmod 4).toNat 0))) :: (A4 c s [.row 65 (D.events ([(5, s.pc)] ++ [] ++ ([(2, (c.list.getD s.pc.toNat aK4).b * 4 + (ae6 c s).tmod 4)] ++ [])))])) (C4 []) fun G => b0 (wp_seq (j7 G d8 [(4, .ref 7)] fun G => b0 (wp_ret ?_)))))); exact D8 G (rg 8) (by show _ = mR (rg 8) (z8 c s E); unfold z8; have e1 : ((e7 c s).pc : Int) = (s.pc + 1) := (by rw [hst.1]); have e2 : ((e7 c s).regs : List Int) = (s.regs.set (c.list.getD s.pc.toNat aK4).a.toNat ((s.mem.arrs.getD (c.list.getD s.pc.toNat aK4).b.toNat []).getD ((s.regs.getD (c.list.getD s.pc.toNat aK4).c.toNat 0).tmod 4).toNat 0)) := (by rw [hst.1]); have e3 : ((e7 c s).mem.vals : List Int) = (s.mem.vals) := (by rw [hst.1]); have e4 : ((e7 c s).mem.arrs : List (List Int)) = (s.mem.arrs) := (by rw [hst.1]); rw [e1, e2, e3, e4, ← hE, hst.2] <;> rfl)
    · have q2 := eq_of_beq h2; have hst := bK8 (c := c) (s := s) (show (c.list.getD s.pc.toNat aK4).op = 3 by omega); have hfi := f3 (by omega); refine rT G _ h2 (C8 G d8 [0, 1, 3, 7, 15, 0, 32, 0, 0, 256, 896, 1920, 4095, 8191] [0, 1, 2, 3, 4, 5, 6, 8] [L3 s, .row 3 (D.ints s.regs), .row 3 (D.ints (s.mem.vals.set (c.list.getD s.pc.toNat aK4).a.toNat (ao9 c s))), .tree (D.rows s.mem.arrs), dI c.vars, dI c.arrays, dN c.list, F7 s] ((0, .ptr 0 0) :: (C4 [(8, iA (s.pc + 1))])) (iX ((c.list.getD s.pc.toNat aK4).b) ((c.list.getD s.pc.toNat aK4).b.toNat) s.regs.length (iX ((c.list.getD s.pc.toNat aK4).a) ((c.list.getD s.pc.toNat aK4).a.toNat) s.mem.vals.length [])) (iK (by omega) (iK (by omega) bS4)) fun G => i8 (b0 (wp_seq (i7 G d8 (rg 8) [W7 s, .row 3 (D.ints s.regs), .row 3 (D.ints (s.mem.vals.set (c.list.getD s.pc.toNat aK4).a.toNat (ao9 c s))), .tree (D.rows s.mem.arrs), dI c.vars, dI c.arrays, dN c.list, F7 s] (C4 []) fun G => b0 (wp_seq (j7 G d8 [(4, .ref 7)] fun G => b0 (wp_ret ?_))))))); exact D8 G (rg 8) (by show _ = mR (rg 8) (z8 c s E); unfold z8; have e1 : ((e7 c s).pc : Int) = (s.pc + 1) := (by rw [hst.1]); have e2 : ((e7 c s).regs : List Int) = (s.regs) := (by rw [hst.1]); have e3 : ((e7 c s).mem.vals : List Int) = (s.mem.vals.set (c.list.getD s.pc.toNat aK4).a.toNat (s.regs.getD (c.list.getD s.pc.toNat aK4).b.toNat 0)) := (by rw [hst.1]); have e4 : ((e7 c s).mem.arrs : List (List Int)) = (s.mem.arrs) := (by rw [hst.1]); rw [e1, e2, e3, e4, ← hE, hst.2] <;> rfl)
   · have q1 := eq_of_beq h1; have hst := bK9 (c := c) (s := s) (show (c.list.getD s.pc.toNat aK4).op = 2 by omega); have hfi := f2 (by omega); refine rT G _ h1 (C8 G d8 [0, 0, 2, 0, 8, 24, 56, 120, 0, 256, 1016, 2040, 4095, 8191] [0, 1, 2, 3, 4, 5, 6, 8] (L3 s :: .row 3 (D.ints (s.regs.set (c.list.getD s.pc.toNat aK4).a.toNat (s.mem.vals.getD (c.list.getD s.pc.toNat aK4).b.toNat 0))) :: (A4 c s [F7 s])) ((0, .ptr 0 0) :: (C4 [(8, iA (s.pc + 1))])) (iX ((c.list.getD s.pc.toNat aK4).b) ((c.list.getD s.pc.toNat aK4).b.toNat) s.mem.vals.length (iX ((c.list.getD s.pc.toNat aK4).a) ((c.list.getD s.pc.toNat aK4).a.toNat) s.regs.length [])) (iK (by omega) (iK (by omega) bS4)) fun G => i8 (b0 (wp_seq (i7 G d8 (rg 8) (W7 s :: .row 3 (D.ints (s.regs.set (c.list.getD s.pc.toNat aK4).a.toNat (s.mem.vals.getD (c.list.getD s.pc.toNat aK4).b.toNat 0))) :: (A4 c s [F7 s])) (C4 []) fun G => b0 (wp_seq (j7 G d8 [(4, .ref 7)] fun G => b0 (wp_ret ?_))))))); exact D8 G (rg 8) (by show _ = mR (rg 8) (z8 c s E); unfold z8; have e1 : ((e7 c s).pc : Int) = (s.pc + 1) := (by rw [hst.1]); have e2 : ((e7 c s).regs : List Int) = (s.regs.set (c.list.getD s.pc.toNat aK4).a.toNat (s.mem.vals.getD (c.list.getD s.pc.toNat aK4).b.toNat 0)) := (by rw [hst.1]); have e3 : ((e7 c s).mem.vals : List Int) = (s.mem.vals) := (by rw [hst.1]); have e4 : ((e7 c s).mem.arrs : List (List Int)) = (s.mem.arrs) := (by rw [hst.1]); rw [e1, e2, e3, e4, ← hE, hst.2] <;> rfl)
  · have q0 := eq_of_beq h0; have hst := bL0 (c := c) (s := s) (show (c.list.getD s.pc.toNat aK4).op = 1 by omega); have hfi := f1 (by omega); refine rT G _ h0 (G4 G d8 [0, 1, 2, 3, 4, 5, 6, 8] (L3 s :: .row 3 (D.ints (s.regs.set (c.list.getD s.pc.toNat aK4).a.toNat (c.list.getD s.pc.toNat aK4).b)) :: (A4 c s [F7 s])) ((0, .ptr 0 0) :: (C4 [(8, iA (s.pc + 1))])) (iX ((c.list.getD s.pc.toNat aK4).a) ((c.list.getD s.pc.toNat aK4).a.toNat) s.regs.length []) (iK (by omega) bS4) fun G => i8 (b0 (wp_seq (i7 G d8 (rg 8) (W7 s :: .row 3 (D.ints (s.regs.set (c.list.getD s.pc.toNat aK4).a.toNat (c.list.getD s.pc.toNat aK4).b)) :: (A4 c s [F7 s])) (C4 []) fun G => b0 (wp_seq (j7 G d8 [(4, .ref 7)] fun G => b0 (wp_ret ?_))))))); exact D8 G (rg 8) (by show _ = mR (rg 8) (z8 c s E); unfold z8; have e1 : ((e7 c s).pc : Int) = (s.pc + 1) := (by rw [hst.1]); have e2 : ((e7 c s).regs : List Int) = (s.regs.set (c.list.getD s.pc.toNat aK4).a.toNat (c.list.getD s.pc.toNat aK4).b) := (by rw [hst.1]); have e3 : ((e7 c s).mem.vals : List Int) = (s.mem.vals) := (by rw [hst.1]); have e4 : ((e7 c s).mem.arrs : List (List Int)) = (s.mem.arrs) := (by rw [hst.1]); rw [e1, e2, e3, e4, ← hE, hst.2] <;> rfl)
theorem bi2 (c : d7) (s : i9) (hc : f8 c = true) (hs : J3 c s = true) : j5.ok Try.prog ⟨53, [.ptr 0 0, pA 4], stI s ++ X3 c, stI (e7 c s) ++ X3 c ++ [.row 65 (.events (z9 c s))], .ref 7⟩ := bw2 c s hc hs _ rfl
theorem bu6 (c : d7) : j5.ok Try.prog (X8 47 [pA 0] (X3 c) (bA (f8 c))) :=
 ar7 fun φ w ρ h => (Z1 _ c w ⟨ρ 0, ρ 1, ρ 2, rfl, v6.row (h 0 _ rfl), v6.row (h 1 _ rfl), v6.row (h 2 _ rfl)⟩).mono fun e w' h => h
abbrev smA (s : i9) (r : Nat) : AV := .agg [iA s.pc, .ref r, .ref (r + 1), .ref (r + 2)]
abbrev smS (s : i9) : List It := [dI s.regs, dI s.mem.vals, dR s.mem.arrs]
abbrev smT (s : i9) (r : Nat) : AV := .agg [iA s.pc, .ref r, .ref (r + 1), .tref (r + 2)]
abbrev smO (s : i9) : List It := [.row 3 (.ints s.regs), .row 3 (.ints s.mem.vals), .tree (.rows s.mem.arrs)]
theorem aN6 (c : d7) (m : o8) : j5.ok Try.prog (X8 76 [.ref 0, .ref 1, mA 2] [dI c.vars, dI c.arrays, dI m.vals, dR m.arrs] (bA (G8 c.vars.length c.arrays.length m))) := aU8 c.vars c.arrays m.vals m.arrs
structure Pub (vs ars : List Int) (a b : o8) : Prop where
 v : ∀ i : Nat, zB 1 (vs.getD i 0) = false → a.vals.getD i 0 = b.vals.getD i 0
 a : ∀ i : Nat, zB 1 (ars.getD i 0) = false → a.arrs.getD i [] = b.arrs.getD i []
theorem bw1 (b : List UInt8) {bit : Int} (p : j8) (m : o8) {j : Int} (hv : m.vals.length = p.vars.length) (ha : m.arrs.length = p.arrays.length) (h1 : C0 m.vals = true) (h2 : m.arrs.all N9 = true) (r0 : 0 ≤ j) (r1 : j + m.vals.length + 4 * m.arrs.length ≤ 1000000000) : G8 p.vars.length p.arrays.length (scM b bit p m j).1 = true := by
 have a1 := ay5 b bit p.vars j m.vals m.vals.length
 have a2 := aq3 b bit p.arrays (x7 b bit p.vars j m.vals m.vals.length).2 m.arrs m.arrs.length
 unfold G8 scM
 dsimp only
 rw [aC4 b bit p.vars m.vals h1 r0 _ (by omega), aY4 b bit p.arrays m.arrs h2 (by omega) _ (by omega), a1.1, a2.1, decide_eq_true hv, decide_eq_true ha]
 rfl
theorem a44 (w : World) : i6 (fun _ => True) (fun _ => True) w w (l0 (fun _ : Empty => Rs.none) (fun _ => undef) (l8 [])) := by
 refine (i6.start (ι := Empty ⊕ Nat) (w0 := w) (φ := fun _ => True) (ψ := fun _ => True) fun _ _ => trivial).map (fun k => some k) (fun k k' i a b => by cases a; cases b; rfl) fun k => ?_
 cases k with
 | inl e => exact e.elim
 | inr j => exact .inr rfl
theorem a73 (w : World) : Agr (fun _ => True) (R1 (fun _ => True) (l0 (fun _ : Empty => Rs.none) (fun _ => undef) (l8 []))) w w := Agr.mono fun b _ _ => ⟨bS4, fun i => by
 cases i with
 | inl e => exact e.elim
 | inr j => exact fun h => h.elim⟩
abbrev u8s (c : List UInt8) : List Value := c.map fun b => Value.int .u8 (b.toNat : Int)
theorem aA3 {P : Program} {f : FuncId} {x : Value} {c : List UInt8} {post : List It} (hc : j5.ok P ⟨f, [.ref 0], [dY c], post, .v x⟩) (u : Value) (w : World) (hp : v6 w (fun _ => True) u c.length 1 (u8s c)) :
  Calls P f #[u] w fun e w' => e = .returned x ∧ Below w.heap.size w w' := by
 obtain ⟨ρ', g1, M2, g2⟩ := i6.dats [.sl (.bytes c)] [u] 0 (a44 w) ⟨RD.nice (.bytes c) _ _ _ _ _ (a73 w) hp, bS4⟩ (fun _ _ => rfl) (fun _ _ _ => rfl)
 have e : l5 (l8 []) (O1 [.sl (.bytes c)] 0) = l8 [dY c] := by
  funext j
  match j with
  | 0 => rfl
  | j + 1 => simp [O1, l5, l8]
 rw [e] at M2
 simp only [xav, AV.vals, AV.val, List.cons.injEq, and_true] at g2
 subst g2
 refine (hc Empty _ _ w w _ ρ' M2).mono ?_
 rintro e w' ⟨ρ2, -, rfl, M3⟩
 exact ⟨rfl, M3.below fun _ _ => trivial⟩
theorem bP5 (b : List UInt8) (j : Int) (nv na : Nat) (h : 0 < (mmD b j nv na).arrs.length) : 3 ≤ ((mmD b j nv na).arrs.getD 0 []).length := by
 have := bj7 b (j + nv) na ((mmD b j nv na).arrs.getD 0 []) (by rw [o5 h]; exact bS9 h)
 omega
structure Okd (p q : j8) (m : o8) : Prop where
 bp : t0 p.body ≤ 1048576
 bq : t0 q.body ≤ 1048576
 qv : q.vars.length ≤ 1000000
 mv : m.vals.length ≤ 1000000
 ma : m.arrs.length ≤ 1000000
 mi : ∀ l ∈ m.arrs, l.length ≤ 1000
section
variable {p : j8} {e : c8}
end
theorem be4 (b : List UInt8) {j : Int} (nv na : Nat) (r0 : 0 ≤ j) (r1 : j + nv + 4 * na ≤ 100000000) : (mmD b j nv na).vals.length = nv ∧ (mmD b j nv na).arrs.length = na ∧ C0 (mmD b j nv na).vals = true ∧ (mmD b j nv na).arrs.all N9 = true := by
 refine ⟨T3 _ _ _, aV1 _ _ _, aP1 b r0 nv (by omega), ?_⟩
 rw [bS2]
 intro x hx
 unfold N9
 rw [bR6]
 refine ⟨by rw [bj7 _ _ _ x hx]; rfl, ?_⟩
 obtain ⟨k, hk, rfl⟩ := ar_mem hx
 exact aP1 b (by omega) 4 (by omega)
where
 ar_mem {b : List UInt8} {j : Int} {n : Nat} {x : List Int} (h : x ∈ arD b j n) : ∃ k : Nat, k < n ∧ H8 b (j + 4 * k) 4 = x := by
  unfold arD at h
  obtain ⟨i, hi, rfl⟩ := List.mem_map.1 h
  exact ⟨i, bU9.1 hi, rfl⟩
theorem az9 (xs ys : List Int) (l : List c7) : j5.ok Try.prog ⟨56, [pA 0], [dI xs, dI ys, dN l], [dI xs, dI ys, dN l], .agg [.ref 0, .ref 1, .v (.slice none 0 0)]⟩ := by
 refine F5 8 Try.func56 [dI xs, dI ys, dN l] [(0, pA 0)] fun G => ?_; refine wp_seq (i7 G d8 [0, 1, 2, 3, 11] [dI xs, dI ys, dN l, .box (pL 0), .box [.v (.slice none 0 0), .v (.slice none 0 0), .v (.slice none 0 0)]] [(1, .ptr 3 0), (2, .ptr 4 0)] fun G => b0 (wp_seq (i7 G d8 [0, 1, 2, 4] [dI xs, dI ys, dN l, .box [.ref 0, .ref 1, .v (.slice none 0 0)]] [(2, .ptr 3 0)] fun G => b0 (wp_ret ?_)))); exact D8 G [0, 1, 2]
abbrev crC (f : FuncId) (c : List UInt8) (k : d7) (m m2 : o8) : j5 := ⟨f, [.ref 0], [dY c], [dY c] ++ X3 k ++ mS m ++ mS m2, .tup [pA 1, mA 4, mA 6]⟩
abbrev ab6 : It := .box [.v (.slice none 0 0), .v (.slice none 0 0)]
abbrev aH1 : It := .box [.v (.slice none 0 0), .v (.slice none 0 0), .v (.slice none 0 0)]
abbrev a75 (j2 : Int) (r0 : List It) : List It := .box [.v (.slice none 0 0), .v (.slice none 0 0), .v (.slice none 0 0)] :: .box [.v (.slice none 0 0), .v (.slice none 0 0)] :: .box [.v (.slice none 0 0), .v (.slice none 0 0)] :: .box [.ref 5, iA j2] :: r0
abbrev aw6 (r0 : List (Nat × AV)) : List (Nat × AV) := (2, .ptr 1 0) :: (3, .ptr 2 0) :: (4, .ptr 3 0) :: (5, .ptr 4 0) :: (6, .ptr 9 0) :: r0
theorem bc0 (c b : List UInt8) (kv ka v u : List Int) (kl l : List c7) (xs : List Int) (rs : List (List Int)) (m2 : o8) (j1 j2 j3 j4 : Int)
  (h0 : j5.ok Try.prog ⟨23, [.ref 0], [dY c], [dY c, .box [.ref 2, iA 0], dY b], .ptr 1 0⟩)
  (h1 : j5.ok Try.prog ⟨55, [.ptr 0 0], [.box [.ref 1, iA 0], dY b], [.box [.ref 1, iA j1], dY b, rI kv, rI ka, rN kl], pA 2⟩)
  (h2 : j5.ok Try.prog ⟨54, [.ptr 0 0, pA 2], [.box [.ref 1, iA j1], dY b, dI kv, dI ka, dN kl], [.box [.ref 1, iA j2], dY b, dI kv, dI ka, dN kl, rI v, rI u, rN l], pA 5⟩)
  (h3 : j5.ok Try.prog ⟨57, [.ptr 0 0, pA 2], [.box [.ref 1, iA j2], dY b, dI v, dI u, dT []], [.box [.ref 1, iA j3], dY b, dI v, dI u, dT [], dI xs, dR rs], mA 5⟩)
  (h4 : j5.ok Try.prog ⟨58, [.ptr 0 0, pA 2, mA 5, iA 1], [.box [.ref 1, iA j3], dY b, dI v, dI u, dT [], dI xs, dR rs], [.box [.ref 1, iA j4], dY b, dI v, dI u, dT [], dI xs, dR rs] ++ mO m2, mT 7⟩) : j5.ok Try.prog (crC 21 c ⟨v, u, l⟩ ⟨xs, rs⟩ m2) := by
 have ho := h0; have hju := h1; have hmu := h2; have hme := h3; have hse := h4; refine F5 26 Try.func21 [dY c] [(0, .ref 0)] fun G => ?_; refine wp_seq (i7 G d8 [0, 1, 9, 17] [dY c, aH1, ab6, ab6] [(0, .ref 0), (2, .ptr 1 0), (3, .ptr 2 0), (4, .ptr 3 0)] fun G => b0 (wp_seq (i7 G (r7 1 [0] ho) [0, 1, 2, 3, 12, 13] [dY c, aH1, ab6, ab6, .box [.ref 5, iA 0], dY b] [(2, .ptr 1 0), (3, .ptr 2 0), (4, .ptr 3 0), (5, .ptr 4 0)] fun G => b0 (wp_seq (i7 G (K9 (A2 2 [4, 5] hju (A2 3 [4, 5, 22, 23, 24] (j5.lend hmu [.no, .no, .row 3, .row 3, .row 122]) K8)) fz []) [0, 1, 2, 3, 4, 5, 30, 31, 32, 38] [dY c, aH1, ab6, ab6, .box [.ref 5, iA j2], dY b, .row 3 (D.ints v), .row 3 (D.ints u), .row 122 (D.instrs l), .box (pL 6)] (aw6 []) fun G => b0 (wp_seq ?_)))))); obtain ⟨ρ, G⟩ := G.frz [.no, .no, .no, .no, .no, .no, .row 3, .row 3, .row 122] (dY c :: (a75 j2 [dY b, dI v, dI u, dN l, .box (pL 6)])) (aw6 []); refine i7 G (r7 1 [6, 7, 8] (az9 v u l)) [0, 1, 2, 3, 4, 5, 6, 7, 8, 9, 26] [dY c, aH1, ab6, ab6, .box [.ref 5, iA j2], dY b, dI v, dI u, dN l, .box (pL 6), .box [.ref 6, .ref 7, .v (.slice none 0 0)]] (aw6 [(7, .ptr 10 0)]) fun G => b0 (wp_seq ?_); obtain ⟨ρ, G⟩ := G.nilT 11 (.stmts []) (dY c :: (a75 j2 [dY b, dI v, dI u, dN l, .box (pL 6), .box [.ref 6, .ref 7, .tref 11]])) (aw6 [(7, .ptr 10 0)]); obtain ⟨ρ, G⟩ := G.frz [.no, .no, .no, .no, .no, .no, .no, .no, .no, .no, .no, .tree] (dY c :: (a75 j2 [dY b, dI v, dI u, dN l, .box (pL 6), .box [.ref 6, .ref 7, .ref 11], dT []])) (aw6 [(7, .ptr 10 0)]); refine i7 G (r7 2 [4, 5, 6, 7, 11] hme) [0, 1, 2, 3, 4, 5, 6, 7, 8, 9, 10, 11, 28, 29, 36] [dY c, aH1, ab6, ab6, .box [.ref 5, iA j3], dY b, dI v, dI u, dN l, .box (pL 6), .box [.ref 6, .ref 7, .ref 11], dT [], dI xs, dR rs, .box [.ref 12, .ref 13]] (aw6 [(7, .ptr 10 0), (8, .ptr 14 0)]) fun G => b0 (wp_seq (aQ9 G (r7 5 [4, 5, 6, 7, 11, 12, 13] hse) [0, 0, 0, 0, 0, 28, 61, 127, 255] [0, 1, 2, 3, 6, 7, 8, 12, 13, 55, 56] [dY c, .box (pL 4), .box [.ref 7, .ref 8], .box [.ref 9, .tref 10], dI v, dI u, dN l, dI xs, dR rs, .row 3 (D.ints m2.vals), .tree (D.rows m2.arrs)] [(2, .ptr 1 0), (3, .ptr 2 0), (4, .ptr 3 0)] fun G => b0 (wp_ret ?_))); obtain ⟨ρ, G⟩ := G.frz [.no, .no, .no, .no, .no, .no, .no, .no, .no, .row 3, .tree] [dY c, .box (pL 4), .box [.ref 7, .ref 8], .box [.ref 9, .ref 10], dI v, dI u, dN l, dI xs, dR rs, dI m2.vals, dR m2.arrs] [(2, .ptr 1 0), (3, .ptr 2 0), (4, .ptr 3 0)]
 exact D8 G [0, 4, 5, 6, 7, 8, 9, 10]
theorem bF4 (b : List UInt8) {j : Int} (nv na : Nat) (r0 : 0 ≤ j) (r1 : j + nv + 4 * na ≤ 100000000) : G8 nv na (mmD b j nv na) = true := by
 obtain ⟨h1, h2, h3, h4⟩ := be4 b (j := j) nv na r0 r1
 unfold G8
 rw [h3, h4, decide_eq_true h1, decide_eq_true h2]; rfl
theorem bh1 (c : List UInt8) : ∃ (k : d7) (m m2 : o8), (k.vars.length ≤ 1000 ∧ k.arrays.length ≤ 1000 ∧ k.list.length ≤ 400) ∧ G8 k.vars.length k.arrays.length m = true ∧ G8 k.vars.length k.arrays.length m2 = true ∧ j5.ok Try.prog (crC 21 c k m m2) := by
 have h0 := aA0 c
 have h1 := a60 (T6 c) 0 (by omega) (by omega)
 have hj := jp0 (T6 c)
 generalize jpD (T6 c) 0 = x at *
 obtain ⟨⟨kv, ka, kl⟩, j1⟩ := x
 dsimp only at h1 hj
 have h2 := au6 (T6 c) j1 kv ka kl ⟨by omega, by omega, by omega⟩ (by omega) (by omega)
 have hm := bF0 (T6 c) j1 ⟨kv, ka, kl⟩
 unfold muC at h2
 generalize muD (T6 c) j1 ⟨kv, ka, kl⟩ = y at *
 obtain ⟨⟨v, u, l⟩, j2⟩ := y
 dsimp only at h2 hm
 have h3 := au7 (T6 c) j2 v u [] (by omega) (by omega) (by omega) (by omega)
 have hf := be4 (T6 c) (j := j2) v.length u.length (by omega) (by omega)
 have hok := bF4 (T6 c) (j := j2) v.length u.length (by omega) (by omega)
 have h4 := fun hi => aN3 (T6 c) (j2 + v.length + 4 * u.length) 1 v u [] (mmD (T6 c) j2 v.length u.length).vals (mmD (T6 c) j2 v.length u.length).arrs hf.1 hf.2.1 hf.2.2.2 (by omega) (by omega) ⟨by omega, by omega⟩ hi
 have h4 := h4 fun a ha => by
  have := bS2.1 hf.2.2.2 a ha
  unfold N9 at this
  rw [bR6, decide_eq_true_eq] at this
  omega
 have hs := bw1 (T6 c) (bit := 1) ⟨v, u, []⟩ (mmD (T6 c) j2 v.length u.length) (j := j2 + v.length + 4 * u.length) hf.1 hf.2.1 hf.2.2.1 hf.2.2.2 (by omega) (by omega)
 exact ⟨⟨v, u, l⟩, _, _, ⟨by dsimp only; omega, by dsimp only; omega, by dsimp only; omega⟩, hok, hs, bc0 c (T6 c) kv ka v u kl l _ _ _ j1 j2 _ _ h0 h1 h2 h3 h4⟩
def mcB (c : d7) (s : i9) : Bool := f8 c && J3 c s
section
variable {c : d7} {s : i9}
theorem bQ0 (h : f8 c = false) : mcB c s = false := by unfold mcB; rw [h]; rfl
theorem bP9 (h : s.pc < 0 ∨ (c.list.length : Int) - 1 < s.pc) : mcB c s = false := by
 unfold mcB J3
 rcases h with h | h
 ·rw [decide_eq_false (p := 0 ≤ s.pc) (by omega)]; simp
 ·rw [decide_eq_false (p := s.pc < (c.list.length : Int)) (by omega)]; simp
theorem bP8 (h : ¬ (s.regs.length : Int) = 14) : mcB c s = false := by
 unfold mcB J3
 rw [decide_eq_false (p := s.regs.length = 14) (by omega)]; simp
theorem bP7 (h : C0 s.regs = false) : mcB c s = false := by
 unfold mcB J3
 rw [h]; simp
theorem bP6 (h1 : f8 c = true) (h2 : 0 ≤ s.pc) (h3 : s.pc ≤ (c.list.length : Int) - 1) (h4 : (s.regs.length : Int) = 14) (h5 : C0 s.regs = true) : mcB c s = G8 c.vars.length c.arrays.length s.mem := by
 unfold mcB J3
 rw [h1, h5, decide_eq_true h2, decide_eq_true (p := s.pc < (c.list.length : Int)) (by omega), decide_eq_true (p := s.regs.length = 14) (by omega)]; rfl
theorem a01 (h : mcB c s = true) : f8 c = true ∧ J3 c s = true := by unfold mcB at h; simpa using h
end
abbrev ao6 (c : d7) (s : i9) (r0 : List It) : List It := dI c.vars :: dI c.arrays :: dN c.list :: dI s.regs :: dI s.mem.vals :: dR s.mem.arrs :: r0
theorem av1 (c : d7) (s : i9) : j5.ok Try.prog (X8 51 [pA 0, smA s 3] (X3 c ++ smS s) (bA (mcB c s))) := by
  have hcv := bu6 c; have him := aN6 c s.mem; refine F5 36 Try.func51 (ao6 c s []) [(0, pA 0), (1, .agg [iA s.pc, .ref 3, .ref 4, .ref 5])] fun G => ?_; have hl : c.list.length ≤ 9223372036854775807 := G.len 2 (d := .instrs c.list) (by kernel_rfl); refine wp_seq (i7 G d8 [0, 1, 2, 3, 4, 5, 6, 14] (ao6 c s [.box (pL 0), .box [iA s.pc, .ref 3, .ref 4, .ref 5]]) [(2, .ptr 6 0), (3, .ptr 7 0), (4, bA false)] fun G => b0 (wp_seq ?_)); cases h0 : (f8 c)
  · refine i7 G (K9 (A2 1 [0, 1, 2] hcv K8) (fc h0 (fc (b := false) rfl fz)) (us [(3, 9, 0), (1010, 1010, 0), (12, 15, 1), (1016, 1016, 1), (18, 20, 1), (1021, 1021, 1), (23, 29, 1), (1030, 1030, 1)])) (rg 6) (ao6 c s []) [(4, bA false)] fun G => b0 (wp_ret ?_); exact I6 false G (rg 6) (bQ0 (by with_reducible assumption))
  ·
   cases h1 : (decide ((0 : Int) ≤ s.pc) && decide (s.pc ≤ (c.list.length : Int) - 1))
   · have q1 : (¬ (0 ≤ s.pc)) ∨ (¬ (s.pc ≤ (c.list.length : Int) - 1)) := Or.imp (fun hq => of_decide_eq_false hq) (fun hq => of_decide_eq_false hq) (Bool.and_eq_false_iff.1 h1); refine G4 G (K9 (A2 1 [0, 1, 2] hcv (A2 9 [] (Z4 s.pc 0 ((c.list.length : Int) - 1)) K8)) (fc h0 (fc h1 (fc (b := false) rfl fz))) (us [(3, 9, 0), (1010, 1010, 0), (12, 15, 1), (1016, 1016, 1), (18, 20, 2), (1021, 1021, 2), (23, 29, 2), (1030, 1030, 2)])) (rg 6) (ao6 c s []) [(4, bA false)] [wO ((c.list.length : Int) - 1)] (o1 (by omega)) fun G => b0 (wp_ret ?_); exact I6 false G (rg 6) (bP9 (by omega))
   ·
    have q1 : (0 ≤ s.pc) ∧ (s.pc ≤ (c.list.length : Int) - 1) := And.imp (fun hq => of_decide_eq_true hq) (fun hq => of_decide_eq_true hq) (Bool.and_eq_true_iff.1 h1); cases h2 : ((s.regs.length : Int) == 14)
    · have q2 := ne_of_beq_false h2; refine G4 G (K9 (A2 1 [0, 1, 2] hcv (A2 9 [] (Z4 s.pc 0 ((c.list.length : Int) - 1)) K8)) (fc h0 (fc h1 (fc h2 (fc (b := false) rfl fz)))) (us [(3, 9, 0), (1010, 1010, 0), (12, 15, 1), (1016, 1016, 1), (18, 20, 2), (1021, 1021, 2), (23, 29, 3), (1030, 1030, 3)])) (rg 6) (ao6 c s []) [(4, bA false)] [wO ((c.list.length : Int) - 1)] (o1 (by omega)) fun G => b0 (wp_ret ?_); exact I6 false G (rg 6) (bP8 (by omega))
    ·
     have q2 := eq_of_beq h2; cases h3 : (C0 s.regs)
     · refine G4 G (K9 (A2 1 [0, 1, 2] hcv (A2 9 [] (Z4 s.pc 0 ((c.list.length : Int) - 1)) (A2 20 [3] (S7 s.regs) K8))) (fc h0 (fc h1 (fc h2 (fc h3 fz)))) (us [(3, 9, 0), (1010, 1010, 0), (12, 15, 1), (1016, 1016, 1), (18, 20, 2), (1021, 1021, 2), (23, 29, 3), (1030, 1030, 3)])) (rg 6) (ao6 c s []) [(4, bA false)] [wO ((c.list.length : Int) - 1)] (o1 (by omega)) fun G => b0 (wp_ret ?_); exact I6 false G (rg 6) (bP7 (by with_reducible assumption))
     · refine G4 G (K9 (A2 1 [0, 1, 2] hcv (A2 9 [] (Z4 s.pc 0 ((c.list.length : Int) - 1)) (A2 20 [3] (S7 s.regs) (A2 29 [0, 1, 4, 5] him K8)))) (fc h0 (fc h1 (fc h2 (fc h3 fz)))) (us [(3, 9, 0), (1010, 1010, 0), (12, 15, 1), (1016, 1016, 1), (18, 20, 2), (1021, 1021, 2), (23, 29, 3), (1030, 1030, 3)])) (rg 6) (ao6 c s []) [(4, bA (G8 c.vars.length c.arrays.length s.mem))] [wO ((c.list.length : Int) - 1)] (o1 (by omega)) fun G => b0 (wp_ret ?_); exact I6 (G8 c.vars.length c.arrays.length s.mem) G (rg 6) (bP6 (by with_reducible assumption) (by omega) (by omega) (by omega) (by with_reducible assumption))
theorem a27 (s : i9) (h0 : s.regs.length ≤ 1048576) (hx : s.mem.vals.length ≤ 1048576) (hr : s.mem.arrs.length ≤ 1048576) (hi : ∀ r ∈ s.mem.arrs, r.length ≤ 1048576) : j5.ok Try.prog ⟨52, [smA s 0], smS s, smS s ++ smO s, smT s 3⟩ := by
 have how := bs2 s.mem hx hr hi; have hcl := aN8 s.regs (by omega); refine F5 12 Try.func52 [dI s.regs, dI s.mem.vals, dR s.mem.arrs] [(0, .agg [iA s.pc, .ref 0, .ref 1, .ref 2])] fun G => ?_; refine wp_seq (i7 G d8 [0, 1, 2, 3, 11] [dI s.regs, dI s.mem.vals, dR s.mem.arrs, .box [iA s.pc, .ref 0, .ref 1, .ref 2], .box [iA 0, .v (.slice none 0 0), .v (.slice none 0 0), .v (.slice none 0 0)]] [(1, .ptr 3 0), (2, .ptr 4 0)] fun G => b0 (wp_seq (aQ9 G (K9 (A2 4 [0] hcl (A2 7 [1, 2] how K8)) fz []) [0, 1, 0, 4, 12, 0, 32, 124, 255, 511] [0, 1, 2, 4, 37, 61, 62] [dI s.regs, dI s.mem.vals, dR s.mem.arrs, .box [iA s.pc, .ref 4, .ref 5, .tref 6], .row 3 (D.ints s.regs), .row 3 (D.ints s.mem.vals), .tree (D.rows s.mem.arrs)] [(2, .ptr 3 0)] fun G => b0 (wp_ret ?_)))); exact D8 G [0, 1, 2, 4, 5, 6]
def msD (c : d7) (s : i9) : i9 × List (Int × Int) := if mcB c s = true then (e7 c s, z9 c s) else (⟨0, [], ⟨[], []⟩⟩, [])
theorem be2 {c : d7} {s : i9} (h : mcB c s = false) : msD c s = (⟨0, [], ⟨[], []⟩⟩, []) := by unfold msD; rw [if_neg (by rw [h]; decide)]
theorem aS1 {c : d7} {s : i9} (h : mcB c s = true) : msD c s = (e7 c s, z9 c s) := by unfold msD; rw [if_pos h]
abbrev aW1 (c : d7) (s : i9) (T : i9) (E : List (Int × Int)) : List It := [dI c.vars, dI c.arrays, dN c.list, dI s.regs, dI s.mem.vals, dR s.mem.arrs, .row 3 (D.ints T.regs), .row 3 (D.ints T.mem.vals), .tree (D.rows T.mem.arrs), .row 65 (D.events E)]
abbrev a83 : It := .box [iA 0, .v (.slice none 0 0), .v (.slice none 0 0), .v (.slice none 0 0)]
abbrev ae3 (c : d7) (s : i9) (r0 : List It) : List It := dI c.vars :: dI c.arrays :: dN c.list :: dI s.regs :: dI s.mem.vals :: dR s.mem.arrs :: r0
abbrev aG6 (r0 : List (Nat × AV)) : List (Nat × AV) := (2, .ptr 6 0) :: (3, .ptr 7 0) :: (4, .ptr 8 0) :: (5, .v (.slice none 0 0)) :: (6, bA false) :: r0
theorem aw0 (c : d7) (s : i9) (T : i9) (E : List (Int × Int)) (hT : (msD c s).1 = T) (hE : (msD c s).2 = E) (h0 : s.regs.length ≤ 1048576) (hx : s.mem.vals.length ≤ 1048576) (hr : s.mem.arrs.length ≤ 1048576) (hi : ∀ r ∈ s.mem.arrs, r.length ≤ 1048576) : j5.ok Try.prog ⟨20, [pA 0, smA s 3], X3 c ++ smS s, X3 c ++ smS s ++ smO T ++ [.row 65 (.events E)], .tup [.agg [iA T.pc, .ref 6, .ref 7, .tref 8], .ref 9, bA (mcB c s)]⟩ := by
 have hmv := av1 c s; have how := a27 s h0 hx hr hi
 have hst := fun h => bi2 c s (a01 h).1 (a01 h).2
 refine F5 20 Try.func20 (ae3 c s []) [(0, pA 0), (1, .agg [iA s.pc, .ref 3, .ref 4, .ref 5])] fun G => ?_; refine wp_seq (i7 G d8 [0, 1, 2, 3, 4, 5, 6, 14, 22] (ae3 c s [.box (pL 0), .box [iA s.pc, .ref 3, .ref 4, .ref 5], a83]) (aG6 []) fun G => b0 (wp_seq (wp_seq (j7 G (r7 2 (rg 6) hmv) [(12, .v (.bool !mcB c s))] fun G => b0 ?_)))); cases h0 : (!mcB c s)
 ·have q0 : (mcB c s) = true := (Eq.mp (bV2 _) h0); refine rF G _ h0 (wp_skip (b0 (wp_seq (i7 G (r7 1 [3, 4, 5] how) [0, 1, 2, 3, 4, 5, 6, 8, 17, 18, 19, 25] (ae3 c s [.box (pL 0), a83, .row 3 (D.ints s.regs), .row 3 (D.ints s.mem.vals), .tree (D.rows s.mem.arrs), .box [iA s.pc, .ref 8, .ref 9, .tref 10]]) [(2, .ptr 6 0), (4, .ptr 7 0), (5, .v (.slice none 0 0)), (6, bA false), (7, .ptr 11 0)] fun G => b0 (wp_seq (i7 G (r7 1 [11, 8, 9, 10, 0, 1, 2] (hst (by assumption))) [0, 1, 2, 3, 4, 5, 7, 8, 9, 10, 11, 20] (ae3 c s [a83, .row 3 (D.ints (e7 c s).regs), .row 3 (D.ints (e7 c s).mem.vals), .tree (D.rows (e7 c s).mem.arrs), .box [iA (e7 c s).pc, .ref 7, .ref 8, .tref 9], .row 65 (D.events (z9 c s))]) [(4, .ptr 6 0), (5, .v (.slice none 0 0)), (6, bA false), (7, .ptr 10 0), (8, .ref 11)] fun G => b0 (wp_seq (i7 G d8 [0, 1, 2, 3, 4, 5, 6, 7, 8, 9, 11] (ae3 c s [.box [iA (e7 c s).pc, .ref 7, .ref 8, .tref 9], .row 3 (D.ints (e7 c s).regs), .row 3 (D.ints (e7 c s).mem.vals), .tree (D.rows (e7 c s).mem.arrs), .row 65 (D.events (z9 c s))]) [(4, .ptr 6 0), (5, .ref 10), (6, bA true)] fun G => b0 (wp_ret ?_))))))))); exact Q1 (.tup [.agg [iA (e7 c s).pc, .ref 7, .ref 8, .tref 9], .ref 10, bA true]) G [0, 1, 2, 3, 4, 5, 7, 8, 9, 10] (by have e1 : (T.pc : Int) = ((e7 c s).pc) := (by rw [← hT, aS1 (by with_reducible assumption)]); have e2 : (mcB c s : Bool) = (true) := (by assumption); (first | rw [e1, e2] | simp only [e1, e2]) <;> rfl) (by show _ = mR [0, 1, 2, 3, 4, 5, 7, 8, 9, 10] (aW1 c s T E); unfold aW1; have e1 : (T.regs : List Int) = ((e7 c s).regs) := (by rw [← hT, aS1 (by with_reducible assumption)]); have e2 : (T.mem.vals : List Int) = ((e7 c s).mem.vals) := (by rw [← hT, aS1 (by with_reducible assumption)]); have e3 : (T.mem.arrs : List (List Int)) = ((e7 c s).mem.arrs) := (by rw [← hT, aS1 (by with_reducible assumption)]); have e4 : (E : List (Int × Int)) = (z9 c s) := (by rw [← hE, aS1 (by with_reducible assumption)]); (first | rw [e1, e2, e3, e4] | simp only [e1, e2, e3, e4]) <;> rfl)
 ·have q0 : (mcB c s) = false := (Eq.mp (bT6 _) h0); refine rT G _ h0 (wp_seq (D6 G d8 (aG6 []) fun G => b0 (wp_ret (n8 ?_)))); obtain ⟨ρ, G⟩ := G.nil 9 3 (.ints []) 1 (ae3 c s [.box (pL 0), .box [iA s.pc, .ref 3, .ref 4, .ref 5], .box [iA 0, .ref 9, .v (.slice none 0 0), .v (.slice none 0 0)]]) (aG6 []); obtain ⟨ρ, G⟩ := G.nil 10 3 (.ints []) 1 (ae3 c s [.box (pL 0), .box [iA s.pc, .ref 3, .ref 4, .ref 5], .box [iA 0, .ref 9, .ref 10, .v (.slice none 0 0)], .row 3 (D.ints [])]) (aG6 []); obtain ⟨ρ, G⟩ := G.nilT 11 (.rows []) (ae3 c s [.box (pL 0), .box [iA s.pc, .ref 3, .ref 4, .ref 5], .box [iA 0, .ref 9, .ref 10, .tref 11], .row 3 (D.ints []), .row 3 (D.ints [])]) (aG6 []); obtain ⟨ρ, G⟩ := G.nil 12 65 (.events []) 6 (ae3 c s [.box (pL 0), .box [iA s.pc, .ref 3, .ref 4, .ref 5], .box [iA 0, .ref 9, .ref 10, .tref 11], .row 3 (D.ints []), .row 3 (D.ints []), .tree (D.rows [])]) [(2, .ptr 6 0), (3, .ptr 7 0), (4, .ptr 8 0), (5, .ref 12), (6, bA false)]; exact Q1 (.tup [.agg [iA 0, .ref 9, .ref 10, .tref 11], .ref 12, bA false]) G [0, 1, 2, 3, 4, 5, 9, 10, 11, 12] (by have e1 : (T.pc : Int) = (0) := (by rw [← hT, be2 (by with_reducible assumption)]); have e2 : (mcB c s : Bool) = (false) := (by assumption); (first | rw [e1, e2] | simp only [e1, e2]) <;> rfl) (by show _ = mR [0, 1, 2, 3, 4, 5, 9, 10, 11, 12] (aW1 c s T E); unfold aW1; have e1 : (T.regs : List Int) = ([]) := (by rw [← hT, be2 (by with_reducible assumption)]); have e2 : (T.mem.vals : List Int) = ([]) := (by rw [← hT, be2 (by with_reducible assumption)]); have e3 : (T.mem.arrs : List (List Int)) = ([]) := (by rw [← hT, be2 (by with_reducible assumption)]); have e4 : (E : List (Int × Int)) = ([]) := (by rw [← hE, be2 (by with_reducible assumption)]); (first | rw [e1, e2, e3, e4] | simp only [e1, e2, e3, e4]) <;> rfl)
theorem av9 (c : d7) (s : i9) (h0 : s.regs.length ≤ 1048576) (hx : s.mem.vals.length ≤ 1048576) (hr : s.mem.arrs.length ≤ 1048576) (hi : ∀ r ∈ s.mem.arrs, r.length ≤ 1048576) : j5.ok Try.prog ⟨20, [pA 0, smA s 3], X3 c ++ smS s, X3 c ++ smS s ++ smO (msD c s).1 ++ [.row 65 (.events (msD c s).2)], .tup [smT (msD c s).1 6, .ref 9, bA (mcB c s)]⟩ := aw0 c s _ _ rfl rfl h0 hx hr hi
theorem j5.nilDat {P : Program} {f : FuncId} {args args0 : List AV} {pre post post' : List It} {res res' : AV} {d : D} (hc : j5.ok P ⟨f, args0, pre ++ [.dat d], post, res⟩) (k : Nat) (js : List Nat) (hd : D.nil k = some d) (ha : args = AV.denL false pre.length args0) (hid : (Q6 pre.length (AV.idsL args) && pre.all (fun x => Q6 pre.length x.ids) && nodupB js && natEq js.length post'.length && bt7 pre.length js) = true) (hS : js.map (l8 post) = post'.map (It.ren (nth js))) (hr : res = res'.ren (nth js)) : j5.ok P ⟨f, args, pre, post', res'⟩ := by
 intro ι φ ψ w0 w F ρ M
 simp only [bR6, natEq, beq_iff_eq] at hid
 obtain ⟨⟨⟨⟨h1, h2⟩, h3⟩, h4⟩, h5⟩ := hid
 have hz := D.nil_len hd
 have hvals := (AV.vals_den (ρ := ρ) (t := false) (n := pre.length) (z := .slice none 0 0) (by simp) args0 (by rw [← ha]; exact B8 h1)).1
 have hlt : ∀ j, j < pre.length → l8 (pre ++ [.dat d]) j = l8 pre j := fun j hj => by simp [l8, bR7, bT3 hj]
 have hids : ∀ j, ∀ i ∈ (l8 pre j).ids, i < pre.length := fun j => by
  by_cases hj : j < pre.length
  ·rw [ad4 hj]
   exact B8 (bS2.1 h2 _ (bS9 hj))
  ·rw [s4 (by omega)]; intro i hi; cases hi
 have M1 : i6 φ ψ w0 w (l0 F (fun j => if j = pre.length then .slice none 0 0 else ρ j) (l8 (pre ++ [.dat d]))) := by
  refine i6.put M (.inr pre.length) (fun k hk => ?_) (A3.refl _ _) ?_ ?_
  ·cases k with
   | inl i => rfl
   | inr j =>
    simp only [l0]
    rcases Nat.lt_trichotomy j pre.length with h | h | h
    ·rw [hlt j h]
     exact It.res_congr _ (fun i hi => if_neg (by have := hids j i hi; omega)) (.inr (.inr (if_neg (by omega))))
    ·exact absurd (by rw [h]) hk
    ·rw [s4 (show (pre ++ [It.dat d]).length ≤ j by simp; omega), s4 (show pre.length ≤ j by omega)]; rfl
  ·have : l8 (pre ++ [.dat d]) pre.length = .dat d := by simp [l8, bR7]
   simp only [l0, this, It.res, if_true]
   exact ⟨RD.nice d _, RD.nil hd⟩
  ·intro g hg
   have : l8 (pre ++ [.dat d]) pre.length = .dat d := by simp [l8, bR7]
   simp only [l0, this, It.res, if_true] at hg
   cases hg
 have h := hc ι φ ψ w0 w F _ M1
 simp only [hvals, ← ha] at h
 refine h.mono ?_
 rintro x w' ⟨ρ2, g1, rfl, M2⟩
 have hk : ∀ i, i < pre.length → nth js i = i := fun i hi => by
  have := bS2.1 h5 i (bU9.2 hi)
  simp only [bR6, natEq, beq_iff_eq] at this
  exact this.1
 refine ⟨fun i => ρ2 (nth js i), fun i hi => ?_, ?_, M2.sel (ad2 h3) h4 hS⟩
 ·have hi : i < pre.length := hi
  simp only [hk i hi]
  rw [g1 i (by simp; omega), if_neg (by omega)]
 ·show Ending.returned (res.val ρ2) = .returned (res'.val _)
  rw [hr, AV.val_ren]
abbrev m0S (b : List UInt8) (j : Int) (v u : List Int) : List It := [.box [.ref 1, iA j], dY b, dI v, dI u]
theorem bi4 (b : List UInt8) (j : Int) (v u : List Int) (m : o8) (hm : mmD b j v.length u.length = m) (h1 : v.length ≤ 1000000) (h2 : u.length ≤ 1000000) (r0 : 0 ≤ j) (r1 : j ≤ 100000000) : j5.ok Try.prog ⟨57, [.ptr 0 0, .agg [.ref 2, .ref 3, .v (.slice none 0 0)]], m0S b j v u, m0S b (j + v.length + 4 * u.length) v u ++ mS m, mA 4⟩ :=
 hm ▸ j5.nilDat (pre := m0S b j v u) (au7 b j v u [] h1 h2 r0 r1) 10 [0, 1, 2, 3, 5, 6] rfl rfl rfl rfl rfl
abbrev p3L : List Int := [-1] ++ ([400] ++ ([0] ++ []))
abbrev r2L : List Int := [-1] ++ ([256] ++ [])
def sbD (b : List UInt8) (q : Int) (s : i9) (m : o8) (k : Int) : i9 × Int :=
 if pk b q 40 = 0 then (⟨nm b (q + 1) p3L, s.regs, s.mem⟩, q + 1 + 1)
 else if pk b q 40 = 1 then (⟨s.pc, (s.regs.take 13).drop 0, s.mem⟩, q + 1)
 else if pk b q 40 = 2 then (⟨s.pc, s.regs.set 0 (nm b (q + 1) r2L), s.mem⟩, q + 1 + 1)
 else if pk b q 40 = 3 then (⟨s.pc, s.regs, m⟩, k)
 else (s, q + 1)
section
variable {b : List UInt8} {q k : Int} {s : i9} {m : o8}
theorem ba9 (h : pk b q 40 = 0) : sbD b q s m k = (⟨nm b (q + 1) p3L, s.regs, s.mem⟩, q + 1 + 1) := by unfold sbD; rw [if_pos h]
theorem ba8 (h : pk b q 40 = 1) : sbD b q s m k = (⟨s.pc, (s.regs.take 13).drop 0, s.mem⟩, q + 1) := by unfold sbD; rw [if_neg (by omega), if_pos h]
theorem ba7 (h : pk b q 40 = 2) : sbD b q s m k = (⟨s.pc, s.regs.set 0 (nm b (q + 1) r2L), s.mem⟩, q + 1 + 1) := by unfold sbD; rw [if_neg (by omega), if_neg (by omega), if_pos h]
theorem ba6 (h : pk b q 40 = 3) : sbD b q s m k = (⟨s.pc, s.regs, m⟩, k) := by unfold sbD; rw [if_neg (by omega), if_neg (by omega), if_neg (by omega), if_pos h]
theorem ba5 (h0 : ¬ pk b q 40 = 0) (h1 : ¬ pk b q 40 = 1) (h2 : ¬ pk b q 40 = 2) (h3 : ¬ pk b q 40 = 3) : sbD b q s m k = (s, q + 1) := by unfold sbD; rw [if_neg h0, if_neg h1, if_neg h2, if_neg h3]
end
abbrev ab5 (b : List UInt8) (v : List Int) (u : List Int) (l : List c7) (q : Int) (T : i9) : List It := [.box [.ref 1, iA q], dY b, dI v, dI u, dN l, dI T.regs, dI T.mem.vals, dR T.mem.arrs]
abbrev ab4 : It := .box [iA 0, .v (.slice none 0 0), .v (.slice none 0 0), .v (.slice none 0 0)]
abbrev aH0 (b : List UInt8) (j : Int) (v : List Int) (u : List Int) (l : List c7) : It := .box [iA (pk b (j + (v.length : Int) + 4 * (u.length : Int)) (l.length : Int)), .ref 9, .ref 6, .ref 7]
abbrev ax0 (b : List UInt8) (j : Int) (v : List Int) (u : List Int) : It := .row 3 (D.ints (H8 b (j + (v.length : Int) + 4 * (u.length : Int) + 1) 14))
abbrev br4 (b : List UInt8) (j : Int) (v : List Int) (u : List Int) : It := .row 3 (D.ints ((H8 b (j + (v.length : Int) + 4 * (u.length : Int) + 1) 14).set 0 (nm b (j + (v.length : Int) + 4 * (u.length : Int) + 1 + 14 + 1) ([-1] ++ ([256] ++ [])))))
abbrev aW4 (j : Int) (v : List Int) (u : List Int) : It := .box [.ref 1, iA (j + (v.length : Int) + 4 * (u.length : Int) + 1 + 14 + 1 + 1)]
abbrev aG7 (b : List UInt8) (j : Int) (v : List Int) (u : List Int) (l : List c7) (m : o8) (r0 : List It) : List It := dY b :: dI v :: dI u :: dN l :: .box [iA (pk b (j + (v.length : Int) + 4 * (u.length : Int)) (l.length : Int)), .ref 8, .ref 6, .ref 7] :: dI m.vals :: dR m.arrs :: r0
abbrev ak1 (r0 : List (Nat × AV)) : List (Nat × AV) := (0, .ptr 0 0) :: (4, .ptr 5 0) :: (5, .ptr 8 0) :: r0
theorem a31 (b : List UInt8) (j : Int) (v u : List Int) (l : List c7) (m m1 m2 : o8) (k1 k2 q : Int) (T : i9) (hmm : mmD b j v.length u.length = m) (hv : v.length ≤ 1000000) (hu : u.length ≤ 1000000) (hl : 0 < l.length ∧ l.length ≤ 1000000) (r0 : 0 ≤ j) (r1 : j ≤ 10000000)
    (hT : sbD b (j + v.length + 4 * u.length + 1 + 14) ⟨pk b (j + v.length + 4 * u.length) l.length, H8 b (j + v.length + 4 * u.length + 1) 14, m⟩ m2 k2 = (T, q))
    (h1 : j5.ok Try.prog (beC b (j + v.length + 4 * u.length + 1 + 14 + 1) m.vals m.arrs m1 k1))
    (h2 : j5.ok Try.prog (beC b k1 m1.vals m1.arrs m2 k2)) : j5.ok Try.prog ⟨82, [.ptr 0 0, pA 2], [.box [.ref 1, iA j], dY b, dI v, dI u, dN l], [.box [.ref 1, iA q], dY b, dI v, dI u, dN l] ++ smS T, .agg [iA T.pc, .ref 5, .ref 6, .ref 7]⟩ := by
  have hme := bi4 b j v u m hmm hv hu r0 (by omega); have hb1 := h1; have hb2 := h2; refine F5 65 Try.func82 [.box [.ref 1, iA j], dY b, dI v, dI u, dN l] [(0, .ptr 0 0), (1, pA 2)] fun G => ?_; refine wp_seq (i7 G d8 [0, 1, 2, 3, 4, 5, 13] [.box [.ref 1, iA j], dY b, dI v, dI u, dN l, .box (pL 2), ab4] [(0, .ptr 0 0), (3, .ptr 5 0), (4, .ptr 6 0)] fun G => b0 (wp_seq (i7 G (K9 (A2 2 [2, 3, 4] (az9 v u l) (A2 3 (rg 4) hme K8)) fz []) [0, 1, 2, 3, 4, 5, 6, 31, 32, 47] [.box [.ref 1, iA (j + (v.length : Int) + 4 * (u.length : Int))], dY b, dI v, dI u, dN l, .box (pL 2), ab4, dI m.vals, dR m.arrs, .box [iA 0, .v (.slice none 0 0), .ref 7, .ref 8]] [(0, .ptr 0 0), (3, .ptr 5 0), (4, .ptr 6 0), (5, .ptr 9 0)] fun G => b0 (wp_seq (wp_seq (D6 G d8 [(0, .ptr 0 0), (3, .ptr 5 0), (4, .ptr 6 0), (5, .ptr 9 0), (15, bA (decide ((l.length : Int) > 0)))] fun G => b0 ?_)))))); cases h0 : (decide ((l.length : Int) > 0))
  · have q0 := T8 h0; exact False.elim (by omega)
  ·
   have q0 := T7 h0; refine rT G _ h0 (i7 G (r7 4 [0, 1] (n5 b (j + (v.length : Int) + 4 * (u.length : Int)) ((l.length : Int)) (by omega) (by omega))) [0, 1, 2, 3, 4, 6, 7, 8, 9] [.box [.ref 1, iA (j + (v.length : Int) + 4 * (u.length : Int) + 1)], dY b, dI v, dI u, dN l, ab4, dI m.vals, dR m.arrs, .box [iA (pk b (j + (v.length : Int) + 4 * (u.length : Int)) (l.length : Int)), .v (.slice none 0 0), .ref 6, .ref 7]] (ak1 []) fun G => b0 (wp_seq (wp_seq (D6 G d8 (ak1 [(6, iA 0)]) fun G => b0 (wp_block ?_))))); obtain ⟨ρ, G⟩ := G.nil 9 3 (.ints []) 1 [.box [.ref 1, iA (j + (v.length : Int) + 4 * (u.length : Int) + 1)], dY b, dI v, dI u, dN l, .box [iA 0, .v (.slice none 0 0), .v (.slice none 0 0), .v (.slice none 0 0)], dI m.vals, dR m.arrs, .box [iA (pk b (j + (v.length : Int) + 4 * (u.length : Int)) (l.length : Int)), .ref 9, .ref 6, .ref 7]] (ak1 [(6, iA 0)]); replace G := G.as [.box [.ref 1, iA (j + (v.length : Int) + 4 * (u.length : Int) + 1 + (0 : Int))], dY b, dI v, dI u, dN l, .box [iA 0, .v (.slice none 0 0), .v (.slice none 0 0), .v (.slice none 0 0)], dI m.vals, dR m.arrs, .box [iA (pk b (j + (v.length : Int) + 4 * (u.length : Int)) (l.length : Int)), .ref 9, .ref 6, .ref 7], .row 3 (D.ints (H8 b (j + (v.length : Int) + 4 * (u.length : Int) + 1) 0))] (ak1 [(6, iA 0)]) (by have e1 : (j + (v.length : Int) + 4 * (u.length : Int) + 1 + (0 : Int) : Int) = (j + (v.length : Int) + 4 * (u.length : Int) + 1) := (by omega); (first | rw [e1] | simp only [e1]) <;> rfl) (by kernel_rfl); refine t6 (κ := Nat) (fun i => i ≤ 14) (fun i => 14 - i) (fun i => [.box [.ref 1, iA (j + v.length + 4 * u.length + 1 + i)], dY b, dI v, dI u, dN l, .box [iA 0, .v (.slice none 0 0), .v (.slice none 0 0), .v (.slice none 0 0)], dI m.vals, dR m.arrs, .box [iA (pk b (j + (v.length : Int) + 4 * (u.length : Int)) (l.length : Int)), .ref 9, .ref 6, .ref 7], .row 3 (.ints (H8 b (j + v.length + 4 * u.length + 1) i))]) (fun i => [(0, .ptr 0 0), (4, .ptr 5 0), (5, .ptr 8 0), (6, iA i)]) 0 (by omega) (s5.at G _ _) ?_; clear G; intro i ρ a w hp G; replace G := s5.at G [.box [.ref 1, iA (j + (v.length : Int) + 4 * (u.length : Int) + 1 + (i : Int))], dY b, dI v, dI u, dN l, ab4, dI m.vals, dR m.arrs, aH0 b j v u l, .row 3 (D.ints (H8 b (j + (v.length : Int) + 4 * (u.length : Int) + 1) i))] (ak1 [(6, iA i)]); have hvl := T3 b (j + v.length + 4 * u.length + 1) i; refine wp_seq (wp_seq (D6 G d8 (ak1 [(6, iA i), (23, bA (decide ((i : Int) < 14)))]) fun G => b0 ?_)); cases h1 : (decide ((i : Int) < 14))
   ·
    have q1 := T8 h1
    obtain rfl : i = 14 := by omega
    refine rF G false (by kernel_rfl) (wp_exit (t3 (t3 (t2 (b0 (wp_seq (wp_seq (i7 G (r7 1 [0, 1] (n5 b (j + (v.length : Int) + 4 * (u.length : Int) + 1 + (14 : Int)) 40 (by omega) (by omega))) (rg 10) [.box [.ref 1, iA (j + (v.length : Int) + 4 * (u.length : Int) + 1 + (14 : Int) + 1)], dY b, dI v, dI u, dN l, ab4, dI m.vals, dR m.arrs, aH0 b j v u l, ax0 b j v u] (ak1 [(34, iA (pk b (j + (v.length : Int) + 4 * (u.length : Int) + 1 + (14 : Int)) 40))]) fun G => b0 (wp_block (wp_seq (j7 G d8 [(34, iA (pk b (j + (v.length : Int) + 4 * (u.length : Int) + 1 + 14) 40)), (35, bA (pk b (j + (v.length : Int) + 4 * (u.length : Int) + 1 + 14) 40 == 0))] fun G => b0 (H6 G (fun h2 q2 => ?_) fun h2 q2 => ?_))))))))))))
    ·
     refine wp_seq (j7 G d8 [(41, bA (pk b (j + (v.length : Int) + 4 * (u.length : Int) + 1 + 14) 40 == 1))] fun G => b0 (H6 G (fun h3 q3 => ?_) fun h3 q3 => ?_))
     ·
      refine wp_seq (j7 G d8 [(47, bA (pk b (j + (v.length : Int) + 4 * (u.length : Int) + 1 + 14) 40 == 2))] fun G => b0 (H6 G (fun h4 q4 => ?_) fun h4 q4 => ?_))
      ·
       refine wp_seq (j7 G d8 [(55, bA (pk b (j + (v.length : Int) + 4 * (u.length : Int) + 1 + 14) 40 == 3))] fun G => b0 (H6 G (fun h5 q5 => ?_) fun h5 q5 => ?_))
       · refine wp_skip (i8 (b0 (wp_seq (i7 G d8 [0, 1, 2, 3, 4, 5, 6, 7, 9] (.box [.ref 1, iA (j + (v.length : Int) + 4 * (u.length : Int) + 1 + 14 + 1)] :: (aG7 b j v u l m [ax0 b j v u])) [(4, .ptr 5 0)] fun G => b0 (wp_ret ?_))))); obtain ⟨ρ, G⟩ := G.frz [.no, .no, .no, .no, .no, .no, .no, .no, .row 3] (.box [.ref 1, iA (j + (v.length : Int) + 4 * (u.length : Int) + 1 + 14 + 1)] :: (aG7 b j v u l m [dI (H8 b (j + (v.length : Int) + 4 * (u.length : Int) + 1) 14)])) [(4, .ptr 5 0)]; exact Q1 (.agg [iA (pk b (j + (v.length : Int) + 4 * (u.length : Int)) (l.length : Int)), .ref 8, .ref 6, .ref 7]) G [0, 1, 2, 3, 4, 8, 6, 7] (by have e1 : (T.pc : Int) = (pk b (j + (v.length : Int) + 4 * (u.length : Int)) (l.length : Int)) := (by rw [ba5 (by omega) (by omega) (by omega) (by omega)] at hT; cases hT; rfl); (first | rw [e1] | simp only [e1]) <;> rfl) (by show _ = mR [0, 1, 2, 3, 4, 8, 6, 7] (ab5 b v u l q T); unfold ab5; have e1 : (q : Int) = (j + (v.length : Int) + 4 * (u.length : Int) + 1 + 14 + 1) := (by rw [ba5 (by omega) (by omega) (by omega) (by omega)] at hT; cases hT; rfl); have e2 : (T.regs : List Int) = (H8 b (j + (v.length : Int) + 4 * (u.length : Int) + 1) 14) := (by rw [ba5 (by omega) (by omega) (by omega) (by omega)] at hT; cases hT; rfl); have e3 : (T.mem.vals : List Int) = (m.vals) := (by rw [ba5 (by omega) (by omega) (by omega) (by omega)] at hT; cases hT; rfl); have e4 : (T.mem.arrs : List (List Int)) = (m.arrs) := (by rw [ba5 (by omega) (by omega) (by omega) (by omega)] at hT; cases hT; rfl); (first | rw [e1, e2, e3, e4] | simp only [e1, e2, e3, e4]) <;> rfl)
       · refine i7 G (K9 (A2 4 [0, 1, 6, 7] hb1 (A2 5 [0, 1, 42, 43] hb2 K8)) fz []) [0, 1, 2, 3, 4, 5, 8, 9, 50, 51] [.box [.ref 1, iA k2], dY b, dI v, dI u, dN l, ab4, .box [iA (pk b (j + (v.length : Int) + 4 * (u.length : Int)) (l.length : Int)), .ref 7, .ref 8, .ref 9], ax0 b j v u, dI m2.vals, dR m2.arrs] [(4, .ptr 5 0), (5, .ptr 6 0)] fun G => i8 (b0 (wp_seq (i7 G d8 [0, 1, 2, 3, 4, 5, 7, 8, 9] [.box [.ref 1, iA k2], dY b, dI v, dI u, dN l, .box [iA (pk b (j + (v.length : Int) + 4 * (u.length : Int)) (l.length : Int)), .ref 6, .ref 7, .ref 8], ax0 b j v u, dI m2.vals, dR m2.arrs] [(4, .ptr 5 0)] fun G => b0 (wp_ret ?_)))); obtain ⟨ρ, G⟩ := G.frz [.no, .no, .no, .no, .no, .no, .row 3] [.box [.ref 1, iA k2], dY b, dI v, dI u, dN l, .box [iA (pk b (j + (v.length : Int) + 4 * (u.length : Int)) (l.length : Int)), .ref 6, .ref 7, .ref 8], dI (H8 b (j + (v.length : Int) + 4 * (u.length : Int) + 1) 14), dI m2.vals, dR m2.arrs] [(4, .ptr 5 0)]; exact Q1 (.agg [iA (pk b (j + (v.length : Int) + 4 * (u.length : Int)) (l.length : Int)), .ref 6, .ref 7, .ref 8]) G [0, 1, 2, 3, 4, 6, 7, 8] (by have e1 : (T.pc : Int) = (pk b (j + (v.length : Int) + 4 * (u.length : Int)) (l.length : Int)) := (by rw [ba6 (by omega)] at hT; cases hT; rfl); (first | rw [e1] | simp only [e1]) <;> rfl) (by show _ = mR [0, 1, 2, 3, 4, 6, 7, 8] (ab5 b v u l q T); unfold ab5; have e1 : (q : Int) = (k2) := (by rw [ba6 (by omega)] at hT; cases hT; rfl); have e2 : (T.regs : List Int) = (H8 b (j + (v.length : Int) + 4 * (u.length : Int) + 1) 14) := (by rw [ba6 (by omega)] at hT; cases hT; rfl); have e3 : (T.mem.vals : List Int) = (m2.vals) := (by rw [ba6 (by omega)] at hT; cases hT; rfl); have e4 : (T.mem.arrs : List (List Int)) = (m2.arrs) := (by rw [ba6 (by omega)] at hT; cases hT; rfl); (first | rw [e1, e2, e3, e4] | simp only [e1, e2, e3, e4]) <;> rfl)
      · refine C8 G (r7 4 [0, 1, 34] (j5.lend (H3 b (j + (v.length : Int) + 4 * (u.length : Int) + 1 + 14 + 1) ([-1] ++ ([256] ++ [])) (by simp [h0, h1, h2, h3, h4]) (by omega) (by omega)) [.no, .no, .row 3])) [0, 1, 0, 0, 12, 31, 63] (rg 10) [aW4 j v u, dY b, dI v, dI u, dN l, ab4, dI m.vals, dR m.arrs, aH0 b j v u l, br4 b j v u] [(4, .ptr 5 0), (5, .ptr 8 0)] (iX 0 0 ((H8 b (j + (v.length : Int) + 4 * (u.length : Int) + 1) (14 : Nat)).length) []) (iK (by omega) bS4) fun G => i8 (b0 (wp_seq (i7 G d8 [0, 1, 2, 3, 4, 5, 6, 7, 9] (aW4 j v u :: (aG7 b j v u l m [br4 b j v u])) [(4, .ptr 5 0)] fun G => b0 (wp_ret ?_)))); obtain ⟨ρ, G⟩ := G.frz [.no, .no, .no, .no, .no, .no, .no, .no, .row 3] (.box [.ref 1, iA (j + (v.length : Int) + 4 * (u.length : Int) + 1 + 14 + 1 + 1)] :: (aG7 b j v u l m [dI ((H8 b (j + (v.length : Int) + 4 * (u.length : Int) + 1) 14).set 0 (nm b (j + (v.length : Int) + 4 * (u.length : Int) + 1 + 14 + 1) ([-1] ++ ([256] ++ []))))])) [(4, .ptr 5 0)]; exact Q1 (.agg [iA (pk b (j + (v.length : Int) + 4 * (u.length : Int)) (l.length : Int)), .ref 8, .ref 6, .ref 7]) G [0, 1, 2, 3, 4, 8, 6, 7] (by have e1 : (T.pc : Int) = (pk b (j + (v.length : Int) + 4 * (u.length : Int)) (l.length : Int)) := (by rw [ba7 (by omega)] at hT; cases hT; rfl); (first | rw [e1] | simp only [e1]) <;> rfl) (by show _ = mR [0, 1, 2, 3, 4, 8, 6, 7] (ab5 b v u l q T); unfold ab5; have e1 : (q : Int) = (j + (v.length : Int) + 4 * (u.length : Int) + 1 + 14 + 1 + 1) := (by rw [ba7 (by omega)] at hT; cases hT; rfl); have e2 : (T.regs : List Int) = ((H8 b (j + (v.length : Int) + 4 * (u.length : Int) + 1) 14).set 0 (nm b (j + (v.length : Int) + 4 * (u.length : Int) + 1 + 14 + 1) ([-1] ++ ([256] ++ [])))) := (by rw [ba7 (by omega)] at hT; cases hT; rfl); have e3 : (T.mem.vals : List Int) = (m.vals) := (by rw [ba7 (by omega)] at hT; cases hT; rfl); have e4 : (T.mem.arrs : List (List Int)) = (m.arrs) := (by rw [ba7 (by omega)] at hT; cases hT; rfl); (first | rw [e1, e2, e3, e4] | simp only [e1, e2, e3, e4]) <;> rfl)
     · refine G4 G d8 [0, 1, 2, 3, 4, 5, 6, 7, 8, 26] [.box [.ref 1, iA (j + (v.length : Int) + 4 * (u.length : Int) + 1 + 14 + 1)], dY b, dI v, dI u, dN l, ab4, dI m.vals, dR m.arrs, aH0 b j v u l, dI (List.drop 0 (bS3 (Int.toNat 13) (H8 b (j + (v.length : Int) + 4 * (u.length : Int) + 1) 14)))] [(4, .ptr 5 0), (5, .ptr 8 0)] [(0 : Int) ≤ 13, (13 : Int) ≤ ((H8 b (j + (v.length : Int) + 4 * (u.length : Int) + 1) (14 : Nat)).length : Int)] ⟨(by omega), (by omega), bS4⟩ fun G => i8 (b0 (wp_seq (i7 G d8 [0, 1, 2, 3, 4, 5, 6, 7, 9] (.box [.ref 1, iA (j + (v.length : Int) + 4 * (u.length : Int) + 1 + 14 + 1)] :: (aG7 b j v u l m [dI (List.drop 0 (bS3 (Int.toNat 13) (H8 b (j + (v.length : Int) + 4 * (u.length : Int) + 1) 14)))])) [(4, .ptr 5 0)] fun G => b0 (wp_ret ?_)))); exact Q1 (.agg [iA (pk b (j + (v.length : Int) + 4 * (u.length : Int)) (l.length : Int)), .ref 8, .ref 6, .ref 7]) G [0, 1, 2, 3, 4, 8, 6, 7] (by have e1 : (T.pc : Int) = (pk b (j + (v.length : Int) + 4 * (u.length : Int)) (l.length : Int)) := (by rw [ba8 (by omega)] at hT; cases hT; rfl); (first | rw [e1] | simp only [e1]) <;> rfl) (by show _ = mR [0, 1, 2, 3, 4, 8, 6, 7] (ab5 b v u l q T); unfold ab5; have e1 : (q : Int) = (j + (v.length : Int) + 4 * (u.length : Int) + 1 + 14 + 1) := (by rw [ba8 (by omega)] at hT; cases hT; rfl); have e2 : (T.regs : List Int) = (List.drop 0 (bS3 (Int.toNat 13) (H8 b (j + (v.length : Int) + 4 * (u.length : Int) + 1) 14))) := (by rw [ba8 (by omega)] at hT; cases hT; rfl); have e3 : (T.mem.vals : List Int) = (m.vals) := (by rw [ba8 (by omega)] at hT; cases hT; rfl); have e4 : (T.mem.arrs : List (List Int)) = (m.arrs) := (by rw [ba8 (by omega)] at hT; cases hT; rfl); (first | rw [e1, e2, e3, e4] | simp only [e1, e2, e3, e4]) <;> rfl)
    · refine i7 G (r7 2 [0, 1, 18] (j5.lend (H3 b (j + (v.length : Int) + 4 * (u.length : Int) + 1 + 14 + 1) ([-1] ++ ([400] ++ ([0] ++ []))) (by simp [h0, h1, h2]) (by omega) (by omega)) [.no, .no, .row 3])) (rg 10) [aW4 j v u, dY b, dI v, dI u, dN l, ab4, dI m.vals, dR m.arrs, .box [iA (nm b (j + (v.length : Int) + 4 * (u.length : Int) + 1 + 14 + 1) ([-1] ++ ([400] ++ ([0] ++ [])))), .ref 9, .ref 6, .ref 7], ax0 b j v u] [(4, .ptr 5 0), (5, .ptr 8 0)] fun G => i8 (b0 (wp_seq (i7 G d8 [0, 1, 2, 3, 4, 5, 6, 7, 9] [aW4 j v u, dY b, dI v, dI u, dN l, .box [iA (nm b (j + (v.length : Int) + 4 * (u.length : Int) + 1 + 14 + 1) ([-1] ++ ([400] ++ ([0] ++ [])))), .ref 8, .ref 6, .ref 7], dI m.vals, dR m.arrs, ax0 b j v u] [(4, .ptr 5 0)] fun G => b0 (wp_ret ?_)))); obtain ⟨ρ, G⟩ := G.frz [.no, .no, .no, .no, .no, .no, .no, .no, .row 3] [.box [.ref 1, iA (j + (v.length : Int) + 4 * (u.length : Int) + 1 + 14 + 1 + 1)], dY b, dI v, dI u, dN l, .box [iA (nm b (j + (v.length : Int) + 4 * (u.length : Int) + 1 + 14 + 1) ([-1] ++ ([400] ++ ([0] ++ [])))), .ref 8, .ref 6, .ref 7], dI m.vals, dR m.arrs, dI (H8 b (j + (v.length : Int) + 4 * (u.length : Int) + 1) 14)] [(4, .ptr 5 0)]; exact Q1 (.agg [iA (nm b (j + (v.length : Int) + 4 * (u.length : Int) + 1 + 14 + 1) ([-1] ++ ([400] ++ ([0] ++ [])))), .ref 8, .ref 6, .ref 7]) G [0, 1, 2, 3, 4, 8, 6, 7] (by have e1 : (T.pc : Int) = (nm b (j + (v.length : Int) + 4 * (u.length : Int) + 1 + 14 + 1) ([-1] ++ ([400] ++ ([0] ++ [])))) := (by rw [ba9 (by omega)] at hT; cases hT; rfl); (first | rw [e1] | simp only [e1]) <;> rfl) (by show _ = mR [0, 1, 2, 3, 4, 8, 6, 7] (ab5 b v u l q T); unfold ab5; have e1 : (q : Int) = (j + (v.length : Int) + 4 * (u.length : Int) + 1 + 14 + 1 + 1) := (by rw [ba9 (by omega)] at hT; cases hT; rfl); have e2 : (T.regs : List Int) = (H8 b (j + (v.length : Int) + 4 * (u.length : Int) + 1) 14) := (by rw [ba9 (by omega)] at hT; cases hT; rfl); have e3 : (T.mem.vals : List Int) = (m.vals) := (by rw [ba9 (by omega)] at hT; cases hT; rfl); have e4 : (T.mem.arrs : List (List Int)) = (m.arrs) := (by rw [ba9 (by omega)] at hT; cases hT; rfl); (first | rw [e1, e2, e3, e4] | simp only [e1, e2, e3, e4]) <;> rfl)
   · have q1 := T7 h1; refine rT G _ h1 (wp_skip (b0 (wp_seq (wp_block (C8 G (r7 3 [0, 1] (H0 b (j + (v.length : Int) + 4 * (u.length : Int) + 1 + (i : Int)) (by omega) (by omega))) [0, 1, 0, 4, 12, 31, 63, 127] [0, 1, 2, 3, 4, 5, 6, 7, 8, 50] [.box [.ref 1, iA (j + (v.length : Int) + 4 * (u.length : Int) + 1 + (i : Int) + 1)], dY b, dI v, dI u, dN l, ab4, dI m.vals, dR m.arrs, aH0 b j v u l, .row 3 (D.ints (H8 b (j + (v.length : Int) + 4 * (u.length : Int) + 1) i ++ ([nm b (j + (v.length : Int) + 4 * (u.length : Int) + 1 + (i : Int)) W9] ++ [])))] (ak1 [(6, iA i)]) (aP ((H8 b (j + (v.length : Int) + 4 * (u.length : Int) + 1) i).length + ([nm b (j + (v.length : Int) + 4 * (u.length : Int) + 1 + (i : Int)) W9] ++ []).length) 8 []) (aK (by simp; omega) bS4) fun G => i8 (b0 (A0 G d8 [(6, iA ((i : Int) + 1))] [wO ((i : Int) + 1)] (o1 (by omega)) fun G => b0 ?_))))))); exact H9 G (i + 1) (by omega) (by omega) (rg 10) (by have e1 : (j + (v.length : Int) + 4 * (u.length : Int) + 1 + (↑(i + 1) : Int) : Int) = (j + (v.length : Int) + 4 * (u.length : Int) + 1 + (i : Int) + 1) := (by omega); have e2 : (H8 b (j + (v.length : Int) + 4 * (u.length : Int) + 1) (i + 1) : List Int) = (H8 b (j + (v.length : Int) + 4 * (u.length : Int) + 1) i ++ ([nm b (j + (v.length : Int) + 4 * (u.length : Int) + 1 + (i : Int)) W9] ++ [])) := (an4 _ _ _); (first | rw [e1, e2] | simp only [e1, e2]) <;> rfl)
abbrev dmC (f : FuncId) (c : List UInt8) (k : d7) (s : i9) : j5 := ⟨f, [.ref 0], [dY c], [dY c] ++ X3 k ++ smS s, .tup [pA 1, .agg [iA s.pc, .ref 4, .ref 5, .ref 6]]⟩
abbrev aW3 : It := .box [iA 0, .v (.slice none 0 0), .v (.slice none 0 0), .v (.slice none 0 0)]
abbrev aW2 : It := .box [.v (.slice none 0 0), .v (.slice none 0 0), .v (.slice none 0 0)]
theorem a35 (c b : List UInt8) (kv ka v u : List Int) (kl l : List c7) (s : i9) (j1 j2 j3 : Int)
  (h0 : j5.ok Try.prog ⟨23, [.ref 0], [dY c], [dY c, .box [.ref 2, iA 0], dY b], .ptr 1 0⟩)
  (h1 : j5.ok Try.prog ⟨81, [.ptr 0 0], [.box [.ref 1, iA 0], dY b], [.box [.ref 1, iA j1], dY b, rI kv, rI ka, rN kl], pA 2⟩)
  (h2 : j5.ok Try.prog ⟨82, [.ptr 0 0, pA 2], [.box [.ref 1, iA j1], dY b, dI kv, dI ka, dN kl], [.box [.ref 1, iA j2], dY b, dI kv, dI ka, dN kl] ++ smS s, .agg [iA s.pc, .ref 5, .ref 6, .ref 7]⟩)
  (h3 : j5.ok Try.prog ⟨54, [.ptr 0 0, pA 2], [.box [.ref 1, iA j2], dY b, dI kv, dI ka, dN kl], [.box [.ref 1, iA j3], dY b, dI kv, dI ka, dN kl, rI v, rI u, rN l], pA 5⟩) : j5.ok Try.prog (dmC 46 c ⟨v, u, l⟩ s) := by
 have ho := h0; have hcd := h1; have hst := h2; have hmu := h3; refine F5 18 Try.func46 [dY c] [(0, .ref 0)] fun G => ?_; refine wp_seq (i7 G d8 [0, 1, 9] [dY c, aW2, aW3] [(0, .ref 0), (2, .ptr 1 0), (3, .ptr 2 0)] fun G => b0 (wp_seq (i7 G (r7 1 [0] ho) [0, 1, 2, 11, 12] [dY c, aW2, aW3, .box [.ref 4, iA 0], dY b] [(2, .ptr 1 0), (3, .ptr 2 0), (4, .ptr 3 0)] fun G => b0 (wp_seq (i7 G (r7 1 [3, 4] hcd) [0, 1, 2, 3, 4, 13, 14, 15, 21] [dY c, aW2, aW3, .box [.ref 4, iA j1], dY b, .row 3 (D.ints kv), .row 3 (D.ints ka), .row 122 (D.instrs kl), .box (pL 5)] [(2, .ptr 1 0), (3, .ptr 2 0), (4, .ptr 3 0), (5, .ptr 8 0)] fun G => b0 (wp_seq ?_)))))); obtain ⟨ρ, G⟩ := G.frz [.no, .no, .no, .no, .no, .row 3, .row 3, .row 122] [dY c, .box [.v (.slice none 0 0), .v (.slice none 0 0), .v (.slice none 0 0)], .box [iA 0, .v (.slice none 0 0), .v (.slice none 0 0), .v (.slice none 0 0)], .box [.ref 4, iA j1], dY b, dI kv, dI ka, dN kl, .box (pL 5)] [(2, .ptr 1 0), (3, .ptr 2 0), (4, .ptr 3 0), (5, .ptr 8 0)]; refine i7 G (r7 2 [3, 4, 5, 6, 7] hst) [0, 1, 2, 3, 4, 5, 6, 7, 8, 25, 26, 27, 33] [dY c, aW2, aW3, .box [.ref 4, iA j2], dY b, dI kv, dI ka, dN kl, .box (pL 5), dI s.regs, dI s.mem.vals, dR s.mem.arrs, .box [iA s.pc, .ref 9, .ref 10, .ref 11]] [(2, .ptr 1 0), (3, .ptr 2 0), (4, .ptr 3 0), (5, .ptr 8 0), (6, .ptr 12 0)] fun G => b0 (wp_seq (aQ9 G (r7 2 [3, 4, 5, 6, 7] hmu) [0, 0, 3, 0, 7, 31] [0, 1, 2, 9, 10, 11, 29, 30, 31] [dY c, .box (pL 6), .box [iA s.pc, .ref 3, .ref 4, .ref 5], dI s.regs, dI s.mem.vals, dR s.mem.arrs, .row 3 (D.ints v), .row 3 (D.ints u), .row 122 (D.instrs l)] [(2, .ptr 1 0), (3, .ptr 2 0)] fun G => b0 (wp_ret ?_))); obtain ⟨ρ, G⟩ := G.frz [.no, .no, .no, .no, .no, .no, .row 3, .row 3, .row 122] [dY c, .box (pL 6), .box [iA s.pc, .ref 3, .ref 4, .ref 5], dI s.regs, dI s.mem.vals, dR s.mem.arrs, dI v, dI u, dN l] [(2, .ptr 1 0), (3, .ptr 2 0)]; exact D8 G [0, 6, 7, 8, 3, 4, 5]
theorem a34 (c : List UInt8) (k : d7) (s : i9) (h : j5.ok Try.prog (dmC 46 c k s)) : j5.ok Try.prog (dmC 16 c k s) := by
 have ho := h; refine F5 8 Try.func16 [dY c] [(0, .ref 0)] fun G => ?_; refine wp_seq (i7 G d8 [0, 1, 9] [dY c, .box [.v (.slice none 0 0), .v (.slice none 0 0), .v (.slice none 0 0)], .box [iA 0, .v (.slice none 0 0), .v (.slice none 0 0), .v (.slice none 0 0)]] [(0, .ref 0), (2, .ptr 1 0), (3, .ptr 2 0)] fun G => b0 (wp_seq (i7 G (r7 1 [0] ho) [0, 1, 2, 11, 12, 13, 14, 15, 16] [dY c, .box (pL 3), .box [iA s.pc, .ref 6, .ref 7, .ref 8], dI k.vars, dI k.arrays, dN k.list, dI s.regs, dI s.mem.vals, dR s.mem.arrs] [(2, .ptr 1 0), (3, .ptr 2 0)] fun G => b0 (wp_ret ?_)))); exact D8 G [0, 3, 4, 5, 6, 7, 8]
theorem bu8 {b : List UInt8} {j : Int} {m m1 : o8} {k : Int} (h : beD b j m = (m1, k)) (hi : ∀ l ∈ m.arrs, l.length ≤ 4) (h3 : 0 < m.arrs.length → 3 ≤ (m.arrs.getD 0 []).length) : (∀ l ∈ m1.arrs, l.length ≤ 4) ∧ (0 < m1.arrs.length → 3 ≤ (m1.arrs.getD 0 []).length) := by
 have h1 := bJ6 b j m 4 hi
 rw [h] at h1
 refine ⟨h1, ?_⟩
 unfold beD at h
 split at h
 ·cases h; exact h3
 split at h
 ·split at h
  ·cases h; exact h3
  ·cases h; exact h3
 split at h
 ·split at h
  ·rename_i hl
   cases h
   intro _
   dsimp only
   rw [bR7, List.getElem?_set_self hl]
   simp only [List.drop_zero, Option.getD_some, List.length_take]
   have := h3 hl
   omega
  ·cases h; exact h3
 split at h
 ·cases h; intro h; exact absurd h (Nat.lt_irrefl 0)
 ·cases h; exact h3
theorem bL7 (b : List UInt8) {q : Int} {s : i9} {m : o8} {k : Int} (h1 : s.regs.length = 14) (hk : q ≤ k ∧ k ≤ q + 100) (P : o8 → Prop) (hm : P s.mem) (hm2 : P m) : (sbD b q s m k).1.regs.length ≤ 14 ∧ P (sbD b q s m k).1.mem ∧ q ≤ (sbD b q s m k).2 ∧ (sbD b q s m k).2 ≤ q + 100 := by
 unfold sbD
 split
 ·exact ⟨Nat.le_of_eq h1, hm, by dsimp only; omega, by dsimp only; omega⟩
 split
 ·exact ⟨by simp; omega, hm, by dsimp only; omega, by dsimp only; omega⟩
 split
 ·exact ⟨by simp; omega, hm, by dsimp only; omega, by dsimp only; omega⟩
 split
 ·exact ⟨Nat.le_of_eq h1, hm2, by dsimp only; omega, by dsimp only; omega⟩
 ·exact ⟨Nat.le_of_eq h1, hm, by dsimp only; omega, by dsimp only; omega⟩
theorem bh0 (c : List UInt8) : ∃ (k : d7) (s : i9), (k.vars.length ≤ 1000 ∧ k.arrays.length ≤ 1000 ∧ k.list.length ≤ 400) ∧ (s.regs.length ≤ 1048576 ∧ s.mem.vals.length ≤ 1048576 ∧ s.mem.arrs.length ≤ 1048576 ∧ ∀ r ∈ s.mem.arrs, r.length ≤ 1048576) ∧ j5.ok Try.prog (dmC 16 c k s) := by
 have h0 := aA0 c
 have h1 := ah3 (T6 c) 0 (by omega) (by omega)
 have hj := bh8 (T6 c) (j := 0) (by omega) (by omega)
 have hp : (d9 (T6 c) 0).1.vars.length ≤ 12 ∧ (d9 (T6 c) 0).1.arrays.length ≤ 2 := ⟨(aD0 (T6 c) 0).1, (aD0 (T6 c) 0).2.1⟩
 unfold cdC at h1
 generalize d9 (T6 c) 0 = x at *
 obtain ⟨⟨kv, ka, kl⟩, j1⟩ := x
 dsimp only at h1 hj hp
 obtain ⟨m, hm⟩ : ∃ m, mmD (T6 c) j1 kv.length ka.length = m := ⟨_, rfl⟩
 have a1 : m.vals.length = kv.length := hm ▸ T3 _ _ _
 have a2 : m.arrs.length = ka.length := hm ▸ aV1 _ _ _
 have a3 : ∀ r ∈ m.arrs, r.length ≤ 4 := hm ▸ fun r hr => Nat.le_of_eq (bj7 _ _ _ r hr)
 have a4 : 0 < m.arrs.length → 3 ≤ (m.arrs.getD 0 []).length := hm ▸ bP5 (T6 c) j1 kv.length ka.length
 obtain ⟨⟨m1, k1⟩, e1⟩ : ∃ x, beD (T6 c) (j1 + kv.length + 4 * ka.length + 1 + 14 + 1) m = x := ⟨_, rfl⟩
 have b1 := bJ5 (T6 c) (j1 + kv.length + 4 * ka.length + 1 + 14 + 1) m
 have c1 := bu8 e1 a3 a4
 rw [e1] at b1
 obtain ⟨⟨m2, k2⟩, e2⟩ : ∃ x, beD (T6 c) k1 m1 = x := ⟨_, rfl⟩
 have b2 := bJ5 (T6 c) k1 m1
 have c2 := bu8 e2 c1.1 c1.2
 rw [e2] at b2
 dsimp only at b1 b2
 obtain ⟨⟨T, q⟩, eT⟩ : ∃ x, sbD (T6 c) (j1 + kv.length + 4 * ka.length + 1 + 14) ⟨pk (T6 c) (j1 + kv.length + 4 * ka.length) kl.length, H8 (T6 c) (j1 + kv.length + 4 * ka.length + 1) 14, m⟩ m2 k2 = x := ⟨_, rfl⟩
 have hs := bL7 (T6 c) (q := j1 + kv.length + 4 * ka.length + 1 + 14) (s := ⟨pk (T6 c) (j1 + kv.length + 4 * ka.length) kl.length, H8 (T6 c) (j1 + kv.length + 4 * ka.length + 1) 14, m⟩) (m := m2) (k := k2) (T3 _ _ _) (by omega)
  (fun m => m.vals.length ≤ 1048576 ∧ m.arrs.length ≤ 1048576 ∧ ∀ r ∈ m.arrs, r.length ≤ 1048576) ⟨by dsimp only; omega, by dsimp only; omega, fun r hr => bT4 (a3 r hr) (by decide)⟩ ⟨by omega, by omega, fun r hr => bT4 (c2.1 r hr) (by decide)⟩
 rw [eT] at hs
 dsimp only at hs
 have hb1 := aJ2 (T6 c) _ m.vals m.arrs m1 k1 e1 (by omega) (by omega) a3 a4 (by omega) (by omega)
 have hb2 := aJ2 (T6 c) k1 m1.vals m1.arrs m2 k2 e2 (by omega) (by omega) c1.1 c1.2 (by omega) (by omega)
 have h2 := a31 (T6 c) j1 kv ka kl m m1 m2 k1 k2 q T hm (by omega) (by omega) (by omega) (by omega) (by omega) eT hb1 hb2
 have h3 := au6 (T6 c) q kv ka kl ⟨by omega, by omega, by omega⟩ (by omega) (by omega)
 have hu := bF0 (T6 c) q ⟨kv, ka, kl⟩
 unfold muC at h3
 generalize muD (T6 c) q ⟨kv, ka, kl⟩ = y at *
 obtain ⟨⟨v, u, l⟩, j2⟩ := y
 dsimp only at h3 hu
 exact ⟨⟨v, u, l⟩, T, ⟨by dsimp only; omega, by dsimp only; omega, by dsimp only; omega⟩, ⟨by omega, hs.2.1⟩, a34 c _ T (a35 c (T6 c) kv ka v u kl l T j1 q j2 h0 h1 h2 h3)⟩
theorem bM1 {k : d7} (h : ¬ ((i5 k).length : Int) = 0) : f8 k = true ∧ (i5 k).length = k.list.length := by
 unfold i5 at h ⊢
 split
 ·rename_i hc; exact ⟨hc, N6 k⟩
 ·rename_i hc; rw [if_neg hc] at h; simp at h
theorem bc6 {k : d7} (h : f8 k = true) : (i5 k).length = k.list.length := by
 unfold i5; rw [if_pos h]; exact N6 k
theorem aZ0 {k : d7} (h : f8 k = true) {i : Int} (h0 : 0 ≤ i) (h1 : i < k.list.length) : (i5 k).getD i.toNat false = true ↔ Rc k i := by
 have hl : i.toNat < k.list.length := by omega
 have e : ((i.toNat : Nat) : Int) = i := by omega
 unfold i5
 rw [if_pos h, a37 hl, e]
theorem bM2 {k : d7} (h : ¬ ((i5 k).length : Int) = 0) : (i5 k).getD 0 false = true := by
 obtain ⟨hc, hl⟩ := bM1 h
 have := aZ0 hc (i := 0) (Int.le_refl _) (by omega)
 exact this.2 .zero
theorem bt3 {k : d7} : (i5 k).length ≤ k.list.length := aQ7 k
theorem bo8 {ι : Type} {φ ψ : Nat → Prop} {w0 w w' : World} {F : ι → Rs} {ρ : Nat → Value} {a b c d : D} {u : Value} (M : i6 φ ψ w0 w (l0 F ρ (l8 [.dat a, .dat b, .dat c]))) (hbl : Below w.heap.size w w') (hr : ∀ φ' : Nat → Prop, (∀ g, w.heap.size ≤ g → φ' g) → RD w' φ' d u) : i6 φ ψ w0 w' (l0 F (fun i => if i = 3 then u else ρ i) (l8 [.dat a, .dat b, .dat c, .dat d])) := by
 have ho' : ∀ k, ¬ k = Sum.inr 3 → l0 F (fun i => if i = 3 then u else ρ i) (l8 [.dat a, .dat b, .dat c, .dat d]) k = l0 F ρ (l8 [.dat a, .dat b, .dat c]) k := by
  intro k hk
  cases k with
  | inl i => rfl
  | inr j =>
   match j, hk with
   | 0, _ => rfl
   | 1, _ => rfl
   | 2, _ => rfl
   | 3, h => exact absurd rfl h
   | j + 4, _ => rfl
 refine M.grow hbl (fun k => k = .inr 3) ho' (by rintro k rfl b hb; cases hb) (by rintro j k b hjk rfl rfl; exact absurd rfl hjk) ?_
 rintro k rfl
 refine ⟨RD.nice _ _, hr _ fun g h1 => ⟨M.fresh g (by have := M.kept.size; omega), fun k hk => ?_⟩⟩
 by_cases e : k = .inr 3
 ·subst e; cases hk
 ·rw [ho' k e] at hk
  have := M.lt hk
  omega
section
variable {f : FuncId} {c : d7}
theorem ah5 {m : List Bool} (h : ∀ (v : Value) (w : World), z6 w v c → Calls Try.prog f #[v] w fun e w' => ∃ u, e = .returned u ∧ A9 w' w.heap.size w'.heap.size 4 1 u m.length (bools m) ∧ Below w.heap.size w w') : j5.ok Try.prog ⟨f, [.agg [.ref 0, .ref 1, .ref 2]], [.dat (.ints c.vars), .dat (.ints c.arrays), .dat (.instrs c.list)], [.dat (.ints c.vars), .dat (.ints c.arrays), .dat (.instrs c.list), .dat (.bools m)], .ref 3⟩ := by
 intro ι φ ψ w0 w F ρ M
 refine (h (.agg #[ρ 0, ρ 1, ρ 2]) w ⟨_, _, _, rfl, v6.row (M.datAt (id := 0) (d := .ints c.vars) rfl), v6.row (M.datAt (id := 1) (d := .ints c.arrays) rfl), v6.row (M.datAt (id := 2) (d := .instrs c.list) rfl)⟩).mono ?_
 rintro e w' ⟨u, rfl, ho, hbl⟩
 exact ⟨_, fun i (hi : i < 3) => if_neg (show ¬ i = 3 by omega), by simp [AV.val], bo8 (u := u) M hbl fun _ hf => y5 ho.1 fun g hg => hf g (ho.lt g hg).1⟩
end
theorem bA4 (l e : List (Int × Int)) (pc : Int) (h1 : l.length ≤ 1000000) (h2 : e.length ≤ 1000000) : j5.ok Try.prog ⟨97, [iA pc, .ref 2, .ptr 0 0], [.box [.ref 1], .row 65 (.events l), .dat (.events e)], [.box [.ref 3], .dead, .dat (.events e), .row 65 (.events (l ++ e))], .tup []⟩ := by
 refine F5 8 Try.func97 [.box [.ref 1], .row 65 (D.events l), dV e] [(0, iA pc), (1, .ref 2), (2, .ptr 0 0)] fun G => ?_; refine G4 G d8 [0, 1, 2, 19] [.box [.ref 3], .dead, dV e, .row 65 (D.events (l ++ e))] [] (aP (l.length + e.length) 16 []) (aK (by omega) bS4) fun G => ?_; exact bL8 G (rg 4)
structure aV4 (c : d7) (s : i9) (n : Nat) (b : Bool) : Prop where
 le : n ≤ 20000
 no : ∀ k, k + 1 < n → T5 c (n6 c s k) = false
 yes : b = true → ∃ k, n = k + 1 ∧ T5 c (n6 c s k) = true
 non : b = false → n = 20000 ∧ ∀ k, k < 20000 → T5 c (n6 c s k) = false
theorem bz2 {c : d7} {s : i9} {n k : Nat} {b : Bool} (h : aV4 c s n b) (hk : k < 20000) (hp : ∀ j, j < k → T5 c (n6 c s j) = false) (he : T5 c (n6 c s k) = true) : n = k + 1 ∧ b = true := by
 cases b with
 | false => have := (h.non rfl).2 k hk; rw [he] at this; cases this
 | true =>
  obtain ⟨j, h1, h2⟩ := h.yes rfl
  refine ⟨?_, rfl⟩
  rcases Nat.lt_trichotomy j k with h3 | h3 | h3
  ·rw [hp j h3] at h2; cases h2
  ·omega
  ·have := h.no k (by omega); rw [he] at this; cases this
theorem bz3 {c : d7} {s : i9} {n : Nat} {b : Bool} (h : aV4 c s n b) (hp : ∀ j, j < 20000 → T5 c (n6 c s j) = false) : n = 20000 ∧ b = false := by
 cases b with
 | false => exact ⟨(h.non rfl).1, rfl⟩
 | true =>
  obtain ⟨j, h1, h2⟩ := h.yes rfl
  have := hp j (by have := h.le; omega)
  rw [h2] at this; cases this
theorem bz5 {c : d7} {s : i9} (h : (c.list.getD s.pc.toNat aK4).op = 13) : T5 c s = true := decide_eq_true h
theorem bz4 {c : d7} {s : i9} (h : ¬ (c.list.getD s.pc.toNat aK4).op = 13) : T5 c s = false := decide_eq_false h
theorem bo6 {c : d7} {s : i9} {k : Nat} (hp : ∀ j, j < k → T5 c (n6 c s j) = false) (h : ¬ (c.list.getD (n6 c s k).pc.toNat aK4).op = 13) : ∀ j, j < k + 1 → T5 c (n6 c s j) = false := by
 intro j hj
 by_cases e : j = k
 ·subst e; exact bz4 h
 ·exact hp j (by omega)
theorem a50 {c : d7} {s : i9} {n k : Nat} {b : Bool} (h : aV4 c s n b) (hp : ∀ j, j < k → T5 c (n6 c s j) = false) (h1 : k ≤ 20000) (h2 : 20000 ≤ k) : n6 c s n = n6 c s k ∧ M4 c s n = M4 c s k ∧ b = false := by
 obtain rfl : k = 20000 := by omega
 obtain ⟨rfl, rfl⟩ := bz3 h hp
 exact ⟨rfl, rfl, rfl⟩
theorem a49 {c : d7} {s : i9} {n k : Nat} {b : Bool} (h : aV4 c s n b) (hp : ∀ j, j < k → T5 c (n6 c s j) = false) (hk : k < 20000) (he : (c.list.getD (n6 c s k).pc.toNat aK4).op = 13) : n6 c s n = e7 c (n6 c s k) ∧ M4 c s n = M4 c s k ++ z9 c (n6 c s k) ∧ b = true := by
 obtain ⟨rfl, rfl⟩ := bz2 h hk hp (bz5 he)
 exact ⟨rfl, rfl, rfl⟩
abbrev aW5 (c : d7) (s : i9) (n : Nat) : List It := [.box [iA (n6 c s n).pc, .ref 1, .ref 2, .tref 3], .row 3 (D.ints (n6 c s n).regs), .row 3 (D.ints (n6 c s n).mem.vals), .tree (D.rows (n6 c s n).mem.arrs), dI c.vars, dI c.arrays, dN c.list, .box [.ref 9], .dead, .row 65 (D.events (M4 c s n))]
abbrev aw7 (r0 : List (Nat × AV)) : List (Nat × AV) := (1, .ptr 0 0) :: (2, .fn 97 [.ptr 7 0]) :: (3, .ptr 9 0) :: (6, bA false) :: r0
abbrev a80 (c : d7) (s : i9) (r0 : List It) : List It := .box [iA s.pc, .ref 1, .ref 2, .tref 3] :: .row 3 (D.ints s.regs) :: .row 3 (D.ints s.mem.vals) :: .tree (D.rows s.mem.arrs) :: dI c.vars :: dI c.arrays :: dN c.list :: r0
theorem aA1 (c : d7) (s : i9) (n : Nat) (b : Bool) (hc : f8 c = true) (hs : J3 c s = true) (hE : aV4 c s n b) : j5.ok Try.prog ⟨96, [pA 4, .ptr 0 0, .fn 97 [.ptr 7 0]], stI s ++ X3 c ++ [.box [.ref 8], .row 65 (.events [])], stI (n6 c s n) ++ X3 c ++ [.box [.ref 9], .dead, .row 65 (.events (M4 c s n))], bA b⟩ := by
  refine F5 28 Try.func96 (a80 c s [.box [.ref 8], .row 65 (D.events [])]) [(0, pA 4), (1, .ptr 0 0), (2, .fn 97 [.ptr 7 0])] fun G => ?_; refine wp_seq (i7 G d8 (rg 10) (a80 c s [.box [.ref 8], .row 65 (D.events []), .box (pL 4)]) (aw7 []) fun G => b0 (wp_seq (wp_seq (D6 G d8 (aw7 [(8, iA 0)]) fun G => b0 (wp_block ?_))))); obtain ⟨ρ, G⟩ := G.shift 8 10 (a80 c s [.box [.ref 10], .dead, .box (pL 4), .row 65 (D.events [])]) (aw7 [(8, iA 0)]); refine t6 (κ := Nat) (fun k => k ≤ 20000 ∧ ∀ j, j < k → T5 c (n6 c s j) = false) (fun k => 20000 - k) (fun k => [.box [iA (n6 c s k).pc, .ref 1, .ref 2, .tref 3], .row 3 (.ints (n6 c s k).regs), .row 3 (.ints (n6 c s k).mem.vals), .tree (.rows (n6 c s k).mem.arrs), dI c.vars, dI c.arrays, dN c.list, .box [.ref 10], .dead, .box (pL 4), .row 65 (.events (M4 c s k))]) (fun k => (aw7 [(8, iA k)])) 0 (by simp [hc, hs]) (s5.at G _ _) ?_; clear G; intro k ρ a w hp G; replace G := s5.at G [.box [iA (n6 c s k).pc, .ref 1, .ref 2, .tref 3], .row 3 (D.ints (n6 c s k).regs), .row 3 (D.ints (n6 c s k).mem.vals), .tree (D.rows (n6 c s k).mem.arrs), dI c.vars, dI c.arrays, dN c.list, .box [.ref 10], .dead, .box (pL 4), .row 65 (D.events (M4 c s k))] (aw7 [(8, iA k)]); have hpc := N0 (aq6 hc hs k); have hel := aq7 c s k; have hen := ay3 c (n6 c s k); refine wp_seq (j7 G d8 [(9, bA (decide ((k : Int) < 20000)))] fun G => b0 (wp_seq (rcD G (fun h0 q0 => ?_) fun h0 q0 => ?_)))
  · refine wp_exit (t3 (t3 (t2 (b0 (wp_seq (i7 G d8 [0, 1, 2, 3, 4, 5, 6, 7, 8, 10] [.box [iA (n6 c s k).pc, .ref 1, .ref 2, .tref 3], .row 3 (D.ints (n6 c s k).regs), .row 3 (D.ints (n6 c s k).mem.vals), .tree (D.rows (n6 c s k).mem.arrs), dI c.vars, dI c.arrays, dN c.list, .box [.ref 9], .dead, .row 65 (D.events (M4 c s k))] [(6, bA false)] fun G => b0 (wp_ret ?_))))))); exact I6 false G (rg 10) ((a50 hE hp.2 (by omega) (by omega)).2.2) (by show _ = mR (rg 10) (aW5 c s n); unfold aW5; have e1 : ((n6 c s n).pc : Int) = ((n6 c s k).pc) := (by rw [(a50 hE hp.2 (by omega) (by omega)).1]); have e2 : ((n6 c s n).regs : List Int) = ((n6 c s k).regs) := (by rw [(a50 hE hp.2 (by omega) (by omega)).1]); have e3 : ((n6 c s n).mem.vals : List Int) = ((n6 c s k).mem.vals) := (by rw [(a50 hE hp.2 (by omega) (by omega)).1]); have e4 : ((n6 c s n).mem.arrs : List (List Int)) = ((n6 c s k).mem.arrs) := (by rw [(a50 hE hp.2 (by omega) (by omega)).1]); have e5 : (M4 c s n : List (Int × Int)) = (M4 c s k) := (by rw [(a50 hE hp.2 (by omega) (by omega)).2.1]); (first | rw [e1, e2, e3, e4, e5] | simp only [e1, e2, e3, e4, e5]) <;> rfl)
  ·
   refine wp_skip (b0 (wp_seq (wp_block (wp_seq (j7 G d8 [(7, iA (n6 c s k).pc)] fun G => b0 (wp_seq (i7 G (K9 (A2 4 (rg 7) (bi2 c (n6 c s k) (by assumption) (aq6 hc hs _)) (A2 5 [7, 10, 43] (j5.lend (bA4 (M4 c s k) (z9 c (n6 c s k)) ((n6 c s k).pc) (by omega) (by omega)) [.no, .no, .row 65]) K8)) fz []) [0, 1, 2, 3, 4, 5, 6, 7, 8, 9, 51] [.box [iA (e7 c (n6 c s k)).pc, .ref 1, .ref 2, .tref 3], .row 3 (D.ints (e7 c (n6 c s k)).regs), .row 3 (D.ints (e7 c (n6 c s k)).mem.vals), .tree (D.rows (e7 c (n6 c s k)).mem.arrs), dI c.vars, dI c.arrays, dN c.list, .box [.ref 10], .dead, .box (pL 4), .row 65 (D.events (M4 c s k ++ z9 c (n6 c s k)))] (aw7 [(7, iA (n6 c s k).pc), (8, iA k)]) fun G => b0 (wp_seq (A0 G d8 [(26, bA ((c.list.getD (n6 c s k).pc.toNat aK4).op == 13))] (iX ((n6 c s k).pc) ((n6 c s k).pc.toNat) c.list.length []) (iK (by omega) bS4) fun G => b0 (H6 G (fun h1 q1 => ?_) fun h1 q1 => ?_))))))))))
   · refine wp_skip (i8 (b0 (A0 G d8 [(8, iA ((k : Int) + 1))] [wO ((k : Int) + 1)] (o1 (by omega)) fun G => b0 ?_))); exact H9 G (k + 1) (⟨by omega, bo6 hp.2 (by omega)⟩) (by omega) (rg 11)
   · refine wp_seq (j7 G d8 [(6, bA true)] fun G => b0 (wp_ret (C9 (n8 (n8 (C9 (n8 ?_))))))); exact I6 true G [0, 1, 2, 3, 4, 5, 6, 7, 8, 10] ((a49 hE hp.2 (by omega) (by with_reducible assumption)).2.2) (by show _ = mR [0, 1, 2, 3, 4, 5, 6, 7, 8, 10] (aW5 c s n); unfold aW5; have e1 : ((n6 c s n).pc : Int) = ((e7 c (n6 c s k)).pc) := (by rw [(a49 hE hp.2 (by omega) (by with_reducible assumption)).1]); have e2 : ((n6 c s n).regs : List Int) = ((e7 c (n6 c s k)).regs) := (by rw [(a49 hE hp.2 (by omega) (by with_reducible assumption)).1]); have e3 : ((n6 c s n).mem.vals : List Int) = ((e7 c (n6 c s k)).mem.vals) := (by rw [(a49 hE hp.2 (by omega) (by with_reducible assumption)).1]); have e4 : ((n6 c s n).mem.arrs : List (List Int)) = ((e7 c (n6 c s k)).mem.arrs) := (by rw [(a49 hE hp.2 (by omega) (by with_reducible assumption)).1]); have e5 : (M4 c s n : List (Int × Int)) = (M4 c s k ++ z9 c (n6 c s k)) := (by rw [(a49 hE hp.2 (by omega) (by with_reducible assumption)).2.1]); (first | rw [e1, e2, e3, e4, e5] | simp only [e1, e2, e3, e4, e5]) <;> rfl)
theorem a26 (m : o8) (hx : m.vals.length ≤ 1048576) (hr : m.arrs.length ≤ 1048576) (hi : ∀ r ∈ m.arrs, r.length ≤ 1048576) : j5.ok Try.prog ⟨130, [mA 0], mS m, mS m ++ [.row 3 (.ints (a04 14 0)), .row 3 (.ints m.vals), .tree (.rows m.arrs)], .agg [iA 0, .ref 2, .ref 3, .tref 4]⟩ := by
 have how := bs2 m hx hr hi; refine F5 7 Try.func130 [dI m.vals, dR m.arrs] [(0, .agg [.ref 0, .ref 1])] fun G => ?_; refine wp_seq (i7 G d8 [0, 1, 2, 10] [dI m.vals, dR m.arrs, .box [.ref 0, .ref 1], .box [iA 0, .v (.slice none 0 0), .v (.slice none 0 0), .v (.slice none 0 0)]] [(1, .ptr 2 0), (2, .ptr 3 0)] fun G => b0 (wp_seq (C8 G (r7 2 [0, 1] how) [0, 0, 2, 7, 15] [0, 1, 3, 4, 20, 21] [dI m.vals, dR m.arrs, .box [iA 0, .ref 3, .ref 4, .tref 5], .row 3 (D.ints (a04 (Int.toNat 14) 0)), .row 3 (D.ints m.vals), .tree (D.rows m.arrs)] [(2, .ptr 2 0)] [(14 : Int) = 14, (0 : Int) ≤ 14, (↑(8 : Nat) : Int) * 14 ≤ 281474976710656, (14 : Int) ≤ 9223372036854775807, ((.int .i64 (0 : Int)) : Value) = (.int .i64 (0 : Int))] ⟨(by kernel_rfl), (by omega), (by omega), (by omega), (by kernel_rfl), bS4⟩ fun G => b0 (wp_ret ?_)))); exact D8 G [0, 1, 3, 4, 5]
def ssD (c : d7) (m : o8) : i9 := if (f8 c && G8 c.vars.length c.arrays.length m) = true then m9 m else ⟨0, [], ⟨[], []⟩⟩
theorem aY0 {c : d7} {m : o8} (h : f8 c = false) : ssD c m = ⟨0, [], ⟨[], []⟩⟩ ∧ (f8 c && G8 c.vars.length c.arrays.length m) = false := by
 have : (f8 c && G8 c.vars.length c.arrays.length m) = false := by rw [h]; rfl
 exact ⟨by unfold ssD; rw [this]; rfl, this⟩
theorem aX9 {c : d7} {m : o8} (h : G8 c.vars.length c.arrays.length m = false) : ssD c m = ⟨0, [], ⟨[], []⟩⟩ ∧ (f8 c && G8 c.vars.length c.arrays.length m) = false := by
 have : (f8 c && G8 c.vars.length c.arrays.length m) = false := by rw [h]; simp
 exact ⟨by unfold ssD; rw [this]; rfl, this⟩
theorem a29 {c : d7} {m : o8} (h : f8 c = true) (h2 : G8 c.vars.length c.arrays.length m = true) : ssD c m = m9 m ∧ (f8 c && G8 c.vars.length c.arrays.length m) = true := by
 have : (f8 c && G8 c.vars.length c.arrays.length m) = true := by rw [h, h2]; rfl
 exact ⟨by unfold ssD; rw [this]; rfl, this⟩
abbrev ax1 (c : d7) (m : o8) (T : i9) : List It := [dI c.vars, dI c.arrays, dN c.list, dI m.vals, dR m.arrs, .row 3 (D.ints T.regs), .row 3 (D.ints T.mem.vals), .tree (D.rows T.mem.arrs)]
abbrev a84 : It := .box [iA 0, .v (.slice none 0 0), .v (.slice none 0 0), .v (.slice none 0 0)]
abbrev ak2 (c : d7) (m : o8) (r0 : List It) : List It := dI c.vars :: dI c.arrays :: dN c.list :: dI m.vals :: dR m.arrs :: .box [.ref 3, .ref 4] :: r0
abbrev ab2 (r0 : List (Nat × AV)) : List (Nat × AV) := (3, .ptr 5 0) :: (4, .ptr 6 0) :: (5, bA false) :: r0
theorem P9 (c : d7) (m : o8) (T : i9) (hT : ssD c m = T) (hx : m.vals.length ≤ 1048576) (hr : m.arrs.length ≤ 1048576) (hi : ∀ r ∈ m.arrs, r.length ≤ 1048576) : j5.ok Try.prog ⟨95, [pA 0, mA 3], X3 c ++ mS m, X3 c ++ mS m ++ smO T, .tup [.agg [iA T.pc, .ref 5, .ref 6, .tref 7], bA (f8 c && G8 c.vars.length c.arrays.length m)]⟩ := by
  have hcv := bu6 c; have him := aN6 c m; have hst := a26 m hx hr hi; refine F5 21 Try.func95 [dI c.vars, dI c.arrays, dN c.list, dI m.vals, dR m.arrs] [(0, pA 0), (1, .agg [.ref 3, .ref 4])] fun G => ?_; refine wp_seq (i7 G d8 [0, 1, 2, 3, 4, 5, 13, 21] [dI c.vars, dI c.arrays, dN c.list, dI m.vals, dR m.arrs, .box (pL 0), .box [.ref 3, .ref 4], a84] [(2, .ptr 5 0), (3, .ptr 6 0), (4, .ptr 7 0), (5, bA false)] fun G => b0 (wp_seq (wp_seq ?_))); cases h0 : (!f8 c)
  ·
   have q0 : (f8 c) = true := (Eq.mp (bV2 _) h0); refine i7 G (K9 (A2 1 [0, 1, 2] hcv (A2 9 [0, 1, 3, 4] him K8)) (fc h0 fz) (us [(4, 10, 0), (1011, 1011, 0)])) [0, 1, 2, 3, 4, 6, 7] (ak2 c m [a84]) (ab2 [(17, .v (.bool !G8 c.vars.length c.arrays.length m))]) fun G => b0 ?_; cases h1 : (!G8 c.vars.length c.arrays.length m)
   · have q1 : (G8 c.vars.length c.arrays.length m) = true := (Eq.mp (bV2 _) h1); refine rF G _ h1 (wp_skip (b0 (wp_seq (i7 G (r7 1 [3, 4] hst) [0, 1, 2, 3, 4, 6, 15, 16, 17] [dI c.vars, dI c.arrays, dN c.list, dI m.vals, dR m.arrs, .box [iA 0, .ref 6, .ref 7, .tref 8], .row 3 (D.ints (a04 14 0)), .row 3 (D.ints m.vals), .tree (D.rows m.arrs)] [(4, .ptr 5 0), (5, bA true)] fun G => b0 (wp_ret ?_))))); exact Q1 (.tup [.agg [iA 0, .ref 6, .ref 7, .tref 8], bA true]) G [0, 1, 2, 3, 4, 6, 7, 8] (by have e1 : (T.pc : Int) = (0) := (by rw [← hT, (a29 (by with_reducible assumption) (by with_reducible assumption)).1]; rfl); have e2 : (f8 c && G8 c.vars.length c.arrays.length m : Bool) = (true) := (by simp [h0, q0, h1, q1]); (first | rw [e1, e2] | simp only [e1, e2]) <;> rfl) (by show _ = mR [0, 1, 2, 3, 4, 6, 7, 8] (ax1 c m T); unfold ax1; rw [← hT, (a29 (by with_reducible assumption) (by with_reducible assumption)).1] <;> rfl)
   · have q1 : (G8 c.vars.length c.arrays.length m) = false := (Eq.mp (bT6 _) h1); refine rT G _ h1 (wp_seq (D6 G d8 (ab2 []) fun G => b0 (wp_ret (n8 ?_)))); obtain ⟨ρ, G⟩ := G.nil 7 3 (.ints []) 1 (ak2 c m [.box [iA 0, .ref 7, .v (.slice none 0 0), .v (.slice none 0 0)]]) (ab2 []); obtain ⟨ρ, G⟩ := G.nil 8 3 (.ints []) 1 (ak2 c m [.box [iA 0, .ref 7, .ref 8, .v (.slice none 0 0)], .row 3 (D.ints [])]) (ab2 []); obtain ⟨ρ, G⟩ := G.nilT 9 (.rows []) (ak2 c m [.box [iA 0, .ref 7, .ref 8, .tref 9], .row 3 (D.ints []), .row 3 (D.ints [])]) (ab2 []); exact Q1 (.tup [.agg [iA 0, .ref 7, .ref 8, .tref 9], bA false]) G [0, 1, 2, 3, 4, 7, 8, 9] (by have e1 : (T.pc : Int) = (0) := (by rw [← hT, (aX9 (by with_reducible assumption)).1]); have e2 : (f8 c && G8 c.vars.length c.arrays.length m : Bool) = (false) := (by simp [h0, q0, h1, q1]); (first | rw [e1, e2] | simp only [e1, e2]) <;> rfl) (by show _ = mR [0, 1, 2, 3, 4, 7, 8, 9] (ax1 c m T); unfold ax1; have e1 : (T.regs : List Int) = ([]) := (by rw [← hT, (aX9 (by with_reducible assumption)).1]); have e2 : (T.mem.vals : List Int) = ([]) := (by rw [← hT, (aX9 (by with_reducible assumption)).1]); have e3 : (T.mem.arrs : List (List Int)) = ([]) := (by rw [← hT, (aX9 (by with_reducible assumption)).1]); (first | rw [e1, e2, e3] | simp only [e1, e2, e3]) <;> rfl)
  · have q0 : (f8 c) = false := (Eq.mp (bT6 _) h0); refine i7 G (K9 (A2 1 [0, 1, 2] hcv K8) (fc h0 fz) (us [(4, 10, 0), (1011, 1011, 0)])) [0, 1, 2, 3, 4, 6, 7] (ak2 c m [a84]) (ab2 [(17, bA true)]) fun G => b0 (rT G true (by kernel_rfl) (wp_seq (D6 G d8 (ab2 []) fun G => b0 (wp_ret (n8 ?_))))); obtain ⟨ρ, G⟩ := G.nil 7 3 (.ints []) 1 (ak2 c m [.box [iA 0, .ref 7, .v (.slice none 0 0), .v (.slice none 0 0)]]) (ab2 []); obtain ⟨ρ, G⟩ := G.nil 8 3 (.ints []) 1 (ak2 c m [.box [iA 0, .ref 7, .ref 8, .v (.slice none 0 0)], .row 3 (D.ints [])]) (ab2 []); obtain ⟨ρ, G⟩ := G.nilT 9 (.rows []) (ak2 c m [.box [iA 0, .ref 7, .ref 8, .tref 9], .row 3 (D.ints []), .row 3 (D.ints [])]) (ab2 []); exact Q1 (.tup [.agg [iA 0, .ref 7, .ref 8, .tref 9], bA false]) G [0, 1, 2, 3, 4, 7, 8, 9] (by have e1 : (T.pc : Int) = (0) := (by rw [← hT, (aY0 (by with_reducible assumption)).1]); have e2 : (f8 c && G8 c.vars.length c.arrays.length m : Bool) = (false) := (by rw [q0]; rfl); (first | rw [e1, e2] | simp only [e1, e2]) <;> rfl) (by show _ = mR [0, 1, 2, 3, 4, 7, 8, 9] (ax1 c m T); unfold ax1; have e1 : (T.regs : List Int) = ([]) := (by rw [← hT, (aY0 (by with_reducible assumption)).1]); have e2 : (T.mem.vals : List Int) = ([]) := (by rw [← hT, (aY0 (by with_reducible assumption)).1]); have e3 : (T.mem.arrs : List (List Int)) = ([]) := (by rw [← hT, (aY0 (by with_reducible assumption)).1]); (first | rw [e1, e2, e3] | simp only [e1, e2, e3]) <;> rfl)
abbrev rnO (s : i9) : List It := [.box [iA s.pc, .ref 6, .ref 7, .tref 8], .row 3 (.ints s.regs), .row 3 (.ints s.mem.vals), .tree (.rows s.mem.arrs)]
abbrev a79 (c : d7) (m : o8) (r0 : List It) : List It := dI c.vars :: dI c.arrays :: dN c.list :: dI m.vals :: dR m.arrs :: .box (pL 0) :: .row 3 (D.ints (m9 m).regs) :: .row 3 (D.ints (m9 m).mem.vals) :: .tree (D.rows (m9 m).mem.arrs) :: .box [iA (m9 m).pc, .ref 6, .ref 7, .tref 8] :: r0
abbrev a78 (c : d7) (m : o8) (r0 : List (Nat × AV)) : List (Nat × AV) := (2, .ptr 5 0) :: (4, .v (.pointer none)) :: (5, .v (.slice none 0 0)) :: (6, bA false) :: (7, .ptr 9 0) :: (8, bA (f8 c && G8 c.vars.length c.arrays.length m)) :: r0
theorem bw3 (c : d7) (m : o8) (n : Nat) (hc : f8 c = true) (hm : G8 c.vars.length c.arrays.length m = true) (hE : aV4 c (m9 m) n true) (hx : m.vals.length ≤ 1048576) (hr : m.arrs.length ≤ 1048576) (hi : ∀ r ∈ m.arrs, r.length ≤ 1048576) : j5.ok Try.prog ⟨59, [pA 0, mA 3], X3 c ++ mS m, X3 c ++ mS m ++ rnO (n6 c (m9 m) n) ++ [.row 65 (.events (M4 c (m9 m) n))], .tup [.ptr 5 0, .ref 9, bA true]⟩ := by
 have hst := P9 c m (m9 m) (a29 hc hm).1 hx hr hi; have hex := aA1 c (m9 m) n true hc (af4 hc hm) hE; refine F5 24 Try.func59 [dI c.vars, dI c.arrays, dN c.list, dI m.vals, dR m.arrs] [(0, pA 0), (1, .agg [.ref 3, .ref 4])] fun G => ?_; have hok : (f8 c && G8 c.vars.length c.arrays.length m) = true := (a29 hc hm).2; refine wp_seq (i7 G d8 [0, 1, 2, 3, 4, 5, 13] [dI c.vars, dI c.arrays, dN c.list, dI m.vals, dR m.arrs, .box (pL 0), .box [.ref 3, .ref 4]] [(2, .ptr 5 0), (3, .ptr 6 0), (4, .v (.pointer none)), (5, .v (.slice none 0 0)), (6, bA false)] fun G => b0 (wp_seq (i7 G (r7 2 (rg 5) hst) [0, 1, 2, 3, 4, 5, 23, 24, 25, 55] (a79 c m []) (a78 c m []) fun G => b0 (wp_seq (wp_seq (j7 G d8 [(17, .v (.bool !(f8 c && G8 c.vars.length c.arrays.length m)))] fun G => b0 (rF G (!(f8 c && G8 c.vars.length c.arrays.length m)) (by rw [hok]; rfl) (wp_skip (b0 (wp_seq (i7 G d8 (rg 11) (a79 c m [.box [.v (.slice none 0 0)]]) (a78 c m [(9, .ptr 10 0)]) fun G => b0 (wp_seq ?_)))))))))))); obtain ⟨ρ, G⟩ := G.nil 11 65 (.events []) 6 (a79 c m [.box [.ref 11]]) (a78 c m [(9, .ptr 10 0)]); refine i7 G (r7 2 [9, 6, 7, 8, 0, 1, 2, 10, 11] hex) [0, 1, 2, 3, 4, 6, 7, 8, 9, 10, 28] [dI c.vars, dI c.arrays, dN c.list, dI m.vals, dR m.arrs, .row 3 (D.ints (n6 c (m9 m) n).regs), .row 3 (D.ints (n6 c (m9 m) n).mem.vals), .tree (D.rows (n6 c (m9 m) n).mem.arrs), .box [iA (n6 c (m9 m) n).pc, .ref 5, .ref 6, .tref 7], .box [.ref 10], .row 65 (D.events (M4 c (m9 m) n))] [(4, .v (.pointer none)), (5, .v (.slice none 0 0)), (6, bA false), (7, .ptr 8 0), (8, bA true), (9, .ptr 9 0)] fun G => b0 (wp_seq (wp_seq (j7 G d8 [(22, bA false)] fun G => b0 (rF G false (by kernel_rfl) (wp_skip (b0 (wp_seq (aQ9 G d8 [0, 0, 3, 7] [0, 1, 2, 3, 4, 5, 6, 7, 8, 10] [dI c.vars, dI c.arrays, dN c.list, dI m.vals, dR m.arrs, .row 3 (D.ints (n6 c (m9 m) n).regs), .row 3 (D.ints (n6 c (m9 m) n).mem.vals), .tree (D.rows (n6 c (m9 m) n).mem.arrs), .box [iA (n6 c (m9 m) n).pc, .ref 5, .ref 6, .tref 7], .row 65 (D.events (M4 c (m9 m) n))] [(4, .ptr 8 0), (5, .ref 9), (6, bA true)] fun G => b0 (wp_ret ?_))))))))); exact D8 G [0, 1, 2, 3, 4, 8, 5, 6, 7, 9]
theorem bm2 (c : d7) (m : o8) (hok : (f8 c && G8 c.vars.length c.arrays.length m) = false) (hx : m.vals.length ≤ 1048576) (hr : m.arrs.length ≤ 1048576) (hi : ∀ r ∈ m.arrs, r.length ≤ 1048576) : j5.ok Try.prog ⟨59, [pA 0, mA 3], X3 c ++ mS m, X3 c ++ mS m, .tup [.v (.pointer none), .v (.slice none 0 0), bA false]⟩ := by
 have hst := P9 c m (ssD c m) rfl hx hr hi; refine F5 24 Try.func59 [dI c.vars, dI c.arrays, dN c.list, dI m.vals, dR m.arrs] [(0, pA 0), (1, .agg [.ref 3, .ref 4])] fun G => ?_; refine wp_seq (i7 G d8 [0, 1, 2, 3, 4, 5, 13] [dI c.vars, dI c.arrays, dN c.list, dI m.vals, dR m.arrs, .box (pL 0), .box [.ref 3, .ref 4]] [(2, .ptr 5 0), (3, .ptr 6 0), (4, .v (.pointer none)), (5, .v (.slice none 0 0)), (6, bA false)] fun G => b0 (wp_seq (i7 G (r7 2 (rg 5) hst) [0, 1, 2, 3, 4, 5, 23, 24, 25, 55] [dI c.vars, dI c.arrays, dN c.list, dI m.vals, dR m.arrs, .box (pL 0), .row 3 (D.ints (ssD c m).regs), .row 3 (D.ints (ssD c m).mem.vals), .tree (D.rows (ssD c m).mem.arrs), .box [iA (ssD c m).pc, .ref 6, .ref 7, .tref 8]] [(2, .ptr 5 0), (4, .v (.pointer none)), (5, .v (.slice none 0 0)), (6, bA false), (7, .ptr 9 0), (8, bA (f8 c && G8 c.vars.length c.arrays.length m))] fun G => b0 (wp_seq (wp_seq (j7 G d8 [(17, .v (.bool !(f8 c && G8 c.vars.length c.arrays.length m)))] fun G => b0 (rT G (!(f8 c && G8 c.vars.length c.arrays.length m)) (by rw [hok]; rfl) (wp_seq (j7 G d8 [] fun G => b0 (wp_ret (n8 ?_))))))))))); exact D8 G (rg 5)
abbrev a77 (c : d7) (m : o8) (r0 : List It) : List It := dI c.vars :: dI c.arrays :: dN c.list :: dI m.vals :: dR m.arrs :: .box (pL 0) :: .row 3 (D.ints (m9 m).regs) :: .row 3 (D.ints (m9 m).mem.vals) :: .tree (D.rows (m9 m).mem.arrs) :: .box [iA (m9 m).pc, .ref 6, .ref 7, .tref 8] :: r0
abbrev a76 (c : d7) (m : o8) (r0 : List (Nat × AV)) : List (Nat × AV) := (2, .ptr 5 0) :: (4, .v (.pointer none)) :: (5, .v (.slice none 0 0)) :: (6, bA false) :: (7, .ptr 9 0) :: (8, bA (f8 c && G8 c.vars.length c.arrays.length m)) :: r0
theorem bm1 (c : d7) (m : o8) (hc : f8 c = true) (hm : G8 c.vars.length c.arrays.length m = true) (hE : aV4 c (m9 m) 20000 false) (hx : m.vals.length ≤ 1048576) (hr : m.arrs.length ≤ 1048576) (hi : ∀ r ∈ m.arrs, r.length ≤ 1048576) : j5.ok Try.prog ⟨59, [pA 0, mA 3], X3 c ++ mS m, X3 c ++ mS m, .tup [.v (.pointer none), .v (.slice none 0 0), bA false]⟩ := by
 have hst := P9 c m (m9 m) (a29 hc hm).1 hx hr hi; have hex := aA1 c (m9 m) 20000 false hc (af4 hc hm) hE; refine F5 24 Try.func59 [dI c.vars, dI c.arrays, dN c.list, dI m.vals, dR m.arrs] [(0, pA 0), (1, .agg [.ref 3, .ref 4])] fun G => ?_; have hok : (f8 c && G8 c.vars.length c.arrays.length m) = true := (a29 hc hm).2; refine wp_seq (i7 G d8 [0, 1, 2, 3, 4, 5, 13] [dI c.vars, dI c.arrays, dN c.list, dI m.vals, dR m.arrs, .box (pL 0), .box [.ref 3, .ref 4]] [(2, .ptr 5 0), (3, .ptr 6 0), (4, .v (.pointer none)), (5, .v (.slice none 0 0)), (6, bA false)] fun G => b0 (wp_seq (i7 G (r7 2 (rg 5) hst) [0, 1, 2, 3, 4, 5, 23, 24, 25, 55] (a77 c m []) (a76 c m []) fun G => b0 (wp_seq (wp_seq (j7 G d8 [(17, .v (.bool !(f8 c && G8 c.vars.length c.arrays.length m)))] fun G => b0 (rF G (!(f8 c && G8 c.vars.length c.arrays.length m)) (by rw [hok]; rfl) (wp_skip (b0 (wp_seq (i7 G d8 (rg 11) (a77 c m [.box [.v (.slice none 0 0)]]) (a76 c m [(9, .ptr 10 0)]) fun G => b0 (wp_seq ?_)))))))))))); obtain ⟨ρ, G⟩ := G.nil 11 65 (.events []) 6 (a77 c m [.box [.ref 11]]) (a76 c m [(9, .ptr 10 0)]); refine i7 G (r7 2 [9, 6, 7, 8, 0, 1, 2, 10, 11] hex) [0, 1, 2, 3, 4, 6, 7, 8, 9, 10, 28] [dI c.vars, dI c.arrays, dN c.list, dI m.vals, dR m.arrs, .row 3 (D.ints (n6 c (m9 m) 20000).regs), .row 3 (D.ints (n6 c (m9 m) 20000).mem.vals), .tree (D.rows (n6 c (m9 m) 20000).mem.arrs), .box [iA (n6 c (m9 m) 20000).pc, .ref 5, .ref 6, .tref 7], .box [.ref 10], .row 65 (D.events (M4 c (m9 m) 20000))] [(4, .v (.pointer none)), (5, .v (.slice none 0 0)), (6, bA false), (7, .ptr 8 0), (8, bA false), (9, .ptr 9 0)] fun G => b0 (wp_seq (wp_seq (j7 G d8 [(22, bA true)] fun G => b0 (rT G true (by kernel_rfl) (wp_seq (j7 G d8 [] fun G => b0 (wp_ret (n8 ?_)))))))); exact D8 G (rg 5)
abbrev rcC (c : d7) (m x : o8) (v : List (Int × Int)) (b : Bool) : j5 := ⟨22, [pA 0, mA 3], X3 c ++ mS m, X3 c ++ mS m ++ mO x ++ [.row 65 (.events v)], .tup [mT 5, .ref 7, bA b]⟩
theorem aQ3 (c : d7) (m : o8) (s : i9) (v : List (Int × Int)) (hran : j5.ok Try.prog ⟨59, [pA 0, mA 3], X3 c ++ mS m, X3 c ++ mS m ++ rnO s ++ [.row 65 (.events v)], .tup [.ptr 5 0, .ref 9, bA true]⟩) : j5.ok Try.prog (rcC c m s.mem v true) := by
 have hrn := hran; refine F5 25 Try.func22 [dI c.vars, dI c.arrays, dN c.list, dI m.vals, dR m.arrs] [(0, pA 0), (1, .agg [.ref 3, .ref 4])] fun G => ?_; refine wp_seq (i7 G d8 [0, 1, 2, 3, 4, 5, 13, 21] [dI c.vars, dI c.arrays, dN c.list, dI m.vals, dR m.arrs, .box (pL 0), .box [.ref 3, .ref 4], .box [.v (.slice none 0 0), .v (.slice none 0 0)]] [(2, .ptr 5 0), (3, .ptr 6 0), (4, .ptr 7 0), (5, .v (.slice none 0 0)), (6, bA false)] fun G => b0 (wp_seq (i7 G (r7 2 (rg 5) hrn) [0, 1, 2, 3, 4, 7, 24, 25, 26, 27, 28] [dI c.vars, dI c.arrays, dN c.list, dI m.vals, dR m.arrs, .box [.v (.slice none 0 0), .v (.slice none 0 0)], .box [iA s.pc, .ref 7, .ref 8, .tref 9], .row 3 (D.ints s.regs), .row 3 (D.ints s.mem.vals), .tree (D.rows s.mem.arrs), .row 65 (D.events v)] [(4, .ptr 5 0), (5, .v (.slice none 0 0)), (6, bA false), (7, .ptr 6 0), (8, .ref 10), (9, bA true)] fun G => b0 (wp_seq (wp_seq (j7 G d8 [(18, bA false)] fun G => b0 (rF G false (by kernel_rfl) (wp_skip (b0 (wp_seq (i7 G d8 [0, 1, 2, 3, 4, 5, 8, 9, 10] [dI c.vars, dI c.arrays, dN c.list, dI m.vals, dR m.arrs, .box [.ref 6, .tref 7], .row 3 (D.ints s.mem.vals), .tree (D.rows s.mem.arrs), .row 65 (D.events v)] [(4, .ptr 5 0), (5, .ref 8), (6, bA true)] fun G => b0 (wp_ret ?_)))))))))))); exact D8 G [0, 1, 2, 3, 4, 6, 7, 8]
abbrev aV5 (r0 : List (Nat × AV)) : List (Nat × AV) := (4, .ptr 5 0) :: (5, .v (.slice none 0 0)) :: (6, bA false) :: (7, .v (.pointer none)) :: (8, .v (.slice none 0 0)) :: r0
theorem aq4 (c : d7) (m : o8) (hran : j5.ok Try.prog ⟨59, [pA 0, mA 3], X3 c ++ mS m, X3 c ++ mS m, .tup [.v (.pointer none), .v (.slice none 0 0), bA false]⟩) : j5.ok Try.prog (rcC c m ⟨[], []⟩ [] false) := by
 have hrn := hran; refine F5 25 Try.func22 [dI c.vars, dI c.arrays, dN c.list, dI m.vals, dR m.arrs] [(0, pA 0), (1, .agg [.ref 3, .ref 4])] fun G => ?_; refine wp_seq (i7 G d8 [0, 1, 2, 3, 4, 5, 13, 21] [dI c.vars, dI c.arrays, dN c.list, dI m.vals, dR m.arrs, .box (pL 0), .box [.ref 3, .ref 4], .box [.v (.slice none 0 0), .v (.slice none 0 0)]] [(2, .ptr 5 0), (3, .ptr 6 0), (4, .ptr 7 0), (5, .v (.slice none 0 0)), (6, bA false)] fun G => b0 (wp_seq (i7 G (r7 2 (rg 5) hrn) [0, 1, 2, 3, 4, 7] [dI c.vars, dI c.arrays, dN c.list, dI m.vals, dR m.arrs, .box [.v (.slice none 0 0), .v (.slice none 0 0)]] (aV5 [(9, bA false)]) fun G => b0 (wp_seq (wp_seq (j7 G d8 [(18, bA true)] fun G => b0 (rT G true (by kernel_rfl) (wp_seq (D6 G d8 (aV5 []) fun G => b0 (wp_ret (n8 ?_))))))))))); obtain ⟨ρ, G⟩ := G.nil 6 3 (.ints []) 1 [dI c.vars, dI c.arrays, dN c.list, dI m.vals, dR m.arrs, .box [.ref 6, .v (.slice none 0 0)]] (aV5 []); obtain ⟨ρ, G⟩ := G.nilT 7 (.rows []) [dI c.vars, dI c.arrays, dN c.list, dI m.vals, dR m.arrs, .box [.ref 6, .tref 7], .row 3 (D.ints [])] (aV5 []); obtain ⟨ρ, G⟩ := G.nil 8 65 (.events []) 6 [dI c.vars, dI c.arrays, dN c.list, dI m.vals, dR m.arrs, .box [.ref 6, .tref 7], .row 3 (D.ints []), .tree (D.rows [])] [(4, .ptr 5 0), (5, .ref 8), (6, bA false), (7, .v (.pointer none)), (8, .v (.slice none 0 0))]; exact D8 G [0, 1, 2, 3, 4, 6, 7, 8]
def av7 (c : d7) (m x : o8) (v : List (Int × Int)) (b : Bool) : Prop :=
 (b = true ∧ f8 c = true ∧ G8 c.vars.length c.arrays.length m = true ∧ ∃ n, br2 c m n ∧ x = bM6 c m n ∧ v = bw8 c m n) ∨
 (b = false ∧ x = ⟨[], []⟩ ∧ v = [] ∧ ∀ n, ¬ (f8 c = true ∧ G8 c.vars.length c.arrays.length m = true ∧ br2 c m n))
theorem a67 (c : d7) (m : o8) (hx : m.vals.length ≤ 1048576) (hr : m.arrs.length ≤ 1048576) (hi : ∀ r ∈ m.arrs, r.length ≤ 1048576) : ∃ x v b, av7 c m x v b ∧ j5.ok Try.prog (rcC c m x v b) := by
 cases hok : (f8 c && G8 c.vars.length c.arrays.length m) with
 | false =>
  refine ⟨_, _, _, .inr ⟨rfl, rfl, rfl, fun n h => ?_⟩, aq4 c m (bm2 c m hok hx hr hi)⟩
  rw [h.1, h.2.1] at hok; cases hok
 | true =>
  rw [bR6] at hok
  obtain ⟨hc, hm⟩ := hok
  rcases bm7 c m with ⟨n, h⟩ | h
  ·refine ⟨_, _, _, .inl ⟨rfl, hc, hm, n, h, rfl, rfl⟩, aQ3 c m (n6 c (m9 m) (n + 1)) _ (bw3 c m (n + 1) hc hm ⟨?_, fun k hk => ?_, fun _ => ⟨n, rfl, h.fin⟩, fun e => by cases e⟩ hx hr hi)⟩
   ·have := h.lt; omega
   ·exact h.no k (by omega)
  ·refine ⟨_, _, _, .inr ⟨rfl, rfl, rfl, fun n h2 => ?_⟩, aq4 c m (bm1 c m hc hm ⟨bS5 _, fun k hk => h k (by omega), (fun e => by cases e), fun _ => ⟨rfl, h⟩⟩ hx hr hi)⟩
   have := h n h2.2.2.lt
   rw [h2.2.2.fin] at this; cases this
theorem bw6 {c : d7} {m x : o8} {v : List (Int × Int)} {b : Bool} (h : av7 c m x v b) : v.length ≤ 100000 := by
 rcases h with ⟨_, _, _, n, h1, _, rfl⟩ | ⟨_, _, rfl, _⟩
 ·have := aq7 c (m9 m) (n + 1)
  have := h1.lt
  unfold bw8; omega
 ·exact bU8 _
end Go.Proofs.Ytmokkddidcmglaa
