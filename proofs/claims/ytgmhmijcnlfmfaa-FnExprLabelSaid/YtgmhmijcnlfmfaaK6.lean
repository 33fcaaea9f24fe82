/- Part 6: functions on the way, plain laws. Conditions: as said. -/
import Derived.Deep.RegionWith
import Derived.Test.YtgmhmijcnlfmfaaK1
import Derived.Test.YtgmhmijcnlfmfaaK2
import Derived.Test.YtgmhmijcnlfmfaaK3
import Derived.Test.YtgmhmijcnlfmfaaK4
import Derived.Test.YtgmhmijcnlfmfaaK5
set_option maxRecDepth 100000
set_option maxHeartbeats 16000000
set_option linter.unusedVariables false
set_option linter.unusedSimpArgs false
open Bool renaming and_eq_true → bF9, not_eq_false' → bG7, not_eq_true' → bG6
open Inhabited renaming default → bF8
open List renaming all_eq_true → bG4, getD_eq_getElem?_getD → bG1, getElem?_append_left → bJ0, getElem?_append_right → bJ7, getElem?_eq_getElem → bG0, getElem?_eq_none → bH9, getElem?_eq_some_iff → bG5, getElem_mem → bH8, length_append → bI0, length_cons → bH7, map_cons → bI5, mem_append → bH4, mem_cons → bI7, mem_cons_of_mem → bH6, mem_cons_self → bH0, mem_of_getElem? → bH2, mem_singleton → bI1, replicate → bH1, take → bG3, take_of_length_le → bG9
open Nat renaming le_refl → bH3, le_trans → bI3, lt_or_ge → bI9, zero_le → bJ2
open True renaming intro → bG8

namespace Go.Proofs.Ytgmhmijcnlfmfaa
open Go Go.RowKit
abbrev pgC (b : List UInt8) (j : Int) : c8 := ⟨94, [.ptr 0 0], [.box [.ref 1, iA j], dY b], [.box [.ref 1, iA (G0 b j).2], dY b] ++ oP (pgD b j), oA 2⟩
theorem aW5 {b : List UInt8} {l : List Int} {n i p : Int} (h : i > 0) (h2 : i ≤ n) : nsD b l (n - (i - 1)).toNat p = nsD b l (n - i).toNat p ++ [nm b (p + (n - i)) l] := by
 rw [show (n - (i - 1)).toNat = (n - i).toNat + 1 by omega, a80, show (((n - i).toNat : Nat) : Int) = n - i by omega]
theorem aW4 {b : List UInt8} {l : List Int} {n p : Int} : nsD b l (n - n).toNat p = [] := by rw [Int.sub_self]; rfl
theorem al2 (vs ars : List Int) (bd : List b5) (hb : r6 bd ≤ 1048576) : c8.ok Try.prog (C6 67 [pA 0] [dI vs, dI ars, dT bd] (bA (j9 ⟨vs, ars, bd⟩))) := L2 ⟨vs, ars, bd⟩ hb
theorem bE0 {b : List UInt8} {j : Int} (h : j9 ⟨W6 b j, asD b j, (A1 (v8 b (W6 b j).length (asD b j).length 3) (nm b (kp2 b j) nbL).toNat (kp2 b j + 1)).1⟩ = true) : pgD b j = ⟨W6 b j, asD b j, (G0 b j).1⟩ := if_pos h
theorem bD9 {b : List UInt8} {j : Int} (h : j9 ⟨W6 b j, asD b j, (A1 (v8 b (W6 b j).length (asD b j).length 3) (nm b (kp2 b j) nbL).toNat (kp2 b j + 1)).1⟩ = false) : pgD b j = fbP := if_neg (by intro h2; have h3 : j9 ⟨W6 b j, asD b j, (A1 (v8 b (W6 b j).length (asD b j).length 3) (nm b (kp2 b j) nbL).toNat (kp2 b j + 1)).1⟩ = true := h2; rw [h] at h3; cases h3)
theorem bv9 (b : List UInt8) (j : Int) : j + 1 + (nm b j T1 - 0) = B4 b j := by unfold B4; omega
theorem bv8 (b : List UInt8) (j : Int) : nsD b viL (nm b j T1 - 0).toNat (j + 1) = W6 b j := by unfold W6; rw [Int.sub_zero]
theorem bv7 (b : List UInt8) (j : Int) : B4 b j + 1 + (nm b (B4 b j) Q8 - 0) = kp2 b j := by unfold kp2; omega
theorem bv6 (b : List UInt8) (j : Int) : nsD b aiL (nm b (B4 b j) Q8 - 0).toNat (B4 b j + 1) = asD b j := by unfold asD; rw [Int.sub_zero]
abbrev aj1 (b : List UInt8) (j : Int) := A1 (v8 b (W6 b j).length (asD b j).length 3) (nm b (kp2 b j) nbL).toNat (kp2 b j + 1)
abbrev aT9 (b : List UInt8) (j : Int) : List It := [.box [.ref 1, iA (G0 b j).snd], dY b, .row 3 (D.ints (pgD b j).vars), .row 3 (D.ints (pgD b j).arrays), .tree (D.stmts (pgD b j).body)]
abbrev H9 : It := .box [.v (.slice none 0 0), .v (.slice none 0 0), .v (.slice none 0 0)]
abbrev aF7 : It := .box [.ref 4, .v (.slice none 0 0), .v (.slice none 0 0)]
abbrev a36 : It := .tree (D.stmts [b5.mk 1 1 (b6.mk 0 0 []) (b6.mk 2 0 []) 0 [] []])
theorem ak2 (b : List UInt8) (j : Int) (r0 : 0 ≤ j) (r1 : j ≤ 10000000) : c8.ok Try.prog (pgC b j) := by
  refine z7 52 Try.func94 [.box [.ref 1, iA j], dY b] [(0, .ptr 0 0)] fun G => ?_; have hnv := bq4 b r0 (by omega); have hk1 := a91 b r0 r1; have hk2 := aW9 b r0 r1; have hna := bq7 b (k := B4 b j) (by omega) (by omega); have hnb := bw4 b (k := kp2 b j) (by omega) (by omega); have hvl := a39 b r0 r1; have hal := bd4 b r0 r1; have hbd := aY7 b r0 r1; have hbs : r6 (A1 (v8 b (W6 b j).length (asD b j).length 3) (nm b (kp2 b j) nbL).toNat (kp2 b j + 1)).1 ≤ 1048576 := bI3 hbd.2.2 (by omega); refine wp_seq (d7 G b8 [0, 1, 2] [.box [.ref 1, iA j], dY b, H9] [(0, .ptr 0 0), (2, .ptr 2 0)] fun G => b0 (wp_seq (d7 G b8 [0, 1, 2, 11] [.box [.ref 1, iA j], dY b, H9, H9] [(0, .ptr 0 0), (2, .ptr 2 0), (3, .ptr 3 0)] fun G => b0 (wp_seq (wp_seq (d7 G (n8 2 [0, 1, 12] (c8.lend (D9 b j T1 (List.cons_ne_nil _ _) (by assumption) (by omega)) [.no, .no, .row 3])) (rg 4) [.box [.ref 1, iA (j + 1)], dY b, H9, H9] [(0, .ptr 0 0), (2, .ptr 2 0), (3, .ptr 3 0), (4, iA (nm b j T1))] fun G => b0 (wp_block ?_))))))); have Gx := G.nil 4 3 (.ints []) 1 [.box [.ref 1, iA (j + 1)], dY b, H9, aF7] [(0, .ptr 0 0), (2, .ptr 2 0), (3, .ptr 3 0), (4, iA (nm b j T1))]; clear G; obtain ⟨ρ, G⟩ := Gx; replace G := l9.at G [.box [.ref 1, iA (j + 1)], dY b, H9, aF7, .row 3 (D.ints [])] [(0, .ptr 0 0), (2, .ptr 2 0), (3, .ptr 3 0), (4, iA (nm b j T1))]; replace G := G.as [.box [.ref 1, iA (j + 1 + (nm b j T1 - nm b j T1))], dY b, .box [.v (.slice none 0 0), .v (.slice none 0 0), .v (.slice none 0 0)], .box [.ref 4, .v (.slice none 0 0), .v (.slice none 0 0)], .row 3 (D.ints (nsD b viL (nm b j T1 - nm b j T1).toNat (j + 1)))] [(0, .ptr 0 0), (2, .ptr 2 0), (3, .ptr 3 0), (4, iA (nm b j T1))] (by have e1 : (j + 1 + (nm b j T1 - nm b j T1) : Int) = (j + 1) := (by omega); have e2 : (nsD b viL (nm b j T1 - nm b j T1).toNat (j + 1) : List Int) = ([]) := aW4; (first | rw [e1, e2] | simp only [e1, e2]) <;> rfl) (by kernel_rfl); refine l7 (κ := Int) (fun i => 0 ≤ i ∧ i ≤ nm b j T1) (fun i => i.toNat) (fun i => [.box [.ref 1, iA (j + 1 + (nm b j T1 - i))], dY b, .box [.v (.slice none 0 0), .v (.slice none 0 0), .v (.slice none 0 0)], .box [.ref 4, .v (.slice none 0 0), .v (.slice none 0 0)], .row 3 (.ints (nsD b viL (nm b j T1 - i).toNat (j + 1)))]) (fun i => [(0, .ptr 0 0), (2, .ptr 2 0), (3, .ptr 3 0), (4, iA i)]) (nm b j T1) (by omega) (l9.at G _ _) ?_; clear G; intro i ρ a w hp G; replace G := l9.at G [.box [.ref 1, iA (j + 1 + (nm b j T1 - i))], dY b, H9, aF7, .row 3 (D.ints (nsD b viL (nm b j T1 - i).toNat (j + 1)))] [(0, .ptr 0 0), (2, .ptr 2 0), (3, .ptr 3 0), (4, iA i)]; have hlen : (nsD b viL (nm b j T1 - i).toNat (j + 1)).length = (nm b j T1 - i).toNat := X1 _ _ _ _; refine wp_seq (wp_seq (y5 G b8 [(0, .ptr 0 0), (2, .ptr 2 0), (3, .ptr 3 0), (4, iA i), (11, bA (decide (i > 0)))] fun G => b0 ?_)); cases h0 : (decide (i > 0))
  ·
   have q0 := O8 h0
   obtain rfl : i = 0 := by omega
   rw [bv9, bv8] at G; refine rF G false (by kernel_rfl) (wp_exit (l6 (l6 (l5 (b0 (wp_seq (wp_seq (d7 G (n8 2 [0, 1, 13] (c8.lend (D9 b (B4 b j) Q8 (by simp [h0]) (by omega) (by omega)) [.no, .no, .row 3])) (rg 5) [.box [.ref 1, iA (B4 b j + 1)], dY b, H9, aF7, .row 3 (D.ints (W6 b j))] [(0, .ptr 0 0), (2, .ptr 2 0), (3, .ptr 3 0), (5, iA (nm b (B4 b j) Q8))] fun G => b0 (wp_block ?_))))))))); have Gx := G.nil 5 3 (.ints []) 1 [.box [.ref 1, iA (B4 b j + 1)], dY b, H9, .box [.ref 4, .ref 5, .v (.slice none 0 0)], .row 3 (D.ints (W6 b j))] [(0, .ptr 0 0), (2, .ptr 2 0), (3, .ptr 3 0), (5, iA (nm b (B4 b j) Q8))]; clear G; obtain ⟨ρ, G⟩ := Gx; replace G := l9.at G [.box [.ref 1, iA (B4 b j + 1)], dY b, H9, .box [.ref 4, .ref 5, .v (.slice none 0 0)], .row 3 (D.ints (W6 b j)), .row 3 (D.ints [])] [(0, .ptr 0 0), (2, .ptr 2 0), (3, .ptr 3 0), (5, iA (nm b (B4 b j) Q8))]; have Gx := G.nilT 6 (.stmts []) [.box [.ref 1, iA (B4 b j + 1)], dY b, H9, .box [.ref 4, .ref 5, .tref 6], .row 3 (D.ints (W6 b j)), .row 3 (D.ints [])] [(0, .ptr 0 0), (2, .ptr 2 0), (3, .ptr 3 0), (5, iA (nm b (B4 b j) Q8))]; clear G; obtain ⟨ρ, G⟩ := Gx; replace G := l9.at G [.box [.ref 1, iA (B4 b j + 1)], dY b, H9, .box [.ref 4, .ref 5, .tref 6], .row 3 (D.ints (W6 b j)), .row 3 (D.ints []), .tree (D.stmts [])] [(0, .ptr 0 0), (2, .ptr 2 0), (3, .ptr 3 0), (5, iA (nm b (B4 b j) Q8))]; replace G := G.as [.box [.ref 1, iA (B4 b j + 1 + (nm b (B4 b j) Q8 - nm b (B4 b j) Q8))], dY b, .box [.v (.slice none 0 0), .v (.slice none 0 0), .v (.slice none 0 0)], .box [.ref 4, .ref 5, .tref 6], .row 3 (D.ints (W6 b j)), .row 3 (D.ints (nsD b aiL (nm b (B4 b j) Q8 - nm b (B4 b j) Q8).toNat (B4 b j + 1))), .tree (D.stmts [])] [(0, .ptr 0 0), (2, .ptr 2 0), (3, .ptr 3 0), (5, iA (nm b (B4 b j) Q8))] (by have e1 : (B4 b j + 1 + (nm b (B4 b j) Q8 - nm b (B4 b j) Q8) : Int) = (B4 b j + 1) := (by omega); have e2 : (nsD b aiL (nm b (B4 b j) Q8 - nm b (B4 b j) Q8).toNat (B4 b j + 1) : List Int) = ([]) := aW4; (first | rw [e1, e2] | simp only [e1, e2]) <;> rfl) (by kernel_rfl); refine l7 (κ := Int) (fun i2 => 0 ≤ i2 ∧ i2 ≤ nm b (B4 b j) Q8) (fun i2 => i2.toNat) (fun i2 => [.box [.ref 1, iA (B4 b j + 1 + (nm b (B4 b j) Q8 - i2))], dY b, .box [.v (.slice none 0 0), .v (.slice none 0 0), .v (.slice none 0 0)], .box [.ref 4, .ref 5, .tref 6], .row 3 (D.ints (W6 b j)), .row 3 (.ints (nsD b aiL (nm b (B4 b j) Q8 - i2).toNat (B4 b j + 1))), .tree (D.stmts [])]) (fun i2 => [(0, .ptr 0 0), (2, .ptr 2 0), (3, .ptr 3 0), (5, iA i2)]) (nm b (B4 b j) Q8) (by omega) (l9.at G _ _) ?_; clear G; intro i2 ρ a w hp G; replace G := l9.at G [.box [.ref 1, iA (B4 b j + 1 + (nm b (B4 b j) Q8 - i2))], dY b, H9, .box [.ref 4, .ref 5, .tref 6], .row 3 (D.ints (W6 b j)), .row 3 (D.ints (nsD b aiL (nm b (B4 b j) Q8 - i2).toNat (B4 b j + 1))), .tree (D.stmts [])] [(0, .ptr 0 0), (2, .ptr 2 0), (3, .ptr 3 0), (5, iA i2)]; have hlen : (nsD b aiL (nm b (B4 b j) Q8 - i2).toNat (B4 b j + 1)).length = (nm b (B4 b j) Q8 - i2).toNat := X1 _ _ _ _; refine wp_seq (wp_seq (y5 G b8 [(0, .ptr 0 0), (2, .ptr 2 0), (3, .ptr 3 0), (5, iA i2), (26, bA (decide (i2 > 0)))] fun G => b0 ?_)); cases h1 : (decide (i2 > 0))
   ·
    have q1 := O8 h1
    obtain rfl : i2 = 0 := by omega
    rw [bv7, bv6] at G; refine rF G false (by kernel_rfl) (wp_exit (l6 (l6 (l5 (b0 (wp_seq (ap1 G (s7 (j5 4 [0, 1, 31] (c8.lend (D9 b (kp2 b j) nbL (by simp [h0, h1]) (by omega) (by omega)) [.no, .no, .row 3]) (j5 5 [0, 1, 4, 5, 6] (c8.lend (bs0 b (W6 b j) (asD b j) ([]) (kp2 b j + 1) 3 (nm b (kp2 b j) nbL) (by kernel_rfl) (by omega) (by omega) (by omega) (by omega)) [.no, .no, .row 3, .row 3, .tree]) s6)) fz []) [0, 0, 0, 0, 12, 31, 63, 127] [0, 1, 2, 3, 4, 5, 47] [.box [.ref 1, iA (aj1 b j).snd], dY b, H9, .box [.ref 4, .ref 5, .tref 6], .row 3 (D.ints (W6 b j)), .row 3 (D.ints (asD b j)), .tree (D.stmts (aj1 b j).fst)] [(2, .ptr 2 0), (3, .ptr 3 0)] fun G => b0 (wp_seq (wp_seq (c7 G (n8 1 [4, 5, 6] (c8.lend (al2 (W6 b j) (asD b j) ((A1 (v8 b (W6 b j).length (asD b j).length 3) (nm b (kp2 b j) nbL).toNat (kp2 b j + 1)).fst) (by assumption)) [.row 3, .row 3, .tree])) [(45, bA (j9 (b7.mk (W6 b j) (asD b j) (aj1 b j).fst)))] fun G => b0 (rcB (b := j9 (b7.mk (W6 b j) (asD b j) (A1 (v8 b (W6 b j).length (asD b j).length (3 : Nat)) (nm b (kp2 b j) nbL).toNat (kp2 b j + 1)).fst)) G (fun h2 => ?_) fun h2 => ?_)))))))))))
    · refine wp_skip (b0 (wp_seq (d7 G b8 [0, 1, 2, 7, 31] [.box [.ref 1, iA (aj1 b j).snd], dY b, .box [.ref 3, .v (.slice none 0 0), .tref 4], .row 3 (D.ints ([0] ++ ([1] ++ []))), a36] [(2, .ptr 2 0)] fun G => b0 (wp_ret ?_)))); have Gx := G.nil 5 3 (.ints []) 1 [.box [.ref 1, iA (aj1 b j).snd], dY b, .box [.ref 3, .ref 5, .tref 4], .row 3 (D.ints ([0] ++ ([1] ++ []))), a36] [(2, .ptr 2 0)]; clear G; obtain ⟨ρ, G⟩ := Gx; replace G := l9.at G [.box [.ref 1, iA (aj1 b j).snd], dY b, .box [.ref 3, .ref 5, .tref 4], .row 3 (D.ints ([0] ++ ([1] ++ []))), a36, .row 3 (D.ints [])] [(2, .ptr 2 0)]; exact F8 G [0, 1, 3, 5, 4] (by show _ = mR [0, 1, 3, 5, 4] (aT9 b j); unfold aT9; rw [bD9 (by with_reducible assumption)] <;> rfl)
    · refine wp_seq (d7 G b8 [0, 1, 2, 4, 5, 6] [.box [.ref 1, iA (aj1 b j).snd], dY b, .box [.ref 3, .ref 4, .tref 5], .row 3 (D.ints (W6 b j)), .row 3 (D.ints (asD b j)), .tree (D.stmts (aj1 b j).fst)] [(2, .ptr 2 0)] fun G => b0 (wp_ret (c5 ?_))); exact F8 G [0, 1, 3, 4, 5] (by show _ = mR [0, 1, 3, 4, 5] (aT9 b j); unfold aT9; rw [bE0 (by with_reducible assumption)] <;> rfl)
   · have q1 := O7 h1; refine rT G _ h1 (wp_skip (b0 (wp_seq (wp_block (L7 G (n8 4 [0, 1, 31] (c8.lend (D9 b (B4 b j + 1 + (nm b (B4 b j) Q8 - i2)) aiL (by simp [h0, h1]) (by omega) (by omega)) [.no, .no, .row 3])) [0, 1, 0, 0, 12, 28, 63, 127, 255] [0, 1, 2, 3, 4, 6, 55] [.box [.ref 1, iA (B4 b j + 1 + (nm b (B4 b j) Q8 - i2) + 1)], dY b, H9, .box [.ref 4, .ref 6, .tref 5], .row 3 (D.ints (W6 b j)), .tree (D.stmts []), .row 3 (D.ints (nsD b aiL (nm b (B4 b j) Q8 - i2).toNat (B4 b j + 1) ++ ([nm b (B4 b j + 1 + (nm b (B4 b j) Q8 - i2)) aiL] ++ [])))] [(0, .ptr 0 0), (2, .ptr 2 0), (3, .ptr 3 0), (5, iA i2)] (aP ((nsD b aiL (nm b (B4 b j) Q8 - i2).toNat (B4 b j + 1)).length + ([nm b (B4 b j + 1 + (nm b (B4 b j) Q8 - i2)) aiL] ++ []).length) 8 []) (aK (by simp only [bI0, bH7, List.length_nil, X1]; omega) bG8) fun G => j4 (b0 (C1 G b8 [(5, iA (i2 - 1))] [wO (i2 - 1)] (o1 (by omega)) fun G => b0 ?_))))))); exact N8 G (i2 - 1) (by omega) (by omega) [0, 1, 2, 3, 4, 6, 5] (by have e1 : (B4 b j + 1 + (nm b (B4 b j) Q8 - (i2 - 1)) : Int) = (B4 b j + 1 + (nm b (B4 b j) Q8 - i2) + 1) := (by omega); have e2 : (nsD b aiL (nm b (B4 b j) Q8 - (i2 - 1)).toNat (B4 b j + 1) : List Int) = (nsD b aiL (nm b (B4 b j) Q8 - i2).toNat (B4 b j + 1) ++ ([nm b (B4 b j + 1 + (nm b (B4 b j) Q8 - i2)) aiL] ++ [])) := (aW5 (by omega) (by omega)); (first | rw [e1, e2] | simp only [e1, e2]) <;> rfl)
  · have q0 := O7 h0; refine rT G _ h0 (wp_skip (b0 (wp_seq (wp_block (L7 G (n8 4 [0, 1, 29] (c8.lend (D9 b (j + 1 + (nm b j T1 - i)) viL (by simp [h0]) (by omega) (by omega)) [.no, .no, .row 3])) [0, 1, 0, 0, 12, 28, 63, 127, 255] [0, 1, 2, 3, 53] [.box [.ref 1, iA (j + 1 + (nm b j T1 - i) + 1)], dY b, H9, aF7, .row 3 (D.ints (nsD b viL (nm b j T1 - i).toNat (j + 1) ++ ([nm b (j + 1 + (nm b j T1 - i)) viL] ++ [])))] [(0, .ptr 0 0), (2, .ptr 2 0), (3, .ptr 3 0), (4, iA i)] (aP ((nsD b viL (nm b j T1 - i).toNat (j + 1)).length + ([nm b (j + 1 + (nm b j T1 - i)) viL] ++ []).length) 8 []) (aK (by simp only [bI0, bH7, List.length_nil, X1]; omega) bG8) fun G => j4 (b0 (C1 G b8 [(4, iA (i - 1))] [wO (i - 1)] (o1 (by omega)) fun G => b0 ?_))))))); exact N8 G (i - 1) (by omega) (by omega) (rg 5) (by have e1 : (j + 1 + (nm b j T1 - (i - 1)) : Int) = (j + 1 + (nm b j T1 - i) + 1) := (by omega); have e2 : (nsD b viL (nm b j T1 - (i - 1)).toNat (j + 1) : List Int) = (nsD b viL (nm b j T1 - i).toNat (j + 1) ++ ([nm b (j + 1 + (nm b j T1 - i)) viL] ++ [])) := (aW5 (by omega) (by omega)); (first | rw [e1, e2] | simp only [e1, e2]) <;> rfl)
abbrev mtC (b : List UInt8) (p : b7) (j : Int) : c8 := ⟨101, [.ptr 0 0, pA 2], [.box [.ref 1, iA j], dY b] ++ pS p, [.box [.ref 1, iA (mtD b p j).2], dY b] ++ pS p ++ oP (mtD b p j).1, oA 5⟩
section
variable {b : List UInt8} {p : b7} {j : Int}
theorem bE4 (h : pk b j 60 = 0) (h1 : (p.vars.length : Int) > 0) : mtD b p j = (⟨p.vars.set 0 (l1D b (j + 1)), p.arrays, p.body⟩, j + 1 + 2) := by
 rw [mtD, if_pos h, if_pos (by omega)]
theorem bE5 (h : pk b j 60 = 1) : mtD b p j = (⟨p.vars ++ bH1 (13 - p.vars.length) 1, p.arrays, p.body⟩, j + 1) := by
 rw [mtD, if_neg (by omega), if_pos h]
theorem bF0 (h : pk b j 60 = 2) (h1 : (p.body.length : Int) > 0) : mtD b p j = (⟨p.vars, p.arrays, p.body.set 0 (kdS (p.body.getD 0 bF8) (nm b (j + 1) m2L))⟩, j + 1 + 1) := by
 rw [mtD, if_neg (by omega), if_neg (by omega), if_pos h, if_pos (by omega)]
theorem bE9 (h : pk b j 60 = 3) (h1 : (p.body.length : Int) > 0) : mtD b p j = (⟨p.vars, p.arrays, p.body.set ((p.body.length : Int) - 1).toNat (tgS (p.body.getD ((p.body.length : Int) - 1).toNat bF8) (nm b (j + 1) m3L))⟩, j + 1 + 1) := by
 rw [mtD, if_neg (by omega), if_neg (by omega), if_neg (by omega), if_pos h, if_pos (by omega)]
theorem bE8 (h : pk b j 60 = 4) (h1 : (p.body.length : Int) > 0) : mtD b p j = (⟨p.vars, p.arrays, p.body.set 0 (vvS (p.body.getD 0 bF8) (nm b (j + 1) m4L))⟩, j + 1 + 1) := by
 rw [mtD, if_neg (by omega), if_neg (by omega), if_neg (by omega), if_neg (by omega), if_pos h, if_pos (by omega)]
theorem bE7 (h : pk b j 60 = 5) (h1 : (p.body.length : Int) > 0) : mtD b p j = (⟨p.vars, p.arrays, p.body.set 0 (ctS (p.body.getD 0 bF8) (nm b (j + 1) m5L))⟩, j + 1 + 1) := by
 rw [mtD, if_neg (by omega), if_neg (by omega), if_neg (by omega), if_neg (by omega), if_neg (by omega), if_pos h, if_pos (by omega)]
theorem bE6 (h : pk b j 60 = 6) : mtD b p j = (⟨[], [], []⟩, j + 1) := by
 rw [mtD, if_neg (by omega), if_neg (by omega), if_neg (by omega), if_neg (by omega), if_neg (by omega), if_neg (by omega), if_pos h]
theorem aZ9 (h : (pk b j 60 = 0 ∧ ¬ (p.vars.length : Int) > 0) ∨ ((pk b j 60 = 2 ∨ pk b j 60 = 3 ∨ pk b j 60 = 4 ∨ pk b j 60 = 5) ∧ ¬ (p.body.length : Int) > 0) ∨ (¬ pk b j 60 = 0 ∧ ¬ pk b j 60 = 1 ∧ ¬ pk b j 60 = 2 ∧ ¬ pk b j 60 = 3 ∧ ¬ pk b j 60 = 4 ∧ ¬ pk b j 60 = 5 ∧ ¬ pk b j 60 = 6)) : mtD b p j = (p, j + 1) := by
 unfold mtD
 (repeat' split) <;> first | rfl | (exfalso; omega)
theorem a65 {k : Nat} : p.vars ++ bH1 (k + 1) 1 = (p.vars ++ bH1 k 1) ++ [1] := by
 rw [List.replicate_succ', List.append_assoc]
theorem bw6 {k : Nat} (h : pk b j 60 = 1) (h1 : k ≤ 13 - p.vars.length) (h2 : ¬ (((p.vars ++ bH1 k (1 : Int)).length : Nat) : Int) ≤ 12) : mtD b p j = (⟨p.vars ++ bH1 k 1, p.arrays, p.body⟩, j + 1) := by
 simp only [bI0, List.length_replicate] at h2
 rw [bE5 h, show 13 - p.vars.length = k by omega]
end
abbrev aw4 (p : b7) := p.body.getD ((p.body.length : Int) - 1).toNat bF8
abbrev z8 (b : List UInt8) (p : b7) (j : Int) : List It := [.box [.ref 1, iA (mtD b p j).snd], dY b, dI p.vars, dI p.arrays, dT p.body, .row 3 (D.ints (mtD b p j).fst.vars), .row 3 (D.ints (mtD b p j).fst.arrays), .tree (D.stmts (mtD b p j).fst.body)]
abbrev aF6 : It := .box [.v (.slice none 0 0), .v (.slice none 0 0), .v (.slice none 0 0)]
abbrev bk7 (b : List UInt8) (p : b7) (j : Int) : It := .tree (D.stmts (p.body.set 0 (b5.mk (p.body.getD 0 bF8).kind (p.body.getD 0 bF8).target (p.body.getD 0 bF8).index (b6.mk (p.body.getD 0 bF8).value.kind (nm b (j + 1) m4L) (p.body.getD 0 bF8).value.kids) (p.body.getD 0 bF8).count (p.body.getD 0 bF8).body (p.body.getD 0 bF8).els)))
abbrev U5 : It := .box [.ref 6, .ref 7, .tref 8]
abbrev bk6 (b : List UInt8) (p : b7) (j : Int) : It := .tree (D.stmts (p.body.set 0 (b5.mk (nm b (j + 1) m2L) (p.body.getD 0 bF8).target (p.body.getD 0 bF8).index (p.body.getD 0 bF8).value (p.body.getD 0 bF8).count (p.body.getD 0 bF8).body (p.body.getD 0 bF8).els)))
abbrev bk5 (b : List UInt8) (p : b7) (j : Int) : It := .tree (D.stmts (p.body.set 0 (b5.mk (p.body.getD 0 bF8).kind (p.body.getD 0 bF8).target (p.body.getD 0 bF8).index (p.body.getD 0 bF8).value (nm b (j + 1) m5L) (p.body.getD 0 bF8).body (p.body.getD 0 bF8).els)))
abbrev bk4 (b : List UInt8) (p : b7) (j : Int) : It := .tree (D.stmts (p.body.set ((p.body.length : Int) - 1).toNat (b5.mk (aw4 p).kind (nm b (j + 1) m3L) (aw4 p).index (aw4 p).value (aw4 p).count (aw4 p).body (aw4 p).els)))
abbrev Z1 (b : List UInt8) (p : b7) (r0 : List It) : List It := dY b :: dI p.vars :: dI p.arrays :: dT p.body :: U5 :: .row 3 (D.ints p.vars) :: .row 3 (D.ints p.arrays) :: r0
abbrev av3 (p : b7) (r0 : List It) : List It := dI p.vars :: dI p.arrays :: dT p.body :: aF6 :: .row 3 (D.ints p.vars) :: .row 3 (D.ints p.arrays) :: r0
abbrev ac3 (p : b7) (r0 : List It) : List It := .row 3 (D.ints p.arrays) :: .tree (D.stmts p.body) :: r0
abbrev an0 (b : List UInt8) (p : b7) (j : Int) (r0 : List It) : List It := .box [.ref 1, iA (j + 1)] :: dY b :: dI p.vars :: dI p.arrays :: dT p.body :: r0
abbrev aT0 (b : List UInt8) (p : b7) (j : Int) (r0 : List (Nat × AV)) : List (Nat × AV) := (0, .ptr 0 0) :: (4, .ptr 5 0) :: (5, .ptr 9 0) :: (6, iA (p.body.length : Int)) :: (13, iA (pk b j 60)) :: r0
theorem S6 (b : List UInt8) (p : b7) (j : Int) (hb : p.size ≤ 1000000) (r0 : 0 ≤ j) (r1 : j ≤ 100000000) : c8.ok Try.prog (mtC b p j) := by
  refine z7 87 Try.func101 [.box [.ref 1, iA j], dY b, dI p.vars, dI p.arrays, dT p.body] [(0, .ptr 0 0), (1, pA 2)] fun G => ?_
  have hb1 : p.vars.length ≤ 1048576 ∧ p.arrays.length ≤ 1048576 ∧ r6 p.body ≤ 1048576 := by unfold b7.size at hb; omega
  have hb2 : p.body.length ≤ 1048576 := bI3 (ac9 _) hb1.2.2; refine wp_seq (d7 G b8 [0, 1, 2, 3, 4, 5, 13] [.box [.ref 1, iA j], dY b, dI p.vars, dI p.arrays, dT p.body, .box (pL 2), aF6] [(0, .ptr 0 0), (3, .ptr 5 0), (4, .ptr 6 0)] fun G => b0 (wp_seq (d7 G (n8 1 [2, 3, 4] (ai0 p.vars p.arrays p.body (bI3 hb (by omega)))) [0, 1, 2, 3, 4, 6, 15, 16, 17, 23] (.box [.ref 1, iA j] :: dY b :: (av3 p [.tree (D.stmts p.body), U5])) [(0, .ptr 0 0), (4, .ptr 5 0), (5, .ptr 9 0)] fun G => b0 (wp_seq (c7 G b8 [(6, iA (p.body.length : Int))] fun G => b0 (wp_seq (wp_seq (d7 G (n8 1 [0, 1] (A4 b j 60 (by assumption) (by omega))) (rg 10) (.box [.ref 1, iA (j + 1)] :: dY b :: (av3 p [.tree (D.stmts p.body), U5])) (aT0 b p j []) fun G => b0 (wp_block (wp_seq (c7 G b8 [(14, bA (pk b j 60 == 0))] fun G => b0 (L5 G (fun h0 q0 => ?_) fun h0 q0 => ?_))))))))))))
  ·
   refine wp_seq (y5 G b8 (aT0 b p j [(25, bA (pk b j 60 == 1))]) fun G => b0 (L5 G (fun h1 q1 => ?_) fun h1 q1 => ?_))
   ·
    refine wp_seq (c7 G b8 [(36, bA (pk b j 60 == 2))] fun G => b0 (L5 G (fun h2 q2 => ?_) fun h2 q2 => ?_))
    ·
     refine wp_seq (c7 G b8 [(47, bA (pk b j 60 == 3))] fun G => b0 (L5 G (fun h3 q3 => ?_) fun h3 q3 => ?_))
     ·
      refine wp_seq (c7 G b8 [(60, bA (pk b j 60 == 4))] fun G => b0 (L5 G (fun h4 q4 => ?_) fun h4 q4 => ?_))
      ·
       refine wp_seq (c7 G b8 [(72, bA (pk b j 60 == 5))] fun G => b0 (L5 G (fun h5 q5 => ?_) fun h5 q5 => ?_))
       ·
        refine wp_seq (c7 G b8 [(83, bA (pk b j 60 == 6))] fun G => b0 (L5 G (fun h6 q6 => ?_) fun h6 q6 => ?_))
        · refine wp_skip (j4 (b0 (wp_seq (d7 G b8 (rg 9) (.box [.ref 1, iA (j + 1)] :: (Z1 b p [.tree (D.stmts p.body)])) [(4, .ptr 5 0)] fun G => b0 (wp_ret ?_))))); exact F8 G [0, 1, 2, 3, 4, 6, 7, 8] (by show _ = mR [0, 1, 2, 3, 4, 6, 7, 8] (z8 b p j); unfold z8; rw [aZ9 (by omega)] <;> rfl)
        · refine wp_seq (y5 G b8 [(4, .ptr 5 0), (5, .ptr 9 0)] fun G => b0 (wp_ret (o4 (c5 ?_)))); obtain ⟨ρ, G⟩ := G.nil 10 3 (.ints []) 1 (an0 b p j (.box [.ref 10, .v (.slice none 0 0), .v (.slice none 0 0)] :: .row 3 (D.ints p.vars) :: (ac3 p [.box [.ref 6, .ref 7, .tref 8]]))) [(4, .ptr 5 0), (5, .ptr 9 0)]; obtain ⟨ρ, G⟩ := G.nil 11 3 (.ints []) 1 (an0 b p j (.box [.ref 10, .ref 11, .v (.slice none 0 0)] :: .row 3 (D.ints p.vars) :: (ac3 p [.box [.ref 6, .ref 7, .tref 8], .row 3 (D.ints [])]))) [(4, .ptr 5 0), (5, .ptr 9 0)]; obtain ⟨ρ, G⟩ := G.nilT 12 (.stmts []) (an0 b p j (.box [.ref 10, .ref 11, .tref 12] :: .row 3 (D.ints p.vars) :: (ac3 p [.box [.ref 6, .ref 7, .tref 8], .row 3 (D.ints []), .row 3 (D.ints [])]))) [(4, .ptr 5 0), (5, .ptr 9 0)]; exact F8 G [0, 1, 2, 3, 4, 10, 11, 12] (by show _ = mR [0, 1, 2, 3, 4, 10, 11, 12] (z8 b p j); unfold z8; rw [bE6 (by omega)] <;> rfl)
       ·
        refine wp_seq (c7 G b8 [(75, bA (decide ((p.body.length : Int) > 0)))] fun G => b0 (Q7 G (fun h7 q7 => ?_) fun h7 q7 => ?_))
        · refine wp_skip (j4 (b0 (wp_seq (d7 G b8 (rg 9) (.box [.ref 1, iA (j + 1)] :: (Z1 b p [.tree (D.stmts p.body)])) [(4, .ptr 5 0)] fun G => b0 (wp_ret ?_))))); exact F8 G [0, 1, 2, 3, 4, 6, 7, 8] (by show _ = mR [0, 1, 2, 3, 4, 6, 7, 8] (z8 b p j); unfold z8; rw [aZ9 (by omega)] <;> rfl)
        · refine L7 G (n8 4 [0, 1, 34] (c8.lend (D9 b (j + 1) m5L (by simp [h0, h1, h2, h3, h4, h5, h7]) (by omega) (by omega)) [.no, .no, .row 3])) [0, 1, 0, 0, 12, 31, 63, 127] (rg 10) (.box [.ref 1, iA (j + 1 + 1)] :: dY b :: (av3 p [bk5 b p j, U5])) [(4, .ptr 5 0), (5, .ptr 9 0)] (iX 0 0 p.body.length []) (iK (by omega) bG8) fun G => j4 (b0 (wp_seq (d7 G b8 (rg 9) (.box [.ref 1, iA (j + 1 + 1)] :: (Z1 b p [bk5 b p j])) [(4, .ptr 5 0)] fun G => b0 (wp_ret ?_)))); exact F8 G [0, 1, 2, 3, 4, 6, 7, 8] (by show _ = mR [0, 1, 2, 3, 4, 6, 7, 8] (z8 b p j); unfold z8; rw [bE7 (by omega) (by omega)] <;> rfl)
      ·
       refine wp_seq (c7 G b8 [(63, bA (decide ((p.body.length : Int) > 0)))] fun G => b0 (Q7 G (fun h8 q8 => ?_) fun h8 q8 => ?_))
       · refine wp_skip (j4 (b0 (wp_seq (d7 G b8 (rg 9) (.box [.ref 1, iA (j + 1)] :: (Z1 b p [.tree (D.stmts p.body)])) [(4, .ptr 5 0)] fun G => b0 (wp_ret ?_))))); exact F8 G [0, 1, 2, 3, 4, 6, 7, 8] (by show _ = mR [0, 1, 2, 3, 4, 6, 7, 8] (z8 b p j); unfold z8; rw [aZ9 (by omega)] <;> rfl)
       · refine L7 G (n8 4 [0, 1, 34] (c8.lend (D9 b (j + 1) m4L (by simp [h0, h1, h2, h3, h4, h8]) (by omega) (by omega)) [.no, .no, .row 3])) [0, 1, 0, 0, 12, 31, 63, 127, 255] (rg 10) (.box [.ref 1, iA (j + 1 + 1)] :: dY b :: (av3 p [bk7 b p j, U5])) [(4, .ptr 5 0), (5, .ptr 9 0)] (iX 0 0 p.body.length []) (iK (by omega) bG8) fun G => j4 (b0 (wp_seq (d7 G b8 (rg 9) (.box [.ref 1, iA (j + 1 + 1)] :: (Z1 b p [bk7 b p j])) [(4, .ptr 5 0)] fun G => b0 (wp_ret ?_)))); exact F8 G [0, 1, 2, 3, 4, 6, 7, 8] (by show _ = mR [0, 1, 2, 3, 4, 6, 7, 8] (z8 b p j); unfold z8; rw [bE8 (by omega) (by omega)] <;> rfl)
     ·
      refine wp_seq (c7 G b8 [(50, bA (decide ((p.body.length : Int) > 0)))] fun G => b0 (Q7 G (fun h9 q9 => ?_) fun h9 q9 => ?_))
      · refine wp_skip (j4 (b0 (wp_seq (d7 G b8 (rg 9) (.box [.ref 1, iA (j + 1)] :: (Z1 b p [.tree (D.stmts p.body)])) [(4, .ptr 5 0)] fun G => b0 (wp_ret ?_))))); exact F8 G [0, 1, 2, 3, 4, 6, 7, 8] (by show _ = mR [0, 1, 2, 3, 4, 6, 7, 8] (z8 b p j); unfold z8; rw [aZ9 (by omega)] <;> rfl)
      · refine L7 G (n8 6 [0, 1, 50] (c8.lend (D9 b (j + 1) m3L (by simp [h0, h1, h2, h3, h9]) (by omega) (by omega)) [.no, .no, .row 3])) [0, 1, 0, 4, 0, 0, 48, 127, 255, 511] (rg 10) (.box [.ref 1, iA (j + 1 + 1)] :: dY b :: (av3 p [bk4 b p j, U5])) [(4, .ptr 5 0), (5, .ptr 9 0)] ((wO ((p.body.length : Int) - 1)) :: (iX ((p.body.length : Int) - 1) (((p.body.length : Int) - 1).toNat) p.body.length [])) ⟨oW (by omega), (iK (by omega) bG8)⟩ fun G => j4 (b0 (wp_seq (d7 G b8 (rg 9) (.box [.ref 1, iA (j + 1 + 1)] :: (Z1 b p [bk4 b p j])) [(4, .ptr 5 0)] fun G => b0 (wp_ret ?_)))); exact F8 G [0, 1, 2, 3, 4, 6, 7, 8] (by show _ = mR [0, 1, 2, 3, 4, 6, 7, 8] (z8 b p j); unfold z8; rw [bE9 (by omega) (by omega)] <;> rfl)
    ·
     refine wp_seq (c7 G b8 [(39, bA (decide ((p.body.length : Int) > 0)))] fun G => b0 (Q7 G (fun h10 q10 => ?_) fun h10 q10 => ?_))
     · refine wp_skip (j4 (b0 (wp_seq (d7 G b8 (rg 9) (.box [.ref 1, iA (j + 1)] :: (Z1 b p [.tree (D.stmts p.body)])) [(4, .ptr 5 0)] fun G => b0 (wp_ret ?_))))); exact F8 G [0, 1, 2, 3, 4, 6, 7, 8] (by show _ = mR [0, 1, 2, 3, 4, 6, 7, 8] (z8 b p j); unfold z8; rw [aZ9 (by omega)] <;> rfl)
     · refine L7 G (n8 4 [0, 1, 34] (c8.lend (D9 b (j + 1) m2L (by simp [h0, h1, h2, h10]) (by omega) (by omega)) [.no, .no, .row 3])) [0, 1, 0, 0, 12, 31, 63, 127] (rg 10) (.box [.ref 1, iA (j + 1 + 1)] :: dY b :: (av3 p [bk6 b p j, U5])) [(4, .ptr 5 0), (5, .ptr 9 0)] (iX 0 0 p.body.length []) (iK (by omega) bG8) fun G => j4 (b0 (wp_seq (d7 G b8 (rg 9) (.box [.ref 1, iA (j + 1 + 1)] :: (Z1 b p [bk6 b p j])) [(4, .ptr 5 0)] fun G => b0 (wp_ret ?_)))); exact F8 G [0, 1, 2, 3, 4, 6, 7, 8] (by show _ = mR [0, 1, 2, 3, 4, 6, 7, 8] (z8 b p j); unfold z8; rw [bF0 (by omega) (by omega)] <;> rfl)
   ·
    refine wp_block ?_; replace G := G.as (an0 b p j (.box [.v (.slice none 0 0), .v (.slice none 0 0), .v (.slice none 0 0)] :: .row 3 (D.ints (p.vars ++ bH1 0 1)) :: (ac3 p [.box [.ref 6, .ref 7, .tref 8]]))) (aT0 b p j [(25, bA (pk b j 60 == 1))]) (by have e1 : (p.vars ++ bH1 0 1 : List Int) = (p.vars) := (by simp [h0, h1]); (first | rw [e1] | simp only [e1]) <;> rfl) (by kernel_rfl); refine l7 (κ := Nat) (fun k => k ≤ 13 - p.vars.length) (fun k => 13 - p.vars.length - k) (fun k => [.box [.ref 1, iA (j + 1)], dY b, dI p.vars, dI p.arrays, dT p.body, .box [.v (.slice none 0 0), .v (.slice none 0 0), .v (.slice none 0 0)], .row 3 (.ints (p.vars ++ bH1 k 1)), .row 3 (D.ints p.arrays), .tree (D.stmts p.body), .box [.ref 6, .ref 7, .tref 8]]) (fun k => [(0, .ptr 0 0), (4, .ptr 5 0), (5, .ptr 9 0), (6, iA (p.body.length : Int)), (13, iA (pk b j 60)), (25, bA (pk b j 60 == 1))]) 0 (by omega) (l9.at G _ _) ?_; clear G; intro k ρ a w hp G; replace G := l9.at G (an0 b p j (aF6 :: .row 3 (D.ints (p.vars ++ bH1 k 1)) :: (ac3 p [U5]))) (aT0 b p j [(25, bA (pk b j 60 == 1))]); refine wp_seq (wp_seq (c7 G b8 [(30, bA (decide (((p.vars ++ bH1 k 1).length : Int) ≤ 12)))] fun G => b0 (Q7 G (fun h12 q12 => ?_) fun h12 q12 => ?_)))
    · refine wp_exit (l6 (l6 (l5 (j4 (b0 (wp_seq (d7 G b8 (rg 9) (an0 b p j (U5 :: .row 3 (D.ints (p.vars ++ bH1 k 1)) :: (ac3 p []))) [(4, .ptr 5 0)] fun G => b0 (wp_ret ?_)))))))); exact F8 G [0, 1, 2, 3, 4, 6, 7, 8] (by show _ = mR [0, 1, 2, 3, 4, 6, 7, 8] (z8 b p j); unfold z8; rw [bw6 (k := k) (by omega) (by omega) (by omega)] <;> rfl)
    · refine wp_skip (b0 (wp_block (P5 G b8 [0, 1, 2, 3, 4, 5, 7, 8, 9, 34] (an0 b p j (aF6 :: (ac3 p [.box [.ref 9, .ref 6, .tref 7], .row 3 (D.ints (p.vars ++ bH1 k 1 ++ ([1] ++ [])))]))) [(0, .ptr 0 0), (4, .ptr 5 0), (5, .ptr 8 0), (6, iA (p.body.length : Int)), (13, iA (pk b j 60)), (25, bA (pk b j 60 == 1))] (aP ((p.vars ++ bH1 k (1 : Int)).length + ([(1 : Int)] ++ []).length) 8 []) (aK (by simp only [bI0, List.length_replicate, bH7, List.length_nil] at *; omega) bG8) fun G => j4 (b0 ?_)))); exact N8 G (k + 1) (by simp only [bI0, List.length_replicate, bH7, List.length_nil] at *; omega) (by simp only [bI0, List.length_replicate, bH7, List.length_nil] at *; omega) [0, 1, 2, 3, 4, 5, 9, 6, 7, 8] (by have e1 : (p.vars ++ bH1 (k + 1) 1 : List Int) = (p.vars ++ bH1 k 1 ++ ([1] ++ [])) := a65; (first | rw [e1] | simp only [e1]) <;> rfl)
  ·
   refine wp_seq (c7 G b8 [(19, bA (decide ((p.vars.length : Int) > 0)))] fun G => b0 (Q7 G (fun h11 q11 => ?_) fun h11 q11 => ?_))
   · refine wp_skip (j4 (b0 (wp_seq (d7 G b8 (rg 9) (.box [.ref 1, iA (j + 1)] :: (Z1 b p [.tree (D.stmts p.body)])) [(4, .ptr 5 0)] fun G => b0 (wp_ret ?_))))); exact F8 G [0, 1, 2, 3, 4, 6, 7, 8] (by show _ = mR [0, 1, 2, 3, 4, 6, 7, 8] (z8 b p j); unfold z8; rw [aZ9 (by omega)] <;> rfl)
   · refine L7 G (n8 3 [0, 1] (bd1 b (j + 1) (by omega) (by omega))) [0, 1, 0, 4, 15, 31] (rg 10) (.box [.ref 1, iA (j + 1 + 2)] :: dY b :: dI p.vars :: dI p.arrays :: dT p.body :: aF6 :: .row 3 (D.ints (p.vars.set 0 (l1D b (j + 1)))) :: (ac3 p [U5])) [(4, .ptr 5 0), (5, .ptr 9 0)] (iX 0 0 p.vars.length []) (iK (by omega) bG8) fun G => j4 (b0 (wp_seq (d7 G b8 (rg 9) (.box [.ref 1, iA (j + 1 + 2)] :: dY b :: dI p.vars :: dI p.arrays :: dT p.body :: U5 :: .row 3 (D.ints (p.vars.set 0 (l1D b (j + 1)))) :: (ac3 p [])) [(4, .ptr 5 0)] fun G => b0 (wp_ret ?_)))); exact F8 G [0, 1, 2, 3, 4, 6, 7, 8] (by show _ = mR [0, 1, 2, 3, 4, 6, 7, 8] (z8 b p j); unfold z8; rw [bE4 (by omega) (by omega)] <;> rfl)
abbrev a28 : Type := List G2 × List Int × Int
def bF6 (x : a28) (n : Int) (c : List G2) : a28 := (x.1 ++ c, x.2.1 ++ bH1 c.length n, x.2.2)
section
variable {P : Program} {ι κ : Type} {φ ψ : Nat → Prop} {w0 w : World} {F : ι → Rs} {ρ ρ0 : Nat → Value} {N m n : Nat} {S : List It} {tm : List (Nat × AV)} {a : Act}
theorem l9.heal (G : l9 φ ψ w0 F N m ρ0 ρ S tm a w) (id k i : Nat) (l : List (List Int)) (r : List Int) (S1 : List It) (h1 : j7 S id = .hole k i l := by kernel_rfl) (h2 : j7 S k = .row 3 (.ints r) := by kernel_rfl) (hS : S1 = (S.set id (.tree (.rows (l.set i r)))).set k .dead := by kernel_rfl) : l9 φ ψ w0 F N m ρ0 ρ S1 tm a w := by
 subst hS
 have hid : id < S.length := by
  rcases bI9 id S.length with h | h
  ·exact h
  ·rw [o6 h] at h1; cases h1
 have hk : k < S.length := by
  rcases bI9 k S.length with h | h
  ·exact h
  ·rw [o6 h] at h2; cases h2
 have hne : id ≠ k := fun e => by rw [e, h2] at h1; cases h1
 have hlen : ((S.set id (.tree (.rows (l.set i r)))).set k .dead).length = S.length := by simp
 have hat : ∀ j, j7 ((S.set id (.tree (.rows (l.set i r)))).set k .dead) j = if j = k then .dead else if j = id then .tree (.rows (l.set i r)) else j7 S j := fun j => by
  simp only [j7, bG1, List.getElem?_set]
  by_cases e1 : k = j
  ·subst e1; simp [hk]
  ·have e1' : ¬ j = k := fun h => e1 h.symm
   by_cases e2 : id = j
   ·subst e2; simp [hid, e1, e1']
   ·have e2' : ¬ j = id := fun h => e2 h.symm
    simp [e1, e1', e2, e2']
 refine ⟨G.size, G.defs, G.tmv, fun t x hx q hq => by rw [hlen]; exact G.tmi t x hx q hq, fun j => ⟨fun q hq => ?_, fun hj => ?_⟩, ?_, by rw [hlen]; exact G.le, G.old⟩
 ·rw [hat] at hq
  rw [hlen]
  split at hq
  ·cases hq
  ·split at hq
   ·cases hq
   ·exact (G.bd j).1 q hq
 ·rw [hlen] at hj
  rw [hat, if_neg (by omega), if_neg (by omega)]
  exact o6 hj
 ·have M := G.mem
  have hh := M.holds (.inr id)
  have hr := M.holds (.inr k)
  have l1 : f8 F ρ (j7 S) (.inr id) = .own (fun b => t0 (ρ id) b ∧ (ρ k).ownBlock ≠ some b) fun w => af5 w (t0 (ρ id)) i l (ρ k) (x5 (ρ id)) := by simp only [f8, h1, It.res]
  have l2 : f8 F ρ (j7 S) (.inr k) = .row 3 1 (ρ k) r.length fun xs w φ => RW w φ (.ints r) xs := by simp only [f8, h2, It.res, D.sz, D.len]
  rw [l1] at hh
  rw [l2] at hr
  obtain ⟨_, hO, hlt⟩ := hh
  obtain ⟨_, xs, o1, o2⟩ := hr
  have hxs : xs = ints r := aV5 (by have := o1.1; simpa using this) o2
  subst hxs
  have hT := hO.back o1
  have hu : ∀ g, (ρ k).ownBlock = some g → t0 (ρ id) g := by
   obtain ⟨ys, S', _, _, q3, q4, q5, _, q2, _⟩ := hO
   obtain ⟨u', a', _, c⟩ := q2 i q5
   rw [q4] at a'; cases a'
   exact fun g hg => q3 g (c g hg)
  have m1 : f8 F ρ (j7 ((S.set id (.tree (.rows (l.set i r)))).set k .dead)) (.inr id) = .own (t0 (ρ id)) fun w => w9 w (t0 (ρ id)) (.rows (l.set i r)) (x5 (ρ id)) := by simp only [f8, hat, if_neg hne, if_true, It.res]
  have m2 : f8 F ρ (j7 ((S.set id (.tree (.rows (l.set i r)))).set k .dead)) (.inr k) = Rs.none := by simp only [f8, hat, if_true, It.res]
  have m3 : ∀ q, q ≠ .inr id → q ≠ .inr k → f8 F ρ (j7 ((S.set id (.tree (.rows (l.set i r)))).set k .dead)) q = f8 F ρ (j7 S) q := fun q e1 e2 => by
   cases q with
   | inl _ => rfl
   | inr j => simp only [f8, hat, if_neg (show ¬ j = k from fun e => e2 (by rw [e])), if_neg (show ¬ j = id from fun e => e1 (by rw [e]))]
  generalize f8 F ρ (j7 ((S.set id (.tree (.rows (l.set i r)))).set k .dead)) = L' at *
  have org : ∀ q b, (L' q).blk b → (q = .inr id ∧ ((f8 F ρ (j7 S) (.inr id)).blk b ∨ (f8 F ρ (j7 S) (.inr k)).blk b)) ∨ (q ≠ .inr id ∧ q ≠ .inr k ∧ (f8 F ρ (j7 S) q).blk b) := fun q b hb => by
   by_cases e1 : q = .inr id
   ·subst e1
    rw [m1] at hb
    refine .inl ⟨rfl, ?_⟩
    rw [l1, l2]
    by_cases e : (ρ k).ownBlock = some b
    ·exact .inr e
    ·exact .inl ⟨hb, e⟩
   ·by_cases e2 : q = .inr k
    ·subst e2; rw [m2] at hb; exact hb.elim
    ·rw [m3 q e1 e2] at hb; exact .inr ⟨e1, e2, hb⟩
  refine M.re (fun q b hb => ?_) (fun p q g hpq h1 h2 => ?_) fun q => ?_
  ·rcases org q b hb with ⟨_, h | h⟩ | ⟨_, _, h⟩
   ·exact ⟨_, h⟩
   ·exact ⟨_, h⟩
   ·exact ⟨_, h⟩
  ·rcases org p g h1 with ⟨e1, f1⟩ | ⟨e1, e1', f1⟩
   ·rcases org q g h2 with ⟨e2, f2⟩ | ⟨e2, e2', f2⟩
    ·exact hpq (e1.trans e2.symm)
    ·rcases f1 with f1 | f1
     ·exact M.dis _ _ g (fun e => e2 e.symm) f1 f2
     ·exact M.dis _ _ g (fun e => e2' e.symm) f1 f2
   ·rcases org q g h2 with ⟨e2, f2⟩ | ⟨e2, e2', f2⟩
    ·rcases f2 with f2 | f2
     ·exact M.dis _ _ g e1 f1 f2
     ·exact M.dis _ _ g e1' f1 f2
    ·exact M.dis _ _ g hpq f1 f2
  ·by_cases e1 : q = .inr id
   ·subst e1
    right; intro φ'; rw [m1]
    refine ⟨fun _ _ h hs => h.same hs, hT, fun b hb => ?_⟩
    by_cases e : (ρ k).ownBlock = some b
    ·exact (World.ownsRow.lt o1 b e).2
    ·exact hlt b ⟨hb, e⟩
   ·by_cases e2 : q = .inr k
    ·subst e2
     right; intro φ'; rw [m2]; exact Rs.none_holds _ _
    ·exact .inl (m3 q e1 e2)
theorem l9.heal0 (G : l9 φ ψ w0 F N m ρ0 ρ S tm a w) (id k i : Nat) (l : List (List Int)) (S1 : List It) (h1 : j7 S id = .hole k i l := by kernel_rfl) (h2 : j7 S k = .row 3 (.ints (l.getD i [])) := by kernel_rfl) (hS : S1 = (S.set id (.tree (.rows l))).set k .dead := by kernel_rfl) : l9 φ ψ w0 F N m ρ0 ρ S1 tm a w := by
 refine G.heal id k i l (l.getD i []) S1 h1 h2 ?_
 have e : l.set i (l.getD i []) = l := by
  apply List.ext_getElem?
  intro j
  rw [List.getElem?_set]
  by_cases h : i = j
  ·subst h
   rw [if_pos rfl]
   by_cases h2 : i < l.length
   ·simp [h2]
   ·simp [h2]
  ·rw [if_neg h]
 rw [e]; exact hS
theorem It.res_ren' {σ : Nat → Nat} {i j : Nat} {ρ : Nat → Value} (x : It) (h : σ i = j) : (x.ren σ).res ρ j = x.res (fun i => ρ (σ i)) i := by
 subst h; exact It.res_ren x
def mv (i n j : Nat) : Nat := if natEq j i then n else j
theorem aq4 {f : AV → AV} {t : Nat} {y : AV} : ∀ {tm : List (Nat × AV)}, r8 (tm.map fun p => (p.1, f p.2)) t = some y → ∃ x, r8 tm t = some x ∧ y = f x
 | [], h => by cases h
 | (k, z) :: r, h => by
  simp only [r8, bI5] at h ⊢
  split at h
  ·rename_i hk; cases h; exact ⟨z, by rw [if_pos hk], rfl⟩
  ·rename_i hk
   obtain ⟨x, h1, h2⟩ := aq4 h
   exact ⟨x, by rw [if_neg hk]; exact h1, h2⟩
theorem bq9 {i n : Nat} {x : AV} : ∀ j ∈ (x.ren (mv i n)).ids, (∃ k ∈ x.ids, mv i n k = j) := by
 have key : (∀ x : AV, ∀ j ∈ (x.ren (mv i n)).ids, ∃ k ∈ x.ids, mv i n k = j) ∧ (∀ l : List AV, ∀ j ∈ AV.idsL (AV.renL (mv i n) l), ∃ k ∈ AV.idsL l, mv i n k = j) := by
  have hL : ∀ (l : List AV), (∀ x ∈ l, ∀ j ∈ (x.ren (mv i n)).ids, ∃ k ∈ x.ids, mv i n k = j) → ∀ j ∈ AV.idsL (AV.renL (mv i n) l), ∃ k ∈ AV.idsL l, mv i n k = j := by
   intro l
   induction l with
   | nil => intro _ j hj; cases hj
   | cons y r ih =>
    intro h j hj
    simp only [AV.renL, AV.idsL, bH4] at hj ⊢
    rcases hj with hj | hj
    ·obtain ⟨k, h1, h2⟩ := h y bH0 j hj
     exact ⟨k, .inl h1, h2⟩
    ·obtain ⟨k, h1, h2⟩ := ih (fun x hx => h x (bH6 _ hx)) j hj
     exact ⟨k, .inr h1, h2⟩
  have hx : ∀ x : AV, ∀ j ∈ (x.ren (mv i n)).ids, ∃ k ∈ x.ids, mv i n k = j := fun x => goX hL x
  exact ⟨hx, fun l => hL l fun x _ => hx x⟩
 exact key.1 x
where
 goX {i n : Nat} (hL : ∀ (l : List AV), (∀ x ∈ l, ∀ j ∈ (x.ren (mv i n)).ids, ∃ k ∈ x.ids, mv i n k = j) → ∀ j ∈ AV.idsL (AV.renL (mv i n) l), ∃ k ∈ AV.idsL l, mv i n k = j) : ∀ x : AV, ∀ j ∈ (x.ren (mv i n)).ids, ∃ k ∈ x.ids, mv i n k = j
  | .v _, j, hj => by cases hj
  | .ptr a b, j, hj => ⟨a, bI1.2 rfl, (bI1.1 hj).symm⟩
  | .ea a b c d, j, hj => ⟨a, bI1.2 rfl, (bI1.1 hj).symm⟩
  | .ref a, j, hj => ⟨a, bI1.2 rfl, (bI1.1 hj).symm⟩
  | .tref a, j, hj => ⟨a, bI1.2 rfl, (bI1.1 hj).symm⟩
  | .agg l, j, hj => hL l (fun x _ => goX hL x) j hj
  | .tup l, j, hj => hL l (fun x _ => goX hL x) j hj
  | .fn _ l, j, hj => hL l (fun x _ => goX hL x) j hj
  | .bm _ l, j, hj => hL l (fun x _ => goX hL x) j hj
theorem l9.shift (G : l9 φ ψ w0 F N m ρ0 ρ S tm a w) (i n : Nat) (S1 : List It) (tm1 : List (Nat × AV)) (hn : (natEq S.length n && decide (i < n)) = true := by kernel_rfl) (hS : S1 = (S.map (It.ren (mv i n))).set i .dead ++ [(j7 S i).ren (mv i n)] := by kernel_rfl) (ht : tm1 = tm.map (fun p => (p.1, p.2.ren (mv i n))) := by kernel_rfl) :
  ∃ ρ', l9 φ ψ w0 F N m ρ0 ρ' S1 tm1 a w := by
 subst hS
 subst ht
 simp only [bF9, natEq, beq_iff_eq, decide_eq_true_eq] at hn
 obtain ⟨hn, hin⟩ := hn
 have hlen : ((S.map (It.ren (mv i n))).set i .dead ++ [(j7 S i).ren (mv i n)]).length = n + 1 := by simp [hn]
 have hat : ∀ j, j7 ((S.map (It.ren (mv i n))).set i .dead ++ [(j7 S i).ren (mv i n)]) j = if j = n then (j7 S i).ren (mv i n) else if j = i then .dead else (j7 S j).ren (mv i n) := fun j => by
  by_cases e : j = n
  ·subst e
   rw [if_pos rfl]
   simp only [j7, bG1]
   rw [bJ7 (by simp [hn])]
   simp [hn]
  ·rw [if_neg e]
   by_cases e2 : j = i
   ·subst e2
    rw [if_pos rfl]
    simp only [j7, bG1]
    rw [bJ0 (by simp; omega)]
    simp [show j < S.length by omega]
   ·rw [if_neg e2]
    simp only [j7, bG1]
    rcases bI9 j n with h | h
    ·rw [bJ0 (by simp; omega), List.getElem?_set_ne (fun h => e2 h.symm), List.getElem?_map, bG0 (by omega)]
     rfl
    ·rw [bH9 (by simp; omega), bH9 (by omega)]; rfl
 have hbd : ∀ x : AV, (∀ j ∈ x.ids, j < n) → ∀ j ∈ (x.ren (mv i n)).ids, j < n + 1 := fun x h j hj => by
  obtain ⟨k, h1, h2⟩ := bq9 j hj
  have := h k h1
  rw [← h2]; unfold mv
  split <;> omega
 let ρ1 : Nat → Value := fun j => if j = n then ρ i else ρ j
 have hmv : ∀ j, j < n → ρ1 (mv i n j) = ρ j := fun j hj => by
  show (if mv i n j = n then ρ i else ρ (mv i n j)) = ρ j
  by_cases e : j = i
  ·subst e; simp [mv, natEq]
  ·have h : mv i n j = j := by simp [mv, natEq, e]
   rw [h, if_neg (by omega)]
 have hval : ∀ x : AV, (∀ j ∈ x.ids, j < n) → (x.ren (mv i n)).val ρ1 = x.val ρ := fun x h => by
  rw [AV.val_ren]
  exact AV.val_congr x fun j hj => hmv j (h j hj)
 have hids : ∀ j, ∀ q ∈ (j7 S j).ids, q < n := fun j q hq => by have := (G.bd j).1 q hq; omega
 have hitem : ∀ j, ∀ q ∈ ((j7 S j).ren (mv i n)).ids, q < n + 1 := fun j q hq => by
  cases hx : j7 S j with
  | box cs =>
   rw [hx] at hq
   have h1 := hids j
   rw [hx] at h1
   exact hbd (.agg cs) h1 q hq
  | hole k d ls =>
   rw [hx] at hq
   have h1 := hids j
   rw [hx] at h1
   exact hbd (.ref k) h1 q hq
  | _ => rw [hx] at hq; cases hq
 refine ⟨ρ1, G.size, G.defs, fun t y hy => ?_, fun t y hy j hj => ?_, fun j => ⟨fun q hq => ?_, fun hj => o6 hj⟩, ?_, ?_, fun j hj => ?_⟩
 ·obtain ⟨x, h1, rfl⟩ := aq4 hy
  rw [G.tmv t x h1, hval x fun j hj => by have := G.tmi t x h1 j hj; omega]
 ·obtain ⟨x, h1, rfl⟩ := aq4 hy
  rw [hlen]
  exact hbd x (fun j hj => by have := G.tmi t x h1 j hj; omega) j hj
 ·rw [hlen]
  rw [hat] at hq
  split at hq
  ·exact hitem i q hq
  ·split at hq
   ·cases hq
   ·exact hitem j q hq
 ·refine G.mem.map (fun k : ι ⊕ Nat => (match k with | .inl q => some (.inl q) | .inr j => if j = n then some (.inr i) else if j = i then none else some (.inr j) : Option (ι ⊕ Nat))) ?_ ?_
  ·intro k k' x h1 h2
   match k, k' with
   | .inl q, .inl q' => simp at h1 h2; rw [← h1] at h2; simpa using h2.symm
   | .inl q, .inr j => simp at h1; subst h1; simp at h2; split at h2 <;> simp at h2
   | .inr j, .inl q => simp at h2; subst h2; simp at h1; split at h1 <;> simp at h1
   | .inr j, .inr j' =>
    simp only at h1 h2
    by_cases e1 : j = n <;> by_cases e2 : j' = n
    ·rw [e1, e2]
    ·rw [if_pos e1] at h1
     rw [if_neg e2] at h2
     by_cases e3 : j' = i
     ·rw [if_pos e3] at h2; cases h2
     ·rw [if_neg e3] at h2
      simp at h1 h2
      rw [← h1] at h2
      exact absurd (Sum.inr.inj h2) e3
    ·rw [if_pos e2] at h2
     rw [if_neg e1] at h1
     by_cases e3 : j = i
     ·rw [if_pos e3] at h1; cases h1
     ·rw [if_neg e3] at h1
      simp at h1 h2
      rw [← h2] at h1
      exact absurd (Sum.inr.inj h1) e3
    ·rw [if_neg e1] at h1
     rw [if_neg e2] at h2
     by_cases e3 : j = i
     ·rw [if_pos e3] at h1; cases h1
     ·by_cases e4 : j' = i
      ·rw [if_pos e4] at h2; cases h2
      ·rw [if_neg e3] at h1
       rw [if_neg e4] at h2
       simp at h1 h2
       rw [← h1] at h2
       rw [Sum.inr.inj h2]
  ·intro k
   match k with
   | .inl q => exact .inl ⟨_, rfl, rfl⟩
   | .inr j =>
    by_cases e : j = n
    ·refine .inl ⟨.inr i, by simp [e], ?_⟩
     simp only [f8]
     rw [hat, if_pos e]
     subst e
     have h1 : mv i j i = j := by simp [mv, natEq]
     rw [It.res_ren' (j7 S i) h1]
     exact It.res_congr _ (fun q hq => hmv q (hids i q hq)) (.inr (.inr (hmv i hin)))
    ·by_cases e2 : j = i
     ·refine .inr ?_
      simp only [f8]
      rw [hat, if_neg e, if_pos e2]
      rfl
     ·refine .inl ⟨.inr j, by simp [e, e2], ?_⟩
      simp only [f8]
      rw [hat, if_neg e, if_neg e2]
      rcases bI9 j n with hj | hj
      ·have h1 : mv i n j = j := by simp [mv, natEq, e2]
       rw [It.res_ren' (j7 S j) h1]
       exact It.res_congr _ (fun q hq => hmv q (hids j q hq)) (.inr (.inr (hmv j hj)))
      ·rw [o6 (by omega)]; rfl
 ·have := G.le; rw [hlen]; omega
 ·have := G.le
  show (if j = n then ρ i else ρ j) = ρ0 j
  rw [if_neg (by omega)]; exact G.old j hj
end
section
variable {e : b6} {l : List G2} {fr : List Int} {n reg : Int} {k : Nat}
end
theorem Y1 (b : List UInt8) (j : Int) (r0 : 0 ≤ j) (r1 : j ≤ 900000000) : c8.ok Try.prog ⟨158, [.ptr 0 0], [.box [.ref 1, iA j], dY b], [.box [.ref 1, iA (j + 1)], dY b], iA (nm b j vaL)⟩ := by
 refine z7 6 Try.func158 [.box [.ref 1, iA j], dY b] [(0, .ptr 0 0)] fun G => ?_; refine wp_seq (c7 G b8 [(2, iA 0)] fun G => b0 (wp_seq (d7 G (n8 2 [0, 1, 10] (c8.lend (D9 b j ([0] ++ ([1] ++ ([2] ++ ([3] ++ ([255] ++ ([128] ++ ([7] ++ ([4] ++ ([100] ++ []))))))))) (List.cons_ne_nil _ _) (by assumption) (by omega)) [.no, .no, .row 3])) [0, 1] [.box [.ref 1, iA (j + 1)], dY b] [(2, iA (nm b j ([0] ++ ([1] ++ ([2] ++ ([3] ++ ([255] ++ ([128] ++ ([7] ++ ([4] ++ ([100] ++ [])))))))))))] fun G => b0 (wp_ret ?_)))); exact F8 G [0, 1]
section
variable {b : List UInt8} {j i at0 n X : Int} {nv na : Nat} {ks : List UInt8} {k : Nat} {x : UInt8}
theorem bD3 {v : Int} (hk : k < 4) (h : ptD b (j + k) nv na at0 n (ks.getD k 0) = v) : psD b j nv na at0 n ks (k + 1) = (psD b j nv na at0 n ks k).set k v := by rw [a69 b j nv na at0 n ks hk, h]
def RnR (b : List UInt8) (j at0 n : Int) (nv na : Nat) (R : Int → Nat → List Int) : Prop := ∀ X k, R X k = psD b (j + 1) nv na at0 n (ah2 X) k
variable {R : Int → Nat → List Int}
theorem RnR.len (h : RnR b j at0 n nv na R) (X : Int) (k : Nat) : (R X k).length = 4 := by rw [h X k, aV9]
theorem RnR.start (h : RnR b j at0 n nv na R) (X : Int) : R X 0 = [0, 0, 0, 0] := h X 0
theorem RnR.next (h : RnR b j at0 n nv na R) {X v : Int} (hk : k < 4) (hp : ptD b (j + 1 + k) nv na at0 n ((ah2 X).getD k 0) = v) : R X (k + 1) = (R X k).set k v := by rw [h X (k + 1), h X k]; exact bD3 hk hp
end
abbrev mA (r : Nat) : AV := .agg [.ref r, .ref (r + 1)]
abbrev mT (r : Nat) : AV := .agg [.ref r, .tref (r + 1)]
abbrev mS (m : t3) : List It := [dI m.vals, dR m.arrs]
abbrev mO (m : t3) : List It := [.row 3 (.ints m.vals), .tree (.rows m.arrs)]
theorem be2 {l : List (List Int)} {k : Nat} (h : k < l.length) : l.take (k + 1) = l.take k ++ [l.getD k []] := by
 rw [m0 _ _ h, f7 h]
theorem aG1 {l : List (List Int)} {k : Nat} (h : l.length ≤ k) : l.take k = l := bG9 h
abbrev aT6 : It := .box [.v (.slice none 0 0), .v (.slice none 0 0)]
theorem bc7 (xs : List Int) (rs : List (List Int)) (hx : xs.length ≤ 1048576) (hr : rs.length ≤ 1048576) (hi : ∀ a ∈ rs, a.length ≤ 1048576) : c8.ok Try.prog ⟨112, [mA 0], [dI xs, dR rs], [dI xs, dR rs, .row 3 (.ints xs), .tree (.rows rs)], mT 2⟩ := by
 refine z7 30 Try.func112 [dI xs, dR rs] [(0, .agg [.ref 0, .ref 1])] fun G => ?_; refine wp_seq (d7 G b8 [0, 1, 2, 10] [dI xs, dR rs, .box [.ref 0, .ref 1], aT6] [(1, .ptr 2 0), (2, .ptr 3 0)] fun G => b0 (wp_seq (P5 G b8 [0, 1, 2, 3, 28, 44] [dI xs, dR rs, .box [.ref 0, .ref 1], aT6, .row 3 (D.ints ([] ++ xs)), .box [.ref 4, .v (.slice none 0 0)]] [(1, .ptr 2 0), (2, .ptr 3 0), (3, .ptr 5 0)] (aP ((0 : Nat) + xs.length) 8 []) (aK (by omega) bG8) fun G => b0 (wp_seq (wp_seq (y5 G b8 [(1, .ptr 2 0), (2, .ptr 3 0), (3, .ptr 5 0), (4, iA 0)] fun G => b0 (wp_block ?_))))))); obtain ⟨ρ, G⟩ := G.nilT 6 (.rows []) [dI xs, dR rs, .box [.ref 0, .ref 1], .box [.v (.slice none 0 0), .v (.slice none 0 0)], .row 3 (D.ints ([] ++ xs)), .box [.ref 4, .tref 6]] [(1, .ptr 2 0), (2, .ptr 3 0), (3, .ptr 5 0), (4, iA 0)]; refine l7 (κ := Nat) (fun k => k ≤ rs.length) (fun k => rs.length - k) (fun k => [dI xs, dR rs, .box [.ref 0, .ref 1], .box [.v (.slice none 0 0), .v (.slice none 0 0)], .row 3 (D.ints ([] ++ xs)), .box [.ref 4, .tref 6], .tree (.rows (rs.take k))]) (fun k => [(1, .ptr 2 0), (2, .ptr 3 0), (3, .ptr 5 0), (4, iA k)]) 0 (by omega) (l9.at G _ _) ?_; clear G; intro k ρ a w hp G; replace G := l9.at G [dI xs, dR rs, .box [.ref 0, .ref 1], aT6, .row 3 (D.ints ([] ++ xs)), .box [.ref 4, .tref 6], .tree (D.rows (bG3 k rs))] [(1, .ptr 2 0), (2, .ptr 3 0), (3, .ptr 5 0), (4, iA k)]; refine wp_seq (wp_seq (c7 G b8 [(14, bA (decide ((k : Int) < rs.length)))] fun G => b0 (Q7 G (fun h0 q0 => ?_) fun h0 q0 => ?_)))
 ·refine wp_exit (l6 (l6 (l5 (b0 (wp_seq (d7 G b8 [0, 1, 3, 4, 6] [dI xs, dR rs, .box [.ref 3, .tref 4], .row 3 (D.ints ([] ++ xs)), .tree (D.rows (bG3 k rs))] [(2, .ptr 2 0)] fun G => b0 (wp_ret ?_))))))); exact F8 G [0, 1, 3, 4] (by show _ = mR [0, 1, 3, 4] [dI xs, dR rs, .row 3 (D.ints xs), .tree (D.rows rs)]; have e1 : (bG3 k rs : List (List Int)) = (rs) := (aG1 (by omega)); (first | rw [e1] | simp only [e1]) <;> rfl)
 ·refine wp_skip (b0 (wp_seq (wp_block (L7 G b8 [0, 1, 0, 0, 8, 0, 56, 120, 252, 508, 1023, 2047, 4095] [0, 1, 2, 3, 4, 5, 87] [dI xs, dR rs, .box [.ref 0, .ref 1], aT6, .row 3 (D.ints ([] ++ xs)), .box [.ref 4, .tref 6], .tree (D.rows (bG3 k rs ++ [[] ++ rs.getD k []]))] [(1, .ptr 2 0), (2, .ptr 3 0), (3, .ptr 5 0), (4, iA k)] (iX k k rs.length (aP ((0 : Nat) + (rs.getD k []).length) 8 (aP ((bG3 k rs).length + [[] ++ rs.getD k []].length) 24 []))) (iK (by omega) (aK (by have h9 := hi (rs.getD k []) (by rw [f7 (by omega)]; exact bH8 _); omega) (aK (by simp; omega) bG8))) fun G => j4 (b0 (C1 G b8 [(4, iA ((k : Int) + 1))] [wO ((k : Int) + 1)] (o1 (by omega)) fun G => b0 ?_)))))); exact N8 G (k + 1) (by omega) (by omega) (rg 7) (by have e1 : (bG3 (k + 1) rs : List (List Int)) = (bG3 k rs ++ [[] ++ rs.getD k []]) := (be2 (by omega)); (first | rw [e1] | simp only [e1]) <;> rfl)
abbrev Z5 : It := .box [.v (.slice none 0 0), .v (.slice none 0 0)]
abbrev E6 (r0 : List (Nat × AV)) : List (Nat × AV) := (0, .ptr 0 0) :: (3, .ptr 5 0) :: (4, .ptr 6 0) :: (5, .ptr 7 0) :: r0
abbrev aF0 (b : List UInt8) (j : Int) (vs : List Int) (i : Nat) (r0 : List It) : List It := .box [.ref 8, .tref 9] :: .row 3 (D.ints (Q6 b j vs.length)) :: .tree (D.rows (arD b (j + (vs.length : Int)) i)) :: r0
abbrev aE9 (r0 : List It) : List It := .box (pL 2) :: .box [.v (.slice none 0 0), .v (.slice none 0 0)] :: r0
theorem aS0 (b : List UInt8) (j : Int) (vs ars : List Int) (bd : List b5) (h1 : vs.length ≤ 1000000) (h2 : ars.length ≤ 1000000) (r0 : 0 ≤ j) (r1 : j ≤ 100000000) : c8.ok Try.prog ⟨82, [.ptr 0 0, pA 2], [.box [.ref 1, iA j], dY b, dI vs, dI ars, dT bd], [.box [.ref 1, iA (j + vs.length + 4 * ars.length)], dY b, dI vs, dI ars, dT bd] ++ mS (mmD b j vs.length ars.length), mA 5⟩ := by
  refine z7 49 Try.func82 [.box [.ref 1, iA j], dY b, dI vs, dI ars, dT bd] [(0, .ptr 0 0), (1, pA 2)] fun G => ?_; refine wp_seq (d7 G b8 [0, 1, 2, 3, 4, 5, 13] [.box [.ref 1, iA j], dY b, dI vs, dI ars, dT bd, .box (pL 2), Z5] [(0, .ptr 0 0), (3, .ptr 5 0), (4, .ptr 6 0)] fun G => b0 (wp_seq (d7 G b8 [0, 1, 2, 3, 4, 5, 6, 15] [.box [.ref 1, iA j], dY b, dI vs, dI ars, dT bd, .box (pL 2), Z5, Z5] (E6 []) fun G => b0 (wp_seq (wp_seq (y5 G b8 (E6 [(6, iA 0)]) fun G => b0 (wp_block ?_))))))); obtain ⟨ρ, G⟩ := G.nil 8 3 (.ints []) 1 (.box [.ref 1, iA j] :: dY b :: dI vs :: dI ars :: dT bd :: (aE9 [.box [.ref 8, .v (.slice none 0 0)]])) (E6 [(6, iA 0)]); replace G := G.as (.box [.ref 1, iA (j + 0)] :: dY b :: dI vs :: dI ars :: dT bd :: (aE9 [.box [.ref 8, .v (.slice none 0 0)], .row 3 (D.ints (Q6 b j 0))])) (E6 [(6, iA 0)]) (by have e1 : (j + 0 : Int) = (j) := (by omega); (first | rw [e1] | simp only [e1]) <;> rfl) (by kernel_rfl); refine l7 (κ := Nat) (fun k => k ≤ vs.length) (fun k => vs.length - k) (fun k => [.box [.ref 1, iA (j + k)], dY b, dI vs, dI ars, dT bd, .box (pL 2), .box [.v (.slice none 0 0), .v (.slice none 0 0)], .box [.ref 8, .v (.slice none 0 0)], .row 3 (.ints (Q6 b j k))]) (fun k => [(0, .ptr 0 0), (3, .ptr 5 0), (4, .ptr 6 0), (5, .ptr 7 0), (6, iA k)]) 0 (by omega) (l9.at G _ _) ?_; clear G; intro k ρ a w hp G; replace G := l9.at G [.box [.ref 1, iA (j + (k : Int))], dY b, dI vs, dI ars, dT bd, .box (pL 2), Z5, .box [.ref 8, .v (.slice none 0 0)], .row 3 (D.ints (Q6 b j k))] (E6 [(6, iA k)]); have hvl := aa3 b j k; refine wp_seq (wp_seq (y5 G b8 (E6 [(6, iA k), (15, bA (decide ((k : Int) < vs.length)))]) fun G => b0 ?_)); cases h0 : (decide ((k : Int) < vs.length))
  ·
   have q0 := O8 h0
   obtain rfl : k = vs.length := by omega
   refine rF G (decide ((vs.length : Int) < vs.length)) (by assumption) (wp_exit (l6 (l6 (l5 (b0 (wp_seq (wp_seq (y5 G b8 (E6 [(7, iA 0)]) fun G => b0 (wp_block ?_))))))))); obtain ⟨ρ, G⟩ := G.nilT 9 (.rows []) (.box [.ref 1, iA (j + (vs.length : Int))] :: dY b :: dI vs :: dI ars :: dT bd :: (aE9 [.box [.ref 8, .tref 9], .row 3 (D.ints (Q6 b j vs.length))])) (E6 [(7, iA 0)]); replace G := G.as (.box [.ref 1, iA (j + (vs.length : Int) + 4 * (0 : Int))] :: dY b :: dI vs :: dI ars :: dT bd :: (aE9 [.box [.ref 8, .tref 9], .row 3 (D.ints (Q6 b j vs.length)), .tree (D.rows (arD b (j + (vs.length : Int)) 0))])) (E6 [(7, iA 0)]) (by have e1 : (j + (vs.length : Int) + 4 * (0 : Int) : Int) = (j + (vs.length : Int)) := (by omega); (first | rw [e1] | simp only [e1]) <;> rfl) (by kernel_rfl); refine l7 (κ := Nat) (fun i => i ≤ ars.length) (fun i => ars.length - i) (fun i => [.box [.ref 1, iA (j + vs.length + 4 * i)], dY b, dI vs, dI ars, dT bd, .box (pL 2), .box [.v (.slice none 0 0), .v (.slice none 0 0)], .box [.ref 8, .tref 9], .row 3 (D.ints (Q6 b j vs.length)), .tree (.rows (arD b (j + vs.length) i))]) (fun i => [(0, .ptr 0 0), (3, .ptr 5 0), (4, .ptr 6 0), (5, .ptr 7 0), (7, iA i)]) 0 (by omega) (l9.at G _ _) ?_; clear G; intro i ρ a w hp G; replace G := l9.at G (.box [.ref 1, iA (j + (vs.length : Int) + 4 * (i : Int))] :: dY b :: dI vs :: dI ars :: dT bd :: .box (pL 2) :: Z5 :: (aF0 b j vs i [])) (E6 [(7, iA i)]); have hal := bd6 b (j + vs.length) i; refine wp_seq (wp_seq (y5 G b8 (E6 [(7, iA i), (29, bA (decide ((i : Int) < ars.length)))]) fun G => b0 ?_)); cases h1 : (decide ((i : Int) < ars.length))
   ·
    have q1 := O8 h1
    obtain rfl : i = ars.length := by omega
    refine rF G (decide ((ars.length : Int) < ars.length)) (by assumption) (wp_exit (l6 (l6 (l5 (b0 (wp_seq (d7 G b8 [0, 1, 2, 3, 4, 6, 8, 9] [.box [.ref 1, iA (j + (vs.length : Int) + 4 * (ars.length : Int))], dY b, dI vs, dI ars, dT bd, .box [.ref 6, .tref 7], .row 3 (D.ints (Q6 b j vs.length)), .tree (D.rows (arD b (j + (vs.length : Int)) ars.length))] [(4, .ptr 5 0)] fun G => b0 (wp_ret ?_)))))))); obtain ⟨ρ, G⟩ := G.frz [.no, .no, .no, .no, .no, .no, .row 3, .tree] [.box [.ref 1, iA (j + (vs.length : Int) + 4 * (ars.length : Int))], dY b, dI vs, dI ars, dT bd, .box [.ref 6, .ref 7], dI (Q6 b j vs.length), dR (arD b (j + (vs.length : Int)) ars.length)] [(4, .ptr 5 0)]; exact F8 G [0, 1, 2, 3, 4, 6, 7]
   ·
    have q1 := O7 h1; refine rT G _ h1 (wp_skip (b0 (wp_seq (wp_block (wp_seq (d7 G b8 (rg 11) (.box [.ref 1, iA (j + (vs.length : Int) + 4 * (i : Int))] :: dY b :: dI vs :: dI ars :: dT bd :: .box (pL 2) :: Z5 :: (aF0 b j vs i [.row 3 (D.ints [])])) (E6 [(7, iA i), (8, .ref 10)]) fun G => b0 (wp_seq (wp_seq (y5 G b8 (E6 [(7, iA i), (8, .ref 10), (9, iA 0)]) fun G => b0 (wp_block ?_)))))))))); replace G := G.as (.box [.ref 1, iA (j + (vs.length : Int) + 4 * (i : Int) + 0)] :: dY b :: dI vs :: dI ars :: dT bd :: (aE9 (aF0 b j vs i [.row 3 (D.ints (Q6 b (j + (vs.length : Int) + 4 * (i : Int)) 0))]))) (E6 [(7, iA i), (8, .ref 10), (9, iA 0)]) (by have e1 : (j + (vs.length : Int) + 4 * (i : Int) + 0 : Int) = (j + (vs.length : Int) + 4 * (i : Int)) := (by omega); (first | rw [e1] | simp only [e1]) <;> rfl) (by kernel_rfl); refine l7 (κ := Nat) (fun k2 => k2 ≤ 4) (fun k2 => 4 - k2) (fun k2 => [.box [.ref 1, iA (j + vs.length + 4 * i + k2)], dY b, dI vs, dI ars, dT bd, .box (pL 2), .box [.v (.slice none 0 0), .v (.slice none 0 0)], .box [.ref 8, .tref 9], .row 3 (D.ints (Q6 b j vs.length)), .tree (D.rows (arD b (j + (vs.length : Int)) i)), .row 3 (.ints (Q6 b (j + vs.length + 4 * i) k2))]) (fun k2 => [(0, .ptr 0 0), (3, .ptr 5 0), (4, .ptr 6 0), (5, .ptr 7 0), (7, iA i), (8, .ref 10), (9, iA k2)]) 0 (by omega) (l9.at G _ _) ?_; clear G; intro k2 ρ a w hp G; replace G := l9.at G (.box [.ref 1, iA (j + (vs.length : Int) + 4 * (i : Int) + (k2 : Int))] :: dY b :: dI vs :: dI ars :: dT bd :: .box (pL 2) :: Z5 :: (aF0 b j vs i [.row 3 (D.ints (Q6 b (j + (vs.length : Int) + 4 * (i : Int)) k2))])) (E6 [(7, iA i), (8, .ref 10), (9, iA k2)]); have hvl2 := aa3 b (j + vs.length + 4 * i) k2; refine wp_seq (wp_seq (y5 G b8 (E6 [(7, iA i), (8, .ref 10), (9, iA k2), (34, bA (decide ((k2 : Int) < 4)))]) fun G => b0 ?_)); cases h2 : (decide ((k2 : Int) < 4))
    ·
     have q2 := O8 h2
     obtain rfl : k2 = 4 := by omega
     refine rF G false (by kernel_rfl) (wp_exit (l6 (l6 (l5 (b0 (P5 G b8 [0, 1, 2, 3, 4, 5, 6, 7, 8, 43] [.box [.ref 1, iA (j + (vs.length : Int) + 4 * (i : Int) + 4)], dY b, dI vs, dI ars, dT bd, .box (pL 2), Z5, .box [.ref 8, .tref 9], .row 3 (D.ints (Q6 b j vs.length)), .tree (D.rows (arD b (j + (vs.length : Int)) i ++ [Q6 b (j + (vs.length : Int) + 4 * (i : Int)) 4]))] (E6 [(7, iA i)]) (aP ((arD b (j + (vs.length : Int)) i).length + [Q6 b (j + (vs.length : Int) + 4 * (i : Int)) (4 : Nat)].length) 24 []) (aK (by simp; omega) bG8) fun G => j4 (b0 (C1 G b8 [(7, iA ((i : Int) + 1))] [wO ((i : Int) + 1)] (o1 (by omega)) fun G => b0 ?_)))))))); exact N8 G (i + 1) (by omega) (by omega) (rg 10) (by have e1 : (j + (vs.length : Int) + 4 * (↑(i + 1) : Int) : Int) = (j + (vs.length : Int) + 4 * (i : Int) + 4) := (by omega); have e2 : (arD b (j + (vs.length : Int)) (i + 1) : List (List Int)) = (arD b (j + (vs.length : Int)) i ++ [Q6 b (j + (vs.length : Int) + 4 * (i : Int)) 4]) := (bk2 _ _ _); (first | rw [e1, e2] | simp only [e1, e2]) <;> rfl)
    · have q2 := O7 h2; refine rT G _ h2 (wp_skip (b0 (wp_seq (wp_block (P5 G (n8 2 [0, 1] (Y1 b (j + (vs.length : Int) + 4 * (i : Int) + (k2 : Int)) (by omega) (by omega))) [0, 1, 2, 3, 4, 5, 6, 7, 8, 9, 43] (.box [.ref 1, iA (j + (vs.length : Int) + 4 * (i : Int) + (k2 : Int) + 1)] :: dY b :: dI vs :: dI ars :: dT bd :: .box (pL 2) :: Z5 :: (aF0 b j vs i [.row 3 (D.ints (Q6 b (j + (vs.length : Int) + 4 * (i : Int)) k2 ++ ([nm b (j + (vs.length : Int) + 4 * (i : Int) + (k2 : Int)) vaL] ++ [])))])) (E6 [(7, iA i), (8, .ref 10), (9, iA k2)]) (aP ((Q6 b (j + (vs.length : Int) + 4 * (i : Int)) k2).length + ([nm b (j + (vs.length : Int) + 4 * (i : Int) + (k2 : Int)) vaL] ++ []).length) 8 []) (aK (by simp; omega) bG8) fun G => j4 (b0 (C1 G b8 [(9, iA ((k2 : Int) + 1))] [wO ((k2 : Int) + 1)] (o1 (by omega)) fun G => b0 ?_))))))); exact N8 G (k2 + 1) (by omega) (by omega) (rg 11) (by have e1 : (j + (vs.length : Int) + 4 * (i : Int) + (↑(k2 + 1) : Int) : Int) = (j + (vs.length : Int) + 4 * (i : Int) + (k2 : Int) + 1) := (by omega); have e2 : (Q6 b (j + (vs.length : Int) + 4 * (i : Int)) (k2 + 1) : List Int) = (Q6 b (j + (vs.length : Int) + 4 * (i : Int)) k2 ++ ([nm b (j + (vs.length : Int) + 4 * (i : Int) + (k2 : Int)) vaL] ++ [])) := (az6 _ _ _); (first | rw [e1, e2] | simp only [e1, e2]) <;> rfl)
  · have q0 := O7 h0; refine rT G _ h0 (wp_skip (b0 (wp_seq (wp_block (L7 G (n8 3 [0, 1] (Y1 b (j + (k : Int)) (by omega) (by omega))) [0, 1, 0, 4, 12, 31, 63, 127] [0, 1, 2, 3, 4, 5, 6, 7, 49] [.box [.ref 1, iA (j + (k : Int) + 1)], dY b, dI vs, dI ars, dT bd, .box (pL 2), Z5, .box [.ref 8, .v (.slice none 0 0)], .row 3 (D.ints (Q6 b j k ++ ([nm b (j + (k : Int)) vaL] ++ [])))] (E6 [(6, iA k)]) (aP ((Q6 b j k).length + ([nm b (j + (k : Int)) vaL] ++ []).length) 8 []) (aK (by simp; omega) bG8) fun G => j4 (b0 (C1 G b8 [(6, iA ((k : Int) + 1))] [wO ((k : Int) + 1)] (o1 (by omega)) fun G => b0 ?_))))))); exact N8 G (k + 1) (by omega) (by omega) (rg 9) (by have e1 : (j + (↑(k + 1) : Int) : Int) = (j + (k : Int) + 1) := (by omega); have e2 : (Q6 b j (k + 1) : List Int) = (Q6 b j k ++ ([nm b (j + (k : Int)) vaL] ++ [])) := (az6 _ _ _); (first | rw [e1, e2] | simp only [e1, e2]) <;> rfl)
section
variable {vs ars : List Int} {l : Int} {s : b5} {pc pd : Int}
end
section
variable (vs ars : List Int) (bd : List b5)
theorem a18 : c8.ok Try.prog (C6 16 [pA 0] [dI vs, dI ars, dT bd] (bA (j9 ⟨vs, ars, bd⟩))) := al1 ⟨vs, ars, bd⟩
end
abbrev nvB (n : Int) : Bool := !(decide (0 ≤ n) && decide (n ≤ 255))
theorem bj6 (n : Int) : c8.ok Try.prog (C6 202 [iA n] [] (bA (nvB n))) := by
 refine z7 6 Try.func202 [] [(0, iA n)] fun G => ?_; refine wp_seq (c7 G b8 [(2, bA false)] fun G => b0 (wp_seq (c7 G (n8 1 [] (o3 n 0 255)) [(2, .v (.bool !(decide (0 ≤ n) && decide (n ≤ 255))))] fun G => b0 (wp_ret ?_)))); exact F8 G []
theorem bz2 (l : List Int) : c8.ok Try.prog (C6 231 [.ref 0, .fn 202 []] [dI l] (iA (T4 nvB l))) := by
  refine z7 19 Try.func231 [dI l] [(0, .ref 0), (1, .fn 202 [])] fun G => ?_; have hl : l.length ≤ 9223372036854775807 := G.len 0 (d := .ints l) (by kernel_rfl); refine wp_seq (y5 G b8 [(0, .ref 0), (1, .fn 202 []), (4, iA 0)] fun G => b0 (wp_seq (wp_seq (y5 G b8 [(0, .ref 0), (1, .fn 202 []), (4, iA 0), (7, iA (l.length : Int)), (8, iA 0)] fun G => b0 (wp_block ?_))))); refine l7 (κ := Nat) (fun k => k ≤ l.length ∧ (l.take k).any nvB = false) (fun k => l.length - k) (fun k => [dI l]) (fun k => [(0, .ref 0), (1, .fn 202 []), (4, iA 0), (7, iA (l.length : Int)), (8, iA k)]) 0 (⟨bJ2 _, rfl⟩) (l9.at G _ _) ?_; clear G; intro k ρ a w hp G; refine wp_seq (c7 G b8 [(9, bA (decide ((k : Int) < l.length)))] fun G => b0 (wp_seq (Q7 G (fun h0 q0 => ?_) fun h0 q0 => ?_)))
  · refine wp_exit (l6 (l6 (l5 (b0 (wp_seq (c7 G b8 [(4, iA (-1))] fun G => b0 (wp_ret ?_))))))); exact E4 (-1) G [0] (as2 (af4 hp.2 (by omega)))
  ·
   refine wp_skip (b0 (wp_seq (wp_block (wp_seq (c7 G b8 [(5, iA k)] fun G => b0 (wp_seq (C1 G (n8 5 [] (bj6 (l.getD k 0))) [(16, bA (nvB (l.getD k 0)))] (iX k k l.length []) (iK (by omega) bG8) fun G => b0 (rcB G (fun h1 => ?_) fun h1 => ?_))))))))
   · refine wp_skip (j4 (b0 (C1 G b8 [(8, iA ((k : Int) + 1))] [wO ((k : Int) + 1)] (o1 (by omega)) fun G => b0 ?_))); exact N8 G (k + 1) (⟨by omega, af3 (z := 0) hp.2 (by omega) (by assumption)⟩) (by omega) [0]
   · refine wp_seq (c7 G b8 [(4, iA k)] fun G => b0 (wp_ret (o4 (c5 (c5 (o4 (c5 ?_))))))); exact E4 ((k : Int)) G [0] (ay1 (z := 0) (by omega) hp.2 (by assumption))
theorem bz6 (l : List Int) : c8.ok Try.prog (C6 189 [.ref 0, .fn 202 []] [dI l] (bA (l.any nvB))) := by
 refine z7 9 Try.func189 [dI l] [(0, .ref 0), (1, .fn 202 [])] fun G => ?_; refine wp_seq (c7 G b8 [(4, bA false)] fun G => b0 (wp_seq (c7 G (n8 2 [0] (bz2 l)) [(4, bA (decide (T4 nvB l ≥ 0)))] fun G => b0 (wp_ret ?_)))); exact o5 (decide (T4 nvB l ≥ 0)) G [0] ((ay2 _ _).symm)
theorem a40 (l : List Int) : (!l.any nvB) = I1 l := by
 unfold I1
 rw [List.all_eq_not_any_not]
theorem ak3 (l : List Int) : c8.ok Try.prog (C6 154 [.ref 0] [dI l] (bA (I1 l))) := by
 refine z7 6 Try.func154 [dI l] [(0, .ref 0)] fun G => ?_; refine wp_seq (c7 G b8 [(2, bA false)] fun G => b0 (wp_seq (c7 G (n8 1 [0] (bz6 l)) [(2, .v (.bool !l.any nvB))] fun G => b0 (wp_ret ?_)))); exact V5 (.v (.bool !l.any nvB)) G [0] (by have e1 : (I1 l : Bool) = (!l.any nvB) := ((a40 l).symm); (first | rw [e1] | simp only [e1]) <;> rfl)
abbrev naB (a : List Int) : Bool := !(O5 a)
theorem bE2 {a : List Int} (h : ¬ (a.length : Int) = 4) : naB a = true := by unfold naB O5; rw [decide_eq_false (p := a.length = 4) (by omega)]; rfl
theorem bE1 {a : List Int} (h : (a.length : Int) = 4) : naB a = !(I1 a) := by unfold naB O5; rw [decide_eq_true (p := a.length = 4) (by omega)]; rfl
theorem br9 (l : List Int) : c8.ok Try.prog (C6 180 [.ref 0] [dI l] (bA (naB l))) := by
 refine z7 11 Try.func180 [dI l] [(0, .ref 0)] fun G => ?_; refine wp_seq (c7 G b8 [(2, bA false)] fun G => b0 (wp_seq ?_)); cases h0 : ((l.length : Int) != 4)
 ·have q0 := bne_eq_false_iff_eq.1 h0; refine c7 G (s7 (j5 5 [0] (ak3 l) s6) (fc h0 fz) [(4, 0), (5, 0), (6, 0), (1007, 0)]) [(2, .v (.bool !I1 l))] fun G => b0 (wp_ret ?_); exact V5 (.v (.bool !I1 l)) G [0] (by have e1 : (naB l : Bool) = (!I1 l) := (bE1 (by omega)); (first | rw [e1] | simp only [e1]) <;> rfl)
 ·have q0 := bne_iff_ne.1 h0; refine c7 G (A6 (fc h0 fz) [(4, 0), (5, 0), (6, 0), (1007, 0)]) [(2, bA true)] fun G => b0 (wp_ret ?_); exact o5 true G [0] (bE2 (by omega))
theorem bz3 (l : List (List Int)) : c8.ok Try.prog (C6 217 [.ref 0, .fn 180 []] [dR l] (iA (T4 naB l))) := by
  refine z7 19 Try.func217 [dR l] [(0, .ref 0), (1, .fn 180 [])] fun G => ?_; have hl : l.length ≤ 9223372036854775807 := G.len 0 (d := .rows l) (by kernel_rfl); refine wp_seq (y5 G b8 [(0, .ref 0), (1, .fn 180 []), (4, iA 0)] fun G => b0 (wp_seq (wp_seq (y5 G b8 [(0, .ref 0), (1, .fn 180 []), (4, iA 0), (7, iA (l.length : Int)), (8, iA 0)] fun G => b0 (wp_block ?_))))); refine l7 (κ := Nat) (fun k => k ≤ l.length ∧ (l.take k).any naB = false) (fun k => l.length - k) (fun k => [dR l]) (fun k => [(0, .ref 0), (1, .fn 180 []), (4, iA 0), (7, iA (l.length : Int)), (8, iA k)]) 0 (⟨bJ2 _, rfl⟩) (l9.at G _ _) ?_; clear G; intro k ρ a w hp G; refine wp_seq (c7 G b8 [(9, bA (decide ((k : Int) < l.length)))] fun G => b0 (wp_seq (Q7 G (fun h0 q0 => ?_) fun h0 q0 => ?_)))
  · refine wp_exit (l6 (l6 (l5 (b0 (wp_seq (c7 G b8 [(4, iA (-1))] fun G => b0 (wp_ret ?_))))))); exact E4 (-1) G [0] (as2 (af4 hp.2 (by omega)))
  ·
   refine wp_skip (b0 (wp_seq (wp_block (wp_seq (c7 G b8 [(5, iA k)] fun G => b0 (wp_seq (C1 G (n8 5 [33] (br9 (l.getD k []))) [(16, bA (naB (l.getD k [])))] (iX k k l.length []) (iK (by omega) bG8) fun G => b0 (rcB G (fun h1 => ?_) fun h1 => ?_))))))))
   · refine wp_skip (j4 (b0 (C1 G b8 [(8, iA ((k : Int) + 1))] [wO ((k : Int) + 1)] (o1 (by omega)) fun G => b0 ?_))); exact N8 G (k + 1) (⟨by omega, af3 (z := []) hp.2 (by omega) (by assumption)⟩) (by omega) [0]
   · refine wp_seq (c7 G b8 [(4, iA k)] fun G => b0 (wp_ret (o4 (c5 (c5 (o4 (c5 ?_))))))); exact E4 ((k : Int)) G [0] (ay1 (z := []) (by omega) hp.2 (by assumption))
theorem bz7 (l : List (List Int)) : c8.ok Try.prog (C6 179 [.ref 0, .fn 180 []] [dR l] (bA (l.any naB))) := by
 refine z7 9 Try.func179 [dR l] [(0, .ref 0), (1, .fn 180 [])] fun G => ?_; refine wp_seq (c7 G b8 [(4, bA false)] fun G => b0 (wp_seq (c7 G (n8 2 [0] (bz3 l)) [(4, bA (decide (T4 naB l ≥ 0)))] fun G => b0 (wp_ret ?_)))); exact o5 (decide (T4 naB l ≥ 0)) G [0] ((ay2 _ _).symm)
theorem bk1 (l : List (List Int)) : (!l.any naB) = l.all O5 := by
 rw [List.all_eq_not_any_not]
theorem bx3 {nv na : Nat} {m : t3} (h1 : (m.vals.length : Int) = nv) (h2 : (m.arrs.length : Int) = na) (h3 : I1 m.vals = true) : (!m.arrs.any naB) = mfB nv na m := by
 rw [bx4 h1 h2 h3]; exact bk1 _
theorem aS7 (vs ars xs : List Int) (rs : List (List Int)) : c8.ok Try.prog (C6 116 [.ref 0, .ref 1, mA 2] [dI vs, dI ars, dI xs, dR rs] (bA (mfB vs.length ars.length ⟨xs, rs⟩))) := by
  refine z7 31 Try.func116 [dI vs, dI ars, dI xs, dR rs] [(0, .ref 0), (1, .ref 1), (2, .agg [.ref 2, .ref 3])] fun G => ?_; refine wp_seq (d7 G b8 (rg 5) [dI vs, dI ars, dI xs, dR rs, .box [.ref 2, .ref 3]] [(0, .ref 0), (1, .ref 1), (5, .ptr 4 0), (6, bA false)] fun G => b0 (wp_seq (wp_seq ?_))); cases h0 : ((xs.length : Int) != (vs.length : Int))
  ·
   have q0 := bne_eq_false_iff_eq.1 h0; cases h1 : ((rs.length : Int) != (ars.length : Int))
   ·
    have q1 := bne_eq_false_iff_eq.1 h1; refine c7 G (s7 (j5 17 [2] (ak3 xs) s6) (fc h0 (fc h1 fz)) (us [(7, 12, 0), (1013, 1013, 0), (15, 18, 1), (1019, 1019, 1)])) [(26, .v (.bool !I1 xs))] fun G => b0 ?_; cases h2 : (!I1 xs)
    · have q2 : (I1 xs) = true := (Eq.mp (bG7 _) h2); refine rF G _ h2 (wp_skip (b0 (wp_seq (d7 G (n8 2 [3] (bz7 rs)) (rg 4) [dI vs, dI ars, dI xs, dR rs] [(6, .v (.bool !rs.any naB))] fun G => b0 (wp_ret ?_))))); exact V5 (.v (.bool !rs.any naB)) G (rg 4) (by have e1 : (mfB vs.length ars.length (t3.mk xs rs) : Bool) = (!rs.any naB) := ((bx3 (m := ⟨xs, rs⟩) (by dsimp only; omega) (by dsimp only; omega) (by with_reducible assumption)).symm); (first | rw [e1] | simp only [e1]) <;> rfl)
    · have q2 : (I1 xs) = false := (Eq.mp (bG6 _) h2); refine rT G _ h2 (wp_seq (c7 G b8 [] fun G => b0 (wp_ret (c5 ?_)))); exact o5 false G (rg 4) (bx5 (by with_reducible assumption))
   · have q1 := bne_iff_ne.1 h1; refine c7 G (A6 (fc h0 (fc h1 fz)) (us [(7, 12, 0), (1013, 1013, 0), (15, 18, 1), (1019, 1019, 1)])) [(26, bA true)] fun G => b0 (rT G true (by kernel_rfl) (wp_seq (c7 G b8 [] fun G => b0 (wp_ret (c5 ?_))))); exact o5 false G (rg 4) (bx6 (by dsimp only; omega))
  · have q0 := bne_iff_ne.1 h0; refine c7 G (A6 (fc h0 (fc (b := true) rfl fz)) (us [(7, 12, 0), (1013, 1013, 0), (15, 18, 1), (1019, 1019, 1)])) [(26, bA true)] fun G => b0 (rT G true (by kernel_rfl) (wp_seq (c7 G b8 [] fun G => b0 (wp_ret (c5 ?_))))); exact o5 false G (rg 4) (bx7 (by dsimp only; omega))
theorem at2 (vs ars : List Int) (bd : List b5) (xs : List Int) (rs : List (List Int)) : c8.ok Try.prog (C6 91 [pA 0, mA 3] [dI vs, dI ars, dT bd, dI xs, dR rs] (bA (j9 ⟨vs, ars, bd⟩ && mfB vs.length ars.length ⟨xs, rs⟩))) := by
 have hv := a18 (vs := vs) (ars := ars) (bd := bd); refine z7 15 Try.func91 [dI vs, dI ars, dT bd, dI xs, dR rs] [(0, pA 0), (1, .agg [.ref 3, .ref 4])] fun G => ?_; refine wp_seq (d7 G b8 [0, 1, 2, 3, 4, 5, 13] [dI vs, dI ars, dT bd, dI xs, dR rs, .box (pL 0), .box [.ref 3, .ref 4]] [(2, .ptr 5 0), (3, .ptr 6 0), (4, bA false)] fun G => b0 (wp_seq ?_)); cases h0 : (j9 (b7.mk vs ars bd))
 ·refine d7 G (s7 (j5 1 [0, 1, 2] hv s6) (fc h0 fz) (us [(3, 8, 0), (1009, 1009, 0)])) (rg 5) [dI vs, dI ars, dT bd, dI xs, dR rs] [(4, bA false)] fun G => b0 (wp_ret ?_); exact F8 G (rg 5)
 ·refine d7 G (s7 (j5 1 [0, 1, 2] hv (j5 8 [0, 1, 3, 4] (aS7 vs ars xs rs) s6)) (fc h0 fz) (us [(3, 8, 0), (1009, 1009, 0)])) (rg 5) [dI vs, dI ars, dT bd, dI xs, dR rs] [(4, bA (mfB vs.length ars.length (t3.mk xs rs)))] fun G => b0 (wp_ret ?_); exact F8 G (rg 5)
abbrev ac5 : It := .box [.v (.slice none 0 0), .v (.slice none 0 0)]
abbrev aw2 (b : List UInt8) (j : Int) (bit : Int) (p : b7) (m : t3) : It := .row 3 (D.ints (s5 b bit p.vars j m.vals m.vals.length).fst)
abbrev I8 (bit : Int) (r0 : List (Nat × AV)) : List (Nat × AV) := (0, .ptr 0 0) :: (3, iA bit) :: (5, .ptr 7 0) :: (8, .ptr 8 0) :: (9, .ptr 11 0) :: r0
abbrev U3 (b : List UInt8) (p : b7) (m : t3) (r0 : List It) : List It := dY b :: dI p.vars :: dI p.arrays :: dT p.body :: dI m.vals :: dR m.arrs :: .box (pL 2) :: r0
theorem aH6 (b : List UInt8) (j bit : Int) (p : b7) (m : t3) (hv : m.vals.length = p.vars.length) (ha : m.arrs.length = p.arrays.length) (hr : m.arrs.all O5 = true) (r0 : 0 ≤ j) (r1 : j ≤ 100000000) (r2 : m.vals.length ≤ 1000000 ∧ m.arrs.length ≤ 1000000) (hi : ∀ l ∈ m.arrs, l.length ≤ 1048576) : c8.ok Try.prog ⟨83, [.ptr 0 0, pA 2, mA 5, iA bit], [.box [.ref 1, iA j], dY b] ++ pS p ++ mS m, [.box [.ref 1, iA (scM b bit p m j).2], dY b] ++ pS p ++ mS m ++ mO (scM b bit p m j).1, mT 7⟩ := by
  refine z7 85 Try.func83 [.box [.ref 1, iA j], dY b, dI p.vars, dI p.arrays, dT p.body, dI m.vals, dR m.arrs] [(0, .ptr 0 0), (1, pA 2), (2, .agg [.ref 5, .ref 6]), (3, iA bit)] fun G => ?_
  have hvb := fun k : Nat => ax0 b bit p.vars j m.vals k
  have hvl := ax0 b bit p.vars j m.vals m.vals.length; refine wp_seq (d7 G b8 [0, 1, 2, 3, 4, 5, 6, 7, 15, 23] (.box [.ref 1, iA j] :: (U3 b p m [.box [.ref 5, .ref 6], ac5])) [(0, .ptr 0 0), (3, iA bit), (5, .ptr 7 0), (6, .ptr 8 0), (8, .ptr 9 0)] fun G => b0 (wp_seq (d7 G (n8 1 [5, 6] (bc7 m.vals m.arrs (by omega) (by omega) (by assumption))) [0, 1, 2, 3, 4, 5, 6, 7, 9, 18, 19, 26] (.box [.ref 1, iA j] :: (U3 b p m [ac5, .row 3 (D.ints m.vals), .tree (D.rows m.arrs), .box [.ref 9, .tref 10]])) (I8 bit []) fun G => b0 (wp_seq (wp_seq (y5 G b8 (I8 bit [(10, iA 0)]) fun G => b0 (wp_block ?_))))))); refine l7 (κ := Nat) (fun i => i ≤ m.vals.length) (fun i => m.vals.length - i) (fun i => [.box [.ref 1, iA (s5 b bit p.vars j m.vals i).2], dY b, dI p.vars, dI p.arrays, dT p.body, dI m.vals, dR m.arrs, .box (pL 2), .box [.v (.slice none 0 0), .v (.slice none 0 0)], .row 3 (.ints (s5 b bit p.vars j m.vals i).1), .tree (D.rows m.arrs), .box [.ref 9, .tref 10]]) (fun i => [(0, .ptr 0 0), (3, iA bit), (5, .ptr 7 0), (8, .ptr 8 0), (9, .ptr 11 0), (10, iA i)]) 0 (by omega) (l9.at G _ _) ?_; clear G; intro i ρ a w hp G; replace G := l9.at G (.box [.ref 1, iA (s5 b bit p.vars j m.vals i).snd] :: (U3 b p m [ac5, .row 3 (D.ints (s5 b bit p.vars j m.vals i).fst), .tree (D.rows m.arrs), .box [.ref 9, .tref 10]])) (I8 bit [(10, iA i)]); have hs1 := ax0 b bit p.vars j m.vals i; refine wp_seq (wp_seq ?_); cases h0 : (decide ((i : Int) < ((s5 b bit p.vars j m.vals i).fst.length : Int)))
  ·
   have q0 := O8 h0
   obtain rfl : i = m.vals.length := by omega
   refine c7 G (A6 (fc (a := decide ((m.vals.length : Int) < ((s5 b bit p.vars j m.vals m.vals.length).fst.length : Int))) (b := false) (by assumption) fz) (us [(6, 10, 0), (1011, 1011, 0)])) [(10, iA (m.vals.length : Int)), (26, bA false)] fun G => b0 (rF G false (by kernel_rfl) (wp_exit (l6 (l6 (l5 (b0 (wp_seq (wp_seq (y5 G b8 (I8 bit [(11, iA 0)]) fun G => b0 (wp_block ?_)))))))))); refine l7 (κ := Nat) (fun i2 => i2 ≤ m.arrs.length) (fun i2 => m.arrs.length - i2) (fun i2 => [.box [.ref 1, iA (V3 b bit p.arrays (s5 b bit p.vars j m.vals m.vals.length).2 m.arrs i2).2], dY b, dI p.vars, dI p.arrays, dT p.body, dI m.vals, dR m.arrs, .box (pL 2), .box [.v (.slice none 0 0), .v (.slice none 0 0)], .row 3 (D.ints (s5 b bit p.vars j m.vals m.vals.length).fst), .tree (.rows (V3 b bit p.arrays (s5 b bit p.vars j m.vals m.vals.length).2 m.arrs i2).1), .box [.ref 9, .tref 10]]) (fun i2 => [(0, .ptr 0 0), (3, iA bit), (5, .ptr 7 0), (8, .ptr 8 0), (9, .ptr 11 0), (11, iA i2)]) 0 (by omega) (l9.at G _ _) ?_; clear G; intro i2 ρ a w hp G; replace G := l9.at G (.box [.ref 1, iA (V3 b bit p.arrays (s5 b bit p.vars j m.vals m.vals.length).snd m.arrs i2).snd] :: (U3 b p m [ac5, aw2 b j bit p m, .tree (D.rows (V3 b bit p.arrays (s5 b bit p.vars j m.vals m.vals.length).snd m.arrs i2).fst), .box [.ref 9, .tref 10]])) (I8 bit [(11, iA i2)]); have hs2 := ao8 b bit p.arrays (s5 b bit p.vars j m.vals m.vals.length).2 m.arrs i2; refine wp_seq (wp_seq ?_); cases h3 : (decide ((i2 : Int) < ((V3 b bit p.arrays (s5 b bit p.vars j m.vals m.vals.length).snd m.arrs i2).fst.length : Int)))
   ·
    have q3 := O8 h3
    obtain rfl : i2 = m.arrs.length := by omega
    refine c7 G (A6 (fc (a := decide ((m.arrs.length : Int) < ((V3 b bit p.arrays (s5 b bit p.vars j m.vals m.vals.length).snd m.arrs m.arrs.length).fst.length : Int))) (b := false) (by assumption) fz) (us [(6, 10, 0), (1011, 1011, 0)])) [(11, iA (m.arrs.length : Int)), (54, bA false)] fun G => b0 (rF G false (by kernel_rfl) (wp_exit (l6 (l6 (l5 (b0 (wp_seq (d7 G b8 [0, 1, 2, 3, 4, 5, 6, 8, 9, 10] [.box [.ref 1, iA (V3 b bit p.arrays (s5 b bit p.vars j m.vals m.vals.length).snd m.arrs m.arrs.length).snd], dY b, dI p.vars, dI p.arrays, dT p.body, dI m.vals, dR m.arrs, .box [.ref 8, .tref 9], aw2 b j bit p m, .tree (D.rows (V3 b bit p.arrays (s5 b bit p.vars j m.vals m.vals.length).snd m.arrs m.arrs.length).fst)] [(8, .ptr 7 0)] fun G => b0 (wp_ret ?_))))))))); exact F8 G [0, 1, 2, 3, 4, 5, 6, 8, 9]
   ·
    have q3 := O7 h3; refine y5 G (A6 (fc h3 fz) (us [(6, 10, 0), (1011, 1011, 0)])) (I8 bit [(11, iA i2), (54, bA (decide ((i2 : Int) < p.arrays.length)))]) fun G => b0 ?_; cases h4 : (decide ((i2 : Int) < p.arrays.length))
    · have q4 := O8 h4; exact False.elim (by omega)
    ·
     have q4 := O7 h4; refine rT G _ h4 (wp_skip (b0 (wp_seq (wp_block (wp_seq (y5 G b8 (I8 bit [(11, iA i2), (12, iA 0)]) fun G => b0 (wp_block ?_))))))); replace G := G.as (.box [.ref 1, iA (C5 b bit p.arrays (s5 b bit p.vars j m.vals m.vals.length).snd m.arrs i2 0).snd] :: (U3 b p m [.box [.v (.slice none 0 0), .v (.slice none 0 0)], .row 3 (D.ints (s5 b bit p.vars j m.vals m.vals.length).fst), .tree (D.rows (C5 b bit p.arrays (s5 b bit p.vars j m.vals m.vals.length).snd m.arrs i2 0).fst), .box [.ref 9, .tref 10]])) (I8 bit [(11, iA i2), (12, iA 0)]) (by have e1 : ((C5 b bit p.arrays (s5 b bit p.vars j m.vals m.vals.length).snd m.arrs i2 0).snd : Int) = ((V3 b bit p.arrays (s5 b bit p.vars j m.vals m.vals.length).snd m.arrs i2).snd) := (by rw [bl9 (by omega)]; done); have e2 : ((C5 b bit p.arrays (s5 b bit p.vars j m.vals m.vals.length).snd m.arrs i2 0).fst : List (List Int)) = ((V3 b bit p.arrays (s5 b bit p.vars j m.vals m.vals.length).snd m.arrs i2).fst) := (by rw [bl9 (by omega)]; done); (first | rw [e1, e2] | simp only [e1, e2]) <;> rfl) (by kernel_rfl); refine l7 (κ := Nat) (fun k2 => k2 ≤ 4) (fun k2 => 4 - k2) (fun k2 => [.box [.ref 1, iA (C5 b bit p.arrays (s5 b bit p.vars j m.vals m.vals.length).2 m.arrs i2 k2).2], dY b, dI p.vars, dI p.arrays, dT p.body, dI m.vals, dR m.arrs, .box (pL 2), .box [.v (.slice none 0 0), .v (.slice none 0 0)], .row 3 (D.ints (s5 b bit p.vars j m.vals m.vals.length).fst), .tree (.rows (C5 b bit p.arrays (s5 b bit p.vars j m.vals m.vals.length).2 m.arrs i2 k2).1), .box [.ref 9, .tref 10]]) (fun k2 => [(0, .ptr 0 0), (3, iA bit), (5, .ptr 7 0), (8, .ptr 8 0), (9, .ptr 11 0), (11, iA i2), (12, iA k2)]) 0 (by omega) (l9.at G _ _) ?_; clear G; intro k2 ρ a w hp G; replace G := l9.at G (.box [.ref 1, iA (C5 b bit p.arrays (s5 b bit p.vars j m.vals m.vals.length).snd m.arrs i2 k2).snd] :: (U3 b p m [ac5, aw2 b j bit p m, .tree (D.rows (C5 b bit p.arrays (s5 b bit p.vars j m.vals m.vals.length).snd m.arrs i2 k2).fst), .box [.ref 9, .tref 10]])) (I8 bit [(11, iA i2), (12, iA k2)]); have ha4 := bA3 (m := m) hr (i := i2) (by omega); have hs3 := bu7 (b := b) (bit := bit) (ls := p.arrays) (j := (s5 b bit p.vars j m.vals m.vals.length).2) (rs := m.arrs) (i := i2) (k := k2); have hs4 := bf5 (b := b) (bit := bit) (ls := p.arrays) (j := (s5 b bit p.vars j m.vals m.vals.length).2) (rs := m.arrs) (i := i2) (k := k2) (by omega) ha4 (by omega); refine wp_seq (wp_seq (P5 G b8 [0, 1, 2, 3, 4, 5, 6, 7, 8, 9, 10, 11, 52] [.box [.ref 1, iA (C5 b bit p.arrays (s5 b bit p.vars j m.vals m.vals.length).snd m.arrs i2 k2).snd], dY b, dI p.vars, dI p.arrays, dT p.body, dI m.vals, dR m.arrs, .box (pL 2), .box [.v (.slice none 0 0), .v (.slice none 0 0)], .row 3 (D.ints (s5 b bit p.vars j m.vals m.vals.length).fst), .hole 12 i2 (C5 b bit p.arrays (s5 b bit p.vars j m.vals m.vals.length).snd m.arrs i2 k2).fst, .box [.ref 9, .tref 10], .row 3 (D.ints ((C5 b bit p.arrays (s5 b bit p.vars j m.vals m.vals.length).snd m.arrs i2 k2).fst.getD i2 []))] (I8 bit [(11, iA i2), (12, iA k2), (64, bA (decide ((k2 : Int) < (((C5 b bit p.arrays (s5 b bit p.vars j m.vals m.vals.length).snd m.arrs i2 k2).fst.getD i2 []).length : Int))))]) (iX i2 i2 ((C5 b bit p.arrays (s5 b bit p.vars j m.vals m.vals.length).snd m.arrs i2 k2).fst.length) []) (iK (by omega) bG8) fun G => ?_))
     replace G := G.heal0 10 12 i2 ((C5 b bit p.arrays (s5 b bit p.vars j m.vals m.vals.length).snd m.arrs i2 k2).fst) [.box [.ref 1, iA (C5 b bit p.arrays (s5 b bit p.vars j m.vals m.vals.length).snd m.arrs i2 k2).snd], dY b, dI p.vars, dI p.arrays, dT p.body, dI m.vals, dR m.arrs, .box (pL 2), .box [.v (.slice none 0 0), .v (.slice none 0 0)], .row 3 (D.ints (s5 b bit p.vars j m.vals m.vals.length).fst), .tree (D.rows (C5 b bit p.arrays (s5 b bit p.vars j m.vals m.vals.length).snd m.arrs i2 k2).fst), .box [.ref 9, .tref 10], .dead]; refine b0 ?_; cases h5 : (decide ((k2 : Int) < (((C5 b bit p.arrays (s5 b bit p.vars j m.vals m.vals.length).snd m.arrs i2 k2).fst.getD i2 []).length : Int)))
     ·
      have q5 := O8 h5
      obtain rfl : k2 = 4 := by omega
      refine rF G (decide ((↑(4 : Nat) : Int) < (((C5 b bit p.arrays (s5 b bit p.vars j m.vals m.vals.length).snd m.arrs i2 (4 : Nat)).fst.getD i2 []).length : Int))) (by assumption) (wp_exit (l6 (l6 (l5 (j4 (b0 (P5 G b8 (rg 12) (.box [.ref 1, iA (C5 b bit p.arrays (s5 b bit p.vars j m.vals m.vals.length).snd m.arrs i2 4).snd] :: (U3 b p m [ac5, aw2 b j bit p m, .tree (D.rows (C5 b bit p.arrays (s5 b bit p.vars j m.vals m.vals.length).snd m.arrs i2 4).fst), .box [.ref 9, .tref 10]])) (I8 bit [(11, iA ((i2 : Int) + 1))]) [wO ((i2 : Int) + 1)] (o1 (by omega)) fun G => b0 ?_))))))); exact N8 G (i2 + 1) (by omega) (by omega) (rg 12) (by have e1 : ((V3 b bit p.arrays (s5 b bit p.vars j m.vals m.vals.length).snd m.arrs (i2 + 1)).snd : Int) = ((C5 b bit p.arrays (s5 b bit p.vars j m.vals m.vals.length).snd m.arrs i2 4).snd) := (by rw [← aV2 (by omega) ha4]; done); have e2 : ((V3 b bit p.arrays (s5 b bit p.vars j m.vals m.vals.length).snd m.arrs (i2 + 1)).fst : List (List Int)) = ((C5 b bit p.arrays (s5 b bit p.vars j m.vals m.vals.length).snd m.arrs i2 4).fst) := (by rw [← aV2 (by omega) ha4]; done); (first | rw [e1, e2] | simp only [e1, e2]) <;> rfl)
     ·
      have q5 := O7 h5; refine rT G _ h5 (wp_skip (b0 (wp_seq (wp_block (wp_seq (P5 G b8 (rg 12) (.box [.ref 1, iA (C5 b bit p.arrays (s5 b bit p.vars j m.vals m.vals.length).snd m.arrs i2 k2).snd] :: (U3 b p m [ac5, aw2 b j bit p m, .tree (D.rows (C5 b bit p.arrays (s5 b bit p.vars j m.vals m.vals.length).snd m.arrs i2 k2).fst), .box [.ref 9, .tref 10]])) (I8 bit [(11, iA i2), (12, iA k2), (74, bA (au0 (p.arrays.getD i2 0) bit != 0))]) (iX i2 i2 p.arrays.length []) (iK (by omega) bG8) fun G => b0 (rcN G (fun h6 q6 => ?_) fun h6 q6 => ?_)))))))
      · refine wp_skip (j4 (b0 (C1 G b8 [(12, iA ((k2 : Int) + 1))] [wO ((k2 : Int) + 1)] (o1 (by omega)) fun G => b0 ?_))); exact N8 G (k2 + 1) (by omega) (by omega) (rg 12) (by have e1 : ((C5 b bit p.arrays (s5 b bit p.vars j m.vals m.vals.length).snd m.arrs i2 (k2 + 1)).snd : Int) = ((C5 b bit p.arrays (s5 b bit p.vars j m.vals m.vals.length).snd m.arrs i2 k2).snd) := (by rw [bl8 (zbf (by omega))]; done); have e2 : ((C5 b bit p.arrays (s5 b bit p.vars j m.vals m.vals.length).snd m.arrs i2 (k2 + 1)).fst : List (List Int)) = ((C5 b bit p.arrays (s5 b bit p.vars j m.vals m.vals.length).snd m.arrs i2 k2).fst) := (by rw [bl8 (zbf (by omega))]; done); (first | rw [e1, e2] | simp only [e1, e2]) <;> rfl)
      · refine L7 G (n8 7 [0, 1] (Y1 b ((C5 b bit p.arrays (s5 b bit p.vars j m.vals m.vals.length).snd m.arrs i2 k2).snd) (by omega) (by omega))) [0, 1, 0, 7, 15, 0, 0, 64, 255, 511] [0, 1, 2, 3, 4, 5, 6, 7, 8, 9, 10, 11, 44] [.box [.ref 1, iA ((C5 b bit p.arrays (s5 b bit p.vars j m.vals m.vals.length).snd m.arrs i2 k2).snd + 1)], dY b, dI p.vars, dI p.arrays, dT p.body, dI m.vals, dR m.arrs, .box (pL 2), .box [.v (.slice none 0 0), .v (.slice none 0 0)], .row 3 (D.ints (s5 b bit p.vars j m.vals m.vals.length).fst), .hole 12 i2 (C5 b bit p.arrays (s5 b bit p.vars j m.vals m.vals.length).snd m.arrs i2 k2).fst, .box [.ref 9, .tref 10], .row 3 (D.ints (((C5 b bit p.arrays (s5 b bit p.vars j m.vals m.vals.length).snd m.arrs i2 k2).fst.getD i2 []).set k2 (nm b (C5 b bit p.arrays (s5 b bit p.vars j m.vals m.vals.length).snd m.arrs i2 k2).snd vaL)))] (I8 bit [(11, iA i2), (12, iA k2)]) (iX i2 i2 ((C5 b bit p.arrays (s5 b bit p.vars j m.vals m.vals.length).snd m.arrs i2 k2).fst.length) (iX k2 k2 (((C5 b bit p.arrays (s5 b bit p.vars j m.vals m.vals.length).snd m.arrs i2 k2).fst.getD i2 []).length) [])) (iK (by omega) (iK (by omega) bG8)) fun G => ?_; replace G := G.heal 10 12 i2 ((C5 b bit p.arrays (s5 b bit p.vars j m.vals m.vals.length).snd m.arrs i2 k2).fst) (((C5 b bit p.arrays (s5 b bit p.vars j m.vals m.vals.length).snd m.arrs i2 k2).fst.getD i2 []).set k2 (nm b (C5 b bit p.arrays (s5 b bit p.vars j m.vals m.vals.length).snd m.arrs i2 k2).snd vaL)) (.box [.ref 1, iA ((C5 b bit p.arrays (s5 b bit p.vars j m.vals m.vals.length).snd m.arrs i2 k2).snd + 1)] :: (U3 b p m [.box [.v (.slice none 0 0), .v (.slice none 0 0)], .row 3 (D.ints (s5 b bit p.vars j m.vals m.vals.length).fst), .tree (D.rows ((C5 b bit p.arrays (s5 b bit p.vars j m.vals m.vals.length).snd m.arrs i2 k2).fst.set i2 (((C5 b bit p.arrays (s5 b bit p.vars j m.vals m.vals.length).snd m.arrs i2 k2).fst.getD i2 []).set k2 (nm b (C5 b bit p.arrays (s5 b bit p.vars j m.vals m.vals.length).snd m.arrs i2 k2).snd vaL)))), .box [.ref 9, .tref 10], .dead])); refine j4 (b0 (P5 G b8 (rg 12) (.box [.ref 1, iA ((C5 b bit p.arrays (s5 b bit p.vars j m.vals m.vals.length).snd m.arrs i2 k2).snd + 1)] :: (U3 b p m [ac5, aw2 b j bit p m, .tree (D.rows ((C5 b bit p.arrays (s5 b bit p.vars j m.vals m.vals.length).snd m.arrs i2 k2).fst.set i2 (((C5 b bit p.arrays (s5 b bit p.vars j m.vals m.vals.length).snd m.arrs i2 k2).fst.getD i2 []).set k2 (nm b (C5 b bit p.arrays (s5 b bit p.vars j m.vals m.vals.length).snd m.arrs i2 k2).snd vaL)))), .box [.ref 9, .tref 10]])) (I8 bit [(11, iA i2), (12, iA ((k2 : Int) + 1))]) [wO ((k2 : Int) + 1)] (o1 (by omega)) fun G => b0 ?_)); exact N8 G (k2 + 1) (by omega) (by omega) (rg 12) (by have e1 : ((C5 b bit p.arrays (s5 b bit p.vars j m.vals m.vals.length).snd m.arrs i2 (k2 + 1)).snd : Int) = ((C5 b bit p.arrays (s5 b bit p.vars j m.vals m.vals.length).snd m.arrs i2 k2).snd + 1) := (by rw [bl7 (by omega) ha4 (by omega) (zbt (by omega))]; done); have e2 : ((C5 b bit p.arrays (s5 b bit p.vars j m.vals m.vals.length).snd m.arrs i2 (k2 + 1)).fst : List (List Int)) = ((C5 b bit p.arrays (s5 b bit p.vars j m.vals m.vals.length).snd m.arrs i2 k2).fst.set i2 (((C5 b bit p.arrays (s5 b bit p.vars j m.vals m.vals.length).snd m.arrs i2 k2).fst.getD i2 []).set k2 (nm b (C5 b bit p.arrays (s5 b bit p.vars j m.vals m.vals.length).snd m.arrs i2 k2).snd vaL))) := (by rw [bl7 (by omega) ha4 (by omega) (zbt (by omega))]; done); (first | rw [e1, e2] | simp only [e1, e2]) <;> rfl)
  ·
   have q0 := O7 h0; refine y5 G (A6 (fc h0 fz) (us [(6, 10, 0), (1011, 1011, 0)])) (I8 bit [(10, iA i), (26, bA (decide ((i : Int) < p.vars.length)))]) fun G => b0 ?_; cases h1 : (decide ((i : Int) < p.vars.length))
   · have q1 := O8 h1; exact False.elim (by omega)
   ·
    have q1 := O7 h1; refine rT G _ h1 (wp_skip (b0 (wp_seq (wp_block (wp_seq (C1 G b8 [(36, bA (au0 (p.vars.getD i 0) bit != 0))] (iX i i p.vars.length []) (iK (by omega) bG8) fun G => b0 (rcN G (fun h2 q2 => ?_) fun h2 q2 => ?_)))))))
    · refine wp_skip (j4 (b0 (C1 G b8 [(10, iA ((i : Int) + 1))] [wO ((i : Int) + 1)] (o1 (by omega)) fun G => b0 ?_))); exact N8 G (i + 1) (by omega) (by omega) (rg 12) (by have e1 : ((s5 b bit p.vars j m.vals (i + 1)).snd : Int) = ((s5 b bit p.vars j m.vals i).snd) := (by rw [bl6 (zbf (by omega))]; done); have e2 : ((s5 b bit p.vars j m.vals (i + 1)).fst : List Int) = ((s5 b bit p.vars j m.vals i).fst) := (by rw [bl6 (zbf (by omega))]; done); (first | rw [e1, e2] | simp only [e1, e2]) <;> rfl)
    · refine L7 G (n8 4 [0, 1] (Y1 b ((s5 b bit p.vars j m.vals i).snd) (by omega) (by omega))) [0, 1, 0, 0, 8, 31, 63] (rg 12) (.box [.ref 1, iA ((s5 b bit p.vars j m.vals i).snd + 1)] :: (U3 b p m [ac5, .row 3 (D.ints ((s5 b bit p.vars j m.vals i).fst.set i (nm b (s5 b bit p.vars j m.vals i).snd vaL))), .tree (D.rows m.arrs), .box [.ref 9, .tref 10]])) (I8 bit [(10, iA i)]) (iX i i ((s5 b bit p.vars j m.vals i).fst.length) []) (iK (by omega) bG8) fun G => j4 (b0 (C1 G b8 [(10, iA ((i : Int) + 1))] [wO ((i : Int) + 1)] (o1 (by omega)) fun G => b0 ?_)); exact N8 G (i + 1) (by omega) (by omega) (rg 12) (by have e1 : ((s5 b bit p.vars j m.vals (i + 1)).snd : Int) = ((s5 b bit p.vars j m.vals i).snd + 1) := (by rw [bl5 (zbt (by omega))]; done); have e2 : ((s5 b bit p.vars j m.vals (i + 1)).fst : List Int) = ((s5 b bit p.vars j m.vals i).fst.set i (nm b (s5 b bit p.vars j m.vals i).snd vaL)) := (by rw [bl5 (zbt (by omega))]; done); (first | rw [e1, e2] | simp only [e1, e2]) <;> rfl)
theorem aL7 (b : List UInt8) (j bit : Int) (vs ars : List Int) (bd : List b5) (xs : List Int) (rs : List (List Int)) (hv : xs.length = vs.length) (ha : rs.length = ars.length) (hr : rs.all O5 = true) (r0 : 0 ≤ j) (r1 : j ≤ 100000000) (r2 : xs.length ≤ 1000000 ∧ rs.length ≤ 1000000) (hi : ∀ l ∈ rs, l.length ≤ 1048576) : c8.ok Try.prog ⟨83, [.ptr 0 0, pA 2, mA 5, iA bit], [.box [.ref 1, iA j], dY b, dI vs, dI ars, dT bd, dI xs, dR rs], [.box [.ref 1, iA (scM b bit ⟨vs, ars, bd⟩ ⟨xs, rs⟩ j).2], dY b, dI vs, dI ars, dT bd, dI xs, dR rs] ++ mO (scM b bit ⟨vs, ars, bd⟩ ⟨xs, rs⟩ j).1, mT 7⟩ :=
 aH6 b j bit ⟨vs, ars, bd⟩ ⟨xs, rs⟩ hv ha hr r0 r1 r2 hi
abbrev LnS : Type := List Int × List b5
section
variable {ars : List Int} {s : b5} {m pc : Int} {x : LnS}
end
structure Grw (nv na d : Nat) (sz : Nat) (s : LnS) (r : LnS) : Prop where
 lo : s.1.length ≤ r.1.length
 hi : r.1.length ≤ s.1.length + sz
 st : r6 r.2 ≤ r6 s.2 + 40 * sz
 len : s.2.length ≤ r.2.length
section
variable {p : b7} {l k : Int} (h : j9 p = true) (hl : c3 l = true)
include h hl
end
section
variable {p : b7} {l : Int}
end
section
variable {p q : b7} {m : t3}
end
section
variable {b : List UInt8} {j : Int} {m : t3}
end
structure GrS (sz : Nat) (x r : LnS) : Prop where
 lo : x.1.length ≤ r.1.length
 hi : r.1.length ≤ x.1.length + 4 * sz
 st : r6 r.2 ≤ r6 x.2 + 130 * sz
 len : x.2.length ≤ r.2.length
theorem GrS.refl (x : LnS) (n : Nat) : GrS n x x := ⟨bH3 _, by omega, by omega, bH3 _⟩
section
variable {l : List G2} {fr : List Int} {at0 d : Int} {s : b5}
end
section
variable {ss : List b5} {k : Nat} {d : Int} {l : List G2} {fr : List Int} {at0 : Int}
end
abbrev tyC (b : List UInt8) (j : Int) : c8 := ⟨85, [.ptr 0 0], [.box [.ref 1, iA j], dY b], [.box [.ref 1, iA ((G0 b j).2 + 1)], dY b] ++ oP (v5 b j), oA 2⟩
section
variable {b : List UInt8} {j : Int}
theorem bB1 (h : pk b (G0 b j).2 4 = 0) : v5 b j = pgD b j := if_pos h
theorem bB0 (h : ¬ pk b (G0 b j).2 4 = 0) (h2 : okI (pgD b j) = true) : v5 b j = T9 (pgD b j) := by rw [v5, if_neg h, if_pos h2]
theorem bA9 (h : ¬ pk b (G0 b j).2 4 = 0) (h2 : okI (pgD b j) = false) : v5 b j = pgD b j := by rw [v5, if_neg h, if_neg (by rw [h2]; decide)]
end
abbrev aw3 (b : List UInt8) (j : Int) : List It := [.box [.ref 1, iA ((G0 b j).snd + 1)], dY b, .row 3 (D.ints (v5 b j).vars), .row 3 (D.ints (v5 b j).arrays), .tree (D.stmts (v5 b j).body)]
abbrev aT8 : It := .box [.v (.slice none 0 0), .v (.slice none 0 0), .v (.slice none 0 0)]
abbrev an2 : It := .box [.ref 3, .ref 4, .tref 5]
abbrev av2 (b : List UInt8) (j : Int) (r0 : List It) : List It := .row 3 (D.ints (pgD b j).vars) :: .row 3 (D.ints (pgD b j).arrays) :: .tree (D.stmts (pgD b j).body) :: r0
theorem a09 (b : List UInt8) (j : Int) (r0 : 0 ≤ j) (r1 : j ≤ 10000000) : c8.ok Try.prog (tyC b j) := by
  refine z7 20 Try.func85 [.box [.ref 1, iA j], dY b] [(0, .ptr 0 0)] fun G => ?_; have hk2 := aW9 b r0 r1; have hbd := aY7 b r0 r1; have hsz := aP4 b r0 r1; refine wp_seq (d7 G b8 [0, 1, 2] [.box [.ref 1, iA j], dY b, aT8] [(0, .ptr 0 0), (2, .ptr 2 0)] fun G => b0 (wp_seq (d7 G (n8 1 [0, 1] (ak2 b j (by assumption) (by assumption))) [0, 1, 2, 11, 12, 13, 19] (.box [.ref 1, iA (G0 b j).snd] :: dY b :: aT8 :: (av2 b j [an2])) [(0, .ptr 0 0), (2, .ptr 2 0), (3, .ptr 6 0)] fun G => b0 (wp_seq (wp_seq (d7 G (n8 1 [0, 1] (A4 b ((G0 b j).snd) 4 (by omega) (by omega))) (rg 7) (.box [.ref 1, iA ((G0 b j).snd + 1)] :: dY b :: aT8 :: (av2 b j [an2])) [(2, .ptr 2 0), (3, .ptr 6 0), (10, bA (pk b (G0 b j).snd 4 == 0))] fun G => b0 (L5 G (fun h0 q0 => ?_) fun h0 q0 => ?_)))))))
  ·
   refine wp_skip (b0 (wp_seq (d7 G (n8 1 [3, 4, 5] (c8.lend (au8 (pgD b j) (by omega)) [.row 3, .row 3, .tree])) [0, 1, 2, 3, 4, 5, 6, 15, 16, 17, 47] (.box [.ref 1, iA ((G0 b j).snd + 1)] :: dY b :: aT8 :: (av2 b j [an2, .row 3 (D.ints (T9 (pgD b j)).vars), .row 3 (D.ints (T9 (pgD b j)).arrays), .tree (D.stmts (T9 (pgD b j)).body), .box [.ref 7, .ref 8, .tref 9]])) [(2, .ptr 2 0), (3, .ptr 6 0), (4, .ptr 10 0), (5, bA (okI (pgD b j)))] fun G => b0 (wp_seq (wp_seq (c7 G b8 [(17, bA (okI (pgD b j)))] fun G => b0 (rcB G (fun h1 => ?_) fun h1 => ?_)))))))
   · refine wp_skip (b0 (wp_seq (d7 G b8 (rg 6) (.box [.ref 1, iA ((G0 b j).snd + 1)] :: dY b :: an2 :: (av2 b j [])) [(2, .ptr 2 0)] fun G => b0 (wp_ret ?_)))); exact F8 G [0, 1, 3, 4, 5] (by show _ = mR [0, 1, 3, 4, 5] (aw3 b j); unfold aw3; rw [bA9 (by omega) (by with_reducible assumption)] <;> rfl)
   · refine wp_seq (d7 G b8 (rg 10) (.box [.ref 1, iA ((G0 b j).snd + 1)] :: dY b :: .box [.ref 7, .ref 8, .tref 9] :: (av2 b j [an2, .row 3 (D.ints (T9 (pgD b j)).vars), .row 3 (D.ints (T9 (pgD b j)).arrays), .tree (D.stmts (T9 (pgD b j)).body)])) [(2, .ptr 2 0), (3, .ptr 6 0)] fun G => b0 (wp_ret (c5 ?_))); exact F8 G [0, 1, 7, 8, 9] (by show _ = mR [0, 1, 7, 8, 9] (aw3 b j); unfold aw3; rw [bB0 (by omega) (by with_reducible assumption)] <;> rfl)
  · refine wp_seq (d7 G b8 (rg 7) (.box [.ref 1, iA ((G0 b j).snd + 1)] :: dY b :: an2 :: (av2 b j [an2])) [(2, .ptr 2 0), (3, .ptr 6 0)] fun G => b0 (wp_ret (c5 ?_))); exact F8 G [0, 1, 3, 4, 5] (by show _ = mR [0, 1, 3, 4, 5] (aw3 b j); unfold aw3; rw [bB1 (by omega)] <;> rfl)
theorem bd0 (b : List UInt8) : 0 ≤ (G0 b 0).2 ∧ (G0 b 0).2 ≤ 150000 := by
 have h := aY7 b (k := 0) (by omega) (by omega)
 have h2 := aW9 b (k := 0) (by omega) (by omega)
 omega
theorem ty0 (b : List UInt8) : (v5 b 0).size ≤ 1000000 := bI3 (bo1 b (by omega) (by omega)) (by omega)
theorem pg0 (b : List UInt8) : (pgD b 0).size ≤ 1000000 := bI3 (aP4 b (by omega) (by omega)) (by omega)
section
variable {ars vs : List Int} {pc : Int} {bd : List b5} {e : b6} {d k : Nat}
end
section
variable {ars vs : List Int} {bd : List b5} {m pc : Int} {t : b5} {nv dd : Nat}
end
section
variable {ars vs : List Int} {bd : List b5} {m pc l : Int} {t : b5} {nv dd : Nat}
end
section
variable {ars vs : List Int} {bd : List b5} {m pc : Int} {ss : List b5} {nv d k : Nat}
end
theorem d9.sel {ι : Type} {φ ψ : Nat → Prop} {w0 w : World} {F : ι → Rs} {ρ : Nat → Value} {S S1 : List It} {js : List Nat} (M : d9 φ ψ w0 w (f8 F ρ (j7 S))) (hn : js.Nodup) (hl : js.length = S1.length) (hS : js.map (j7 S) = S1.map (It.ren (nth js))) : d9 φ ψ w0 w (f8 F (fun i => ρ (nth js i)) (j7 S1)) := by
 refine M.map (fun k : ι ⊕ Nat => (match k with | .inl i => some (.inl i) | .inr i => if i < js.length then some (.inr (nth js i)) else none : Option (ι ⊕ Nat))) ?_ ?_
 ·intro k k' x h1 h2
  match k, k' with
  | .inl i, .inl i' => simp at h1 h2; rw [← h1] at h2; simpa using h2.symm
  | .inl i, .inr j => simp only at h1 h2; cases h1; split at h2 <;> simp at h2
  | .inr j, .inl i => simp only at h1 h2; cases h2; split at h1 <;> simp at h1
  | .inr j, .inr j' =>
   simp at h1 h2
   obtain ⟨f1, f2⟩ := h1
   obtain ⟨g1, g2⟩ := h2
   rw [← f2] at g2
   have hj := Sum.inr.inj g2
   have e1 := bG0 f1
   have e2 := bG0 g1
   rw [A3 e2, A3 e1] at hj
   have := (List.getElem?_inj f1 hn).1 (e1.trans (by rw [← hj]; exact e2.symm))
   rw [this]
 ·intro k
  match k with
  | .inl i => exact .inl ⟨_, rfl, rfl⟩
  | .inr i =>
   by_cases hlt : i < js.length
   ·refine .inl ⟨.inr (nth js i), by simp [hlt], ?_⟩
    have h1 := congrArg (·[i]?) hS
    have hlt' : i < S1.length := by omega
    simp only [List.getElem?_map, bG0 hlt, bG0 hlt', Option.map_some, Option.some.injEq] at h1
    simp only [f8]
    rw [ag9 hlt', A3 (bG0 hlt), h1, ← It.res_ren, A3 (bG0 hlt)]
   ·refine .inr ?_
    simp only [f8]
    rw [o6 (by omega)]
    rfl
theorem c8.twice {P : Program} {f : FuncId} {args : List AV} {pre S : List It} {d : D} {res : AV} {i : Nat} (hc : c8.ok P ⟨f, args, pre, S, res⟩) (S1 : List It) (hi : S[i]? = some (.dat d)) (hl : pre.length ≤ S.length)
  (hS : S.all (fun x => P7 S.length x.ids) = true) (hg : P7 S.length res.ids = true) (hl1 : S1.length = S.length + 1) (hd : j7 S1 S.length = .dat d) (h2 : ∀ ρ : Nat → Value, ρ S.length = ρ i → ∀ j, j < S.length → (j7 S1 j).res ρ j = (j7 S j).res ρ j) : c8.ok P ⟨f, args, pre, S1, res⟩ := by
 intro ι φ ψ w0 w F ρ M
 refine (hc ι φ ψ w0 w F ρ M).mono ?_
 rintro x w' ⟨ρ1, h1, rfl, M1⟩
 have hi' : j7 S i = .dat d := by simp [j7, hi]
 have hlt : i < S.length := (bG5.1 hi).1
 have hinv : Inv (j7 S) ρ1 [S.length] := fun ρ' h j => by
  by_cases hj : j < S.length
  ·refine It.res_congr _ (fun k hk => h k ?_) (.inr (.inr (h j (by simp; omega))))
   have h1 := B3 (bG4.1 hS (S[j]) (bH8 hj)) k (by simpa [j7, bG1, bG0 hj] using hk)
   simp; omega
  ·rw [show j7 S j = .none by simp only [j7, bG1, bH9 (Nat.le_of_not_lt hj)]; rfl]; rfl
 obtain ⟨ρ2, h3, M2, h4⟩ := M1.newDat (id := S.length) (by simp [j7]) hinv (M1.datAt hi')
 have hρ : ρ2 i = ρ1 i := h3 i (by simp; omega)
 have e : f8 F ρ2 (f9 (j7 S) [(S.length, .dat d)]) = f8 F ρ2 (j7 S1) := by
  funext k
  cases k with
  | inl q => rfl
  | inr j =>
   simp only [f8, f9]
   by_cases hj : j = S.length
   ·subst hj; rw [if_pos rfl, hd]
   ·rw [if_neg hj]
    by_cases hj2 : j < S.length
    ·exact (h2 ρ2 (by rw [← h4, hρ]) j hj2).symm
    ·rw [o6 (by omega), o6 (by omega)]
 rw [e] at M2
 refine ⟨ρ2, fun k hk => by
  have hk : k < pre.length := hk
  rw [h3 k (by simp; omega)]; exact h1 k hk, ?_, M2⟩
 exact congrArg _ (AV.val_congr res fun k hk => by
  have := B3 hg k hk
  exact h3 k (by simp; omega)).symm
theorem ay8 (c : List UInt8) : c8.ok Try.prog ⟨63, [.ref 0], [dY c], [dY c, .box [.ref 2, iA 0], dY (j6 c)], .ptr 1 0⟩ := by
 by_cases h : c.length ≤ 2000
 ·have e : j6 c = c := bG9 h
  rw [e]
  refine c8.twice (aS6 c h) (i := 0) _ rfl (by show (1 : Nat) ≤ 2; omega) rfl rfl rfl rfl fun ρ hρ j hj => ?_
  have hj : j < 2 := hj
  match j, hj with
  | 0, _ => rfl
  | 1, _ =>
   have hρ : ρ 2 = ρ 0 := hρ
   simp only [j7, bG1, List.getElem?_cons_succ, List.getElem?_cons_zero, Option.getD_some, It.res, AV.vals, AV.val, hρ]
 ·exact aS5 c (by omega)
theorem a00 (w : World) : d9 (fun _ => True) (fun _ => True) w w (f8 (fun _ : Empty => Rs.none) (fun _ => undef) (j7 [])) := by
 refine (d9.start (ι := Empty ⊕ Nat) (w0 := w) (φ := fun _ => True) (ψ := fun _ => True) fun _ _ => trivial).map (fun k => some k) (fun k k' i a b => by cases a; cases b; rfl) fun k => ?_
 cases k with
 | inl e => exact e.elim
 | inr j => exact .inr rfl
theorem a27 (w : World) : Q9 (fun _ => True) (Q5 (fun _ => True) (f8 (fun _ : Empty => Rs.none) (fun _ => undef) (j7 []))) w w := Q9.mono fun b _ _ => ⟨bG8, fun i => by
 cases i with
 | inl e => exact e.elim
 | inr j => exact fun h => h.elim⟩
abbrev u8s (c : List UInt8) : List Value := c.map fun b => Value.int .u8 (b.toNat : Int)
theorem a20 {P : Program} {f : FuncId} {x : Value} {c : List UInt8} {post : List It} (hc : c8.ok P ⟨f, [.ref 0], [dY c], post, .v x⟩) (u : Value) (w : World) (hp : t2 w (fun _ => True) u c.length 1 (u8s c)) :
  Calls P f #[u] w fun e w' => e = .returned x ∧ Below w.heap.size w w' := by
 obtain ⟨ρ', g1, M2, g2⟩ := d9.dats [.sl (.bytes c)] [u] 0 (a00 w) ⟨RD.nice (.bytes c) _ _ _ _ _ (a27 w) hp, bG8⟩ (fun _ _ => rfl) (fun _ _ _ => rfl)
 have e : f9 (j7 []) (I5 [.sl (.bytes c)] 0) = j7 [dY c] := by
  funext j
  match j with
  | 0 => rfl
  | j + 1 => simp [I5, f9, j7]
 rw [e] at M2
 simp only [xav, AV.vals, AV.val, List.cons.injEq, and_true] at g2
 subst g2
 refine (hc Empty _ _ w w _ ρ' M2).mono ?_
 rintro e w' ⟨ρ2, -, rfl, M3⟩
 exact ⟨rfl, M3.below fun _ _ => trivial⟩
structure Okd (p q : b7) (m : t3) : Prop where
 bp : r6 p.body ≤ 1048576
 bq : r6 q.body ≤ 1048576
 qv : q.vars.length ≤ 1000000
 mv : m.vals.length ≤ 1000000
 ma : m.arrs.length ≤ 1000000
 mi : ∀ l ∈ m.arrs, l.length ≤ 1000
theorem bz0 (p : b7) (e : b6) : c8.ok Try.prog (C6 88 [pA 0, eA e 3] (pS p ++ eS e) (bA (x8 p e))) :=
 O0 fun φ w ρ h => ao5 p e φ φ _ _ w ⟨ρ 0, ρ 1, ρ 2, rfl, h 0 _ rfl, h 1 _ rfl, h 2 _ rfl⟩ ⟨ρ 3, rfl, h 3 _ rfl⟩
theorem bz5 (p : b7) (e : b6) : c8.ok Try.prog (C6 35 [pA 0, eA e 3] (pS p ++ eS e) (bA (x8 p e))) :=
 O0 fun φ w ρ h => ar2 p e φ φ _ _ w ⟨ρ 0, ρ 1, ρ 2, rfl, h 0 _ rfl, h 1 _ rfl, h 2 _ rfl⟩ ⟨ρ 3, rfl, h 3 _ rfl⟩
def xlD (p : b7) (e : b6) : Int := if x8 p e = true then f5 p e else 3
section
variable {p : b7} {e : b6}
theorem bn7 (h : x8 p e = true) : xlD p e = f5 p e := if_pos h
theorem bs6 (h : x8 p e = false) : xlD p e = 3 := if_neg (by rw [h]; decide)
theorem a37 (h : x8 p e = true) : b9 p.vars.length p.arrays.length 5 e = true := by
 unfold x8 c6 at h
 simp only [bF9] at h
 exact h.2.1
end
theorem bn2 (p : b7) (e : b6) : c8.ok Try.prog (C6 27 [pA 0, eA e 3] (pS p ++ eS e) (iA (xlD p e))) := by
 have hev := bz0 p e
 have hla := fun h => B5 p e h
 refine z7 12 Try.func27 [dI p.vars, dI p.arrays, dT p.body, dE e.kids] [(0, pA 0), (1, eA e 3)] fun G => ?_; refine wp_seq (d7 G b8 [0, 1, 2, 3, 4, 12] [dI p.vars, dI p.arrays, dT p.body, dE e.kids, .box (pL 0), .box (eL e 3)] [(2, .ptr 4 0), (3, .ptr 5 0), (4, iA 0)] fun G => b0 (wp_seq (wp_seq (c7 G (n8 2 (rg 4) hev) [(8, .v (.bool !x8 p e))] fun G => b0 ?_)))); cases h0 : (!x8 p e)
 ·have q0 : (x8 p e) = true := (Eq.mp (bG7 _) h0); refine rF G _ h0 (wp_skip (b0 (wp_seq (d7 G (n8 2 (rg 4) (hla (a37 (by with_reducible assumption)))) (rg 4) [dI p.vars, dI p.arrays, dT p.body, dE e.kids] [(4, iA (f5 p e))] fun G => b0 (wp_ret ?_))))); exact E4 (f5 p e) G (rg 4) (by rw [bn7 (by with_reducible assumption)]; done)
 ·have q0 : (x8 p e) = false := (Eq.mp (bG6 _) h0); refine rT G _ h0 (wp_seq (c7 G b8 [(4, iA 3)] fun G => b0 (wp_ret (c5 ?_)))); exact E4 3 G (rg 4) (by rw [bs6 (by with_reducible assumption)]; done)
theorem bz4 (p : b7) (e : b6) : c8.ok Try.prog (C6 26 [pA 0, eA e 3] (pS p ++ eS e) (iA (xlD p e))) := by
 have hev := bz5 p e
 have hla := fun h => bj2 p e h
 refine z7 12 Try.func26 [dI p.vars, dI p.arrays, dT p.body, dE e.kids] [(0, pA 0), (1, eA e 3)] fun G => ?_; refine wp_seq (d7 G b8 [0, 1, 2, 3, 4, 12] [dI p.vars, dI p.arrays, dT p.body, dE e.kids, .box (pL 0), .box (eL e 3)] [(2, .ptr 4 0), (3, .ptr 5 0), (4, iA 0)] fun G => b0 (wp_seq (wp_seq (c7 G (n8 2 (rg 4) hev) [(8, .v (.bool !x8 p e))] fun G => b0 ?_)))); cases h0 : (!x8 p e)
 ·have q0 : (x8 p e) = true := (Eq.mp (bG7 _) h0); refine rF G _ h0 (wp_skip (b0 (wp_seq (d7 G (n8 2 (rg 4) (hla (a37 (by with_reducible assumption)))) (rg 4) [dI p.vars, dI p.arrays, dT p.body, dE e.kids] [(4, iA (f5 p e))] fun G => b0 (wp_ret ?_))))); exact E4 (f5 p e) G (rg 4) (by rw [bn7 (by with_reducible assumption)]; done)
 ·have q0 : (x8 p e) = false := (Eq.mp (bG6 _) h0); refine rT G _ h0 (wp_seq (c7 G b8 [(4, iA 3)] fun G => b0 (wp_ret (c5 ?_)))); exact E4 3 G (rg 4) (by rw [bs6 (by with_reducible assumption)]; done)
abbrev trC (c : List UInt8) (bit : Int) (p : b7) (m m' : t3) : c8 := ⟨24, [.ref 0, iA bit], [dY c], [dY c] ++ pS p ++ mS m ++ mS m', .tup [pA 1, mA 4, mA 6]⟩
def drT (c : List UInt8) : b7 × t3 × t3 :=
  (v5 (j6 c) 0, mmD (j6 c) ((G0 (j6 c) 0).2 + 1) (v5 (j6 c) 0).vars.length (v5 (j6 c) 0).arrays.length,
   (scM (j6 c) 1 (v5 (j6 c) 0) (mmD (j6 c) ((G0 (j6 c) 0).2 + 1) (v5 (j6 c) 0).vars.length (v5 (j6 c) 0).arrays.length) ((G0 (j6 c) 0).2 + 1 + (v5 (j6 c) 0).vars.length + 4 * (v5 (j6 c) 0).arrays.length)).1)
theorem a83 (b : List UInt8) {j : Int} (nv na : Nat) (r0 : 0 ≤ j) (r1 : j + nv + 4 * na ≤ 100000000) : (mmD b j nv na).vals.length = nv ∧ (mmD b j nv na).arrs.length = na ∧ I1 (mmD b j nv na).vals = true ∧ (mmD b j nv na).arrs.all O5 = true := by
 refine ⟨aa3 _ _ _, bd6 _ _ _, aN4 b r0 nv (by omega), ?_⟩
 rw [bG4]
 intro x hx
 unfold O5
 rw [bF9]
 refine ⟨by rw [bn5 _ _ _ x hx]; rfl, ?_⟩
 obtain ⟨k, hk, rfl⟩ := ar_mem hx
 exact aN4 b (by omega) 4 (by omega)
where
 ar_mem {b : List UInt8} {j : Int} {n : Nat} {x : List Int} (h : x ∈ arD b j n) : ∃ k : Nat, k < n ∧ Q6 b (j + 4 * k) 4 = x := by
  unfold arD at h
  obtain ⟨i, hi, rfl⟩ := List.mem_map.1 h
  exact ⟨i, List.mem_range.1 hi, rfl⟩
theorem bs9 (b : List UInt8) : (v5 b 0).vars.length ≤ 1000000 ∧ (v5 b 0).arrays.length ≤ 1000000 := by
 have hs := ty0 b
 unfold b7.size at hs; omega
abbrev aj0 : It := .box [.v (.slice none 0 0), .v (.slice none 0 0)]
abbrev aT7 : It := .box [.v (.slice none 0 0), .v (.slice none 0 0), .v (.slice none 0 0)]
abbrev a35 (c : List UInt8) (r0 : List It) : List It := dY c :: .box [.v (.slice none 0 0), .v (.slice none 0 0), .v (.slice none 0 0)] :: .box [.v (.slice none 0 0), .v (.slice none 0 0)] :: .box [.v (.slice none 0 0), .v (.slice none 0 0)] :: .box [.ref 5, iA ((G0 (j6 c) 0).snd + 1)] :: dY (j6 c) :: dI (v5 (j6 c) 0).vars :: r0
abbrev av1 (r0 : List (Nat × AV)) : List (Nat × AV) := (1, iA 1) :: (4, .ptr 1 0) :: (5, .ptr 2 0) :: (6, .ptr 3 0) :: (7, .ptr 4 0) :: r0
theorem bb8 (c : List UInt8) : c8.ok Try.prog (trC c 1 (drT c).1 (drT c).2.1 (drT c).2.2) := by
 have ho := ay8 c; refine z7 24 Try.func24 [dY c] [(0, .ref 0), (1, iA 1)] fun G => ?_; have hbd := bd0 (j6 c); have hsz := bs9 (j6 c); have hmm := a83 (j6 c) (j := (G0 (j6 c) 0).2 + 1) (v5 (j6 c) 0).vars.length (v5 (j6 c) 0).arrays.length (by omega) (by omega); refine wp_seq (d7 G b8 [0, 1, 9, 17] [dY c, aT7, aj0, aj0] [(0, .ref 0), (1, iA 1), (4, .ptr 1 0), (5, .ptr 2 0), (6, .ptr 3 0)] fun G => b0 (wp_seq (d7 G (n8 1 [0] ho) [0, 1, 2, 3, 12, 13] [dY c, aT7, aj0, aj0, .box [.ref 5, iA 0], dY (j6 c)] (av1 []) fun G => b0 (wp_seq (d7 G (n8 1 [4, 5] (a09 (j6 c) 0 (by omega) (by omega))) [0, 1, 2, 3, 4, 5, 14, 15, 16, 22] [dY c, aT7, aj0, aj0, .box [.ref 5, iA ((G0 (j6 c) 0).snd + 1)], dY (j6 c), .row 3 (D.ints (v5 (j6 c) 0).vars), .row 3 (D.ints (v5 (j6 c) 0).arrays), .tree (D.stmts (v5 (j6 c) 0).body), .box [.ref 6, .ref 7, .tref 8]] (av1 [(8, .ptr 9 0)]) fun G => b0 (wp_seq ?_)))))); obtain ⟨ρ, G⟩ := G.frz [.no, .no, .no, .no, .no, .no, .row 3] (a35 c [.row 3 (D.ints (v5 (j6 c) 0).arrays), .tree (D.stmts (v5 (j6 c) 0).body), .box [.ref 6, .ref 7, .tref 8]]) (av1 [(8, .ptr 9 0)]); obtain ⟨ρ, G⟩ := G.frz [.no, .no, .no, .no, .no, .no, .no, .row 3] (a35 c [dI (v5 (j6 c) 0).arrays, .tree (D.stmts (v5 (j6 c) 0).body), .box [.ref 6, .ref 7, .tref 8]]) (av1 [(8, .ptr 9 0)]); obtain ⟨ρ, G⟩ := G.frz [.no, .no, .no, .no, .no, .no, .no, .no, .tree] (a35 c [dI (v5 (j6 c) 0).arrays, dT (v5 (j6 c) 0).body, .box (pL 6)]) (av1 [(8, .ptr 9 0)]); refine d7 G (n8 2 [4, 5, 6, 7, 8] (aS0 (j6 c) ((G0 (j6 c) 0).snd + 1) ((v5 (j6 c) 0).vars) ((v5 (j6 c) 0).arrays) ((v5 (j6 c) 0).body) (by omega) (by omega) (by omega) (by omega))) [0, 1, 2, 3, 4, 5, 6, 7, 8, 9, 26, 27, 34] [dY c, aT7, aj0, aj0, .box [.ref 5, iA ((G0 (j6 c) 0).snd + 1 + ((v5 (j6 c) 0).vars.length : Int) + 4 * ((v5 (j6 c) 0).arrays.length : Int))], dY (j6 c), dI (v5 (j6 c) 0).vars, dI (v5 (j6 c) 0).arrays, dT (v5 (j6 c) 0).body, .box (pL 6), dI (mmD (j6 c) ((G0 (j6 c) 0).snd + 1) (v5 (j6 c) 0).vars.length (v5 (j6 c) 0).arrays.length).vals, dR (mmD (j6 c) ((G0 (j6 c) 0).snd + 1) (v5 (j6 c) 0).vars.length (v5 (j6 c) 0).arrays.length).arrs, .box [.ref 10, .ref 11]] (av1 [(8, .ptr 9 0), (9, .ptr 12 0)]) fun G => b0 (wp_seq (ap1 G (n8 6 [4, 5, 6, 7, 8, 10, 11] (aL7 (j6 c) ((G0 (j6 c) 0).snd + 1 + ((v5 (j6 c) 0).vars.length : Int) + 4 * ((v5 (j6 c) 0).arrays.length : Int)) 1 ((v5 (j6 c) 0).vars) ((v5 (j6 c) 0).arrays) ((v5 (j6 c) 0).body) ((mmD (j6 c) ((G0 (j6 c) 0).snd + 1) (v5 (j6 c) 0).vars.length (v5 (j6 c) 0).arrays.length).vals) ((mmD (j6 c) ((G0 (j6 c) 0).snd + 1) (v5 (j6 c) 0).vars.length (v5 (j6 c) 0).arrays.length).arrs) (by omega) (by omega) hmm.2.2.2 (by omega) (by omega) (by omega) (fun l hl => bI3 (Nat.le_of_eq (bn5 _ _ _ l hl)) (by omega)))) [0, 0, 0, 0, 0, 0, 60, 125, 255, 511] [0, 1, 2, 3, 6, 7, 8, 10, 11, 61, 62] [dY c, .box (pL 4), .box [.ref 7, .ref 8], .box [.ref 9, .tref 10], dI (v5 (j6 c) 0).vars, dI (v5 (j6 c) 0).arrays, dT (v5 (j6 c) 0).body, dI (mmD (j6 c) ((G0 (j6 c) 0).snd + 1) (v5 (j6 c) 0).vars.length (v5 (j6 c) 0).arrays.length).vals, dR (mmD (j6 c) ((G0 (j6 c) 0).snd + 1) (v5 (j6 c) 0).vars.length (v5 (j6 c) 0).arrays.length).arrs, .row 3 (D.ints (scM (j6 c) 1 (b7.mk (v5 (j6 c) 0).vars (v5 (j6 c) 0).arrays (v5 (j6 c) 0).body) (t3.mk (mmD (j6 c) ((G0 (j6 c) 0).snd + 1) (v5 (j6 c) 0).vars.length (v5 (j6 c) 0).arrays.length).vals (mmD (j6 c) ((G0 (j6 c) 0).snd + 1) (v5 (j6 c) 0).vars.length (v5 (j6 c) 0).arrays.length).arrs) ((G0 (j6 c) 0).snd + 1 + ((v5 (j6 c) 0).vars.length : Int) + 4 * ((v5 (j6 c) 0).arrays.length : Int))).fst.vals), .tree (D.rows (scM (j6 c) 1 (b7.mk (v5 (j6 c) 0).vars (v5 (j6 c) 0).arrays (v5 (j6 c) 0).body) (t3.mk (mmD (j6 c) ((G0 (j6 c) 0).snd + 1) (v5 (j6 c) 0).vars.length (v5 (j6 c) 0).arrays.length).vals (mmD (j6 c) ((G0 (j6 c) 0).snd + 1) (v5 (j6 c) 0).vars.length (v5 (j6 c) 0).arrays.length).arrs) ((G0 (j6 c) 0).snd + 1 + ((v5 (j6 c) 0).vars.length : Int) + 4 * ((v5 (j6 c) 0).arrays.length : Int))).fst.arrs)] [(4, .ptr 1 0), (5, .ptr 2 0), (6, .ptr 3 0)] fun G => ?_))
 refine b0 (wp_ret ?_); obtain ⟨ρ, G⟩ := G.frz [.no, .no, .no, .no, .no, .no, .no, .no, .no, .row 3, .tree] [dY c, .box (pL 4), .box [.ref 7, .ref 8], .box [.ref 9, .ref 10], dI (v5 (j6 c) 0).vars, dI (v5 (j6 c) 0).arrays, dT (v5 (j6 c) 0).body, dI (mmD (j6 c) ((G0 (j6 c) 0).snd + 1) (v5 (j6 c) 0).vars.length (v5 (j6 c) 0).arrays.length).vals, dR (mmD (j6 c) ((G0 (j6 c) 0).snd + 1) (v5 (j6 c) 0).vars.length (v5 (j6 c) 0).arrays.length).arrs, dI (scM (j6 c) 1 (b7.mk (v5 (j6 c) 0).vars (v5 (j6 c) 0).arrays (v5 (j6 c) 0).body) (t3.mk (mmD (j6 c) ((G0 (j6 c) 0).snd + 1) (v5 (j6 c) 0).vars.length (v5 (j6 c) 0).arrays.length).vals (mmD (j6 c) ((G0 (j6 c) 0).snd + 1) (v5 (j6 c) 0).vars.length (v5 (j6 c) 0).arrays.length).arrs) ((G0 (j6 c) 0).snd + 1 + ((v5 (j6 c) 0).vars.length : Int) + 4 * ((v5 (j6 c) 0).arrays.length : Int))).fst.vals, dR (scM (j6 c) 1 (b7.mk (v5 (j6 c) 0).vars (v5 (j6 c) 0).arrays (v5 (j6 c) 0).body) (t3.mk (mmD (j6 c) ((G0 (j6 c) 0).snd + 1) (v5 (j6 c) 0).vars.length (v5 (j6 c) 0).arrays.length).vals (mmD (j6 c) ((G0 (j6 c) 0).snd + 1) (v5 (j6 c) 0).vars.length (v5 (j6 c) 0).arrays.length).arrs) ((G0 (j6 c) 0).snd + 1 + ((v5 (j6 c) 0).vars.length : Int) + 4 * ((v5 (j6 c) 0).arrays.length : Int))).fst.arrs] [(4, .ptr 1 0), (5, .ptr 2 0), (6, .ptr 3 0)]; exact F8 G [0, 4, 5, 6, 7, 8, 9, 10]
abbrev xvL : List Int := [-1] ++ ([256] ++ ([1] ++ ([12] ++ [])))
abbrev xkL : List Int := [0] ++ ([12] ++ ([3] ++ ([4] ++ ([11] ++ []))))
abbrev evC (c : List UInt8) (p : b7) (e : b6) : c8 := ⟨86, [.ref 0], [dY c], [dY c] ++ pS p ++ eS e, .tup [pA 1, eA e 4]⟩
abbrev aw1 : It := .box [.v (.slice none 0 0), .v (.slice none 0 0), .v (.slice none 0 0)]
abbrev aw0 : It := .box [iA 0, iA 0, .v (.slice none 0 0)]
abbrev ai8 (r0 : List (Nat × AV)) : List (Nat × AV) := (2, .ptr 1 0) :: (3, .ptr 2 0) :: (4, .ptr 3 0) :: (5, .ptr 8 0) :: r0
abbrev a34 (j : Int) (r0 : List It) : List It := .box [.v (.slice none 0 0), .v (.slice none 0 0), .v (.slice none 0 0)] :: .box [iA 0, iA 0, .v (.slice none 0 0)] :: .box [.ref 4, iA j] :: r0
theorem bv2 (c b : List UInt8) (p q : b7) (ek ev : Int) (ks : List b6) (j k l : Int) (hk : pk b k 16 = 0) (r0 : 0 ≤ k) (r1 : k ≤ 10000000)
  (h0 : c8.ok Try.prog ⟨63, [.ref 0], [dY c], [dY c, .box [.ref 2, iA 0], dY b], .ptr 1 0⟩)
  (h1 : c8.ok Try.prog ⟨94, [.ptr 0 0], [.box [.ref 1, iA 0], dY b], [.box [.ref 1, iA j], dY b] ++ oP p, oA 2⟩)
  (h2 : c8.ok Try.prog ⟨95, [.ptr 0 0, pA 2], [.box [.ref 1, iA j], dY b] ++ pS p, [.box [.ref 1, iA k], dY b] ++ pS p ++ exO ⟨ek, ev, ks⟩, exA ⟨ek, ev, ks⟩ 5⟩)
  (h3 : c8.ok Try.prog ⟨101, [.ptr 0 0, pA 2], [.box [.ref 1, iA (k + 1 + 1)], dY b] ++ pS p, [.box [.ref 1, iA l], dY b] ++ pS p ++ oP q, oA 5⟩) : c8.ok Try.prog (evC c q ⟨ek, nm b (k + 1) xvL, ks⟩) := by
 have ho := h0; have hpg := h1; have hsm := h2; have hmt := h3; refine z7 37 Try.func86 [dY c] [(0, .ref 0)] fun G => ?_; refine wp_seq (d7 G b8 [0, 1, 9] [dY c, aw1, aw0] [(0, .ref 0), (2, .ptr 1 0), (3, .ptr 2 0)] fun G => b0 (wp_seq (d7 G (n8 1 [0] ho) [0, 1, 2, 11, 12] [dY c, aw1, aw0, .box [.ref 4, iA 0], dY b] [(2, .ptr 1 0), (3, .ptr 2 0), (4, .ptr 3 0)] fun G => b0 (wp_seq (d7 G (n8 1 [3, 4] hpg) [0, 1, 2, 3, 4, 13, 14, 15, 21] [dY c, aw1, aw0, .box [.ref 4, iA j], dY b, .row 3 (D.ints p.vars), .row 3 (D.ints p.arrays), .tree (D.stmts p.body), .box [.ref 5, .ref 6, .tref 7]] (ai8 []) fun G => b0 (wp_seq ?_)))))); obtain ⟨ρ, G⟩ := G.frz [.no, .no, .no, .no, .no, .row 3] (dY c :: (a34 j [dY b, dI p.vars, .row 3 (D.ints p.arrays), .tree (D.stmts p.body), .box [.ref 5, .ref 6, .tref 7]])) (ai8 []); obtain ⟨ρ, G⟩ := G.frz [.no, .no, .no, .no, .no, .no, .row 3] (dY c :: (a34 j [dY b, dI p.vars, dI p.arrays, .tree (D.stmts p.body), .box [.ref 5, .ref 6, .tref 7]])) (ai8 []); obtain ⟨ρ, G⟩ := G.frz [.no, .no, .no, .no, .no, .no, .no, .tree] (dY c :: (a34 j [dY b, dI p.vars, dI p.arrays, dT p.body, .box (pL 5)])) (ai8 []); refine d7 G (n8 2 [3, 4, 5, 6, 7] hsm) [0, 1, 2, 3, 4, 5, 6, 7, 8, 25, 33] [dY c, aw1, aw0, .box [.ref 4, iA k], dY b, dI p.vars, dI p.arrays, dT p.body, .box (pL 5), .tree (D.exprs (b6.mk ek ev ks).kids), .box [iA (b6.mk ek ev ks).kind, iA (b6.mk ek ev ks).value, .tref 9]] (ai8 [(6, .ptr 10 0)]) fun G => b0 (wp_seq (wp_seq (d7 G (n8 1 [3, 4] (A4 b k 16 (by assumption) (by omega))) (rg 11) [dY c, aw1, aw0, .box [.ref 4, iA (k + 1)], dY b, dI p.vars, dI p.arrays, dT p.body, .box (pL 5), .tree (D.exprs (b6.mk ek ev ks).kids), .box [iA (b6.mk ek ev ks).kind, iA (b6.mk ek ev ks).value, .tref 9]] (ai8 [(6, .ptr 10 0), (15, iA (pk b k 16))]) fun G => b0 (wp_block (wp_seq (y5 G b8 (ai8 [(6, .ptr 10 0), (15, iA (pk b k 16)), (16, bA (pk b k 16 == 0))]) fun G => b0 ?_)))))); cases h0 : (pk b k (16 : Int) == 0)
 ·have q0 := ne_of_beq_false h0; exact False.elim (by omega)
 ·have q0 := eq_of_beq h0; refine rT G _ h0 (d7 G (n8 2 [3, 4, 19] (c8.lend (D9 b (k + 1) ([-1] ++ ([256] ++ ([1] ++ ([12] ++ [])))) (by simp [h0]) (by omega) (by omega)) [.no, .no, .row 3])) (rg 11) [dY c, aw1, aw0, .box [.ref 4, iA (k + 1 + 1)], dY b, dI p.vars, dI p.arrays, dT p.body, .box (pL 5), .tree (D.exprs (b6.mk ek ev ks).kids), .box [iA (b6.mk ek ev ks).kind, iA (nm b (k + 1) ([-1] ++ ([256] ++ ([1] ++ ([12] ++ []))))), .tref 9]] (ai8 [(6, .ptr 10 0)]) fun G => j4 (b0 (wp_seq (ap1 G (n8 2 [3, 4, 5, 6, 7] hmt) [0, 0, 3, 0, 7, 31] [0, 1, 2, 9, 27, 28, 29] [dY c, .box [.ref 4, .ref 5, .tref 6], .box [iA (b6.mk ek ev ks).kind, iA (nm b (k + 1) ([-1] ++ ([256] ++ ([1] ++ ([12] ++ []))))), .tref 3], .tree (D.exprs (b6.mk ek ev ks).kids), .row 3 (D.ints q.vars), .row 3 (D.ints q.arrays), .tree (D.stmts q.body)] [(2, .ptr 1 0), (3, .ptr 2 0)] fun G => b0 (wp_ret ?_))))); obtain ⟨ρ, G⟩ := G.frz [.no, .no, .no, .tree, .row 3, .row 3, .tree] [dY c, .box (pL 4), .box [iA (b6.mk ek ev ks).kind, iA (nm b (k + 1) ([-1] ++ ([256] ++ ([1] ++ ([12] ++ []))))), .ref 3], dE (b6.mk ek ev ks).kids, dI q.vars, dI q.arrays, dT q.body] [(2, .ptr 1 0), (3, .ptr 2 0)]; exact F8 G [0, 4, 5, 6, 3]
abbrev av9 : It := .box [.v (.slice none 0 0), .v (.slice none 0 0), .v (.slice none 0 0)]
abbrev av8 : It := .box [iA 0, iA 0, .v (.slice none 0 0)]
abbrev ac2 (r0 : List (Nat × AV)) : List (Nat × AV) := (2, .ptr 1 0) :: (3, .ptr 2 0) :: (4, .ptr 3 0) :: (5, .ptr 8 0) :: r0
abbrev a33 (j : Int) (r0 : List It) : List It := .box [.v (.slice none 0 0), .v (.slice none 0 0), .v (.slice none 0 0)] :: .box [iA 0, iA 0, .v (.slice none 0 0)] :: .box [.ref 4, iA j] :: r0
theorem bv1 (c b : List UInt8) (p q : b7) (ek ev : Int) (ks : List b6) (j k l : Int) (hk : pk b k 16 = 1) (r0 : 0 ≤ k) (r1 : k ≤ 10000000)
    (h0 : c8.ok Try.prog ⟨63, [.ref 0], [dY c], [dY c, .box [.ref 2, iA 0], dY b], .ptr 1 0⟩)
    (h1 : c8.ok Try.prog ⟨94, [.ptr 0 0], [.box [.ref 1, iA 0], dY b], [.box [.ref 1, iA j], dY b] ++ oP p, oA 2⟩)
    (h2 : c8.ok Try.prog ⟨95, [.ptr 0 0, pA 2], [.box [.ref 1, iA j], dY b] ++ pS p, [.box [.ref 1, iA k], dY b] ++ pS p ++ exO ⟨ek, ev, ks⟩, exA ⟨ek, ev, ks⟩ 5⟩)
    (h3 : c8.ok Try.prog ⟨101, [.ptr 0 0, pA 2], [.box [.ref 1, iA (k + 1 + 1)], dY b] ++ pS p, [.box [.ref 1, iA l], dY b] ++ pS p ++ oP q, oA 5⟩) : c8.ok Try.prog (evC c q ⟨nm b (k + 1) xkL, ev, ks⟩) := by
  have ho := h0; have hpg := h1; have hsm := h2; have hmt := h3; refine z7 37 Try.func86 [dY c] [(0, .ref 0)] fun G => ?_; refine wp_seq (d7 G b8 [0, 1, 9] [dY c, av9, av8] [(0, .ref 0), (2, .ptr 1 0), (3, .ptr 2 0)] fun G => b0 (wp_seq (d7 G (n8 1 [0] ho) [0, 1, 2, 11, 12] [dY c, av9, av8, .box [.ref 4, iA 0], dY b] [(2, .ptr 1 0), (3, .ptr 2 0), (4, .ptr 3 0)] fun G => b0 (wp_seq (d7 G (n8 1 [3, 4] hpg) [0, 1, 2, 3, 4, 13, 14, 15, 21] [dY c, av9, av8, .box [.ref 4, iA j], dY b, .row 3 (D.ints p.vars), .row 3 (D.ints p.arrays), .tree (D.stmts p.body), .box [.ref 5, .ref 6, .tref 7]] (ac2 []) fun G => b0 (wp_seq ?_)))))); obtain ⟨ρ, G⟩ := G.frz [.no, .no, .no, .no, .no, .row 3] (dY c :: (a33 j [dY b, dI p.vars, .row 3 (D.ints p.arrays), .tree (D.stmts p.body), .box [.ref 5, .ref 6, .tref 7]])) (ac2 []); obtain ⟨ρ, G⟩ := G.frz [.no, .no, .no, .no, .no, .no, .row 3] (dY c :: (a33 j [dY b, dI p.vars, dI p.arrays, .tree (D.stmts p.body), .box [.ref 5, .ref 6, .tref 7]])) (ac2 []); obtain ⟨ρ, G⟩ := G.frz [.no, .no, .no, .no, .no, .no, .no, .tree] (dY c :: (a33 j [dY b, dI p.vars, dI p.arrays, dT p.body, .box (pL 5)])) (ac2 []); refine d7 G (n8 2 [3, 4, 5, 6, 7] hsm) [0, 1, 2, 3, 4, 5, 6, 7, 8, 25, 33] [dY c, av9, av8, .box [.ref 4, iA k], dY b, dI p.vars, dI p.arrays, dT p.body, .box (pL 5), .tree (D.exprs (b6.mk ek ev ks).kids), .box [iA (b6.mk ek ev ks).kind, iA (b6.mk ek ev ks).value, .tref 9]] (ac2 [(6, .ptr 10 0)]) fun G => b0 (wp_seq (wp_seq (d7 G (n8 1 [3, 4] (A4 b k 16 (by assumption) (by omega))) (rg 11) [dY c, av9, av8, .box [.ref 4, iA (k + 1)], dY b, dI p.vars, dI p.arrays, dT p.body, .box (pL 5), .tree (D.exprs (b6.mk ek ev ks).kids), .box [iA (b6.mk ek ev ks).kind, iA (b6.mk ek ev ks).value, .tref 9]] (ac2 [(6, .ptr 10 0), (15, iA (pk b k 16))]) fun G => b0 (wp_block (wp_seq (y5 G b8 (ac2 [(6, .ptr 10 0), (15, iA (pk b k 16)), (16, bA (pk b k 16 == 0))]) fun G => b0 ?_)))))); cases h0 : (pk b k (16 : Int) == 0)
  ·
   have q0 := ne_of_beq_false h0; refine rF G _ h0 (wp_seq (y5 G b8 (ac2 [(6, .ptr 10 0), (15, iA (pk b k 16)), (22, bA (pk b k 16 == 1))]) fun G => b0 ?_)); cases h1 : (pk b k (16 : Int) == 1)
   · have q1 := ne_of_beq_false h1; exact False.elim (by omega)
   · have q1 := eq_of_beq h1; refine rT G _ h1 (d7 G (n8 2 [3, 4, 19] (c8.lend (D9 b (k + 1) ([0] ++ ([12] ++ ([3] ++ ([4] ++ ([11] ++ []))))) (by simp [h0, h1]) (by omega) (by omega)) [.no, .no, .row 3])) (rg 11) [dY c, av9, av8, .box [.ref 4, iA (k + 1 + 1)], dY b, dI p.vars, dI p.arrays, dT p.body, .box (pL 5), .tree (D.exprs (b6.mk ek ev ks).kids), .box [iA (nm b (k + 1) ([0] ++ ([12] ++ ([3] ++ ([4] ++ ([11] ++ [])))))), iA (b6.mk ek ev ks).value, .tref 9]] (ac2 [(6, .ptr 10 0)]) fun G => j4 (b0 (wp_seq (ap1 G (n8 2 [3, 4, 5, 6, 7] hmt) [0, 0, 3, 0, 7, 31] [0, 1, 2, 9, 27, 28, 29] [dY c, .box [.ref 4, .ref 5, .tref 6], .box [iA (nm b (k + 1) ([0] ++ ([12] ++ ([3] ++ ([4] ++ ([11] ++ [])))))), iA (b6.mk ek ev ks).value, .tref 3], .tree (D.exprs (b6.mk ek ev ks).kids), .row 3 (D.ints q.vars), .row 3 (D.ints q.arrays), .tree (D.stmts q.body)] [(2, .ptr 1 0), (3, .ptr 2 0)] fun G => b0 (wp_ret ?_))))); obtain ⟨ρ, G⟩ := G.frz [.no, .no, .no, .tree, .row 3, .row 3, .tree] [dY c, .box (pL 4), .box [iA (nm b (k + 1) ([0] ++ ([12] ++ ([3] ++ ([4] ++ ([11] ++ [])))))), iA (b6.mk ek ev ks).value, .ref 3], dE (b6.mk ek ev ks).kids, dI q.vars, dI q.arrays, dT q.body] [(2, .ptr 1 0), (3, .ptr 2 0)]; exact F8 G [0, 4, 5, 6, 3]
  · have q0 := eq_of_beq h0; exact False.elim (by omega)
abbrev av7 : It := .box [.v (.slice none 0 0), .v (.slice none 0 0), .v (.slice none 0 0)]
abbrev av6 : It := .box [iA 0, iA 0, .v (.slice none 0 0)]
abbrev Z0 (r0 : List (Nat × AV)) : List (Nat × AV) := (2, .ptr 1 0) :: (3, .ptr 2 0) :: (4, .ptr 3 0) :: (5, .ptr 8 0) :: r0
abbrev a32 (j : Int) (r0 : List It) : List It := .box [.v (.slice none 0 0), .v (.slice none 0 0), .v (.slice none 0 0)] :: .box [iA 0, iA 0, .v (.slice none 0 0)] :: .box [.ref 4, iA j] :: r0
theorem bv0 (c b : List UInt8) (p q : b7) (ek ev : Int) (ks : List b6) (j k l : Int) (hk : pk b k 16 = 2) (r0 : 0 ≤ k) (r1 : k ≤ 10000000)
    (h0 : c8.ok Try.prog ⟨63, [.ref 0], [dY c], [dY c, .box [.ref 2, iA 0], dY b], .ptr 1 0⟩)
    (h1 : c8.ok Try.prog ⟨94, [.ptr 0 0], [.box [.ref 1, iA 0], dY b], [.box [.ref 1, iA j], dY b] ++ oP p, oA 2⟩)
    (h2 : c8.ok Try.prog ⟨95, [.ptr 0 0, pA 2], [.box [.ref 1, iA j], dY b] ++ pS p, [.box [.ref 1, iA k], dY b] ++ pS p ++ exO ⟨ek, ev, ks⟩, exA ⟨ek, ev, ks⟩ 5⟩)
    (h3 : c8.ok Try.prog ⟨101, [.ptr 0 0, pA 2], [.box [.ref 1, iA (k + 1)], dY b] ++ pS p, [.box [.ref 1, iA l], dY b] ++ pS p ++ oP q, oA 5⟩) : c8.ok Try.prog (evC c q ⟨3, 0, [⟨ek, ev, ks⟩]⟩) := by
  have ho := h0; have hpg := h1; have hsm := h2; have hmt := h3; refine z7 37 Try.func86 [dY c] [(0, .ref 0)] fun G => ?_; refine wp_seq (d7 G b8 [0, 1, 9] [dY c, av7, av6] [(0, .ref 0), (2, .ptr 1 0), (3, .ptr 2 0)] fun G => b0 (wp_seq (d7 G (n8 1 [0] ho) [0, 1, 2, 11, 12] [dY c, av7, av6, .box [.ref 4, iA 0], dY b] [(2, .ptr 1 0), (3, .ptr 2 0), (4, .ptr 3 0)] fun G => b0 (wp_seq (d7 G (n8 1 [3, 4] hpg) [0, 1, 2, 3, 4, 13, 14, 15, 21] [dY c, av7, av6, .box [.ref 4, iA j], dY b, .row 3 (D.ints p.vars), .row 3 (D.ints p.arrays), .tree (D.stmts p.body), .box [.ref 5, .ref 6, .tref 7]] (Z0 []) fun G => b0 (wp_seq ?_)))))); obtain ⟨ρ, G⟩ := G.frz [.no, .no, .no, .no, .no, .row 3] (dY c :: (a32 j [dY b, dI p.vars, .row 3 (D.ints p.arrays), .tree (D.stmts p.body), .box [.ref 5, .ref 6, .tref 7]])) (Z0 []); obtain ⟨ρ, G⟩ := G.frz [.no, .no, .no, .no, .no, .no, .row 3] (dY c :: (a32 j [dY b, dI p.vars, dI p.arrays, .tree (D.stmts p.body), .box [.ref 5, .ref 6, .tref 7]])) (Z0 []); obtain ⟨ρ, G⟩ := G.frz [.no, .no, .no, .no, .no, .no, .no, .tree] (dY c :: (a32 j [dY b, dI p.vars, dI p.arrays, dT p.body, .box (pL 5)])) (Z0 []); refine d7 G (n8 2 [3, 4, 5, 6, 7] hsm) [0, 1, 2, 3, 4, 5, 6, 7, 8, 25, 33] [dY c, av7, av6, .box [.ref 4, iA k], dY b, dI p.vars, dI p.arrays, dT p.body, .box (pL 5), .tree (D.exprs (b6.mk ek ev ks).kids), .box [iA (b6.mk ek ev ks).kind, iA (b6.mk ek ev ks).value, .tref 9]] (Z0 [(6, .ptr 10 0)]) fun G => b0 (wp_seq (wp_seq (d7 G (n8 1 [3, 4] (A4 b k 16 (by assumption) (by omega))) (rg 11) [dY c, av7, av6, .box [.ref 4, iA (k + 1)], dY b, dI p.vars, dI p.arrays, dT p.body, .box (pL 5), .tree (D.exprs (b6.mk ek ev ks).kids), .box [iA (b6.mk ek ev ks).kind, iA (b6.mk ek ev ks).value, .tref 9]] (Z0 [(6, .ptr 10 0), (15, iA (pk b k 16))]) fun G => b0 (wp_block (wp_seq (y5 G b8 (Z0 [(6, .ptr 10 0), (15, iA (pk b k 16)), (16, bA (pk b k 16 == 0))]) fun G => b0 ?_)))))); cases h0 : (pk b k (16 : Int) == 0)
  ·
   have q0 := ne_of_beq_false h0; refine rF G _ h0 (wp_seq (y5 G b8 (Z0 [(6, .ptr 10 0), (15, iA (pk b k 16)), (22, bA (pk b k 16 == 1))]) fun G => b0 ?_)); cases h1 : (pk b k (16 : Int) == 1)
   ·
    have q1 := ne_of_beq_false h1; refine rF G _ h1 (wp_seq (y5 G b8 (Z0 [(6, .ptr 10 0), (28, bA (pk b k 16 == 2))]) fun G => b0 ?_)); cases h2 : (pk b k (16 : Int) == 2)
    · have q2 := ne_of_beq_false h2; exact False.elim (by omega)
    · have q2 := eq_of_beq h2; refine rT G _ h2 (d7 G b8 [0, 1, 2, 3, 4, 5, 6, 7, 8, 10, 19] [dY c, av7, av6, .box [.ref 4, iA (k + 1)], dY b, dI p.vars, dI p.arrays, dT p.body, .box (pL 5), .box [iA 3, iA 0, .tref 10], .tree (D.exprs [qzE (b6.mk ek ev ks)])] (Z0 [(6, .ptr 9 0)]) fun G => j4 (b0 (wp_seq (ap1 G (n8 2 [3, 4, 5, 6, 7] hmt) [0, 0, 3, 0, 7, 31] [0, 1, 2, 10, 27, 28, 29] [dY c, .box [.ref 4, .ref 5, .tref 6], .box [iA 3, iA 0, .tref 3], .tree (D.exprs [qzE (b6.mk ek ev ks)]), .row 3 (D.ints q.vars), .row 3 (D.ints q.arrays), .tree (D.stmts q.body)] [(2, .ptr 1 0), (3, .ptr 2 0)] fun G => b0 (wp_ret ?_))))); obtain ⟨ρ, G⟩ := G.frz [.no, .no, .no, .tree, .row 3, .row 3, .tree] [dY c, .box (pL 4), .box [iA 3, iA 0, .ref 3], dE [qzE (b6.mk ek ev ks)], dI q.vars, dI q.arrays, dT q.body] [(2, .ptr 1 0), (3, .ptr 2 0)]; exact F8 G [0, 4, 5, 6, 3]
   · have q1 := eq_of_beq h1; exact False.elim (by omega)
  · have q0 := eq_of_beq h0; exact False.elim (by omega)
abbrev aF5 : It := .box [.v (.slice none 0 0), .v (.slice none 0 0), .v (.slice none 0 0)]
abbrev aF4 : It := .box [iA 0, iA 0, .v (.slice none 0 0)]
abbrev ac1 (r0 : List (Nat × AV)) : List (Nat × AV) := (2, .ptr 1 0) :: (3, .ptr 2 0) :: (4, .ptr 3 0) :: (5, .ptr 8 0) :: r0
abbrev a31 (j : Int) (r0 : List It) : List It := .box [.v (.slice none 0 0), .v (.slice none 0 0), .v (.slice none 0 0)] :: .box [iA 0, iA 0, .v (.slice none 0 0)] :: .box [.ref 4, iA j] :: r0
theorem bu9 (c b : List UInt8) (p q : b7) (ek ev : Int) (ks : List b6) (j k l : Int) (hk : ¬ pk b k 16 = 0 ∧ ¬ pk b k 16 = 1 ∧ ¬ pk b k 16 = 2) (r0 : 0 ≤ k) (r1 : k ≤ 10000000)
    (h0 : c8.ok Try.prog ⟨63, [.ref 0], [dY c], [dY c, .box [.ref 2, iA 0], dY b], .ptr 1 0⟩)
    (h1 : c8.ok Try.prog ⟨94, [.ptr 0 0], [.box [.ref 1, iA 0], dY b], [.box [.ref 1, iA j], dY b] ++ oP p, oA 2⟩)
    (h2 : c8.ok Try.prog ⟨95, [.ptr 0 0, pA 2], [.box [.ref 1, iA j], dY b] ++ pS p, [.box [.ref 1, iA k], dY b] ++ pS p ++ exO ⟨ek, ev, ks⟩, exA ⟨ek, ev, ks⟩ 5⟩)
    (h3 : c8.ok Try.prog ⟨101, [.ptr 0 0, pA 2], [.box [.ref 1, iA (k + 1)], dY b] ++ pS p, [.box [.ref 1, iA l], dY b] ++ pS p ++ oP q, oA 5⟩) : c8.ok Try.prog (evC c q ⟨ek, ev, ks⟩) := by
  have ho := h0; have hpg := h1; have hsm := h2; have hmt := h3; refine z7 37 Try.func86 [dY c] [(0, .ref 0)] fun G => ?_; refine wp_seq (d7 G b8 [0, 1, 9] [dY c, aF5, aF4] [(0, .ref 0), (2, .ptr 1 0), (3, .ptr 2 0)] fun G => b0 (wp_seq (d7 G (n8 1 [0] ho) [0, 1, 2, 11, 12] [dY c, aF5, aF4, .box [.ref 4, iA 0], dY b] [(2, .ptr 1 0), (3, .ptr 2 0), (4, .ptr 3 0)] fun G => b0 (wp_seq (d7 G (n8 1 [3, 4] hpg) [0, 1, 2, 3, 4, 13, 14, 15, 21] [dY c, aF5, aF4, .box [.ref 4, iA j], dY b, .row 3 (D.ints p.vars), .row 3 (D.ints p.arrays), .tree (D.stmts p.body), .box [.ref 5, .ref 6, .tref 7]] (ac1 []) fun G => b0 (wp_seq ?_)))))); obtain ⟨ρ, G⟩ := G.frz [.no, .no, .no, .no, .no, .row 3] (dY c :: (a31 j [dY b, dI p.vars, .row 3 (D.ints p.arrays), .tree (D.stmts p.body), .box [.ref 5, .ref 6, .tref 7]])) (ac1 []); obtain ⟨ρ, G⟩ := G.frz [.no, .no, .no, .no, .no, .no, .row 3] (dY c :: (a31 j [dY b, dI p.vars, dI p.arrays, .tree (D.stmts p.body), .box [.ref 5, .ref 6, .tref 7]])) (ac1 []); obtain ⟨ρ, G⟩ := G.frz [.no, .no, .no, .no, .no, .no, .no, .tree] (dY c :: (a31 j [dY b, dI p.vars, dI p.arrays, dT p.body, .box (pL 5)])) (ac1 []); refine d7 G (n8 2 [3, 4, 5, 6, 7] hsm) [0, 1, 2, 3, 4, 5, 6, 7, 8, 25, 33] [dY c, aF5, aF4, .box [.ref 4, iA k], dY b, dI p.vars, dI p.arrays, dT p.body, .box (pL 5), .tree (D.exprs (b6.mk ek ev ks).kids), .box [iA (b6.mk ek ev ks).kind, iA (b6.mk ek ev ks).value, .tref 9]] (ac1 [(6, .ptr 10 0)]) fun G => b0 (wp_seq (wp_seq (d7 G (n8 1 [3, 4] (A4 b k 16 (by assumption) (by omega))) (rg 11) [dY c, aF5, aF4, .box [.ref 4, iA (k + 1)], dY b, dI p.vars, dI p.arrays, dT p.body, .box (pL 5), .tree (D.exprs (b6.mk ek ev ks).kids), .box [iA (b6.mk ek ev ks).kind, iA (b6.mk ek ev ks).value, .tref 9]] (ac1 [(6, .ptr 10 0), (15, iA (pk b k 16))]) fun G => b0 (wp_block (wp_seq (y5 G b8 (ac1 [(6, .ptr 10 0), (15, iA (pk b k 16)), (16, bA (pk b k 16 == 0))]) fun G => b0 ?_)))))); cases h0 : (pk b k (16 : Int) == 0)
  ·
   have q0 := ne_of_beq_false h0; refine rF G _ h0 (wp_seq (y5 G b8 (ac1 [(6, .ptr 10 0), (15, iA (pk b k 16)), (22, bA (pk b k 16 == 1))]) fun G => b0 ?_)); cases h1 : (pk b k (16 : Int) == 1)
   ·
    have q1 := ne_of_beq_false h1; refine rF G _ h1 (wp_seq (y5 G b8 (ac1 [(6, .ptr 10 0), (28, bA (pk b k 16 == 2))]) fun G => b0 ?_)); cases h2 : (pk b k (16 : Int) == 2)
    · have q2 := ne_of_beq_false h2; refine rF G _ h2 (wp_skip (j4 (b0 (wp_seq (ap1 G (n8 2 [3, 4, 5, 6, 7] hmt) [0, 0, 3, 0, 7, 31] [0, 1, 2, 9, 27, 28, 29] [dY c, .box [.ref 4, .ref 5, .tref 6], .box [iA (b6.mk ek ev ks).kind, iA (b6.mk ek ev ks).value, .tref 3], .tree (D.exprs (b6.mk ek ev ks).kids), .row 3 (D.ints q.vars), .row 3 (D.ints q.arrays), .tree (D.stmts q.body)] [(2, .ptr 1 0), (3, .ptr 2 0)] fun G => b0 (wp_ret ?_)))))); obtain ⟨ρ, G⟩ := G.frz [.no, .no, .no, .tree, .row 3, .row 3, .tree] [dY c, .box (pL 4), .box (eL (b6.mk ek ev ks) 3), dE (b6.mk ek ev ks).kids, dI q.vars, dI q.arrays, dT q.body] [(2, .ptr 1 0), (3, .ptr 2 0)]; exact F8 G [0, 4, 5, 6, 3]
    · have q2 := eq_of_beq h2; exact False.elim (by omega)
   · have q1 := eq_of_beq h1; exact False.elim (by omega)
  · have q0 := eq_of_beq h0; exact False.elim (by omega)
theorem bb9 (c : List UInt8) : ∃ (p : b7) (e : b6), c8.ok Try.prog (evC c p e) := by
 have hb := bd0 (j6 c)
 have h1 := ak2 (j6 c) 0 (by omega) (by omega)
 have hp := pg0 (j6 c)
 unfold pgC at h1
 generalize G0 (j6 c) 0 = bj at *
 generalize pgD (j6 c) 0 = p at *
 obtain ⟨bd, j⟩ := bj
 dsimp only at hb h1
 have h2 := N3 (j6 c) p.vars p.arrays p.body j (by omega) (by omega)
 have h3 := aH0 (j6 c) p.vars.length p.arrays.length (k := j) (by omega) (by omega)
 unfold smC dwS at h2
 generalize m9 (j6 c) p.vars.length p.arrays.length j = x at *
 obtain ⟨⟨ek, ev, ks⟩, k⟩ := x
 dsimp only at h2 h3
 have h0 := ay8 c
 by_cases e0 : pk (j6 c) k 16 = 0
 ·exact ⟨_, _, bv2 c (j6 c) p _ ek ev ks j k _ e0 (by omega) (by omega) h0 h1 h2 (S6 (j6 c) p (k + 1 + 1) hp (by omega) (by omega))⟩
 by_cases e1 : pk (j6 c) k 16 = 1
 ·exact ⟨_, _, bv1 c (j6 c) p _ ek ev ks j k _ e1 (by omega) (by omega) h0 h1 h2 (S6 (j6 c) p (k + 1 + 1) hp (by omega) (by omega))⟩
 by_cases e2 : pk (j6 c) k 16 = 2
 ·exact ⟨_, _, bv0 c (j6 c) p _ ek ev ks j k _ e2 (by omega) (by omega) h0 h1 h2 (S6 (j6 c) p (k + 1) hp (by omega) (by omega))⟩
 ·exact ⟨_, _, bu9 c (j6 c) p _ ek ev ks j k _ ⟨e0, e1, e2⟩ (by omega) (by omega) h0 h1 h2 (S6 (j6 c) p (k + 1) hp (by omega) (by omega))⟩
def gX (nv na : Nat) (L : Int) (x : G2) : Prop :=
 (x.op = 1 ∧ (0 ≤ x.a ∧ x.a ≤ 13) ∧ (0 ≤ x.b ∧ x.b ≤ 255) ∧ x.c = 0 ∧ x.d = 0) ∨
 (x.op = 2 ∧ (0 ≤ x.a ∧ x.a ≤ 13) ∧ (0 ≤ x.b ∧ x.b < nv) ∧ x.c = 0 ∧ x.d = 0) ∨
 (x.op = 3 ∧ (0 ≤ x.a ∧ x.a < nv) ∧ (0 ≤ x.b ∧ x.b ≤ 13) ∧ x.c = 0 ∧ x.d = 0) ∨
 (x.op = 4 ∧ (0 ≤ x.a ∧ x.a ≤ 13) ∧ (0 ≤ x.b ∧ x.b < na) ∧ (0 ≤ x.c ∧ x.c ≤ 13) ∧ x.d = 0) ∨
 (x.op = 5 ∧ (0 ≤ x.a ∧ x.a < na) ∧ (0 ≤ x.b ∧ x.b ≤ 13) ∧ (0 ≤ x.c ∧ x.c ≤ 13) ∧ x.d = 0) ∨
 (x.op = 6 ∧ (0 ≤ x.a ∧ x.a ≤ 13) ∧ (4 ≤ x.b ∧ x.b ≤ 10) ∧ (0 ≤ x.c ∧ x.c ≤ 13) ∧ (0 ≤ x.d ∧ x.d ≤ 13)) ∨
 (x.op = 7 ∧ (0 ≤ x.a ∧ x.a ≤ 13) ∧ (0 ≤ x.b ∧ x.b ≤ 13) ∧ (0 ≤ x.c ∧ x.c ≤ 13) ∧ (0 ≤ x.d ∧ x.d ≤ 13)) ∨
 (x.op = 8 ∧ (0 ≤ x.a ∧ x.a < L) ∧ x.b = 0 ∧ x.c = 0 ∧ x.d = 0) ∨
 (x.op = 9 ∧ (0 ≤ x.a ∧ x.a ≤ 13) ∧ (0 ≤ x.b ∧ x.b < L) ∧ x.c = 0 ∧ x.d = 0) ∨
 (x.op = 10 ∧ (0 ≤ x.a ∧ x.a ≤ 13) ∧ (0 ≤ x.b ∧ x.b < L) ∧ x.c = 0 ∧ x.d = 0) ∨
 (x.op = 11 ∧ (0 ≤ x.a ∧ x.a ≤ 13) ∧ x.b = 0 ∧ x.c = 0 ∧ x.d = 0)
def gL (nv na : Nat) (L : Int) (l : List G2) : Prop := ∀ x ∈ l, gX nv na L x
theorem br0 {nv na : Nat} {L : Int} {a b : List G2} (h : gL nv na L a) (k : gL nv na L b) : gL nv na L (a ++ b) := by
 intro x hx
 rcases bH4.1 hx with hx | hx
 ·exact h x hx
 ·exact k x hx
theorem aD1 {nv na : Nat} {L : Int} {a : G2} (h : gX nv na L a) : gL nv na L [a] := by
 intro x hx
 rw [bI1] at hx
 subst hx; exact h
theorem V0 {nv na n : Nat} {k v : Int} {ks : List b6} (h : b9 nv na (n + 1) ⟨k, v, ks⟩ = true) : (ks.length : Int) = e7 k ∧ 0 ≤ v ∧ v < v9 nv na k ∧ ks.all (b9 nv na n) = true := by
 rw [b9] at h
 simp only [bF9, o7, decide_eq_true_eq] at h
 exact ⟨h.1.1.1.1, h.1.1.1.2, h.1.1.2, h.1.2⟩
def Gd (nv na : Nat) (L : Int) (x y : a28) : Prop := ∃ ys, y.1 = x.1 ++ ys ∧ gL nv na L ys
theorem Gd.refl {nv na : Nat} {L : Int} (x : a28) : Gd nv na L x x := ⟨[], by simp, fun x hx => by cases hx⟩
theorem Gd.trans {nv na : Nat} {L : Int} {x y z : a28} (h : Gd nv na L x y) (k : Gd nv na L y z) : Gd nv na L x z := by
 obtain ⟨a, a1, a2⟩ := h
 obtain ⟨b, b1, b2⟩ := k
 exact ⟨a ++ b, by rw [b1, a1, List.append_assoc], br0 a2 b2⟩
theorem Gd.add {nv na : Nat} {L : Int} {x : a28} {n : Int} {c : List G2} (h : gL nv na L c) : Gd nv na L x (bF6 x n c) := ⟨c, rfl, h⟩
theorem bp6 : (0 : Int) ≤ 0 ∧ (0 : Int) ≤ 13 := by decide
theorem bC5 : (0 : Int) ≤ 1 ∧ (1 : Int) ≤ 13 := by decide
theorem g1 {nv na : Nat} {L a b : Int} (h1 : 0 ≤ a ∧ a ≤ 13) (h2 : 0 ≤ b ∧ b ≤ 255) : gL nv na L [⟨1, a, b, 0, 0⟩] := aD1 (.inl ⟨rfl, h1, h2, rfl, rfl⟩)
theorem g3 {nv na : Nat} {L a : Int} (h1 : 0 ≤ a ∧ a < nv) : gL nv na L [⟨3, a, 0, 0, 0⟩] := aD1 (.inr (.inr (.inl ⟨rfl, h1, bp6, rfl, rfl⟩)))
theorem g5 {nv na : Nat} {L a : Int} (h1 : 0 ≤ a ∧ a < na) : gL nv na L [⟨5, a, 1, 0, 0⟩] := aD1 (.inr (.inr (.inr (.inr (.inl ⟨rfl, h1, bC5, bp6, rfl⟩)))))
theorem g8 {nv na : Nat} {L a : Int} (h1 : 0 ≤ a ∧ a < L) : gX nv na L ⟨8, a, 0, 0, 0⟩ := .inr (.inr (.inr (.inr (.inr (.inr (.inr (.inl ⟨rfl, h1, rfl, rfl, rfl⟩)))))))
theorem g9 {nv na : Nat} {L b : Int} (h1 : 0 ≤ b ∧ b < L) : gX nv na L ⟨9, 0, b, 0, 0⟩ := .inr (.inr (.inr (.inr (.inr (.inr (.inr (.inr (.inl ⟨rfl, bp6, h1, rfl, rfl⟩))))))))
theorem g10 {nv na : Nat} {L a b : Int} (h0 : 0 ≤ a ∧ a ≤ 13) (h1 : 0 ≤ b ∧ b < L) : gL nv na L [⟨10, a, b, 0, 0⟩] := aD1 (.inr (.inr (.inr (.inr (.inr (.inr (.inr (.inr (.inr (.inl ⟨rfl, h0, h1, rfl, rfl⟩))))))))))
def evK (m : t3) (k n : Int) (vs : List Int) (tr : List (Int × Int)) : Int × List (Int × Int) :=
 if k = 1 then (n, tr) else if k = 2 then (m.vals.getD n.toNat 0, tr)
 else if k = 3 then ((m.arrs.getD n.toNat []).getD ((vs.getD 0 0).tmod 4).toNat 0, tr ++ [(2, n * 4 + (vs.getD 0 0).tmod 4)])
 else if k = 11 then (if vs.getD 0 0 = 0 then vs.getD 2 0 else vs.getD 1 0, tr)
 else (C9 k (vs.getD 0 0) (vs.getD 1 0), tr)
mutual
def O3 (m : t3) : b6 → Int × List (Int × Int)
 | ⟨k, n, ks⟩ => evK m k n (j3 m ks).1 (j3 m ks).2
def j3 (m : t3) : List b6 → List Int × List (Int × Int)
 | [] => ([], [])
 | e :: r => ((O3 m e).1 :: (j3 m r).1, (O3 m e).2 ++ (j3 m r).2)
end
theorem ah4 (m : t3) (e : b6) : O3 m e = evK m e.kind e.value (j3 m e.kids).1 (j3 m e.kids).2 := by cases e; rw [O3]; rfl
theorem ay3 (m : t3) (e : b6) : ∀ l : List b6, j3 m (l ++ [e]) = ((j3 m l).1 ++ [(O3 m e).1], (j3 m l).2 ++ (O3 m e).2)
 | [] => by simp [j3]
 | a :: r => by simp [j3, ay3 m e r]
theorem as4 (m : t3) : ∀ l : List b6, (j3 m l).1.length = l.length
 | [] => rfl
 | a :: r => by simp [j3, as4 m r]
theorem ay4 {m : t3} {l : List b6} {k : Nat} (hk : k < l.length) : j3 m (l.take (k + 1)) = ((j3 m (l.take k)).1 ++ [(O3 m (l.getD k bF8)).1], (j3 m (l.take k)).2 ++ (O3 m (l.getD k bF8)).2) := by
 rw [m0 _ _ hk, ay3, f7 hk]
mutual
theorem bi2 (m : t3) : ∀ e : b6, (O3 m e).2.length ≤ G8 e + 1
 | ⟨k, n, ks⟩ => by
  have h := ae8 m ks
  rw [O3, G8]
  unfold evK
  repeat' split
  all_goals simp only [bI0, bH7, List.length_nil]
  all_goals omega
theorem ae8 (m : t3) : ∀ l : List b6, (j3 m l).2.length ≤ i9 l
 | [] => by simp [j3]
 | a :: r => by
  have h1 := bi2 m a
  have h2 := ae8 m r
  rw [j3, i9]
  simp only [bI0]
  omega
end
def inV (x : Int) : Prop := 0 ≤ x ∧ x ≤ 255
theorem aD0 {l : List Int} (h : ∀ x ∈ l, inV x) (i : Nat) : inV (l.getD i 0) := by
 rw [bG1]
 cases hx : l[i]? with
 | none => exact ⟨Int.le_refl _, by decide⟩
 | some x => exact h x (bH2 hx)
theorem bs8 {l : List Int} (h : I1 l = true) : ∀ x ∈ l, inV x := fun x hx => by
 have := bG4.1 h x hx
 simpa [inV] using this
theorem bC1 {l : List (List Int)} (h : l.all O5 = true) (i : Nat) : ∀ x ∈ l.getD i [], inV x := by
 rw [bG1]
 cases hx : l[i]? with
 | none => intro x hx; simp at hx
 | some r =>
  have := bG4.1 h r (bH2 hx)
  unfold O5 at this
  rw [bF9] at this
  exact bs8 this.2
theorem bm7 {m : t3} {nv na : Nat} (hm : mfB nv na m = true) : ∀ (d : Nat) (e : b6), b9 nv na d e = true → inV (O3 m e).1
 | 0, _, h => by simp [b9] at h
 | d + 1, ⟨k, n, ks⟩, h => by
  obtain ⟨f1, f2, f3, f4⟩ := aD2 hm
  obtain ⟨s1, s2, s3, s4⟩ := V0 h
  have hk : ∀ l : List b6, (∀ x ∈ l, b9 nv na d x = true) → ∀ y ∈ (j3 m l).1, inV y := by
   intro l
   induction l with
   | nil => intro _ y hy; simp [j3] at hy
   | cons a r ih =>
    intro hl y hy
    simp only [j3, bI7] at hy
    rcases hy with rfl | hy
    ·exact bm7 hm d a (hl a bH0)
    ·exact ih (fun x hx => hl x (bH6 _ hx)) y hy
  have hk := hk ks fun x hx => bG4.1 s4 x hx
  rw [O3]
  unfold evK
  split
  ·rename_i e
   subst e
   refine ⟨s2, ?_⟩
   have : v9 nv na 1 = 256 := rfl
   omega
  split
  ·exact aD0 (bs8 f3) _
  split
  ·exact aD0 (bC1 f4 _) _
  split
  ·split <;> exact aD0 hk _
  ·have a := aD0 hk 0
   have b := aD0 hk 1
   exact aK1 a.1 a.2 b.1 b.2
theorem bd9 : ∀ x : Fin 4, ∀ y : Fin 4, zB 1 (m6 x.val y.val) = (zB 1 (x.val : Int) || zB 1 (y.val : Int)) ∧ c3 (m6 x.val y.val) = true := by decide +kernel
theorem zor {x y : Int} (hx : c3 x = true) (hy : c3 y = true) : zB 1 (m6 x y) = (zB 1 x || zB 1 y) ∧ c3 (m6 x y) = true := by
 obtain ⟨a, rfl⟩ := F0 hx
 obtain ⟨b, rfl⟩ := F0 hy
 exact bd9 a b
theorem a29 {f : b6 → Int} : ∀ (ks : List b6) (x : Int), c3 x = true → (∀ k ∈ ks, c3 (f k) = true) → c3 (ks.foldl (fun a k => m6 a (f k)) x) = true ∧ (zB 1 (ks.foldl (fun a k => m6 a (f k)) x) = false → zB 1 x = false ∧ ∀ k ∈ ks, zB 1 (f k) = false)
 | [], x, h, _ => ⟨h, fun h => ⟨h, fun k hk => absurd hk List.not_mem_nil⟩⟩
 | a :: r, x, h, hk => by
  have h1 := zor h (hk a bH0)
  have h2 := a29 r _ h1.2 fun k hh => hk k (bH6 _ hh)
  refine ⟨h2.1, fun h3 => ?_⟩
  have h4 := h2.2 h3
  rw [h1.1, Bool.or_eq_false_iff] at h4
  refine ⟨h4.1.1, fun k hh => ?_⟩
  rcases bI7.1 hh with rfl | hh
  ·exact h4.1.2
  ·exact h4.2 k hh
theorem aJ1 {l : List Int} (h : l.all c3 = true) (i : Nat) : c3 (l.getD i 0) = true := by
 rw [bG1]
 cases hx : l[i]? with
 | none => rfl
 | some x => exact bG4.1 h x (bH2 hx)
theorem aW1 {vs ars : List Int} (hv : vs.all c3 = true) (ha : ars.all c3 = true) (e : b6) : c3 (ad8 vs ars e) = true := by
 unfold ad8
 split
 ·exact aJ1 hv _
 ·split
  ·exact aJ1 ha _
  ·rfl
theorem aQ5 {vs ars : List Int} (hv : vs.all c3 = true) (ha : ars.all c3 = true) : ∀ (d : Nat) (e : b6), c3 (j8 vs ars d e) = true
 | 0, _ => rfl
 | d + 1, e => by
  rw [j8]
  exact (a29 (f := j8 vs ars d) e.kids _ (aW1 hv ha e) fun k _ => aQ5 hv ha d k).1
structure Pub (vs ars : List Int) (a b : t3) : Prop where
 v : ∀ i : Nat, zB 1 (vs.getD i 0) = false → a.vals.getD i 0 = b.vals.getD i 0
 a : ∀ i : Nat, zB 1 (ars.getD i 0) = false → a.arrs.getD i [] = b.arrs.getD i []
theorem a68 {vs ars : List Int} (hv : vs.all c3 = true) (ha : ars.all c3 = true) {m m' : t3} (hp : Pub vs ars m m') {nv na : Nat} : ∀ (d : Nat) (e : b6), b9 nv na d e = true → zB 1 (j8 vs ars d e) = false → O3 m e = O3 m' e
 | 0, _, h, _ => by simp [b9] at h
 | d + 1, ⟨k, n, ks⟩, h, hz => by
  obtain ⟨s1, s2, s3, s4⟩ := V0 h
  rw [j8] at hz
  have h2 := (a29 (f := j8 vs ars d) ks _ (aW1 hv ha ⟨k, n, ks⟩) fun k _ => aQ5 hv ha d k).2 hz
  have hk : ∀ l : List b6, (∀ x ∈ l, x ∈ ks) → j3 m l = j3 m' l := by
   intro l
   induction l with
   | nil => intro _; rfl
   | cons a r ih =>
    intro hl
    have ha' := hl a bH0
    rw [j3, j3, ih fun x hx => hl x (bH6 _ hx), a68 hv ha hp d a (bG4.1 s4 a ha') (h2.2 a ha')]
  rw [O3, O3, hk ks fun _ h => h]
  have h3 : zB 1 (if k = 2 then vs.getD n.toNat 0 else if k = 3 then ars.getD n.toNat 0 else 0) = false := h2.1
  unfold evK
  split
  ·rfl
  split
  ·rename_i _ e2
   rw [if_pos e2] at h3
   rw [hp.v _ h3]
  split
  ·rename_i _ e2 e3
   rw [if_neg e2, if_pos e3] at h3
   rw [hp.a _ h3]
  rfl
theorem bp0 (b : List UInt8) (p : b7) (m : t3) (j : Int) : Pub p.vars p.arrays m (scM b 1 p m j).1 where
 v i h := (aV1 b 1 p.vars j m.vals i h _).symm
 a i h := (aB3 b 1 p.arrays _ m.arrs i _ (.inr h)).symm
theorem bp1 (b : List UInt8) {bit : Int} (p : b7) (m : t3) {j : Int} (hv : m.vals.length = p.vars.length) (ha : m.arrs.length = p.arrays.length) (h1 : I1 m.vals = true) (h2 : m.arrs.all O5 = true) (r0 : 0 ≤ j) (r1 : j + m.vals.length + 4 * m.arrs.length ≤ 1000000000) : mfB p.vars.length p.arrays.length (scM b bit p m j).1 = true := by
 have a1 := ax0 b bit p.vars j m.vals m.vals.length
 have a2 := ao8 b bit p.arrays (s5 b bit p.vars j m.vals m.vals.length).2 m.arrs m.arrs.length
 unfold mfB scM
 dsimp only
 rw [aB2 b bit p.vars m.vals h1 r0 _ (by omega), aV3 b bit p.arrays m.arrs h2 (by omega) _ (by omega), a1.1, a2.1, decide_eq_true hv, decide_eq_true ha]
 rfl
theorem a08 (k x y : Int) (r0 : inV x) (r1 : inV y) : c8.ok Try.prog (C6 156 [iA k, iA x, iA y] [] (iA (C9 k x y))) :=
 O0 fun φ w ρ h => (aC8 k x y w r0.1 r0.2 r1.1 r1.2).mono fun e w' ⟨h1, h2⟩ => ⟨h1, h2 ▸ Below.refl _ _⟩
theorem tmV {x : Int} (h : inV x) : 0 ≤ x.tmod 4 ∧ x.tmod 4 < 4 := by
 have h1 : 0 ≤ x ∧ x ≤ 255 := h
 rw [Int.tmod_eq_emod_of_nonneg (by omega)]; omega
theorem a19 (x y : Int) (r0 : 0 ≤ x ∧ x ≤ 1000) (r1 : inV y) : c8.ok Try.prog (C6 155 [iA x, iA y] [] (iA (x * 4 + y.tmod 4))) := by
 refine z7 10 Try.func155 [] [(0, iA x), (1, iA y)] fun G => ?_; have htm := tmV r1; have hyy : 0 ≤ y ∧ y ≤ 255 := r1; refine wp_seq (c7 G b8 [(4, iA 0)] fun G => b0 (wp_seq (C1 G b8 [(4, iA (x * 4 + y.tmod 4))] [wO (x * 4), (4 : Int) ≠ 0, wO (x * 4 + y.tmod (4 : Int))] ⟨oW (by omega), (by omega), (oW (by omega)), bG8⟩ fun G => b0 (wp_ret ?_)))); exact F8 G []
theorem bj4 (vs : List Int) (rs : List (List Int)) (l : List (Int × Int)) (x y : Int) (r0 : l.length ≤ 5000000) : c8.ok Try.prog ⟨164, [.ptr 0 0, iA x, iA y], [.box [.ref 1, .ref 2, .ref 3], dI vs, dR rs, .row 54 (.events l)], [.box [.ref 1, .ref 2, .ref 4], dI vs, dR rs, .dead, .row 54 (.events (l ++ [(x, y)]))], .tup []⟩ := by
 refine z7 18 Try.func164 [.box (pL 1), dI vs, dR rs, .row 54 (D.events l)] [(0, .ptr 0 0), (1, iA x), (2, iA y)] fun G => ?_; refine P5 G b8 [0, 1, 2, 3, 76] [.box [.ref 1, .ref 2, .ref 4], dI vs, dR rs, .dead, .row 54 (D.events (l ++ ([(x, y)] ++ [])))] [] (aP (l.length + ([(x, y)] ++ []).length) 16 []) (aK (by simp; omega) bG8) fun G => ?_; exact bv3 G (rg 5)
section
variable {nv na d : Nat} {m : t3} {e : b6}
theorem aa8 (hs : b9 nv na (d + 1) e = true) : (e.kids.length : Int) = e7 e.kind ∧ 0 ≤ e.value ∧ e.value < v9 nv na e.kind ∧ e.kids.all (b9 nv na d) = true := by
 obtain ⟨k, v, ks⟩ := e
 exact V0 hs
theorem bB4 (hs : b9 nv na (d + 1) e = true) (h : e.kind = 1) : e.kids.length = 0 := by
 have := aa8 hs
 rw [h] at this
 have h2 : e7 1 = 0 := rfl
 omega
theorem bB3 (hs : b9 nv na (d + 1) e = true) (h : e.kind = 2) : e.kids.length = 0 ∧ 0 ≤ e.value ∧ e.value < nv := by
 have := aa8 hs
 rw [h] at this
 have h2 : e7 2 = 0 := rfl
 have h3 : v9 nv na 2 = nv := rfl
 omega
theorem bB2 (hs : b9 nv na (d + 1) e = true) (h : e.kind = 3) : e.kids.length = 1 ∧ 0 ≤ e.value ∧ e.value < na := by
 have := aa8 hs
 rw [h] at this
 have h2 : e7 3 = 1 := rfl
 have h3 : v9 nv na 3 = na := rfl
 omega
theorem bt6 (hs : b9 nv na (d + 1) e = true) (h : e.kind = 11) : e.kids.length = 3 := by
 have := aa8 hs
 rw [h] at this
 have h2 : e7 11 = 3 := rfl
 omega
theorem bt5 (hs : b9 nv na (d + 1) e = true) (h1 : ¬ e.kind = 1) (h2 : ¬ e.kind = 2) (h3 : ¬ e.kind = 3) (h4 : ¬ e.kind = 11) : e.kids.length = 2 := by
 have := (aa8 hs).1
 unfold e7 at this
 rw [if_neg (by omega)] at this
 rw [if_neg h3] at this
 split at this <;> first | omega | (split at this <;> omega)
theorem br4 (hm : mfB nv na m = true) (hs : b9 nv na (d + 1) e = true) : ∀ x ∈ (j3 m e.kids).1, inV x := by
 have h := (aa8 hs).2.2.2
 have key : ∀ l : List b6, l.all (b9 nv na d) = true → ∀ y ∈ (j3 m l).1, inV y := by
  intro l
  induction l with
  | nil => intro _ y hy; simp [j3] at hy
  | cons a r ih =>
   intro hl y hy
   rw [List.all_cons, bF9] at hl
   simp only [j3, bI7] at hy
   rcases hy with rfl | hy
   ·exact bm7 hm d a hl.1
   ·exact ih hl.2 y hy
 exact key _ h
end
theorem bo3 {ks : List b6} {k : Nat} (hk : k < ks.length) : i9 (ks.take k) + G8 (ks.getD k bF8) + 1 ≤ i9 ks := by
 have h1 : i9 ks = i9 (ks.take k) + i9 (ks.drop k) := by
  rw [← M7, List.take_append_drop]
 rw [List.drop_eq_getElem_cons hk] at h1
 rw [f7 hk, h1]
 simp only [i9]; omega
section
variable {m : t3} {e : b6}
theorem by1 (h : e.kind = 1) : O3 m e = (e.value, (j3 m e.kids).2) := by rw [ah4, evK, if_pos h]
theorem by0 (h : e.kind = 2) : O3 m e = (m.vals.getD e.value.toNat 0, (j3 m e.kids).2) := by rw [ah4, evK, if_neg (by omega), if_pos h]
theorem bx9 (h : e.kind = 3) : O3 m e = ((m.arrs.getD e.value.toNat []).getD (((j3 m e.kids).1.getD 0 0).tmod 4).toNat 0, (j3 m e.kids).2 ++ [(2, e.value * 4 + ((j3 m e.kids).1.getD 0 0).tmod 4)]) := by rw [ah4, evK, if_neg (by omega), if_neg (by omega), if_pos h]
theorem ba9 (h : e.kind = 11) (h2 : ¬ (j3 m e.kids).1.getD 0 0 = 0) : O3 m e = ((j3 m e.kids).1.getD 1 0, (j3 m e.kids).2) := by rw [ah4, evK, if_neg (by omega), if_neg (by omega), if_neg (by omega), if_pos h, if_neg h2]
theorem bb0 (h : e.kind = 11) (h2 : (j3 m e.kids).1.getD 0 0 = 0) : O3 m e = ((j3 m e.kids).1.getD 2 0, (j3 m e.kids).2) := by rw [ah4, evK, if_neg (by omega), if_neg (by omega), if_neg (by omega), if_pos h, if_pos h2]
theorem bm8 (h1 : ¬ e.kind = 1) (h2 : ¬ e.kind = 2) (h3 : ¬ e.kind = 3) (h4 : ¬ e.kind = 11) : O3 m e = (C9 e.kind ((j3 m e.kids).1.getD 0 0) ((j3 m e.kids).1.getD 1 0), (j3 m e.kids).2) := by rw [ah4, evK, if_neg h1, if_neg h2, if_neg h3, if_neg h4]
theorem bC2 {nv na : Nat} (hm : mfB nv na m = true) {i : Int} (h0 : 0 ≤ i) (h1 : i < na) : (m.arrs.getD i.toNat []).length = 4 := by
 obtain ⟨f1, f2, f3, f4⟩ := aD2 hm
 have hi : i.toNat < m.arrs.length := by omega
 have := bG4.1 f4 (m.arrs.getD i.toNat []) (by rw [f7 hi]; exact bH8 hi)
 unfold O5 at this
 simp only [bF9, decide_eq_true_eq] at this
 exact this.1
end
abbrev ieC (m : t3) (e : b6) (l : List (Int × Int)) : c8 := ⟨93, [.ptr 0 0, eA e 4], [.box [.ref 1, .ref 2, .ref 3], dI m.vals, dR m.arrs, .row 54 (.events l), dE e.kids], [.box [.ref 1, .ref 2, .ref 5], dI m.vals, dR m.arrs, .dead, dE e.kids, .row 54 (.events (l ++ (O3 m e).2))], iA (O3 m e).1⟩
abbrev T0 (m : t3) (e : b6) (l : List (Int × Int)) : List It := [.box [.ref 1, .ref 2, .ref 5], dI m.vals, dR m.arrs, .dead, dE e.kids, .row 54 (D.events (l ++ (O3 m e).snd))]
theorem bf8 (m : t3) (nv na d : Nat) (e : b6) (hm : mfB nv na m = true) (hna : na ≤ 2) (hs : b9 nv na (d + 1) e = true) (ih : ∀ (u : b6), u ∈ e.kids → ∀ (l : List (Int × Int)), l.length + G8 u + 1 ≤ 5000000 → c8.ok Try.prog (ieC m u l)) (l : List (Int × Int)) (r1 : l.length + G8 e + 1 ≤ 5000000) : c8.ok Try.prog (ieC m e l) := by
  refine z7 85 Try.func93 [.box (pL 1), dI m.vals, dR m.arrs, .row 54 (D.events l), dE e.kids] [(0, .ptr 0 0), (1, eA e 4)] fun G => ?_
  have hlen : e.kids.length ≤ G8 e := by cases e; exact aG3 _
  have hvs := br4 hm hs; have hvl := as4 m e.kids; have hfi := aD2 hm; refine wp_seq (d7 G b8 (rg 6) [.box (pL 1), dI m.vals, dR m.arrs, .row 54 (D.events l), dE e.kids, .box (eL e 4)] [(0, .ptr 0 0), (3, .ptr 5 0), (4, iA 0)] fun G => b0 (wp_seq (c7 G b8 [(5, .v (.slice none 0 0))] fun G => b0 (wp_seq (wp_seq (y5 G b8 [(0, .ptr 0 0), (3, .ptr 5 0), (4, iA 0), (5, .v (.slice none 0 0)), (9, .ref 4), (10, iA (e.kids.length : Int)), (11, iA 0)] fun G => b0 (wp_block ?_))))))); have Gx := G.shift 3 6 [.box [.ref 1, .ref 2, .ref 6], dI m.vals, dR m.arrs, .dead, dE e.kids, .box (eL e 4), .row 54 (D.events l)] [(0, .ptr 0 0), (3, .ptr 5 0), (4, iA 0), (5, .v (.slice none 0 0)), (9, .ref 4), (10, iA (e.kids.length : Int)), (11, iA 0)]; clear G; obtain ⟨ρ, G⟩ := Gx; have Gx := G.nil 7 3 (.ints []) 1 [.box [.ref 1, .ref 2, .ref 6], dI m.vals, dR m.arrs, .dead, dE e.kids, .box (eL e 4), .row 54 (D.events l)] [(0, .ptr 0 0), (3, .ptr 5 0), (4, iA 0), (5, .ref 7), (9, .ref 4), (10, iA (e.kids.length : Int)), (11, iA 0)]; clear G; obtain ⟨ρ, G⟩ := Gx; replace G := l9.at G [.box [.ref 1, .ref 2, .ref 6], dI m.vals, dR m.arrs, .dead, dE e.kids, .box (eL e 4), .row 54 (D.events l), .row 3 (D.ints [])] [(0, .ptr 0 0), (3, .ptr 5 0), (4, iA 0), (5, .ref 7), (9, .ref 4), (10, iA (e.kids.length : Int)), (11, iA 0)]; replace G := G.as [.box [.ref 1, .ref 2, .ref 6], dI m.vals, dR m.arrs, .dead, dE e.kids, .box (eL e 4), .row 54 (D.events (l ++ (j3 m (bG3 0 e.kids)).snd)), .row 3 (D.ints (j3 m (bG3 0 e.kids)).fst)] [(0, .ptr 0 0), (3, .ptr 5 0), (4, iA 0), (5, .ref 7), (9, .ref 4), (10, iA (e.kids.length : Int)), (11, iA 0)] (by have e1 : (l ++ (j3 m (bG3 0 e.kids)).snd : List (Int × Int)) = (l) := (List.append_nil _); (first | rw [e1] | simp only [e1]) <;> rfl) (by kernel_rfl); refine l7 (κ := Nat) (fun k => k ≤ e.kids.length) (fun k => e.kids.length - k) (fun k => [.box [.ref 1, .ref 2, .ref 6], dI m.vals, dR m.arrs, .dead, dE e.kids, .box (eL e 4), .row 54 (.events (l ++ (j3 m (e.kids.take k)).2)), .row 3 (.ints (j3 m (e.kids.take k)).1)]) (fun k => [(0, .ptr 0 0), (3, .ptr 5 0), (4, iA 0), (5, .ref 7), (9, .ref 4), (10, iA (e.kids.length : Int)), (11, iA k)]) 0 (by omega) (l9.at G _ _) ?_; clear G; intro k ρ a w hp G; replace G := l9.at G [.box [.ref 1, .ref 2, .ref 6], dI m.vals, dR m.arrs, .dead, dE e.kids, .box (eL e 4), .row 54 (D.events (l ++ (j3 m (bG3 k e.kids)).snd)), .row 3 (D.ints (j3 m (bG3 k e.kids)).fst)] [(0, .ptr 0 0), (3, .ptr 5 0), (4, iA 0), (5, .ref 7), (9, .ref 4), (10, iA (e.kids.length : Int)), (11, iA k)]; have hkl := as4 m (e.kids.take k)
  have hkm : (e.kids.take k).length ≤ e.kids.length := by rw [List.length_take]; exact Nat.min_le_right _ _
  refine wp_seq (y5 G b8 [(0, .ptr 0 0), (3, .ptr 5 0), (4, iA 0), (5, .ref 7), (9, .ref 4), (10, iA (e.kids.length : Int)), (11, iA k), (12, bA (decide ((k : Int) < e.kids.length)))] fun G => b0 (wp_seq ?_)); cases h0 : (decide ((k : Int) < e.kids.length))
  ·
   have q0 := O8 h0
   obtain rfl : k = e.kids.length := by omega
   rw [List.take_length] at G; refine rF G (decide ((e.kids.length : Int) < e.kids.length)) (by assumption) (wp_exit (l6 (l6 (l5 (b0 (wp_seq (wp_seq (y5 G b8 [(0, .ptr 0 0), (3, .ptr 5 0), (4, iA 0), (5, .ref 7), (23, iA e.kind)] fun G => b0 (wp_block (wp_seq (y5 G b8 [(0, .ptr 0 0), (3, .ptr 5 0), (4, iA 0), (5, .ref 7), (23, iA e.kind), (24, bA (e.kind == 1))] fun G => b0 ?_))))))))))); cases h1 : (e.kind == 1)
   ·
    have q1 := ne_of_beq_false h1; refine rF G _ h1 (wp_seq (y5 G b8 [(0, .ptr 0 0), (3, .ptr 5 0), (4, iA 0), (5, .ref 7), (23, iA e.kind), (28, bA (e.kind == 2))] fun G => b0 ?_)); cases h2 : (e.kind == 2)
    ·
     have q2 := ne_of_beq_false h2; refine rF G _ h2 (wp_seq (y5 G b8 [(0, .ptr 0 0), (3, .ptr 5 0), (4, iA 0), (5, .ref 7), (23, iA e.kind), (39, bA (e.kind == 3))] fun G => b0 ?_)); cases h3 : (e.kind == 3)
     ·
      have q3 := ne_of_beq_false h3; refine rF G _ h3 (wp_seq (y5 G b8 [(3, .ptr 5 0), (4, iA 0), (5, .ref 7), (64, bA (e.kind == 11))] fun G => b0 ?_)); cases h4 : (e.kind == 11)
      · have q4 := ne_of_beq_false h4; have hqe := bt5 hs (by omega) (by omega) (by omega) (by omega); refine rF G _ h4 (wp_skip (j4 (b0 (wp_seq (L7 G (n8 8 [] (a08 e.kind ((j3 m e.kids).fst.getD 0 0) ((j3 m e.kids).fst.getD 1 0) (aD0 hvs _) (aD0 hvs _))) [0, 1, 0, 4, 12, 0, 32, 96, 255, 511] [0, 1, 2, 3, 4, 6] [.box [.ref 1, .ref 2, .ref 5], dI m.vals, dR m.arrs, .dead, dE e.kids, .row 54 (D.events (l ++ (j3 m e.kids).snd))] [(4, iA (C9 e.kind ((j3 m e.kids).fst.getD 0 0) ((j3 m e.kids).fst.getD 1 0)))] (iX 0 0 ((j3 m e.kids).fst.length) (iX 1 1 ((j3 m e.kids).fst.length) [])) (iK (by omega) (iK (by omega) bG8)) fun G => b0 (wp_ret ?_)))))); exact E4 (C9 e.kind ((j3 m e.kids).fst.getD 0 0) ((j3 m e.kids).fst.getD 1 0)) G (rg 6) (by rw [bm8 (by omega) (by omega) (by omega) (by omega)]) (by show _ = mR (rg 6) (T0 m e l); unfold T0; have e1 : (l ++ (O3 m e).snd : List (Int × Int)) = (l ++ (j3 m e.kids).snd) := (by rw [bm8 (by omega) (by omega) (by omega) (by omega)]); (first | rw [e1] | simp only [e1]) <;> rfl)
      ·
       have q4 := eq_of_beq h4; have hq11 := bt6 hs (by omega); refine rT G _ h4 (wp_seq (wp_seq (C1 G b8 [(69, bA ((j3 m e.kids).fst.getD 0 0 != 0))] (iX 0 0 ((j3 m e.kids).fst.length) []) (iK (by omega) bG8) fun G => b0 (rcN G (fun h5 q5 => ?_) fun h5 q5 => ?_))))
       · refine wp_skip (b0 (wp_seq (C1 G b8 [(4, iA ((j3 m e.kids).fst.getD 2 0))] (iX 2 2 ((j3 m e.kids).fst.length) []) (iK (by omega) bG8) fun G => b0 (wp_ret (o4 (c5 ?_)))))); exact E4 ((j3 m e.kids).fst.getD 2 0) G [0, 1, 2, 3, 4, 6] (by rw [bb0 (by omega) (by omega)]) (by show _ = mR [0, 1, 2, 3, 4, 6] (T0 m e l); unfold T0; have e1 : (l ++ (O3 m e).snd : List (Int × Int)) = (l ++ (j3 m e.kids).snd) := (by rw [bb0 (by omega) (by omega)]); (first | rw [e1] | simp only [e1]) <;> rfl)
       · refine wp_seq (C1 G b8 [(4, iA ((j3 m e.kids).fst.getD 1 0))] (iX 1 1 ((j3 m e.kids).fst.length) []) (iK (by omega) bG8) fun G => b0 (wp_ret (c5 (o4 (c5 ?_))))); exact E4 ((j3 m e.kids).fst.getD 1 0) G [0, 1, 2, 3, 4, 6] (by rw [ba9 (by omega) (by omega)]) (by show _ = mR [0, 1, 2, 3, 4, 6] (T0 m e l); unfold T0; have e1 : (l ++ (O3 m e).snd : List (Int × Int)) = (l ++ (j3 m e.kids).snd) := (by rw [ba9 (by omega) (by omega)]); (first | rw [e1] | simp only [e1]) <;> rfl)
     · have q3 := eq_of_beq h3; have hq3 := bB2 hs (by omega); have hr4 := bC2 hm (i := e.value) (by omega) (by omega); have htm := tmV (aD0 hvs 0); refine rT G _ h3 (wp_seq (L7 G (s7 (j5 6 [] (a19 e.value ((j3 m e.kids).fst.getD 0 0) (by omega) (aD0 hvs _)) (j5 7 [0, 1, 2, 6] (bj4 m.vals m.arrs (l ++ (j3 m e.kids).snd) 2 (e.value * 4 + ((j3 m e.kids).fst.getD 0 0).tmod 4) (by have h8 := ae8 m e.kids; have h7 : G8 e = i9 e.kids := C7 e; simp only [bI0, bH7, List.length_nil]; omega)) s6)) fz []) [0, 0, 2, 0, 8, 24, 62, 127] [0, 1, 2, 3, 4, 5, 7, 64] [.box [.ref 1, .ref 2, .ref 7], dI m.vals, dR m.arrs, .dead, dE e.kids, .box (eL e 4), .row 3 (D.ints (j3 m e.kids).fst), .row 54 (D.events (l ++ (j3 m e.kids).snd ++ [(2, e.value * 4 + ((j3 m e.kids).fst.getD 0 0).tmod 4)]))] [(0, .ptr 0 0), (3, .ptr 5 0), (4, iA 0), (5, .ref 6)] (iX 0 0 ((j3 m e.kids).fst.length) []) (iK (by omega) bG8) fun G => b0 (wp_seq (Y6 G b8 [0, 1, 3, 7, 15, 0, 32, 127, 255, 0, 512, 1536, 3584, 8191, 16383, 32767] [(4, iA ((m.arrs.getD e.value.toNat []).getD (((j3 m e.kids).fst.getD 0 0).tmod 4).toNat 0))] (iX e.value e.value.toNat m.arrs.length (iX 0 0 ((j3 m e.kids).fst.length) (((4 : Int) ≠ 0) :: (iX (((j3 m e.kids).fst.getD (0 : Nat) (0 : Int)).tmod (4 : Int)) ((((j3 m e.kids).fst.getD (0 : Nat) (0 : Int)).tmod (4 : Int)).toNat) ((m.arrs.getD e.value.toNat []).length) [])))) (iK (by omega) (iK (by omega) ⟨(by omega), (iK (by omega) bG8)⟩)) fun G => b0 (wp_ret (o4 (c5 ?_))))))); exact E4 ((m.arrs.getD e.value.toNat []).getD (((j3 m e.kids).fst.getD 0 0).tmod 4).toNat 0) G [0, 1, 2, 3, 4, 7] (by rw [bx9 (by omega)]) (by show _ = mR [0, 1, 2, 3, 4, 7] (T0 m e l); unfold T0; have e1 : (l ++ (O3 m e).snd : List (Int × Int)) = (l ++ (j3 m e.kids).snd ++ [(2, e.value * 4 + ((j3 m e.kids).fst.getD 0 0).tmod 4)]) := (by rw [bx9 (by omega), ← List.append_assoc]); (first | rw [e1] | simp only [e1]) <;> rfl)
    · have q2 := eq_of_beq h2; have hq2 := bB3 hs (by omega); refine rT G _ h2 (wp_seq (Y6 G b8 [0, 1, 3, 7, 15, 0, 32, 127, 255, 511] [(4, iA (m.vals.getD e.value.toNat 0))] (iX e.value e.value.toNat m.vals.length []) (iK (by omega) bG8) fun G => b0 (wp_ret (o4 (c5 ?_))))); exact E4 (m.vals.getD e.value.toNat 0) G [0, 1, 2, 3, 4, 6] (by rw [by0 (by omega)]) (by show _ = mR [0, 1, 2, 3, 4, 6] (T0 m e l); unfold T0; have e1 : (l ++ (O3 m e).snd : List (Int × Int)) = (l ++ (j3 m e.kids).snd) := (by rw [by0 (by omega)]); (first | rw [e1] | simp only [e1]) <;> rfl)
   · have q1 := eq_of_beq h1; have hq1 := bB4 hs (by omega); refine rT G _ h1 (wp_seq (c7 G b8 [(4, iA e.value)] fun G => b0 (wp_ret (o4 (c5 ?_))))); exact E4 e.value G [0, 1, 2, 3, 4, 6] (by rw [by1 (by omega)]) (by show _ = mR [0, 1, 2, 3, 4, 6] (T0 m e l); unfold T0; have e1 : (l ++ (O3 m e).snd : List (Int × Int)) = (l ++ (j3 m e.kids).snd) := (by rw [by1 (by omega)]); (first | rw [e1] | simp only [e1]) <;> rfl)
  · have q0 := O7 h0; refine rT G _ h0 (wp_skip (b0 (wp_seq (wp_block (wp_seq (P5 G b8 [0, 1, 2, 3, 4, 5, 6, 7, 16, 24] [.box [.ref 1, .ref 2, .ref 6], dI m.vals, dR m.arrs, .dead, dE e.kids, .box (eL e 4), .row 54 (D.events (l ++ (j3 m (bG3 k e.kids)).snd)), .row 3 (D.ints (j3 m (bG3 k e.kids)).fst), dE (e.kids.getD k bF8).kids, .box (eL (e.kids.getD k bF8) 8)] [(0, .ptr 0 0), (3, .ptr 5 0), (4, iA 0), (5, .ref 7), (7, .ptr 9 0), (9, .ref 4), (10, iA (e.kids.length : Int)), (11, iA k)] (iX k k e.kids.length []) (iK (by omega) bG8) fun G => b0 (P5 G (n8 3 [0, 1, 2, 6, 8] (ih (e.kids.getD k bF8) (ar7 (by omega)) (l ++ (j3 m (bG3 k e.kids)).snd) (by have h9 := bo3 (ks := e.kids) (k := k) (by omega); have h8 := ae8 m (e.kids.take k); have h7 : G8 e = i9 e.kids := C7 e; simp only [bI0]; omega))) [0, 1, 2, 3, 4, 5, 34, 50] [.box [.ref 1, .ref 2, .ref 6], dI m.vals, dR m.arrs, .dead, dE e.kids, .box (eL e 4), .row 54 (D.events (l ++ (j3 m (bG3 k e.kids)).snd ++ (O3 m (e.kids.getD k bF8)).snd)), .row 3 (D.ints ((j3 m (bG3 k e.kids)).fst ++ ([(O3 m (e.kids.getD k bF8)).fst] ++ [])))] [(0, .ptr 0 0), (3, .ptr 5 0), (4, iA 0), (5, .ref 7), (9, .ref 4), (10, iA (e.kids.length : Int)), (11, iA k)] (aP ((j3 m (bG3 k e.kids)).fst.length + 1) 8 []) (aK (by omega) bG8) fun G => j4 (b0 (C1 G b8 [(11, iA ((k : Int) + 1))] [wO ((k : Int) + 1)] (o1 (by omega)) fun G => b0 ?_))))))))); exact N8 G (k + 1) (by omega) (by omega) (rg 8) (by have e1 : (l ++ (j3 m (bG3 (k + 1) e.kids)).snd : List (Int × Int)) = (l ++ (j3 m (bG3 k e.kids)).snd ++ (O3 m (e.kids.getD k bF8)).snd) := (by rw [ay4 (by omega), ← List.append_assoc]); have e2 : ((j3 m (bG3 (k + 1) e.kids)).fst : List Int) = ((j3 m (bG3 k e.kids)).fst ++ ([(O3 m (e.kids.getD k bF8)).fst] ++ [])) := (by rw [ay4 (by omega)]; rfl); (first | rw [e1, e2] | simp only [e1, e2]) <;> rfl)
theorem aY4 (m : t3) (nv na : Nat) (hm : mfB nv na m = true) (hna : na ≤ 2) : ∀ (d : Nat) (e : b6), b9 nv na d e = true → ∀ (l : List (Int × Int)), l.length + G8 e + 1 ≤ 5000000 → c8.ok Try.prog (ieC m e l)
 | 0, _, h, _, _ => by simp [b9] at h
 | d + 1, e, h, l, r1 => bf8 m nv na d e hm hna h (fun u hu l' r' => aY4 m nv na hm hna d u (bG4.1 (aa8 h).2.2.2 u hu) l' r') l r1
theorem by7 (p : b7) (m : t3) : c8.ok Try.prog (C6 91 [pA 0, mA 3] (pS p ++ mS m) (bA (mvB p m))) := at2 p.vars p.arrays p.body m.vals m.arrs
def F3 (p : b7) (m : t3) (e : b6) : Bool := mvB p m && c6 p.vars.length p.arrays.length e
def F9 (p : b7) (m : t3) (e : b6) : Int × List (Int × Int) := if F3 p m e = true then O3 m e else (0, [])
section
variable {p : b7} {m : t3} {e : b6}
theorem ba8 (h : mvB p m = false) : F3 p m e = false ∧ F9 p m e = (0, []) := by
 have : F3 p m e = false := by unfold F3; rw [h]; rfl
 exact ⟨this, by unfold F9; rw [if_neg (by rw [this]; decide)]⟩
theorem ba7 (h : c6 p.vars.length p.arrays.length e = false) : F3 p m e = false ∧ F9 p m e = (0, []) := by
 have : F3 p m e = false := by unfold F3; rw [h]; simp
 exact ⟨this, by unfold F9; rw [if_neg (by rw [this]; decide)]⟩
theorem br3 (h : mvB p m = true) (h2 : c6 p.vars.length p.arrays.length e = true) : F3 p m e = true ∧ F9 p m e = O3 m e := by
 have : F3 p m e = true := by unfold F3; rw [h, h2]; rfl
 exact ⟨this, by unfold F9; rw [if_pos this]⟩
theorem ak0 (h : c6 p.vars.length p.arrays.length e = true) : b9 p.vars.length p.arrays.length 5 e = true ∧ G8 e ≤ 14 := by
 unfold c6 at h
 simp only [bF9, decide_eq_true_eq] at h
 exact ⟨h.1, by omega⟩
theorem a81 (h : mvB p m = true) : mfB p.vars.length p.arrays.length m = true ∧ p.arrays.length ≤ 2 := by
 have h1 := bh1 h
 unfold mvB at h
 rw [bF9] at h
 exact ⟨h.2, h1.2.2.2.2.2.2⟩
theorem bi6 (h : mvB p m = true) (h2 : c6 p.vars.length p.arrays.length e = true) : c8.ok Try.prog (ieC m e []) := aY4 m _ _ (a81 h).1 (a81 h).2 5 e (ak0 h2).1 [] (by have := (ak0 h2).2; simp; omega)
end
abbrev av5 (p : b7) (m : t3) (e : b6) : List It := [dI p.vars, dI p.arrays, dT p.body, dI m.vals, dR m.arrs, dE e.kids, .row 54 (D.events (F9 p m e).snd)]
abbrev Y9 (p : b7) (m : t3) (e : b6) (r0 : List It) : List It := dI p.vars :: dI p.arrays :: dT p.body :: dI m.vals :: dR m.arrs :: dE e.kids :: r0
abbrev ai7 (r0 : List (Nat × AV)) : List (Nat × AV) := (6, iA 0) :: (7, .v (.slice none 0 0)) :: (8, bA false) :: r0
theorem aj7 (p : b7) (m : t3) (e : b6) : c8.ok Try.prog ⟨29, [pA 0, mA 3, eA e 5], pS p ++ mS m ++ eS e, pS p ++ mS m ++ eS e ++ [.row 54 (.events (F9 p m e).2)], .tup [iA (F9 p m e).1, .ref 6, bA (F3 p m e)]⟩ := by
  have hmv := by7 p m
  have hie := fun h h2 => bi6 (p := p) (m := m) (e := e) h h2
  refine z7 32 Try.func29 (Y9 p m e []) [(0, pA 0), (1, .agg [.ref 3, .ref 4]), (2, eA e 5)] fun G => ?_; refine wp_seq (d7 G b8 [0, 1, 2, 3, 4, 5, 6, 14, 22] (Y9 p m e [.box (pL 0), .box [.ref 3, .ref 4], .box (eL e 5)]) ((3, .ptr 6 0) :: (4, .ptr 7 0) :: (5, .ptr 8 0) :: (ai7 [])) fun G => b0 (wp_seq (wp_seq ?_))); cases h0 : (!mvB p m)
  ·
   have q0 : (mvB p m) = true := (Eq.mp (bG7 _) h0); refine d7 G (s7 (j5 2 (rg 5) hmv (j5 7 [0, 1, 2, 5] (H3 p e) s6)) (fc h0 fz) (us [(5, 8, 0), (1009, 1009, 0)])) [0, 1, 2, 3, 4, 5, 7, 8] (Y9 p m e [.box [.ref 3, .ref 4], .box (eL e 5)]) ((4, .ptr 6 0) :: (5, .ptr 7 0) :: (ai7 [(20, .v (.bool !c6 p.vars.length p.arrays.length e))])) fun G => b0 ?_; cases h1 : (!c6 p.vars.length p.arrays.length e)
   · have q1 : (c6 p.vars.length p.arrays.length e) = true := (Eq.mp (bG7 _) h1); refine rF G _ h1 (wp_skip (b0 (wp_seq (d7 G b8 [0, 1, 2, 3, 4, 5, 7, 24] (Y9 p m e [.box (eL e 5), .box [.ref 3, .ref 4, .v (.slice none 0 0)]]) ((5, .ptr 6 0) :: (ai7 [(9, .ptr 7 0)])) fun G => b0 (wp_seq ?_))))); obtain ⟨ρ, G⟩ := G.nil 8 54 (.events []) 6 (Y9 p m e [.box (eL e 5), .box [.ref 3, .ref 4, .ref 8]]) ((5, .ptr 6 0) :: (ai7 [(9, .ptr 7 0)])); refine d7 G (n8 2 [7, 3, 4, 8, 5] (hie (by assumption) (by assumption))) [0, 1, 2, 3, 4, 5, 7, 25] (Y9 p m e [.box [.ref 3, .ref 4, .ref 7], .row 54 (D.events ([] ++ (O3 m e).snd))]) (ai7 [(9, .ptr 6 0), (10, iA (O3 m e).fst)]) fun G => b0 (wp_seq (ap1 G b8 [0, 0, 2, 6, 14, 1, 63, 127] [0, 1, 2, 3, 4, 5, 7] (Y9 p m e [.row 54 (D.events ([] ++ (O3 m e).snd))]) [(6, iA (O3 m e).fst), (7, .ref 6), (8, bA true)] fun G => b0 (wp_ret ?_))); exact V5 (.tup [iA (O3 m e).fst, .ref 6, bA true]) G (rg 7) (by have e1 : ((F9 p m e).fst : Int) = ((O3 m e).fst) := (by rw [(br3 (by with_reducible assumption) (by with_reducible assumption)).2]); have e2 : (F3 p m e : Bool) = (true) := ((br3 (by with_reducible assumption) (by with_reducible assumption)).1); (first | rw [e1, e2] | simp only [e1, e2]) <;> rfl) (by show _ = mR (rg 7) (av5 p m e); unfold av5; rw [(br3 (by with_reducible assumption) (by with_reducible assumption)).2] <;> rfl)
   · have q1 : (c6 p.vars.length p.arrays.length e) = false := (Eq.mp (bG6 _) h1); refine rT G _ h1 (wp_seq (y5 G b8 ((4, .ptr 6 0) :: (5, .ptr 7 0) :: (ai7 [])) fun G => b0 (wp_ret (c5 ?_)))); obtain ⟨ρ, G⟩ := G.nil 8 54 (.events []) 6 (Y9 p m e [.box [.ref 3, .ref 4], .box (eL e 5)]) [(4, .ptr 6 0), (5, .ptr 7 0), (6, iA 0), (7, .ref 8), (8, bA false)]; exact V5 (.tup [iA 0, .ref 8, bA false]) G [0, 1, 2, 3, 4, 5, 8] (by have e1 : ((F9 p m e).fst : Int) = (0) := (by rw [(ba7 (by with_reducible assumption)).2]); have e2 : (F3 p m e : Bool) = (false) := ((ba7 (by with_reducible assumption)).1); (first | rw [e1, e2] | simp only [e1, e2]) <;> rfl) (by show _ = mR [0, 1, 2, 3, 4, 5, 8] (av5 p m e); unfold av5; have e1 : ((F9 p m e).snd : List (Int × Int)) = ([]) := (by rw [(ba7 (by with_reducible assumption)).2]); (first | rw [e1] | simp only [e1]) <;> rfl)
  · have q0 : (mvB p m) = false := (Eq.mp (bG6 _) h0); refine d7 G (s7 (j5 2 (rg 5) hmv s6) (fc h0 fz) (us [(5, 8, 0), (1009, 1009, 0)])) [0, 1, 2, 3, 4, 5, 7, 8] (Y9 p m e [.box [.ref 3, .ref 4], .box (eL e 5)]) ((4, .ptr 6 0) :: (5, .ptr 7 0) :: (ai7 [(20, bA true)])) fun G => b0 (rT G true (by kernel_rfl) (wp_seq (y5 G b8 ((4, .ptr 6 0) :: (5, .ptr 7 0) :: (ai7 [])) fun G => b0 (wp_ret (c5 ?_))))); obtain ⟨ρ, G⟩ := G.nil 8 54 (.events []) 6 (Y9 p m e [.box [.ref 3, .ref 4], .box (eL e 5)]) [(4, .ptr 6 0), (5, .ptr 7 0), (6, iA 0), (7, .ref 8), (8, bA false)]; exact V5 (.tup [iA 0, .ref 8, bA false]) G [0, 1, 2, 3, 4, 5, 8] (by have e1 : ((F9 p m e).fst : Int) = (0) := (by rw [(ba8 (by with_reducible assumption)).2]); have e2 : (F3 p m e : Bool) = (false) := ((ba8 (by with_reducible assumption)).1); (first | rw [e1, e2] | simp only [e1, e2]) <;> rfl) (by show _ = mR [0, 1, 2, 3, 4, 5, 8] (av5 p m e); unfold av5; have e1 : ((F9 p m e).snd : List (Int × Int)) = ([]) := (by rw [(ba8 (by with_reducible assumption)).2]); (first | rw [e1] | simp only [e1]) <;> rfl)
end Go.Proofs.Ytgmhmijcnlfmfaa
