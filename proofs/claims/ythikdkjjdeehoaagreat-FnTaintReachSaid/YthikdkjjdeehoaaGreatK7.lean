/- Part 7: functions on the way, plain laws. Conditions: as said. -/
import Derived.Test.YthikdkjjdeehoaaGreatK1
import Derived.Test.YthikdkjjdeehoaaGreatK2
import Derived.Test.YthikdkjjdeehoaaGreatK4
import Derived.Test.YthikdkjjdeehoaaGreatK6
set_option maxRecDepth 100000
set_option maxHeartbeats 16000000
set_option linter.unusedVariables false
set_option linter.unusedSimpArgs false
open Bool renaming not_eq_false' → cj6, not_eq_true' → ci9
open Inhabited renaming default → cg8
open List renaming getElem?_eq_getElem → ch2, take → ch6, take_of_length_le → ci6
open Nat renaming le_refl → ch5
open True renaming intro → ci3

namespace Go.Proofs.YthikdkjjdeehoaaGreat
open Go Go.RowKit
theorem aB9 (p : i5) (hb : p.size ≤ 1048576) : j8.ok Tryz.prog ⟨33, [pA 0], pS p, pS p ++ [rI (cvP (G0 p)), rI (caP (G0 p)), rN (I1 (G0 p)).1], .tup [.agg [.ref 3, .ref 4, .ref 5], bA (okC (G0 p))]⟩ := by
 refine E2 18 Tryz.func33 [dI p.vars, dI p.arrays, dT p.body] [(0, pA 0)] fun G => ?_; have hz := bW9 p
 have hz1 : (G0 p).size ≤ 1048576 := by omega
 refine wp_seq (j7 G d9 [0, 1, 2, 3, 11] [dI p.vars, dI p.arrays, dT p.body, .box (pL 0), .box [.v (.slice none 0 0), .v (.slice none 0 0), .v (.slice none 0 0)]] [(1, .ptr 3 0), (2, .ptr 4 0), (3, bA false)] fun G => b6 (wp_seq (j7 G (s7 1 [0, 1, 2] (a83 p (by assumption))) [0, 1, 2, 4, 13, 14, 15, 45] [dI p.vars, dI p.arrays, dT p.body, .box [.v (.slice none 0 0), .v (.slice none 0 0), .v (.slice none 0 0)], dI (G0 p).vars, dI (G0 p).arrays, dT (G0 p).body, .box (pL 4)] [(2, .ptr 3 0), (3, bA false), (4, .ptr 7 0), (5, bA (okL p))] fun G => b6 (wp_seq (wp_seq (k8 G d9 [(12, .v (.bool !okL p))] fun G => b6 ?_)))))); cases h0 : (!okL p)
 ·have q0 : (okL p) = true := (Eq.mp (cj6 _) h0); refine rF G _ h0 (wp_skip (b6 (wp_seq (j7 G (s7 1 [4, 5, 6] (ax7 (G0 p) (by assumption))) [0, 1, 2, 3, 16, 17, 18] [dI p.vars, dI p.arrays, dT p.body, .box (pL 4), .row 3 (D.ints (cvP (G0 p))), .row 3 (D.ints (caP (G0 p))), .row 86 (D.instrs (I1 (G0 p)).fst)] [(2, .ptr 3 0), (3, bA (okC (G0 p)))] fun G => b6 (wp_ret ?_))))); exact K2 G [0, 1, 2, 4, 5, 6]
 ·have q0 : (okL p) = false := (Eq.mp (ci9 _) h0); refine rT G _ h0 (wp_seq (C6 G d9 [(2, .ptr 3 0), (3, bA false), (4, .ptr 7 0)] fun G => b6 (wp_ret (l4 ?_)))); obtain ⟨ρ, G⟩ := G.nil 8 3 (.ints []) 1 [dI p.vars, dI p.arrays, dT p.body, .box [.ref 8, .v (.slice none 0 0), .v (.slice none 0 0)], dI (G0 p).vars, dI (G0 p).arrays, dT (G0 p).body, .box (pL 4)] [(2, .ptr 3 0), (3, bA false), (4, .ptr 7 0)]; obtain ⟨ρ, G⟩ := G.nil 9 3 (.ints []) 1 [dI p.vars, dI p.arrays, dT p.body, .box [.ref 8, .ref 9, .v (.slice none 0 0)], dI (G0 p).vars, dI (G0 p).arrays, dT (G0 p).body, .box (pL 4), .row 3 (D.ints [])] [(2, .ptr 3 0), (3, bA false), (4, .ptr 7 0)]; obtain ⟨ρ, G⟩ := G.nil 10 86 (.instrs []) 5 [dI p.vars, dI p.arrays, dT p.body, .box (pL 8), dI (G0 p).vars, dI (G0 p).arrays, dT (G0 p).body, .box (pL 4), .row 3 (D.ints []), .row 3 (D.ints [])] [(2, .ptr 3 0), (3, bA false), (4, .ptr 7 0)]; exact T7 (.tup [pA 8, bA false]) G [0, 1, 2, 8, 9, 10] (by have e1 : (okC (G0 p) : Bool) = (false) := (bn3 (by with_reducible assumption)); (first | rw [e1] | simp only [e1]) <;> rfl) (by show _ = mR [0, 1, 2, 8, 9, 10] [dI p.vars, dI p.arrays, dT p.body, .row 3 (D.ints (cvP (G0 p))), .row 3 (D.ints (caP (G0 p))), .row 86 (D.instrs (I1 (G0 p)).fst)]; have e2 : (caP (G0 p) : List Int) = ([]) := (by rw [bZ3 (bn3 (by with_reducible assumption))]; done); have e3 : ((I1 (G0 p)).fst : List d7) = ([]) := (by rw [ax3 (bn3 (by with_reducible assumption))]; done); rw [e2, e3, bY8 (bn3 (by with_reducible assumption))] <;> rfl)
abbrev ncC (b : List UInt8) (j : Int) (c : f7) (q : Int) : j8 := ⟨96, [.ptr 0 0], [.box [.ref 1, iA j], dY b], [.box [.ref 1, iA q], dY b, rI c.vars, rI c.arrays, rN c.list], .agg [.ref 2, .ref 3, .ref 4]⟩
theorem bR9 {p : i5} {x : Bool} (hb : p.size ≤ 1048576) (h : okC (G0 p) = x) : j8.ok Tryz.prog ⟨33, [pA 0], pS p, pS p ++ [rI (cvP (G0 p)), rI (caP (G0 p)), rN (I1 (G0 p)).1], .tup [.agg [.ref 3, .ref 4, .ref 5], bA x]⟩ := h ▸ aB9 p hb
abbrev bu7 : It := .box [.v (.slice none 0 0), .v (.slice none 0 0), .v (.slice none 0 0)]
theorem b37 (b : List UInt8) (j : Int) (h0 : ¬ pk b (l6 b j).2 3 = 0) (h1 : ¬ pk b (l6 b j).2 3 = 1) (r0 : 0 ≤ j) (r1 : j ≤ 1000000) : j8.ok Tryz.prog (ncC b j (l6 b j).1 ((l6 b j).2 + 1)) := by
  have hcd := bF5 b r0 (show j ≤ 10000000 by omega); refine E2 103 Tryz.func96 [.box [.ref 1, iA j], dY b] [(0, .ptr 0 0)] fun G => ?_; refine wp_seq (j7 G d9 [0, 1, 2] [.box [.ref 1, iA j], dY b, bu7] [(0, .ptr 0 0), (2, .ptr 2 0)] fun G => b6 (wp_seq (j7 G (s7 1 [0, 1] (at9 b j (by assumption) (by omega))) [0, 1, 2, 11, 12, 13, 19] [.box [.ref 1, iA (l6 b j).snd], dY b, bu7, .row 3 (D.ints (l6 b j).fst.vars), .row 3 (D.ints (l6 b j).fst.arrays), .row 86 (D.instrs (l6 b j).fst.list), .box (pL 3)] [(0, .ptr 0 0), (2, .ptr 2 0), (3, .ptr 6 0)] fun G => b6 (wp_seq (wp_seq (j7 G (s7 1 [0, 1] (t2 b ((l6 b j).snd) 3 (by omega) (by omega))) (rg 7) [.box [.ref 1, iA ((l6 b j).snd + 1)], dY b, bu7, .row 3 (D.ints (l6 b j).fst.vars), .row 3 (D.ints (l6 b j).fst.arrays), .row 86 (D.instrs (l6 b j).fst.list), .box (pL 3)] [(0, .ptr 0 0), (2, .ptr 2 0), (3, .ptr 6 0), (12, iA (pk b (l6 b j).snd 3))] fun G => b6 (wp_block (wp_seq (C6 G d9 [(0, .ptr 0 0), (2, .ptr 2 0), (3, .ptr 6 0), (12, iA (pk b (l6 b j).snd 3)), (13, bA (pk b (l6 b j).snd 3 == 0))] fun G => b6 ?_))))))))); cases h0 : (pk b (l6 b j).snd (3 : Int) == 0)
  ·
   have q0 := ne_of_beq_false h0; refine rF G _ h0 (wp_seq (C6 G d9 [(2, .ptr 2 0), (3, .ptr 6 0), (29, bA (pk b (l6 b j).snd 3 == 1))] fun G => b6 ?_)); cases h1 : (pk b (l6 b j).snd (3 : Int) == 1)
   · have q1 := ne_of_beq_false h1; refine rF G _ h1 (wp_skip (k6 (b6 (wp_seq (j7 G d9 (rg 6) [.box [.ref 1, iA ((l6 b j).snd + 1)], dY b, .box (pL 3), .row 3 (D.ints (l6 b j).fst.vars), .row 3 (D.ints (l6 b j).fst.arrays), .row 86 (D.instrs (l6 b j).fst.list)] [(2, .ptr 2 0)] fun G => b6 (wp_ret ?_)))))); exact K2 G [0, 1, 3, 4, 5]
   · have q1 := eq_of_beq h1; exact False.elim (by omega)
  · have q0 := eq_of_beq h0; exact False.elim (by omega)
abbrev ai0 : It := .box [.v (.slice none 0 0), .v (.slice none 0 0), .v (.slice none 0 0)]
abbrev an5 (b : List UInt8) (j : Int) : It := .box [.ref 1, iA ((l6 b j).snd + 1)]
abbrev ay9 (b : List UInt8) (j : Int) (k : Nat) : It := .row 3 (D.ints (rqL 1 (l6 b j).fst.vars k))
abbrev aP3 (b : List UInt8) (j : Int) (i : Nat) : It := .row 3 (D.ints (rqL 1 (l6 b j).fst.arrays i))
abbrev aP2 (b : List UInt8) (j : Int) : It := .row 86 (D.instrs (l6 b j).fst.list)
theorem b38 (b : List UInt8) (j : Int) (hpk : pk b (l6 b j).2 3 = 1) (r0 : 0 ≤ j) (r1 : j ≤ 1000000) : j8.ok Tryz.prog (ncC b j ⟨(l6 b j).1.vars.map fun x => l0 x 1, (l6 b j).1.arrays.map fun x => l0 x 1, (l6 b j).1.list.map fnI⟩ ((l6 b j).2 + 1)) := by
  have hcd := bF5 b r0 (show j ≤ 10000000 by omega); have hpg := by8 b j; have hpv : (l6 b j).1.vars.length ≤ 12 := hpg.1; have hpa : (l6 b j).1.arrays.length ≤ 2 := hpg.2.1; refine E2 103 Tryz.func96 [.box [.ref 1, iA j], dY b] [(0, .ptr 0 0)] fun G => ?_; refine wp_seq (j7 G d9 [0, 1, 2] [.box [.ref 1, iA j], dY b, ai0] [(0, .ptr 0 0), (2, .ptr 2 0)] fun G => b6 (wp_seq (j7 G (s7 1 [0, 1] (at9 b j (by assumption) (by omega))) [0, 1, 2, 11, 12, 13, 19] [.box [.ref 1, iA (l6 b j).snd], dY b, ai0, .row 3 (D.ints (l6 b j).fst.vars), .row 3 (D.ints (l6 b j).fst.arrays), aP2 b j, .box (pL 3)] [(0, .ptr 0 0), (2, .ptr 2 0), (3, .ptr 6 0)] fun G => b6 (wp_seq (wp_seq (j7 G (s7 1 [0, 1] (t2 b ((l6 b j).snd) 3 (by omega) (by omega))) (rg 7) [an5 b j, dY b, ai0, .row 3 (D.ints (l6 b j).fst.vars), .row 3 (D.ints (l6 b j).fst.arrays), aP2 b j, .box (pL 3)] [(0, .ptr 0 0), (2, .ptr 2 0), (3, .ptr 6 0), (12, iA (pk b (l6 b j).snd 3))] fun G => b6 (wp_block (wp_seq (C6 G d9 [(0, .ptr 0 0), (2, .ptr 2 0), (3, .ptr 6 0), (12, iA (pk b (l6 b j).snd 3)), (13, bA (pk b (l6 b j).snd 3 == 0))] fun G => b6 ?_))))))))); cases h0 : (pk b (l6 b j).snd (3 : Int) == 0)
  ·
   have q0 := ne_of_beq_false h0; refine rF G _ h0 (wp_seq (C6 G d9 [(2, .ptr 2 0), (3, .ptr 6 0), (29, bA (pk b (l6 b j).snd 3 == 1))] fun G => b6 ?_)); cases h1 : (pk b (l6 b j).snd (3 : Int) == 1)
   · have q1 := ne_of_beq_false h1; exact False.elim (by omega)
   ·
    have q1 := eq_of_beq h1; refine rT G _ h1 (wp_seq (wp_seq (C6 G d9 [(2, .ptr 2 0), (3, .ptr 6 0), (6, iA 0)] fun G => b6 (wp_block ?_)))); refine s6 (κ := Nat) (fun k => k ≤ (l6 b j).1.vars.length) (fun k => (l6 b j).1.vars.length - k) (fun k => [.box [.ref 1, iA ((l6 b j).snd + 1)], dY b, .box [.v (.slice none 0 0), .v (.slice none 0 0), .v (.slice none 0 0)], .row 3 (.ints (rqL 1 (l6 b j).1.vars k)), .row 3 (D.ints (l6 b j).fst.arrays), .row 86 (D.instrs (l6 b j).fst.list), .box (pL 3)]) (fun k => [(2, .ptr 2 0), (3, .ptr 6 0), (6, iA k)]) 0 (by omega) (t4.at G _ _) ?_; clear G; intro k ρ a w hp G; replace G := t4.at G [an5 b j, dY b, ai0, ay9 b j k, .row 3 (D.ints (l6 b j).fst.arrays), aP2 b j, .box (pL 3)] [(2, .ptr 2 0), (3, .ptr 6 0), (6, iA k)]; have hq := bk3 1 (l6 b j).1.vars k; refine wp_seq (wp_seq (k8 G d9 [(35, bA (decide ((k : Int) < ((rqL 1 (l6 b j).fst.vars k).length : Int))))] fun G => b6 (Z6 G (fun h2 q2 => ?_) fun h2 q2 => ?_)))
    ·
     refine wp_exit (r7 (r7 (p6 (b6 (wp_seq (wp_seq (C6 G d9 [(2, .ptr 2 0), (3, .ptr 6 0), (7, iA 0)] fun G => b6 (wp_block ?_)))))))); refine s6 (κ := Nat) (fun i => i ≤ (l6 b j).1.arrays.length) (fun i => (l6 b j).1.arrays.length - i) (fun i => [.box [.ref 1, iA ((l6 b j).snd + 1)], dY b, .box [.v (.slice none 0 0), .v (.slice none 0 0), .v (.slice none 0 0)], .row 3 (D.ints (rqL 1 (l6 b j).fst.vars k)), .row 3 (.ints (rqL 1 (l6 b j).1.arrays i)), .row 86 (D.instrs (l6 b j).fst.list), .box (pL 3)]) (fun i => [(2, .ptr 2 0), (3, .ptr 6 0), (7, iA i)]) 0 (by omega) (t4.at G _ _) ?_; clear G; intro i ρ a w hp G; replace G := t4.at G [an5 b j, dY b, ai0, ay9 b j k, aP3 b j i, aP2 b j, .box (pL 3)] [(2, .ptr 2 0), (3, .ptr 6 0), (7, iA i)]; have hqa := bk3 1 (l6 b j).1.arrays i; refine wp_seq (wp_seq (k8 G d9 [(52, bA (decide ((i : Int) < ((rqL 1 (l6 b j).fst.arrays i).length : Int))))] fun G => b6 (Z6 G (fun h3 q3 => ?_) fun h3 q3 => ?_)))
     ·
      refine wp_exit (r7 (r7 (p6 (b6 (wp_seq (C6 G d9 [(2, .ptr 2 0), (3, .ptr 6 0), (8, iA 0)] fun G => b6 (wp_block ?_))))))); refine s6 (κ := Nat) (fun n => n ≤ (l6 b j).1.list.length) (fun n => (l6 b j).1.list.length - n) (fun n => [.box [.ref 1, iA ((l6 b j).snd + 1)], dY b, .box [.v (.slice none 0 0), .v (.slice none 0 0), .v (.slice none 0 0)], .row 3 (D.ints (rqL 1 (l6 b j).fst.vars k)), .row 3 (D.ints (rqL 1 (l6 b j).fst.arrays i)), .row 86 (.instrs (Y7 (l6 b j).1.list n)), .box (pL 3)]) (fun n => [(2, .ptr 2 0), (3, .ptr 6 0), (8, iA n)]) 0 (by omega) (t4.at G _ _) ?_; clear G; intro n ρ a w hp G; replace G := t4.at G [an5 b j, dY b, ai0, ay9 b j k, aP3 b j i, .row 86 (D.instrs (Y7 (l6 b j).fst.list n)), .box (pL 3)] [(2, .ptr 2 0), (3, .ptr 6 0), (8, iA n)]; have hql := bm7 (l6 b j).1.list n; refine wp_seq (wp_seq (k8 G d9 [(69, bA (decide ((n : Int) < ((Y7 (l6 b j).fst.list n).length : Int))))] fun G => b6 (Z6 G (fun h4 q4 => ?_) fun h4 q4 => ?_)))
      · refine wp_exit (r7 (r7 (p6 (k6 (b6 (wp_seq (j7 G d9 (rg 6) [an5 b j, dY b, .box (pL 3), ay9 b j k, aP3 b j i, .row 86 (D.instrs (Y7 (l6 b j).fst.list n))] [(2, .ptr 2 0)] fun G => b6 (wp_ret ?_)))))))); exact K2 G [0, 1, 3, 4, 5] (by show _ = mR [0, 1, 3, 4, 5] [.box [.ref 1, iA ((l6 b j).snd + 1)], dY b, .row 3 (D.ints (f7.mk (List.map (fun (x : Int) => l0 x 1) (l6 b j).fst.vars) (List.map (fun (x : Int) => l0 x 1) (l6 b j).fst.arrays) (List.map fnI (l6 b j).fst.list)).vars), .row 3 (D.ints (f7.mk (List.map (fun (x : Int) => l0 x 1) (l6 b j).fst.vars) (List.map (fun (x : Int) => l0 x 1) (l6 b j).fst.arrays) (List.map fnI (l6 b j).fst.list)).arrays), .row 86 (D.instrs (f7.mk (List.map (fun (x : Int) => l0 x 1) (l6 b j).fst.vars) (List.map (fun (x : Int) => l0 x 1) (l6 b j).fst.arrays) (List.map fnI (l6 b j).fst.list)).list)]; have e1 : ((f7.mk (List.map (fun (x : Int) => l0 x 1) (l6 b j).fst.vars) (List.map (fun (x : Int) => l0 x 1) (l6 b j).fst.arrays) (List.map fnI (l6 b j).fst.list)).vars : List Int) = (rqL 1 (l6 b j).fst.vars k) := ((bk4 (by omega)).symm); have e2 : ((f7.mk (List.map (fun (x : Int) => l0 x 1) (l6 b j).fst.vars) (List.map (fun (x : Int) => l0 x 1) (l6 b j).fst.arrays) (List.map fnI (l6 b j).fst.list)).arrays : List Int) = (rqL 1 (l6 b j).fst.arrays i) := ((bk4 (by omega)).symm); have e3 : ((f7.mk (List.map (fun (x : Int) => l0 x 1) (l6 b j).fst.vars) (List.map (fun (x : Int) => l0 x 1) (l6 b j).fst.arrays) (List.map fnI (l6 b j).fst.list)).list : List d7) = (Y7 (l6 b j).fst.list n) := ((bM6 (by omega)).symm); (first | rw [e1, e2, e3] | simp only [e1, e2, e3]) <;> rfl)
      ·
       refine wp_skip (b6 (wp_seq (wp_block (wp_seq ?_)))); cases h5 : (((Y7 (l6 b j).fst.list n).getD n cg8).op == 9)
       ·
        have q5 := ne_of_beq_false h5; cases h6 : (((Y7 (l6 b j).fst.list n).getD n cg8).op == 4)
        ·
         have q6 := ne_of_beq_false h6; refine D0 G (I5 (fc h5 (fc h6 fz)) (us [(8, 14, 0), (1015, 1015, 0), (17, 23, 1), (1024, 1024, 1)])) [(96, bA (((Y7 (l6 b j).fst.list n).getD n cg8).op == 5))] (iX n n ((Y7 (l6 b j).fst.list n).length) (iX n n ((Y7 (l6 b j).fst.list n).length) (iX n n ((Y7 (l6 b j).fst.list n).length) []))) (iK (by omega) (iK (by omega) (iK (by omega) ci3))) fun G => b6 (J1 G (fun h7 q7 => ?_) fun h7 q7 => ?_)
         · refine wp_skip (k6 (b6 (D0 G d9 [(8, iA ((n : Int) + 1))] [wO ((n : Int) + 1)] (o1 (by omega)) fun G => b6 ?_))); exact H9 G (n + 1) (by omega) (by omega) (rg 7) (by have e1 : (Y7 (l6 b j).fst.list (n + 1) : List d7) = (Y7 (l6 b j).fst.list n) := (b78 (by omega) (by omega)); (first | rw [e1] | simp only [e1]) <;> rfl)
         · refine N0 G d9 (rg 7) [an5 b j, dY b, ai0, ay9 b j k, aP3 b j i, .row 86 (D.instrs ((Y7 (l6 b j).fst.list n).set n (d7.mk 12 0 0 0 0))), .box (pL 3)] [(2, .ptr 2 0), (3, .ptr 6 0), (8, iA n)] (iX n n ((Y7 (l6 b j).fst.list n).length) []) (iK (by omega) ci3) fun G => k6 (b6 (D0 G d9 [(8, iA ((n : Int) + 1))] [wO ((n : Int) + 1)] (o1 (by omega)) fun G => b6 ?_)); exact H9 G (n + 1) (by omega) (by omega) (rg 7) (by have e1 : (Y7 (l6 b j).fst.list (n + 1) : List d7) = ((Y7 (l6 b j).fst.list n).set n (d7.mk 12 0 0 0 0)) := (bD3 (by omega) (by omega)); (first | rw [e1] | simp only [e1]) <;> rfl)
        · have q6 := eq_of_beq h6; refine D0 G (I5 (fc h5 (fc h6 fz)) (us [(8, 14, 0), (1015, 1015, 0), (17, 23, 1), (1024, 1024, 1)])) [(96, bA true)] (iX n n ((Y7 (l6 b j).fst.list n).length) (iX n n ((Y7 (l6 b j).fst.list n).length) [])) (iK (by omega) (iK (by omega) ci3)) fun G => b6 (rT G true (by kernel_rfl) (N0 G d9 (rg 7) [an5 b j, dY b, ai0, ay9 b j k, aP3 b j i, .row 86 (D.instrs ((Y7 (l6 b j).fst.list n).set n (d7.mk 12 0 0 0 0))), .box (pL 3)] [(2, .ptr 2 0), (3, .ptr 6 0), (8, iA n)] (iX n n ((Y7 (l6 b j).fst.list n).length) []) (iK (by omega) ci3) fun G => k6 (b6 (D0 G d9 [(8, iA ((n : Int) + 1))] [wO ((n : Int) + 1)] (o1 (by omega)) fun G => b6 ?_)))); exact H9 G (n + 1) (by omega) (by omega) (rg 7) (by have e1 : (Y7 (l6 b j).fst.list (n + 1) : List d7) = ((Y7 (l6 b j).fst.list n).set n (d7.mk 12 0 0 0 0)) := (bD3 (by omega) (by omega)); (first | rw [e1] | simp only [e1]) <;> rfl)
       · have q5 := eq_of_beq h5; refine D0 G (I5 (fc h5 (fc (b := true) rfl fz)) (us [(8, 14, 0), (1015, 1015, 0), (17, 23, 1), (1024, 1024, 1)])) [(96, bA true)] (iX n n ((Y7 (l6 b j).fst.list n).length) []) (iK (by omega) ci3) fun G => b6 (rT G true (by kernel_rfl) (N0 G d9 (rg 7) [an5 b j, dY b, ai0, ay9 b j k, aP3 b j i, .row 86 (D.instrs ((Y7 (l6 b j).fst.list n).set n (d7.mk 12 0 0 0 0))), .box (pL 3)] [(2, .ptr 2 0), (3, .ptr 6 0), (8, iA n)] (iX n n ((Y7 (l6 b j).fst.list n).length) []) (iK (by omega) ci3) fun G => k6 (b6 (D0 G d9 [(8, iA ((n : Int) + 1))] [wO ((n : Int) + 1)] (o1 (by omega)) fun G => b6 ?_)))); exact H9 G (n + 1) (by omega) (by omega) (rg 7) (by have e1 : (Y7 (l6 b j).fst.list (n + 1) : List d7) = ((Y7 (l6 b j).fst.list n).set n (d7.mk 12 0 0 0 0)) := (bD3 (by omega) (by omega)); (first | rw [e1] | simp only [e1]) <;> rfl)
     · refine wp_skip (b6 (wp_seq (wp_block (N5 G d9 [0, 1, 0, 0, 8, 0, 56, 120, 248, 511, 1023] (rg 7) [an5 b j, dY b, ai0, ay9 b j k, .row 3 (D.ints ((rqL 1 (l6 b j).fst.arrays i).set i (l0 ((rqL 1 (l6 b j).fst.arrays i).getD i 0) 1))), aP2 b j, .box (pL 3)] [(2, .ptr 2 0), (3, .ptr 6 0), (7, iA i)] (iX i i ((rqL (1 : Int) (l6 b j).fst.arrays i).length) (iX i i ((rqL (1 : Int) (l6 b j).fst.arrays i).length) [])) (iK (by omega) (iK (by omega) ci3)) fun G => k6 (b6 (D0 G d9 [(7, iA ((i : Int) + 1))] [wO ((i : Int) + 1)] (o1 (by omega)) fun G => b6 ?_)))))); exact H9 G (i + 1) (by omega) (by omega) (rg 7) (by have e1 : (rqL 1 (l6 b j).fst.arrays (i + 1) : List Int) = ((rqL 1 (l6 b j).fst.arrays i).set i (l0 ((rqL 1 (l6 b j).fst.arrays i).getD i 0) 1)) := ((bk2 (by omega)).symm); (first | rw [e1] | simp only [e1]) <;> rfl)
    · refine wp_skip (b6 (wp_seq (wp_block (N5 G d9 [0, 1, 0, 0, 8, 0, 56, 120, 248, 511, 1023] (rg 7) [an5 b j, dY b, ai0, .row 3 (D.ints ((rqL 1 (l6 b j).fst.vars k).set k (l0 ((rqL 1 (l6 b j).fst.vars k).getD k 0) 1))), .row 3 (D.ints (l6 b j).fst.arrays), aP2 b j, .box (pL 3)] [(2, .ptr 2 0), (3, .ptr 6 0), (6, iA k)] (iX k k ((rqL (1 : Int) (l6 b j).fst.vars k).length) (iX k k ((rqL (1 : Int) (l6 b j).fst.vars k).length) [])) (iK (by omega) (iK (by omega) ci3)) fun G => k6 (b6 (D0 G d9 [(6, iA ((k : Int) + 1))] [wO ((k : Int) + 1)] (o1 (by omega)) fun G => b6 ?_)))))); exact H9 G (k + 1) (by omega) (by omega) (rg 7) (by have e1 : (rqL 1 (l6 b j).fst.vars (k + 1) : List Int) = ((rqL 1 (l6 b j).fst.vars k).set k (l0 ((rqL 1 (l6 b j).fst.vars k).getD k 0) 1)) := ((bk2 (by omega)).symm); (first | rw [e1] | simp only [e1]) <;> rfl)
  · have q0 := eq_of_beq h0; exact False.elim (by omega)
abbrev bi6 : It := .box [.v (.slice none 0 0), .v (.slice none 0 0), .v (.slice none 0 0)]
abbrev bh5 (b : List UInt8) (j : Int) (r0 : List It) : List It := .row 3 (D.ints (l6 b j).fst.vars) :: .row 3 (D.ints (l6 b j).fst.arrays) :: .row 86 (D.instrs (l6 b j).fst.list) :: .box (pL 3) :: r0
theorem bT9 (b : List UInt8) (j : Int) (hpk : pk b (l6 b j).2 3 = 0) (hok : okC (G0 (H6 b 3 ((l6 b j).2 + 1)).1) = true) (hl : (I1 (G0 (H6 b 3 ((l6 b j).2 + 1)).1)).1.length ≤ 60) (r0 : 0 ≤ j) (r1 : j ≤ 1000000) : j8.ok Tryz.prog (ncC b j ⟨cvP (G0 (H6 b 3 ((l6 b j).2 + 1)).1), caP (G0 (H6 b 3 ((l6 b j).2 + 1)).1), (I1 (G0 (H6 b 3 ((l6 b j).2 + 1)).1)).1⟩ (H6 b 3 ((l6 b j).2 + 1)).2) := by
  have hcd := bF5 b r0 (show j ≤ 10000000 by omega); have hfi := bN0 b 3 ((l6 b j).2 + 1) (ch5 _) (by omega) (by omega); have hcs := bR9 (show (H6 b 3 ((l6 b j).2 + 1)).1.size ≤ 1048576 by omega) hok; refine E2 103 Tryz.func96 [.box [.ref 1, iA j], dY b] [(0, .ptr 0 0)] fun G => ?_; refine wp_seq (j7 G d9 [0, 1, 2] [.box [.ref 1, iA j], dY b, bi6] [(0, .ptr 0 0), (2, .ptr 2 0)] fun G => b6 (wp_seq (j7 G (s7 1 [0, 1] (at9 b j (by assumption) (by omega))) [0, 1, 2, 11, 12, 13, 19] (.box [.ref 1, iA (l6 b j).snd] :: dY b :: bi6 :: (bh5 b j [])) [(0, .ptr 0 0), (2, .ptr 2 0), (3, .ptr 6 0)] fun G => b6 (wp_seq (wp_seq (j7 G (s7 1 [0, 1] (t2 b ((l6 b j).snd) 3 (by omega) (by omega))) (rg 7) (.box [.ref 1, iA ((l6 b j).snd + 1)] :: dY b :: bi6 :: (bh5 b j [])) [(0, .ptr 0 0), (2, .ptr 2 0), (3, .ptr 6 0), (12, iA (pk b (l6 b j).snd 3))] fun G => b6 (wp_block (wp_seq (C6 G d9 [(0, .ptr 0 0), (2, .ptr 2 0), (3, .ptr 6 0), (12, iA (pk b (l6 b j).snd 3)), (13, bA (pk b (l6 b j).snd 3 == 0))] fun G => b6 ?_))))))))); cases h0 : (pk b (l6 b j).snd (3 : Int) == 0)
  · have q0 := ne_of_beq_false h0; exact False.elim (by omega)
  ·
   have q0 := eq_of_beq h0; refine rT G _ h0 (wp_seq (j7 G (E9 (t3 1 [0, 1] (aA1 b ((l6 b j).snd + 1) (by omega) (by omega)) (t3 2 [15, 16, 17] (j8.lend hcs [.row 3, .row 3, .tree]) E8)) fz []) [0, 1, 2, 3, 4, 5, 6, 23, 24, 25, 55] (.box [.ref 1, iA (H6 b 3 ((l6 b j).snd + 1)).snd] :: dY b :: bi6 :: (bh5 b j [.row 3 (D.ints (cvP (G0 (H6 b 3 ((l6 b j).snd + 1)).fst))), .row 3 (D.ints (caP (G0 (H6 b 3 ((l6 b j).snd + 1)).fst))), .row 86 (D.instrs (I1 (G0 (H6 b 3 ((l6 b j).snd + 1)).fst)).fst), .box (pL 7)])) [(2, .ptr 2 0), (3, .ptr 6 0), (4, .ptr 10 0), (5, bA true)] fun G => b6 (wp_seq (C6 G (I5 (fc (b := true) rfl fz) (us [(2, 5, 0), (1006, 1006, 0)])) [(2, .ptr 2 0), (3, .ptr 6 0), (4, .ptr 10 0), (27, bA (decide (((I1 (G0 (H6 b 3 ((l6 b j).snd + 1)).fst)).fst.length : Int) ≤ 60)))] fun G => b6 ?_)))); cases h1 : (decide (((I1 (G0 (H6 b (3 : Nat) ((l6 b j).snd + 1)).fst)).fst.length : Int) ≤ 60))
   · have q1 := dFf h1; exact False.elim (by omega)
   · have q1 := dTt h1; refine rT G _ h1 (wp_seq (j7 G d9 (rg 10) (.box [.ref 1, iA (H6 b 3 ((l6 b j).snd + 1)).snd] :: dY b :: .box (pL 7) :: (bh5 b j [.row 3 (D.ints (cvP (G0 (H6 b 3 ((l6 b j).snd + 1)).fst))), .row 3 (D.ints (caP (G0 (H6 b 3 ((l6 b j).snd + 1)).fst))), .row 86 (D.instrs (I1 (G0 (H6 b 3 ((l6 b j).snd + 1)).fst)).fst)])) [(2, .ptr 2 0), (3, .ptr 6 0)] fun G => b6 (wp_ret (z3 (l4 ?_))))); exact K2 G [0, 1, 7, 8, 9]
abbrev bi5 : It := .box [.v (.slice none 0 0), .v (.slice none 0 0), .v (.slice none 0 0)]
abbrev aZ5 (b : List UInt8) (j : Int) (r0 : List It) : List It := .row 3 (D.ints (l6 b j).fst.vars) :: .row 3 (D.ints (l6 b j).fst.arrays) :: .row 86 (D.instrs (l6 b j).fst.list) :: r0
theorem bU0 (b : List UInt8) (j : Int) (x : Bool) (hpk : pk b (l6 b j).2 3 = 0) (hok : okC (G0 (H6 b 3 ((l6 b j).2 + 1)).1) = x) (hl : ¬ (x = true ∧ (I1 (G0 (H6 b 3 ((l6 b j).2 + 1)).1)).1.length ≤ 60)) (r0 : 0 ≤ j) (r1 : j ≤ 1000000) : j8.ok Tryz.prog (ncC b j (l6 b j).1 (H6 b 3 ((l6 b j).2 + 1)).2) := by
  have hcd := bF5 b r0 (show j ≤ 10000000 by omega); have hfi := bN0 b 3 ((l6 b j).2 + 1) (ch5 _) (by omega) (by omega); have hcs := bR9 (show (H6 b 3 ((l6 b j).2 + 1)).1.size ≤ 1048576 by omega) hok; refine E2 103 Tryz.func96 [.box [.ref 1, iA j], dY b] [(0, .ptr 0 0)] fun G => ?_; refine wp_seq (j7 G d9 [0, 1, 2] [.box [.ref 1, iA j], dY b, bi5] [(0, .ptr 0 0), (2, .ptr 2 0)] fun G => b6 (wp_seq (j7 G (s7 1 [0, 1] (at9 b j (by assumption) (by omega))) [0, 1, 2, 11, 12, 13, 19] (.box [.ref 1, iA (l6 b j).snd] :: dY b :: bi5 :: (aZ5 b j [.box (pL 3)])) [(0, .ptr 0 0), (2, .ptr 2 0), (3, .ptr 6 0)] fun G => b6 (wp_seq (wp_seq (j7 G (s7 1 [0, 1] (t2 b ((l6 b j).snd) 3 (by omega) (by omega))) (rg 7) (.box [.ref 1, iA ((l6 b j).snd + 1)] :: dY b :: bi5 :: (aZ5 b j [.box (pL 3)])) [(0, .ptr 0 0), (2, .ptr 2 0), (3, .ptr 6 0), (12, iA (pk b (l6 b j).snd 3))] fun G => b6 (wp_block (wp_seq (C6 G d9 [(0, .ptr 0 0), (2, .ptr 2 0), (3, .ptr 6 0), (12, iA (pk b (l6 b j).snd 3)), (13, bA (pk b (l6 b j).snd 3 == 0))] fun G => b6 ?_))))))))); cases h0 : (pk b (l6 b j).snd (3 : Int) == 0)
  · have q0 := ne_of_beq_false h0; exact False.elim (by omega)
  ·
   have q0 := eq_of_beq h0; refine rT G _ h0 (wp_seq (j7 G (E9 (t3 1 [0, 1] (aA1 b ((l6 b j).snd + 1) (by omega) (by omega)) (t3 2 [15, 16, 17] (j8.lend hcs [.row 3, .row 3, .tree]) E8)) fz []) [0, 1, 2, 3, 4, 5, 6, 23, 24, 25, 55] (.box [.ref 1, iA (H6 b 3 ((l6 b j).snd + 1)).snd] :: dY b :: bi5 :: (aZ5 b j [.box (pL 3), .row 3 (D.ints (cvP (G0 (H6 b 3 ((l6 b j).snd + 1)).fst))), .row 3 (D.ints (caP (G0 (H6 b 3 ((l6 b j).snd + 1)).fst))), .row 86 (D.instrs (I1 (G0 (H6 b 3 ((l6 b j).snd + 1)).fst)).fst), .box (pL 7)])) [(2, .ptr 2 0), (3, .ptr 6 0), (4, .ptr 10 0), (5, bA x)] fun G => b6 (wp_seq ?_))); cases h1 : (x)
   · refine k8 G (I5 (fc h1 fz) (us [(2, 5, 0), (1006, 1006, 0)])) [(27, bA false)] fun G => b6 (rF G false (by kernel_rfl) (wp_skip (k6 (b6 (wp_seq (j7 G d9 (rg 6) (.box [.ref 1, iA (H6 b 3 ((l6 b j).snd + 1)).snd] :: dY b :: .box (pL 3) :: (aZ5 b j [])) [(2, .ptr 2 0)] fun G => b6 (wp_ret ?_))))))); exact K2 G [0, 1, 3, 4, 5]
   ·
    refine C6 G (I5 (fc h1 fz) (us [(2, 5, 0), (1006, 1006, 0)])) [(2, .ptr 2 0), (3, .ptr 6 0), (4, .ptr 10 0), (27, bA (decide (((I1 (G0 (H6 b 3 ((l6 b j).snd + 1)).fst)).fst.length : Int) ≤ 60)))] fun G => b6 ?_; cases h2 : (decide (((I1 (G0 (H6 b (3 : Nat) ((l6 b j).snd + 1)).fst)).fst.length : Int) ≤ 60))
    · have q2 := dFf h2; refine rF G _ h2 (wp_skip (k6 (b6 (wp_seq (j7 G d9 (rg 6) (.box [.ref 1, iA (H6 b 3 ((l6 b j).snd + 1)).snd] :: dY b :: .box (pL 3) :: (aZ5 b j [])) [(2, .ptr 2 0)] fun G => b6 (wp_ret ?_)))))); exact K2 G [0, 1, 3, 4, 5]
    · have q2 := dTt h2; exact False.elim (hl ⟨by with_reducible assumption, by omega⟩)
theorem a74 (b : List UInt8) (j : Int) (r0 : 0 ≤ j) (r1 : j ≤ 1000000) : j8.ok Tryz.prog ⟨96, [.ptr 0 0], [.box [.ref 1, iA j], dY b], [.box [.ref 1, iA (U9 b j).2], dY b, rI (U9 b j).1.vars, rI (U9 b j).1.arrays, rN (U9 b j).1.list], .agg [.ref 2, .ref 3, .ref 4]⟩ := by
 by_cases h0 : pk b (l6 b j).2 3 = 0
 ·by_cases h2 : okC (G0 (H6 b 3 ((l6 b j).2 + 1)).1) = true ∧ (I1 (G0 (H6 b 3 ((l6 b j).2 + 1)).1)).1.length ≤ 60
  ·have e : U9 b j = (⟨cvP (G0 (H6 b 3 ((l6 b j).2 + 1)).1), caP (G0 (H6 b 3 ((l6 b j).2 + 1)).1), (I1 (G0 (H6 b 3 ((l6 b j).2 + 1)).1)).1⟩, (H6 b 3 ((l6 b j).2 + 1)).2) := by unfold U9; rw [if_pos h0, if_pos h2]
   rw [e]; exact bT9 b j h0 h2.1 h2.2 r0 r1
  ·have e : U9 b j = ((l6 b j).1, (H6 b 3 ((l6 b j).2 + 1)).2) := by unfold U9; rw [if_pos h0, if_neg h2]
   rw [e]; exact bU0 b j _ h0 rfl h2 r0 r1
 ·by_cases h1 : pk b (l6 b j).2 3 = 1
  ·have e : U9 b j = (⟨(l6 b j).1.vars.map fun x => l0 x 1, (l6 b j).1.arrays.map fun x => l0 x 1, (l6 b j).1.list.map fnI⟩, (l6 b j).2 + 1) := by unfold U9; rw [if_neg h0, if_pos h1]
   rw [e]; exact b38 b j h1 r0 r1
  ·have e : U9 b j = ((l6 b j).1, (l6 b j).2 + 1) := by unfold U9; rw [if_neg h0, if_neg h1]
   rw [e]; exact b37 b j h0 h1 r0 r1
def dcX (b : List UInt8) : f7 := (muD b (U9 b 0).2 (U9 b 0).1).1
theorem nc0 (b : List UInt8) : 0 ≤ (U9 b 0).2 ∧ (U9 b 0).2 ≤ 1000000 ∧ (U9 b 0).1.list.length ≤ 60 ∧ (U9 b 0).1.vars.length ≤ 12 ∧ (U9 b 0).1.arrays.length ≤ 2 := by
 have h := b51 b (j := 0) (by omega) (by omega)
 omega
theorem bp8 (c : List UInt8) (hc : c.length ≤ 2000) : j8.ok Tryz.prog ⟨41, [.ref 0], [dY c], [dY c, rI (dcX c).vars, rI (dcX c).arrays, rN (dcX c).list], .agg [.ref 1, .ref 2, .ref 3]⟩ := by
 refine E2 10 Tryz.func41 [dY c] [(0, .ref 0)] fun G => ?_; have hjp := nc0 c; refine wp_seq (j7 G d9 [0, 1] [dY c, .box [.v (.slice none 0 0), .v (.slice none 0 0), .v (.slice none 0 0)]] [(0, .ref 0), (2, .ptr 1 0)] fun G => b6 (wp_seq (j7 G (s7 1 [0] (bg7 c (by assumption))) [0, 1, 10] [dY c, .box [.v (.slice none 0 0), .v (.slice none 0 0), .v (.slice none 0 0)], .box [.ref 0, iA 0]] [(2, .ptr 1 0), (3, .ptr 2 0)] fun G => b6 (wp_seq (j7 G (E9 (t3 2 [2, 0] (a74 c 0 (by omega) (by omega)) (t3 3 [2, 0, 19, 20, 21] (j8.lend (aM0 c ((U9 c 0).snd) ((U9 c 0).fst.vars) ((U9 c 0).fst.arrays) ((U9 c 0).fst.list) (by omega) (by omega) (by omega)) [.no, .no, .row 3, .row 3, .row 86]) E8)) fz []) [0, 1, 27, 28, 29] [dY c, .box (pL 2), .row 3 (D.ints (muD c (U9 c 0).snd (f7.mk (U9 c 0).fst.vars (U9 c 0).fst.arrays (U9 c 0).fst.list)).fst.vars), .row 3 (D.ints (muD c (U9 c 0).snd (f7.mk (U9 c 0).fst.vars (U9 c 0).fst.arrays (U9 c 0).fst.list)).fst.arrays), .row 86 (D.instrs (muD c (U9 c 0).snd (f7.mk (U9 c 0).fst.vars (U9 c 0).fst.arrays (U9 c 0).fst.list)).fst.list)] [(2, .ptr 1 0)] fun G => b6 (wp_ret ?_)))))); exact K2 G [0, 2, 3, 4]
abbrev bu6 (c : List UInt8) := muD (List.drop 0 (ch6 2000 c)) (U9 (List.drop 0 (ch6 2000 c)) 0).snd (f7.mk (U9 (List.drop 0 (ch6 2000 c)) 0).fst.vars (U9 (List.drop 0 (ch6 2000 c)) 0).fst.arrays (U9 (List.drop 0 (ch6 2000 c)) 0).fst.list)
theorem bp7 (c : List UInt8) (hc : 2000 < c.length) : j8.ok Tryz.prog ⟨41, [.ref 0], [dY c], [dY c, rI (dcX ((c.take 2000).drop 0)).vars, rI (dcX ((c.take 2000).drop 0)).arrays, rN (dcX ((c.take 2000).drop 0)).list], .agg [.ref 1, .ref 2, .ref 3]⟩ := by
 refine E2 10 Tryz.func41 [dY c] [(0, .ref 0)] fun G => ?_; have hjp := nc0 ((c.take 2000).drop 0); refine wp_seq (j7 G d9 [0, 1] [dY c, .box [.v (.slice none 0 0), .v (.slice none 0 0), .v (.slice none 0 0)]] [(0, .ref 0), (2, .ptr 1 0)] fun G => b6 (wp_seq (j7 G (s7 1 [0] (bg6 c (by assumption))) [0, 1, 10, 11] [dY c, .box [.v (.slice none 0 0), .v (.slice none 0 0), .v (.slice none 0 0)], .box [.ref 3, iA 0], dY (List.drop 0 (ch6 2000 c))] [(2, .ptr 1 0), (3, .ptr 2 0)] fun G => b6 (wp_seq (j7 G (E9 (t3 2 [2, 3] (a74 (List.drop 0 (ch6 2000 c)) 0 (by omega) (by omega)) (t3 3 [2, 3, 20, 21, 22] (j8.lend (aM0 (List.drop 0 (ch6 2000 c)) ((U9 (List.drop 0 (ch6 2000 c)) 0).snd) ((U9 (List.drop 0 (ch6 2000 c)) 0).fst.vars) ((U9 (List.drop 0 (ch6 2000 c)) 0).fst.arrays) ((U9 (List.drop 0 (ch6 2000 c)) 0).fst.list) (by omega) (by omega) (by omega)) [.no, .no, .row 3, .row 3, .row 86]) E8)) fz []) [0, 1, 28, 29, 30] [dY c, .box (pL 2), .row 3 (D.ints (bu6 c).fst.vars), .row 3 (D.ints (bu6 c).fst.arrays), .row 86 (D.instrs (bu6 c).fst.list)] [(2, .ptr 1 0)] fun G => b6 (wp_ret ?_)))))); exact K2 G [0, 2, 3, 4]
theorem bG6 (c : List UInt8) : j8.ok Tryz.prog ⟨41, [.ref 0], [dY c], [dY c, rI (y9 c).vars, rI (y9 c).arrays, rN (y9 c).list], .agg [.ref 1, .ref 2, .ref 3]⟩ := by
 by_cases h : c.length ≤ 2000
 ·have e : y9 c = dcX c := by unfold y9 dcX bsD; rw [ci6 h]
  rw [e]; exact bp8 c h
 ·exact bp7 c (by omega)
theorem bG5 (c : List UInt8) : j8.ok Tryz.prog ⟨45, [.ref 0], [dY c], [dY c, rI (y9 c).vars, rI (y9 c).arrays, rN (y9 c).list], .agg [.ref 1, .ref 2, .ref 3]⟩ := by
 refine E2 5 Tryz.func45 [dY c] [(0, .ref 0)] fun G => ?_; refine wp_seq (j7 G d9 [0, 1] [dY c, .box [.v (.slice none 0 0), .v (.slice none 0 0), .v (.slice none 0 0)]] [(0, .ref 0), (2, .ptr 1 0)] fun G => b6 (wp_seq (j7 G (s7 1 [0] (bG6 c)) [0, 1, 10, 11, 12] [dY c, .box (pL 2), .row 3 (D.ints (y9 c).vars), .row 3 (D.ints (y9 c).arrays), .row 86 (D.instrs (y9 c).list)] [(2, .ptr 1 0)] fun G => b6 (wp_ret ?_)))); exact K2 G [0, 2, 3, 4]
theorem bW7 {w : World} {lo hi : Nat} {u : Value} {m : List (List Bool)} (h : L5 w lo hi u m) {φ : Nat → Prop} (hf : ∀ g, lo ≤ g → φ g) : RD w φ (.brows m) u := by
 obtain ⟨vs, h1, h2, _⟩ := h
 refine ⟨vs, A3 h1.1 fun g hg => hf g (h1.lt g hg).1, fun i hi => ?_⟩
 have hl : i < vs.length := by rw [h1.row.1]; omega
 have h3 := h2 i _ _ (ch2 hl) (ch2 hi)
 exact ⟨_, ch2 hl, A3 h3.1 fun g hg => hf g (h3.lt g hg).1⟩
theorem bl3 {ι : Type} {φ ψ : Nat → Prop} {w0 w w' : World} {F : ι → Rs} {ρ : Nat → Value} {a b c d : D} {u : Value} (M : l5 φ ψ w0 w (o0 F ρ (s4 [.dat a, .dat b, .dat c]))) (hbl : Below w.heap.size w w') (hr : ∀ φ' : Nat → Prop, (∀ g, w.heap.size ≤ g → φ' g) → RD w' φ' d u) : l5 φ ψ w0 w' (o0 F (fun i => if i = 3 then u else ρ i) (s4 [.dat a, .dat b, .dat c, .dat d])) := by
 have ho' : ∀ k, ¬ k = Sum.inr 3 → o0 F (fun i => if i = 3 then u else ρ i) (s4 [.dat a, .dat b, .dat c, .dat d]) k = o0 F ρ (s4 [.dat a, .dat b, .dat c]) k := by
  intro k hk
  cases k with
  | inl i => rfl
  | inr j =>
   match j, hk with
   | 0, _ => rfl
   | 1, _ => rfl
   | 2, _ => rfl
   | 3, h => exact absurd rfl h
   | j + 4, _ => rfl
 refine M.grow hbl (fun k => k = .inr 3) ho' (by rintro k rfl b hb; cases hb) (by rintro j k b hjk rfl rfl; exact absurd rfl hjk) ?_
 rintro k rfl
 refine ⟨RD.nice _ _, hr _ fun g h1 => ⟨M.fresh g (by have := M.kept.size; omega), fun k hk => ?_⟩⟩
 by_cases e : k = .inr 3
 ·subst e; cases hk
 ·rw [ho' k e] at hk
  have := M.lt hk
  omega
section
variable {f : FuncId} {c : f7}
theorem bA6 {m : List (List Bool)} {b : Bool} (h : ∀ (v : Value) (w : World), t6 w v c → Calls Tryz.prog f #[v] w fun e w' => ∃ u, e = .returned (.tuple #[u, .bool b]) ∧ L5 w' w.heap.size w'.heap.size u m ∧ Below w.heap.size w w') : j8.ok Tryz.prog ⟨f, [.agg [.ref 0, .ref 1, .ref 2]], [.dat (.ints c.vars), .dat (.ints c.arrays), .dat (.instrs c.list)], [.dat (.ints c.vars), .dat (.ints c.arrays), .dat (.instrs c.list), .dat (.brows m)], .tup [.ref 3, .v (.bool b)]⟩ := by
 intro ι φ ψ w0 w F ρ M
 refine (h (.agg #[ρ 0, ρ 1, ρ 2]) w ⟨_, _, _, rfl, z9.row (M.datAt (id := 0) (d := .ints c.vars) rfl), z9.row (M.datAt (id := 1) (d := .ints c.arrays) rfl), z9.row (M.datAt (id := 2) (d := .instrs c.list) rfl)⟩).mono ?_
 rintro e w' ⟨u, rfl, ho, hbl⟩
 exact ⟨_, fun i (hi : i < 3) => if_neg (show ¬ i = 3 by omega), by simp [AV.val, AV.vals], bl3 (u := u) M hbl fun _ hf => bW7 ho hf⟩
theorem bG8 {m : List Bool} (h : ∀ (v : Value) (w : World), t6 w v c → Calls Tryz.prog f #[v] w fun e w' => ∃ u, e = .returned u ∧ A9 w' w.heap.size w'.heap.size 4 1 u m.length (bools m) ∧ Below w.heap.size w w') : j8.ok Tryz.prog ⟨f, [.agg [.ref 0, .ref 1, .ref 2]], [.dat (.ints c.vars), .dat (.ints c.arrays), .dat (.instrs c.list)], [.dat (.ints c.vars), .dat (.ints c.arrays), .dat (.instrs c.list), .dat (.bools m)], .ref 3⟩ := by
 intro ι φ ψ w0 w F ρ M
 refine (h (.agg #[ρ 0, ρ 1, ρ 2]) w ⟨_, _, _, rfl, z9.row (M.datAt (id := 0) (d := .ints c.vars) rfl), z9.row (M.datAt (id := 1) (d := .ints c.arrays) rfl), z9.row (M.datAt (id := 2) (d := .instrs c.list) rfl)⟩).mono ?_
 rintro e w' ⟨u, rfl, ho, hbl⟩
 exact ⟨_, fun i (hi : i < 3) => if_neg (show ¬ i = 3 by omega), by simp [AV.val], bl3 (u := u) M hbl fun _ hf => A3 ho.1 fun g hg => hf g (ho.lt g hg).1⟩
end
theorem bq7 (w : World) : l5 (fun _ => True) (fun _ => True) w w (o0 (fun _ : Empty => Rs.none) (fun _ => undef) (s4 [])) := by
 refine (l5.start (ι := Empty ⊕ Nat) (w0 := w) (φ := fun _ => True) (ψ := fun _ => True) fun _ _ => trivial).map (fun k => some k) (fun k k' i a b => by cases a; cases b; rfl) fun k => ?_
 cases k with
 | inl e => exact e.elim
 | inr j => exact .inr rfl
theorem bu0 (w : World) : Agr (fun _ => True) (FrF (fun _ => True) (o0 (fun _ : Empty => Rs.none) (fun _ => undef) (s4 []))) w w := Agr.mono fun b _ _ => ⟨ci3, fun i => by
 cases i with
 | inl e => exact e.elim
 | inr j => exact fun h => h.elim⟩
abbrev u8s (c : List UInt8) : List Value := c.map fun b => Value.int .u8 (b.toNat : Int)
theorem bt2 {P : Program} {f : FuncId} {x : Value} {c : List UInt8} {post : List It} (hc : j8.ok P ⟨f, [.ref 0], [dY c], post, .v x⟩) (u : Value) (w : World) (hp : z9 w (fun _ => True) u c.length 1 (u8s c)) :
  Calls P f #[u] w fun e w' => e = .returned x ∧ Below w.heap.size w w' := by
 obtain ⟨ρ', g1, M2, g2⟩ := l5.dats [.sl (.bytes c)] [u] 0 (bq7 w) ⟨RD.nice (.bytes c) _ _ _ _ _ (bu0 w) hp, ci3⟩ (fun _ _ => rfl) (fun _ _ _ => rfl)
 have e : n5 (s4 []) (V6 [.sl (.bytes c)] 0) = s4 [dY c] := by
  funext j
  match j with
  | 0 => rfl
  | j + 1 => simp [V6, n5, s4]
 rw [e] at M2
 simp only [xav, AV.vals, AV.val, List.cons.injEq, and_true] at g2
 subst g2
 refine (hc Empty _ _ w w _ ρ' M2).mono ?_
 rintro e w' ⟨ρ2, -, rfl, M3⟩
 exact ⟨rfl, M3.below fun _ _ => trivial⟩
end Go.Proofs.YthikdkjjdeehoaaGreat
