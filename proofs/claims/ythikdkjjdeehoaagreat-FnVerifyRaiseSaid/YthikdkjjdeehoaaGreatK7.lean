/- Part 7: functions on the way, plain laws. Conditions: as said. -/
import Derived.Test.YthikdkjjdeehoaaGreatK2
import Derived.Test.YthikdkjjdeehoaaGreatK4
import Derived.Test.YthikdkjjdeehoaaGreatK5
import Derived.Test.YthikdkjjdeehoaaGreatK6
set_option maxRecDepth 100000
set_option maxHeartbeats 16000000
set_option linter.unusedVariables false
set_option linter.unusedSimpArgs false
open Bool renaming not_eq_false' → cj9, not_eq_true' → cj0
open Inhabited renaming default → cg7
open List renaming append_assoc → cl5, getD_eq_getElem?_getD → ch0, getElem?_replicate → ck1, mem_append → ci8, mem_singleton → cj5, replicate → cg8, take → ch5, take_of_length_le → ci4
open Nat renaming le_refl → ch4
open True renaming intro → ci2

namespace Go.Proofs.YthikdkjjdeehoaaGreat
open Go Go.RowKit
theorem aA9 (p : f8) (hb : p.size ≤ 1048576) : j8.ok Tryz.prog ⟨33, [pA 0], pS p, pS p ++ [rI (cvP (G3 p)), rI (caP (G3 p)), rN (I1 (G3 p)).1], .tup [.agg [.ref 3, .ref 4, .ref 5], bA (okC (G3 p))]⟩ := by
 refine F5 18 Tryz.func33 [dI p.vars, dI p.arrays, dT p.body] [(0, pA 0)] fun G => ?_; have hz := bX0 p
 have hz1 : (G3 p).size ≤ 1048576 := by omega
 refine wp_seq (j7 G d9 [0, 1, 2, 3, 11] [dI p.vars, dI p.arrays, dT p.body, .box (pL 0), .box [.v (.slice none 0 0), .v (.slice none 0 0), .v (.slice none 0 0)]] [(1, .ptr 3 0), (2, .ptr 4 0), (3, bA false)] fun G => b6 (wp_seq (j7 G (r9 1 [0, 1, 2] (a76 p (by assumption))) [0, 1, 2, 4, 13, 14, 15, 45] [dI p.vars, dI p.arrays, dT p.body, .box [.v (.slice none 0 0), .v (.slice none 0 0), .v (.slice none 0 0)], dI (G3 p).vars, dI (G3 p).arrays, dT (G3 p).body, .box (pL 4)] [(2, .ptr 3 0), (3, bA false), (4, .ptr 7 0), (5, bA (okL p))] fun G => b6 (wp_seq (wp_seq (l0 G d9 [(12, .v (.bool !okL p))] fun G => b6 ?_)))))); cases h0 : (!okL p)
 ·have q0 : (okL p) = true := (Eq.mp (cj9 _) h0); refine rF G _ h0 (wp_skip (b6 (wp_seq (j7 G (r9 1 [4, 5, 6] (ax0 (G3 p) (by assumption))) [0, 1, 2, 3, 16, 17, 18] [dI p.vars, dI p.arrays, dT p.body, .box (pL 4), .row 3 (D.ints (cvP (G3 p))), .row 3 (D.ints (caP (G3 p))), .row 86 (D.instrs (I1 (G3 p)).fst)] [(2, .ptr 3 0), (3, bA (okC (G3 p)))] fun G => b6 (wp_ret ?_))))); exact N1 G [0, 1, 2, 4, 5, 6]
 ·have q0 : (okL p) = false := (Eq.mp (cj0 _) h0); refine rT G _ h0 (wp_seq (D6 G d9 [(2, .ptr 3 0), (3, bA false), (4, .ptr 7 0)] fun G => b6 (wp_ret (l4 ?_)))); obtain ⟨ρ, G⟩ := G.nil 8 3 (.ints []) 1 [dI p.vars, dI p.arrays, dT p.body, .box [.ref 8, .v (.slice none 0 0), .v (.slice none 0 0)], dI (G3 p).vars, dI (G3 p).arrays, dT (G3 p).body, .box (pL 4)] [(2, .ptr 3 0), (3, bA false), (4, .ptr 7 0)]; obtain ⟨ρ, G⟩ := G.nil 9 3 (.ints []) 1 [dI p.vars, dI p.arrays, dT p.body, .box [.ref 8, .ref 9, .v (.slice none 0 0)], dI (G3 p).vars, dI (G3 p).arrays, dT (G3 p).body, .box (pL 4), .row 3 (D.ints [])] [(2, .ptr 3 0), (3, bA false), (4, .ptr 7 0)]; obtain ⟨ρ, G⟩ := G.nil 10 86 (.instrs []) 5 [dI p.vars, dI p.arrays, dT p.body, .box (pL 8), dI (G3 p).vars, dI (G3 p).arrays, dT (G3 p).body, .box (pL 4), .row 3 (D.ints []), .row 3 (D.ints [])] [(2, .ptr 3 0), (3, bA false), (4, .ptr 7 0)]; exact T0 (.tup [pA 8, bA false]) G [0, 1, 2, 8, 9, 10] (by have e1 : (okC (G3 p) : Bool) = (false) := (bn3 (by with_reducible assumption)); (first | rw [e1] | simp only [e1]) <;> rfl) (by show _ = mR [0, 1, 2, 8, 9, 10] [dI p.vars, dI p.arrays, dT p.body, .row 3 (D.ints (cvP (G3 p))), .row 3 (D.ints (caP (G3 p))), .row 86 (D.instrs (I1 (G3 p)).fst)]; have e2 : (caP (G3 p) : List Int) = ([]) := (by rw [bZ7 (bn3 (by with_reducible assumption))]; done); have e3 : ((I1 (G3 p)).fst : List d7) = ([]) := (by rw [aw6 (bn3 (by with_reducible assumption))]; done); rw [e2, e3, bZ0 (bn3 (by with_reducible assumption))] <;> rfl)
abbrev ncC (b : List UInt8) (j : Int) (c : f7) (q : Int) : j8 := ⟨96, [.ptr 0 0], [.box [.ref 1, iA j], dY b], [.box [.ref 1, iA q], dY b, rI c.vars, rI c.arrays, rN c.list], .agg [.ref 2, .ref 3, .ref 4]⟩
theorem bS0 {p : f8} {x : Bool} (hb : p.size ≤ 1048576) (h : okC (G3 p) = x) : j8.ok Tryz.prog ⟨33, [pA 0], pS p, pS p ++ [rI (cvP (G3 p)), rI (caP (G3 p)), rN (I1 (G3 p)).1], .tup [.agg [.ref 3, .ref 4, .ref 5], bA x]⟩ := h ▸ aA9 p hb
abbrev bv2 : It := .box [.v (.slice none 0 0), .v (.slice none 0 0), .v (.slice none 0 0)]
theorem b36 (b : List UInt8) (j : Int) (h0 : ¬ pk b (l5 b j).2 3 = 0) (h1 : ¬ pk b (l5 b j).2 3 = 1) (r0 : 0 ≤ j) (r1 : j ≤ 1000000) : j8.ok Tryz.prog (ncC b j (l5 b j).1 ((l5 b j).2 + 1)) := by
  have hcd := bG2 b r0 (show j ≤ 10000000 by omega); refine F5 103 Tryz.func96 [.box [.ref 1, iA j], dY b] [(0, .ptr 0 0)] fun G => ?_; refine wp_seq (j7 G d9 [0, 1, 2] [.box [.ref 1, iA j], dY b, bv2] [(0, .ptr 0 0), (2, .ptr 2 0)] fun G => b6 (wp_seq (j7 G (r9 1 [0, 1] (at1 b j (by assumption) (by omega))) [0, 1, 2, 11, 12, 13, 19] [.box [.ref 1, iA (l5 b j).snd], dY b, bv2, .row 3 (D.ints (l5 b j).fst.vars), .row 3 (D.ints (l5 b j).fst.arrays), .row 86 (D.instrs (l5 b j).fst.list), .box (pL 3)] [(0, .ptr 0 0), (2, .ptr 2 0), (3, .ptr 6 0)] fun G => b6 (wp_seq (wp_seq (j7 G (r9 1 [0, 1] (t0 b ((l5 b j).snd) 3 (by omega) (by omega))) (rg 7) [.box [.ref 1, iA ((l5 b j).snd + 1)], dY b, bv2, .row 3 (D.ints (l5 b j).fst.vars), .row 3 (D.ints (l5 b j).fst.arrays), .row 86 (D.instrs (l5 b j).fst.list), .box (pL 3)] [(0, .ptr 0 0), (2, .ptr 2 0), (3, .ptr 6 0), (12, iA (pk b (l5 b j).snd 3))] fun G => b6 (wp_block (wp_seq (D6 G d9 [(0, .ptr 0 0), (2, .ptr 2 0), (3, .ptr 6 0), (12, iA (pk b (l5 b j).snd 3)), (13, bA (pk b (l5 b j).snd 3 == 0))] fun G => b6 ?_))))))))); cases h0 : (pk b (l5 b j).snd (3 : Int) == 0)
  ·
   have q0 := ne_of_beq_false h0; refine rF G _ h0 (wp_seq (D6 G d9 [(2, .ptr 2 0), (3, .ptr 6 0), (29, bA (pk b (l5 b j).snd 3 == 1))] fun G => b6 ?_)); cases h1 : (pk b (l5 b j).snd (3 : Int) == 1)
   · have q1 := ne_of_beq_false h1; refine rF G _ h1 (wp_skip (k8 (b6 (wp_seq (j7 G d9 (rg 6) [.box [.ref 1, iA ((l5 b j).snd + 1)], dY b, .box (pL 3), .row 3 (D.ints (l5 b j).fst.vars), .row 3 (D.ints (l5 b j).fst.arrays), .row 86 (D.instrs (l5 b j).fst.list)] [(2, .ptr 2 0)] fun G => b6 (wp_ret ?_)))))); exact N1 G [0, 1, 3, 4, 5]
   · have q1 := eq_of_beq h1; exact False.elim (by omega)
  · have q0 := eq_of_beq h0; exact False.elim (by omega)
abbrev ag9 : It := .box [.v (.slice none 0 0), .v (.slice none 0 0), .v (.slice none 0 0)]
abbrev an0 (b : List UInt8) (j : Int) : It := .box [.ref 1, iA ((l5 b j).snd + 1)]
abbrev ay2 (b : List UInt8) (j : Int) (k : Nat) : It := .row 3 (D.ints (rqL 1 (l5 b j).fst.vars k))
abbrev aN9 (b : List UInt8) (j : Int) (i : Nat) : It := .row 3 (D.ints (rqL 1 (l5 b j).fst.arrays i))
abbrev aN8 (b : List UInt8) (j : Int) : It := .row 86 (D.instrs (l5 b j).fst.list)
theorem b37 (b : List UInt8) (j : Int) (hpk : pk b (l5 b j).2 3 = 1) (r0 : 0 ≤ j) (r1 : j ≤ 1000000) : j8.ok Tryz.prog (ncC b j ⟨(l5 b j).1.vars.map fun x => k6 x 1, (l5 b j).1.arrays.map fun x => k6 x 1, (l5 b j).1.list.map fnI⟩ ((l5 b j).2 + 1)) := by
  have hcd := bG2 b r0 (show j ≤ 10000000 by omega); have hpg := bz5 b j; have hpv : (l5 b j).1.vars.length ≤ 12 := hpg.1; have hpa : (l5 b j).1.arrays.length ≤ 2 := hpg.2.1; refine F5 103 Tryz.func96 [.box [.ref 1, iA j], dY b] [(0, .ptr 0 0)] fun G => ?_; refine wp_seq (j7 G d9 [0, 1, 2] [.box [.ref 1, iA j], dY b, ag9] [(0, .ptr 0 0), (2, .ptr 2 0)] fun G => b6 (wp_seq (j7 G (r9 1 [0, 1] (at1 b j (by assumption) (by omega))) [0, 1, 2, 11, 12, 13, 19] [.box [.ref 1, iA (l5 b j).snd], dY b, ag9, .row 3 (D.ints (l5 b j).fst.vars), .row 3 (D.ints (l5 b j).fst.arrays), aN8 b j, .box (pL 3)] [(0, .ptr 0 0), (2, .ptr 2 0), (3, .ptr 6 0)] fun G => b6 (wp_seq (wp_seq (j7 G (r9 1 [0, 1] (t0 b ((l5 b j).snd) 3 (by omega) (by omega))) (rg 7) [an0 b j, dY b, ag9, .row 3 (D.ints (l5 b j).fst.vars), .row 3 (D.ints (l5 b j).fst.arrays), aN8 b j, .box (pL 3)] [(0, .ptr 0 0), (2, .ptr 2 0), (3, .ptr 6 0), (12, iA (pk b (l5 b j).snd 3))] fun G => b6 (wp_block (wp_seq (D6 G d9 [(0, .ptr 0 0), (2, .ptr 2 0), (3, .ptr 6 0), (12, iA (pk b (l5 b j).snd 3)), (13, bA (pk b (l5 b j).snd 3 == 0))] fun G => b6 ?_))))))))); cases h0 : (pk b (l5 b j).snd (3 : Int) == 0)
  ·
   have q0 := ne_of_beq_false h0; refine rF G _ h0 (wp_seq (D6 G d9 [(2, .ptr 2 0), (3, .ptr 6 0), (29, bA (pk b (l5 b j).snd 3 == 1))] fun G => b6 ?_)); cases h1 : (pk b (l5 b j).snd (3 : Int) == 1)
   · have q1 := ne_of_beq_false h1; exact False.elim (by omega)
   ·
    have q1 := eq_of_beq h1; refine rT G _ h1 (wp_seq (wp_seq (D6 G d9 [(2, .ptr 2 0), (3, .ptr 6 0), (6, iA 0)] fun G => b6 (wp_block ?_)))); refine s7 (κ := Nat) (fun k => k ≤ (l5 b j).1.vars.length) (fun k => (l5 b j).1.vars.length - k) (fun k => [.box [.ref 1, iA ((l5 b j).snd + 1)], dY b, .box [.v (.slice none 0 0), .v (.slice none 0 0), .v (.slice none 0 0)], .row 3 (.ints (rqL 1 (l5 b j).1.vars k)), .row 3 (D.ints (l5 b j).fst.arrays), .row 86 (D.instrs (l5 b j).fst.list), .box (pL 3)]) (fun k => [(2, .ptr 2 0), (3, .ptr 6 0), (6, iA k)]) 0 (by omega) (t5.at G _ _) ?_; clear G; intro k ρ a w hp G; replace G := t5.at G [an0 b j, dY b, ag9, ay2 b j k, .row 3 (D.ints (l5 b j).fst.arrays), aN8 b j, .box (pL 3)] [(2, .ptr 2 0), (3, .ptr 6 0), (6, iA k)]; have hq := bk1 1 (l5 b j).1.vars k; refine wp_seq (wp_seq (l0 G d9 [(35, bA (decide ((k : Int) < ((rqL 1 (l5 b j).fst.vars k).length : Int))))] fun G => b6 (rcD G (fun h2 q2 => ?_) fun h2 q2 => ?_)))
    ·
     refine wp_exit (s4 (s4 (r7 (b6 (wp_seq (wp_seq (D6 G d9 [(2, .ptr 2 0), (3, .ptr 6 0), (7, iA 0)] fun G => b6 (wp_block ?_)))))))); refine s7 (κ := Nat) (fun i => i ≤ (l5 b j).1.arrays.length) (fun i => (l5 b j).1.arrays.length - i) (fun i => [.box [.ref 1, iA ((l5 b j).snd + 1)], dY b, .box [.v (.slice none 0 0), .v (.slice none 0 0), .v (.slice none 0 0)], .row 3 (D.ints (rqL 1 (l5 b j).fst.vars k)), .row 3 (.ints (rqL 1 (l5 b j).1.arrays i)), .row 86 (D.instrs (l5 b j).fst.list), .box (pL 3)]) (fun i => [(2, .ptr 2 0), (3, .ptr 6 0), (7, iA i)]) 0 (by omega) (t5.at G _ _) ?_; clear G; intro i ρ a w hp G; replace G := t5.at G [an0 b j, dY b, ag9, ay2 b j k, aN9 b j i, aN8 b j, .box (pL 3)] [(2, .ptr 2 0), (3, .ptr 6 0), (7, iA i)]; have hqa := bk1 1 (l5 b j).1.arrays i; refine wp_seq (wp_seq (l0 G d9 [(52, bA (decide ((i : Int) < ((rqL 1 (l5 b j).fst.arrays i).length : Int))))] fun G => b6 (rcD G (fun h3 q3 => ?_) fun h3 q3 => ?_)))
     ·
      refine wp_exit (s4 (s4 (r7 (b6 (wp_seq (D6 G d9 [(2, .ptr 2 0), (3, .ptr 6 0), (8, iA 0)] fun G => b6 (wp_block ?_))))))); refine s7 (κ := Nat) (fun n => n ≤ (l5 b j).1.list.length) (fun n => (l5 b j).1.list.length - n) (fun n => [.box [.ref 1, iA ((l5 b j).snd + 1)], dY b, .box [.v (.slice none 0 0), .v (.slice none 0 0), .v (.slice none 0 0)], .row 3 (D.ints (rqL 1 (l5 b j).fst.vars k)), .row 3 (D.ints (rqL 1 (l5 b j).fst.arrays i)), .row 86 (.instrs (Y3 (l5 b j).1.list n)), .box (pL 3)]) (fun n => [(2, .ptr 2 0), (3, .ptr 6 0), (8, iA n)]) 0 (by omega) (t5.at G _ _) ?_; clear G; intro n ρ a w hp G; replace G := t5.at G [an0 b j, dY b, ag9, ay2 b j k, aN9 b j i, .row 86 (D.instrs (Y3 (l5 b j).fst.list n)), .box (pL 3)] [(2, .ptr 2 0), (3, .ptr 6 0), (8, iA n)]; have hql := bm7 (l5 b j).1.list n; refine wp_seq (wp_seq (l0 G d9 [(69, bA (decide ((n : Int) < ((Y3 (l5 b j).fst.list n).length : Int))))] fun G => b6 (rcD G (fun h4 q4 => ?_) fun h4 q4 => ?_)))
      · refine wp_exit (s4 (s4 (r7 (k8 (b6 (wp_seq (j7 G d9 (rg 6) [an0 b j, dY b, .box (pL 3), ay2 b j k, aN9 b j i, .row 86 (D.instrs (Y3 (l5 b j).fst.list n))] [(2, .ptr 2 0)] fun G => b6 (wp_ret ?_)))))))); exact N1 G [0, 1, 3, 4, 5] (by show _ = mR [0, 1, 3, 4, 5] [.box [.ref 1, iA ((l5 b j).snd + 1)], dY b, .row 3 (D.ints (f7.mk (List.map (fun (x : Int) => k6 x 1) (l5 b j).fst.vars) (List.map (fun (x : Int) => k6 x 1) (l5 b j).fst.arrays) (List.map fnI (l5 b j).fst.list)).vars), .row 3 (D.ints (f7.mk (List.map (fun (x : Int) => k6 x 1) (l5 b j).fst.vars) (List.map (fun (x : Int) => k6 x 1) (l5 b j).fst.arrays) (List.map fnI (l5 b j).fst.list)).arrays), .row 86 (D.instrs (f7.mk (List.map (fun (x : Int) => k6 x 1) (l5 b j).fst.vars) (List.map (fun (x : Int) => k6 x 1) (l5 b j).fst.arrays) (List.map fnI (l5 b j).fst.list)).list)]; have e1 : ((f7.mk (List.map (fun (x : Int) => k6 x 1) (l5 b j).fst.vars) (List.map (fun (x : Int) => k6 x 1) (l5 b j).fst.arrays) (List.map fnI (l5 b j).fst.list)).vars : List Int) = (rqL 1 (l5 b j).fst.vars k) := ((bk2 (by omega)).symm); have e2 : ((f7.mk (List.map (fun (x : Int) => k6 x 1) (l5 b j).fst.vars) (List.map (fun (x : Int) => k6 x 1) (l5 b j).fst.arrays) (List.map fnI (l5 b j).fst.list)).arrays : List Int) = (rqL 1 (l5 b j).fst.arrays i) := ((bk2 (by omega)).symm); have e3 : ((f7.mk (List.map (fun (x : Int) => k6 x 1) (l5 b j).fst.vars) (List.map (fun (x : Int) => k6 x 1) (l5 b j).fst.arrays) (List.map fnI (l5 b j).fst.list)).list : List d7) = (Y3 (l5 b j).fst.list n) := ((bM9 (by omega)).symm); (first | rw [e1, e2, e3] | simp only [e1, e2, e3]) <;> rfl)
      ·
       refine wp_skip (b6 (wp_seq (wp_block (wp_seq ?_)))); cases h5 : (((Y3 (l5 b j).fst.list n).getD n cg7).op == 9)
       ·
        have q5 := ne_of_beq_false h5; cases h6 : (((Y3 (l5 b j).fst.list n).getD n cg7).op == 4)
        ·
         have q6 := ne_of_beq_false h6; refine D9 G (I6 (fc h5 (fc h6 fz)) (us [(8, 14, 0), (1015, 1015, 0), (17, 23, 1), (1024, 1024, 1)])) [(96, bA (((Y3 (l5 b j).fst.list n).getD n cg7).op == 5))] (iX n n ((Y3 (l5 b j).fst.list n).length) (iX n n ((Y3 (l5 b j).fst.list n).length) (iX n n ((Y3 (l5 b j).fst.list n).length) []))) (iK (by omega) (iK (by omega) (iK (by omega) ci2))) fun G => b6 (J2 G (fun h7 q7 => ?_) fun h7 q7 => ?_)
         · refine wp_skip (k8 (b6 (D9 G d9 [(8, iA ((n : Int) + 1))] [wO ((n : Int) + 1)] (o1 (by omega)) fun G => b6 ?_))); exact K0 G (n + 1) (by omega) (by omega) (rg 7) (by have e1 : (Y3 (l5 b j).fst.list (n + 1) : List d7) = (Y3 (l5 b j).fst.list n) := (b78 (by omega) (by omega)); (first | rw [e1] | simp only [e1]) <;> rfl)
         · refine N4 G d9 (rg 7) [an0 b j, dY b, ag9, ay2 b j k, aN9 b j i, .row 86 (D.instrs ((Y3 (l5 b j).fst.list n).set n (d7.mk 12 0 0 0 0))), .box (pL 3)] [(2, .ptr 2 0), (3, .ptr 6 0), (8, iA n)] (iX n n ((Y3 (l5 b j).fst.list n).length) []) (iK (by omega) ci2) fun G => k8 (b6 (D9 G d9 [(8, iA ((n : Int) + 1))] [wO ((n : Int) + 1)] (o1 (by omega)) fun G => b6 ?_)); exact K0 G (n + 1) (by omega) (by omega) (rg 7) (by have e1 : (Y3 (l5 b j).fst.list (n + 1) : List d7) = ((Y3 (l5 b j).fst.list n).set n (d7.mk 12 0 0 0 0)) := (bE0 (by omega) (by omega)); (first | rw [e1] | simp only [e1]) <;> rfl)
        · have q6 := eq_of_beq h6; refine D9 G (I6 (fc h5 (fc h6 fz)) (us [(8, 14, 0), (1015, 1015, 0), (17, 23, 1), (1024, 1024, 1)])) [(96, bA true)] (iX n n ((Y3 (l5 b j).fst.list n).length) (iX n n ((Y3 (l5 b j).fst.list n).length) [])) (iK (by omega) (iK (by omega) ci2)) fun G => b6 (rT G true (by kernel_rfl) (N4 G d9 (rg 7) [an0 b j, dY b, ag9, ay2 b j k, aN9 b j i, .row 86 (D.instrs ((Y3 (l5 b j).fst.list n).set n (d7.mk 12 0 0 0 0))), .box (pL 3)] [(2, .ptr 2 0), (3, .ptr 6 0), (8, iA n)] (iX n n ((Y3 (l5 b j).fst.list n).length) []) (iK (by omega) ci2) fun G => k8 (b6 (D9 G d9 [(8, iA ((n : Int) + 1))] [wO ((n : Int) + 1)] (o1 (by omega)) fun G => b6 ?_)))); exact K0 G (n + 1) (by omega) (by omega) (rg 7) (by have e1 : (Y3 (l5 b j).fst.list (n + 1) : List d7) = ((Y3 (l5 b j).fst.list n).set n (d7.mk 12 0 0 0 0)) := (bE0 (by omega) (by omega)); (first | rw [e1] | simp only [e1]) <;> rfl)
       · have q5 := eq_of_beq h5; refine D9 G (I6 (fc h5 (fc (b := true) rfl fz)) (us [(8, 14, 0), (1015, 1015, 0), (17, 23, 1), (1024, 1024, 1)])) [(96, bA true)] (iX n n ((Y3 (l5 b j).fst.list n).length) []) (iK (by omega) ci2) fun G => b6 (rT G true (by kernel_rfl) (N4 G d9 (rg 7) [an0 b j, dY b, ag9, ay2 b j k, aN9 b j i, .row 86 (D.instrs ((Y3 (l5 b j).fst.list n).set n (d7.mk 12 0 0 0 0))), .box (pL 3)] [(2, .ptr 2 0), (3, .ptr 6 0), (8, iA n)] (iX n n ((Y3 (l5 b j).fst.list n).length) []) (iK (by omega) ci2) fun G => k8 (b6 (D9 G d9 [(8, iA ((n : Int) + 1))] [wO ((n : Int) + 1)] (o1 (by omega)) fun G => b6 ?_)))); exact K0 G (n + 1) (by omega) (by omega) (rg 7) (by have e1 : (Y3 (l5 b j).fst.list (n + 1) : List d7) = ((Y3 (l5 b j).fst.list n).set n (d7.mk 12 0 0 0 0)) := (bE0 (by omega) (by omega)); (first | rw [e1] | simp only [e1]) <;> rfl)
     · refine wp_skip (b6 (wp_seq (wp_block (N3 G d9 [0, 1, 0, 0, 8, 0, 56, 120, 248, 511, 1023] (rg 7) [an0 b j, dY b, ag9, ay2 b j k, .row 3 (D.ints ((rqL 1 (l5 b j).fst.arrays i).set i (k6 ((rqL 1 (l5 b j).fst.arrays i).getD i 0) 1))), aN8 b j, .box (pL 3)] [(2, .ptr 2 0), (3, .ptr 6 0), (7, iA i)] (iX i i ((rqL (1 : Int) (l5 b j).fst.arrays i).length) (iX i i ((rqL (1 : Int) (l5 b j).fst.arrays i).length) [])) (iK (by omega) (iK (by omega) ci2)) fun G => k8 (b6 (D9 G d9 [(7, iA ((i : Int) + 1))] [wO ((i : Int) + 1)] (o1 (by omega)) fun G => b6 ?_)))))); exact K0 G (i + 1) (by omega) (by omega) (rg 7) (by have e1 : (rqL 1 (l5 b j).fst.arrays (i + 1) : List Int) = ((rqL 1 (l5 b j).fst.arrays i).set i (k6 ((rqL 1 (l5 b j).fst.arrays i).getD i 0) 1)) := ((bk0 (by omega)).symm); (first | rw [e1] | simp only [e1]) <;> rfl)
    · refine wp_skip (b6 (wp_seq (wp_block (N3 G d9 [0, 1, 0, 0, 8, 0, 56, 120, 248, 511, 1023] (rg 7) [an0 b j, dY b, ag9, .row 3 (D.ints ((rqL 1 (l5 b j).fst.vars k).set k (k6 ((rqL 1 (l5 b j).fst.vars k).getD k 0) 1))), .row 3 (D.ints (l5 b j).fst.arrays), aN8 b j, .box (pL 3)] [(2, .ptr 2 0), (3, .ptr 6 0), (6, iA k)] (iX k k ((rqL (1 : Int) (l5 b j).fst.vars k).length) (iX k k ((rqL (1 : Int) (l5 b j).fst.vars k).length) [])) (iK (by omega) (iK (by omega) ci2)) fun G => k8 (b6 (D9 G d9 [(6, iA ((k : Int) + 1))] [wO ((k : Int) + 1)] (o1 (by omega)) fun G => b6 ?_)))))); exact K0 G (k + 1) (by omega) (by omega) (rg 7) (by have e1 : (rqL 1 (l5 b j).fst.vars (k + 1) : List Int) = ((rqL 1 (l5 b j).fst.vars k).set k (k6 ((rqL 1 (l5 b j).fst.vars k).getD k 0) 1)) := ((bk0 (by omega)).symm); (first | rw [e1] | simp only [e1]) <;> rfl)
  · have q0 := eq_of_beq h0; exact False.elim (by omega)
abbrev bi4 : It := .box [.v (.slice none 0 0), .v (.slice none 0 0), .v (.slice none 0 0)]
abbrev bh3 (b : List UInt8) (j : Int) (r0 : List It) : List It := .row 3 (D.ints (l5 b j).fst.vars) :: .row 3 (D.ints (l5 b j).fst.arrays) :: .row 86 (D.instrs (l5 b j).fst.list) :: .box (pL 3) :: r0
theorem bU0 (b : List UInt8) (j : Int) (hpk : pk b (l5 b j).2 3 = 0) (hok : okC (G3 (H8 b 3 ((l5 b j).2 + 1)).1) = true) (hl : (I1 (G3 (H8 b 3 ((l5 b j).2 + 1)).1)).1.length ≤ 60) (r0 : 0 ≤ j) (r1 : j ≤ 1000000) : j8.ok Tryz.prog (ncC b j ⟨cvP (G3 (H8 b 3 ((l5 b j).2 + 1)).1), caP (G3 (H8 b 3 ((l5 b j).2 + 1)).1), (I1 (G3 (H8 b 3 ((l5 b j).2 + 1)).1)).1⟩ (H8 b 3 ((l5 b j).2 + 1)).2) := by
  have hcd := bG2 b r0 (show j ≤ 10000000 by omega); have hfi := bN3 b 3 ((l5 b j).2 + 1) (ch4 _) (by omega) (by omega); have hcs := bS0 (show (H8 b 3 ((l5 b j).2 + 1)).1.size ≤ 1048576 by omega) hok; refine F5 103 Tryz.func96 [.box [.ref 1, iA j], dY b] [(0, .ptr 0 0)] fun G => ?_; refine wp_seq (j7 G d9 [0, 1, 2] [.box [.ref 1, iA j], dY b, bi4] [(0, .ptr 0 0), (2, .ptr 2 0)] fun G => b6 (wp_seq (j7 G (r9 1 [0, 1] (at1 b j (by assumption) (by omega))) [0, 1, 2, 11, 12, 13, 19] (.box [.ref 1, iA (l5 b j).snd] :: dY b :: bi4 :: (bh3 b j [])) [(0, .ptr 0 0), (2, .ptr 2 0), (3, .ptr 6 0)] fun G => b6 (wp_seq (wp_seq (j7 G (r9 1 [0, 1] (t0 b ((l5 b j).snd) 3 (by omega) (by omega))) (rg 7) (.box [.ref 1, iA ((l5 b j).snd + 1)] :: dY b :: bi4 :: (bh3 b j [])) [(0, .ptr 0 0), (2, .ptr 2 0), (3, .ptr 6 0), (12, iA (pk b (l5 b j).snd 3))] fun G => b6 (wp_block (wp_seq (D6 G d9 [(0, .ptr 0 0), (2, .ptr 2 0), (3, .ptr 6 0), (12, iA (pk b (l5 b j).snd 3)), (13, bA (pk b (l5 b j).snd 3 == 0))] fun G => b6 ?_))))))))); cases h0 : (pk b (l5 b j).snd (3 : Int) == 0)
  · have q0 := ne_of_beq_false h0; exact False.elim (by omega)
  ·
   have q0 := eq_of_beq h0; refine rT G _ h0 (wp_seq (j7 G (F4 (t3 1 [0, 1] (az2 b ((l5 b j).snd + 1) (by omega) (by omega)) (t3 2 [15, 16, 17] (j8.lend hcs [.row 3, .row 3, .tree]) F3)) fz []) [0, 1, 2, 3, 4, 5, 6, 23, 24, 25, 55] (.box [.ref 1, iA (H8 b 3 ((l5 b j).snd + 1)).snd] :: dY b :: bi4 :: (bh3 b j [.row 3 (D.ints (cvP (G3 (H8 b 3 ((l5 b j).snd + 1)).fst))), .row 3 (D.ints (caP (G3 (H8 b 3 ((l5 b j).snd + 1)).fst))), .row 86 (D.instrs (I1 (G3 (H8 b 3 ((l5 b j).snd + 1)).fst)).fst), .box (pL 7)])) [(2, .ptr 2 0), (3, .ptr 6 0), (4, .ptr 10 0), (5, bA true)] fun G => b6 (wp_seq (D6 G (I6 (fc (b := true) rfl fz) (us [(2, 5, 0), (1006, 1006, 0)])) [(2, .ptr 2 0), (3, .ptr 6 0), (4, .ptr 10 0), (27, bA (decide (((I1 (G3 (H8 b 3 ((l5 b j).snd + 1)).fst)).fst.length : Int) ≤ 60)))] fun G => b6 ?_)))); cases h1 : (decide (((I1 (G3 (H8 b (3 : Nat) ((l5 b j).snd + 1)).fst)).fst.length : Int) ≤ 60))
   · have q1 := dFf h1; exact False.elim (by omega)
   · have q1 := dTt h1; refine rT G _ h1 (wp_seq (j7 G d9 (rg 10) (.box [.ref 1, iA (H8 b 3 ((l5 b j).snd + 1)).snd] :: dY b :: .box (pL 7) :: (bh3 b j [.row 3 (D.ints (cvP (G3 (H8 b 3 ((l5 b j).snd + 1)).fst))), .row 3 (D.ints (caP (G3 (H8 b 3 ((l5 b j).snd + 1)).fst))), .row 86 (D.instrs (I1 (G3 (H8 b 3 ((l5 b j).snd + 1)).fst)).fst)])) [(2, .ptr 2 0), (3, .ptr 6 0)] fun G => b6 (wp_ret (y7 (l4 ?_))))); exact N1 G [0, 1, 7, 8, 9]
abbrev bi3 : It := .box [.v (.slice none 0 0), .v (.slice none 0 0), .v (.slice none 0 0)]
abbrev aY6 (b : List UInt8) (j : Int) (r0 : List It) : List It := .row 3 (D.ints (l5 b j).fst.vars) :: .row 3 (D.ints (l5 b j).fst.arrays) :: .row 86 (D.instrs (l5 b j).fst.list) :: r0
theorem bU1 (b : List UInt8) (j : Int) (x : Bool) (hpk : pk b (l5 b j).2 3 = 0) (hok : okC (G3 (H8 b 3 ((l5 b j).2 + 1)).1) = x) (hl : ¬ (x = true ∧ (I1 (G3 (H8 b 3 ((l5 b j).2 + 1)).1)).1.length ≤ 60)) (r0 : 0 ≤ j) (r1 : j ≤ 1000000) : j8.ok Tryz.prog (ncC b j (l5 b j).1 (H8 b 3 ((l5 b j).2 + 1)).2) := by
  have hcd := bG2 b r0 (show j ≤ 10000000 by omega); have hfi := bN3 b 3 ((l5 b j).2 + 1) (ch4 _) (by omega) (by omega); have hcs := bS0 (show (H8 b 3 ((l5 b j).2 + 1)).1.size ≤ 1048576 by omega) hok; refine F5 103 Tryz.func96 [.box [.ref 1, iA j], dY b] [(0, .ptr 0 0)] fun G => ?_; refine wp_seq (j7 G d9 [0, 1, 2] [.box [.ref 1, iA j], dY b, bi3] [(0, .ptr 0 0), (2, .ptr 2 0)] fun G => b6 (wp_seq (j7 G (r9 1 [0, 1] (at1 b j (by assumption) (by omega))) [0, 1, 2, 11, 12, 13, 19] (.box [.ref 1, iA (l5 b j).snd] :: dY b :: bi3 :: (aY6 b j [.box (pL 3)])) [(0, .ptr 0 0), (2, .ptr 2 0), (3, .ptr 6 0)] fun G => b6 (wp_seq (wp_seq (j7 G (r9 1 [0, 1] (t0 b ((l5 b j).snd) 3 (by omega) (by omega))) (rg 7) (.box [.ref 1, iA ((l5 b j).snd + 1)] :: dY b :: bi3 :: (aY6 b j [.box (pL 3)])) [(0, .ptr 0 0), (2, .ptr 2 0), (3, .ptr 6 0), (12, iA (pk b (l5 b j).snd 3))] fun G => b6 (wp_block (wp_seq (D6 G d9 [(0, .ptr 0 0), (2, .ptr 2 0), (3, .ptr 6 0), (12, iA (pk b (l5 b j).snd 3)), (13, bA (pk b (l5 b j).snd 3 == 0))] fun G => b6 ?_))))))))); cases h0 : (pk b (l5 b j).snd (3 : Int) == 0)
  · have q0 := ne_of_beq_false h0; exact False.elim (by omega)
  ·
   have q0 := eq_of_beq h0; refine rT G _ h0 (wp_seq (j7 G (F4 (t3 1 [0, 1] (az2 b ((l5 b j).snd + 1) (by omega) (by omega)) (t3 2 [15, 16, 17] (j8.lend hcs [.row 3, .row 3, .tree]) F3)) fz []) [0, 1, 2, 3, 4, 5, 6, 23, 24, 25, 55] (.box [.ref 1, iA (H8 b 3 ((l5 b j).snd + 1)).snd] :: dY b :: bi3 :: (aY6 b j [.box (pL 3), .row 3 (D.ints (cvP (G3 (H8 b 3 ((l5 b j).snd + 1)).fst))), .row 3 (D.ints (caP (G3 (H8 b 3 ((l5 b j).snd + 1)).fst))), .row 86 (D.instrs (I1 (G3 (H8 b 3 ((l5 b j).snd + 1)).fst)).fst), .box (pL 7)])) [(2, .ptr 2 0), (3, .ptr 6 0), (4, .ptr 10 0), (5, bA x)] fun G => b6 (wp_seq ?_))); cases h1 : (x)
   · refine l0 G (I6 (fc h1 fz) (us [(2, 5, 0), (1006, 1006, 0)])) [(27, bA false)] fun G => b6 (rF G false (by kernel_rfl) (wp_skip (k8 (b6 (wp_seq (j7 G d9 (rg 6) (.box [.ref 1, iA (H8 b 3 ((l5 b j).snd + 1)).snd] :: dY b :: .box (pL 3) :: (aY6 b j [])) [(2, .ptr 2 0)] fun G => b6 (wp_ret ?_))))))); exact N1 G [0, 1, 3, 4, 5]
   ·
    refine D6 G (I6 (fc h1 fz) (us [(2, 5, 0), (1006, 1006, 0)])) [(2, .ptr 2 0), (3, .ptr 6 0), (4, .ptr 10 0), (27, bA (decide (((I1 (G3 (H8 b 3 ((l5 b j).snd + 1)).fst)).fst.length : Int) ≤ 60)))] fun G => b6 ?_; cases h2 : (decide (((I1 (G3 (H8 b (3 : Nat) ((l5 b j).snd + 1)).fst)).fst.length : Int) ≤ 60))
    · have q2 := dFf h2; refine rF G _ h2 (wp_skip (k8 (b6 (wp_seq (j7 G d9 (rg 6) (.box [.ref 1, iA (H8 b 3 ((l5 b j).snd + 1)).snd] :: dY b :: .box (pL 3) :: (aY6 b j [])) [(2, .ptr 2 0)] fun G => b6 (wp_ret ?_)))))); exact N1 G [0, 1, 3, 4, 5]
    · have q2 := dTt h2; exact False.elim (hl ⟨by with_reducible assumption, by omega⟩)
theorem a68 (b : List UInt8) (j : Int) (r0 : 0 ≤ j) (r1 : j ≤ 1000000) : j8.ok Tryz.prog ⟨96, [.ptr 0 0], [.box [.ref 1, iA j], dY b], [.box [.ref 1, iA (U3 b j).2], dY b, rI (U3 b j).1.vars, rI (U3 b j).1.arrays, rN (U3 b j).1.list], .agg [.ref 2, .ref 3, .ref 4]⟩ := by
 by_cases h0 : pk b (l5 b j).2 3 = 0
 ·by_cases h2 : okC (G3 (H8 b 3 ((l5 b j).2 + 1)).1) = true ∧ (I1 (G3 (H8 b 3 ((l5 b j).2 + 1)).1)).1.length ≤ 60
  ·have e : U3 b j = (⟨cvP (G3 (H8 b 3 ((l5 b j).2 + 1)).1), caP (G3 (H8 b 3 ((l5 b j).2 + 1)).1), (I1 (G3 (H8 b 3 ((l5 b j).2 + 1)).1)).1⟩, (H8 b 3 ((l5 b j).2 + 1)).2) := by unfold U3; rw [if_pos h0, if_pos h2]
   rw [e]; exact bU0 b j h0 h2.1 h2.2 r0 r1
  ·have e : U3 b j = ((l5 b j).1, (H8 b 3 ((l5 b j).2 + 1)).2) := by unfold U3; rw [if_pos h0, if_neg h2]
   rw [e]; exact bU1 b j _ h0 rfl h2 r0 r1
 ·by_cases h1 : pk b (l5 b j).2 3 = 1
  ·have e : U3 b j = (⟨(l5 b j).1.vars.map fun x => k6 x 1, (l5 b j).1.arrays.map fun x => k6 x 1, (l5 b j).1.list.map fnI⟩, (l5 b j).2 + 1) := by unfold U3; rw [if_neg h0, if_pos h1]
   rw [e]; exact b37 b j h1 r0 r1
  ·have e : U3 b j = ((l5 b j).1, (l5 b j).2 + 1) := by unfold U3; rw [if_neg h0, if_neg h1]
   rw [e]; exact b36 b j h0 h1 r0 r1
def dcX (b : List UInt8) : f7 := (muD b (U3 b 0).2 (U3 b 0).1).1
theorem nc0 (b : List UInt8) : 0 ≤ (U3 b 0).2 ∧ (U3 b 0).2 ≤ 1000000 ∧ (U3 b 0).1.list.length ≤ 60 ∧ (U3 b 0).1.vars.length ≤ 12 ∧ (U3 b 0).1.arrays.length ≤ 2 := by
 have h := b51 b (j := 0) (by omega) (by omega)
 omega
theorem bp9 (c : List UInt8) (hc : c.length ≤ 2000) : j8.ok Tryz.prog ⟨41, [.ref 0], [dY c], [dY c, rI (dcX c).vars, rI (dcX c).arrays, rN (dcX c).list], .agg [.ref 1, .ref 2, .ref 3]⟩ := by
 refine F5 10 Tryz.func41 [dY c] [(0, .ref 0)] fun G => ?_; have hjp := nc0 c; refine wp_seq (j7 G d9 [0, 1] [dY c, .box [.v (.slice none 0 0), .v (.slice none 0 0), .v (.slice none 0 0)]] [(0, .ref 0), (2, .ptr 1 0)] fun G => b6 (wp_seq (j7 G (r9 1 [0] (bg3 c (by assumption))) [0, 1, 10] [dY c, .box [.v (.slice none 0 0), .v (.slice none 0 0), .v (.slice none 0 0)], .box [.ref 0, iA 0]] [(2, .ptr 1 0), (3, .ptr 2 0)] fun G => b6 (wp_seq (j7 G (F4 (t3 2 [2, 0] (a68 c 0 (by omega) (by omega)) (t3 3 [2, 0, 19, 20, 21] (j8.lend (aK4 c ((U3 c 0).snd) ((U3 c 0).fst.vars) ((U3 c 0).fst.arrays) ((U3 c 0).fst.list) (by omega) (by omega) (by omega)) [.no, .no, .row 3, .row 3, .row 86]) F3)) fz []) [0, 1, 27, 28, 29] [dY c, .box (pL 2), .row 3 (D.ints (muD c (U3 c 0).snd (f7.mk (U3 c 0).fst.vars (U3 c 0).fst.arrays (U3 c 0).fst.list)).fst.vars), .row 3 (D.ints (muD c (U3 c 0).snd (f7.mk (U3 c 0).fst.vars (U3 c 0).fst.arrays (U3 c 0).fst.list)).fst.arrays), .row 86 (D.instrs (muD c (U3 c 0).snd (f7.mk (U3 c 0).fst.vars (U3 c 0).fst.arrays (U3 c 0).fst.list)).fst.list)] [(2, .ptr 1 0)] fun G => b6 (wp_ret ?_)))))); exact N1 G [0, 2, 3, 4]
abbrev bv1 (c : List UInt8) := muD (List.drop 0 (ch5 2000 c)) (U3 (List.drop 0 (ch5 2000 c)) 0).snd (f7.mk (U3 (List.drop 0 (ch5 2000 c)) 0).fst.vars (U3 (List.drop 0 (ch5 2000 c)) 0).fst.arrays (U3 (List.drop 0 (ch5 2000 c)) 0).fst.list)
theorem bp8 (c : List UInt8) (hc : 2000 < c.length) : j8.ok Tryz.prog ⟨41, [.ref 0], [dY c], [dY c, rI (dcX ((c.take 2000).drop 0)).vars, rI (dcX ((c.take 2000).drop 0)).arrays, rN (dcX ((c.take 2000).drop 0)).list], .agg [.ref 1, .ref 2, .ref 3]⟩ := by
 refine F5 10 Tryz.func41 [dY c] [(0, .ref 0)] fun G => ?_; have hjp := nc0 ((c.take 2000).drop 0); refine wp_seq (j7 G d9 [0, 1] [dY c, .box [.v (.slice none 0 0), .v (.slice none 0 0), .v (.slice none 0 0)]] [(0, .ref 0), (2, .ptr 1 0)] fun G => b6 (wp_seq (j7 G (r9 1 [0] (bg2 c (by assumption))) [0, 1, 10, 11] [dY c, .box [.v (.slice none 0 0), .v (.slice none 0 0), .v (.slice none 0 0)], .box [.ref 3, iA 0], dY (List.drop 0 (ch5 2000 c))] [(2, .ptr 1 0), (3, .ptr 2 0)] fun G => b6 (wp_seq (j7 G (F4 (t3 2 [2, 3] (a68 (List.drop 0 (ch5 2000 c)) 0 (by omega) (by omega)) (t3 3 [2, 3, 20, 21, 22] (j8.lend (aK4 (List.drop 0 (ch5 2000 c)) ((U3 (List.drop 0 (ch5 2000 c)) 0).snd) ((U3 (List.drop 0 (ch5 2000 c)) 0).fst.vars) ((U3 (List.drop 0 (ch5 2000 c)) 0).fst.arrays) ((U3 (List.drop 0 (ch5 2000 c)) 0).fst.list) (by omega) (by omega) (by omega)) [.no, .no, .row 3, .row 3, .row 86]) F3)) fz []) [0, 1, 28, 29, 30] [dY c, .box (pL 2), .row 3 (D.ints (bv1 c).fst.vars), .row 3 (D.ints (bv1 c).fst.arrays), .row 86 (D.instrs (bv1 c).fst.list)] [(2, .ptr 1 0)] fun G => b6 (wp_ret ?_)))))); exact N1 G [0, 2, 3, 4]
theorem bH2 (c : List UInt8) : j8.ok Tryz.prog ⟨41, [.ref 0], [dY c], [dY c, rI (A7 c).vars, rI (A7 c).arrays, rN (A7 c).list], .agg [.ref 1, .ref 2, .ref 3]⟩ := by
 by_cases h : c.length ≤ 2000
 ·have e : A7 c = dcX c := by unfold A7 dcX bsD; rw [ci4 h]
  rw [e]; exact bp9 c h
 ·exact bp8 c (by omega)
theorem bk7 {P : Program} {f : FuncId} {args : List AV} {S : List It} {x y : Value} (h : ∀ (φ : Nat → Prop) (w : World) (ρ : Nat → Value), (∀ i d, r8 S i = .dat d → RD w φ d (ρ i)) → Calls P f (AV.vals ρ args).toArray w fun e w' => e = .returned (.tuple #[x, y]) ∧ Below w.heap.size w w') : j8.ok P (U5 f args S (.tup [.v x, .v y])) := by
 intro ι φ ψ w0 w F ρ M
 refine (h (FrF φ (o0 F ρ (r8 S))) w ρ fun i d hi => M.datAt hi).mono ?_
 rintro e w' ⟨rfl, hb⟩
 exact ⟨ρ, fun _ _ => rfl, rfl, M.call hb⟩
theorem aX9 (v ar : List Int) (l : List d7) : j8.ok Tryz.prog (U5 25 [.agg [.ref 0, .ref 1, .ref 2]] [.dat (.ints v), .dat (.ints ar), .dat (.instrs l)] (.tup [iA (P4 ⟨v, ar, l⟩).1, iA (P4 ⟨v, ar, l⟩).2])) :=
 bk7 fun φ w ρ h => aI9 _ ⟨v, ar, l⟩ w ⟨ρ 0, ρ 1, ρ 2, rfl, y8.row (h 0 _ rfl), y8.row (h 1 _ rfl), y8.row (h 2 _ rfl)⟩
theorem a78 (v ar : List Int) (l : List d7) : j8.ok Tryz.prog (U5 42 [.agg [.ref 0, .ref 1, .ref 2]] [.dat (.ints v), .dat (.ints ar), .dat (.instrs l)] (.tup [iA (P4 ⟨v, ar, l⟩).1, iA (P4 ⟨v, ar, l⟩).2])) :=
 bk7 fun φ w ρ h => aF6 _ ⟨v, ar, l⟩ w ⟨ρ 0, ρ 1, ρ 2, rfl, y8.row (h 0 _ rfl), y8.row (h 1 _ rfl), y8.row (h 2 _ rfl)⟩
theorem aM6 (v ar : List Int) (l : List d7) : j8.ok Tryz.prog (U5 43 [.agg [.ref 0, .ref 1, .ref 2]] [.dat (.ints v), .dat (.ints ar), .dat (.instrs l)] (bA (t6 ⟨v, ar, l⟩))) :=
 aV4 fun φ w ρ h => aj1 _ ⟨v, ar, l⟩ w ⟨ρ 0, ρ 1, ρ 2, rfl, y8.row (h 0 _ rfl), y8.row (h 1 _ rfl), y8.row (h 2 _ rfl)⟩
theorem bZ4 {c : f7} (h : t6 c = false) : P4 c = (5, -1) := by unfold P4; rw [h]; rfl
theorem bZ5 {c : f7} (h : t6 c = true) : ∃ m, F6 c m ∧ P4 c = D5 c m := by
 obtain ⟨m, hm⟩ := bB8 h
 refine ⟨m, hm, ?_⟩
 unfold P4
 rw [if_pos h, ← aI0 hm]
def gX (nv na : Nat) (L : Int) (x : d7) : Prop :=
 (x.op = 1 ∧ (0 ≤ x.a ∧ x.a ≤ 13) ∧ (0 ≤ x.b ∧ x.b ≤ 255) ∧ x.c = 0 ∧ x.d = 0) ∨
 (x.op = 2 ∧ (0 ≤ x.a ∧ x.a ≤ 13) ∧ (0 ≤ x.b ∧ x.b < nv) ∧ x.c = 0 ∧ x.d = 0) ∨
 (x.op = 3 ∧ (0 ≤ x.a ∧ x.a < nv) ∧ (0 ≤ x.b ∧ x.b ≤ 13) ∧ x.c = 0 ∧ x.d = 0) ∨
 (x.op = 4 ∧ (0 ≤ x.a ∧ x.a ≤ 13) ∧ (0 ≤ x.b ∧ x.b < na) ∧ (0 ≤ x.c ∧ x.c ≤ 13) ∧ x.d = 0) ∨
 (x.op = 5 ∧ (0 ≤ x.a ∧ x.a < na) ∧ (0 ≤ x.b ∧ x.b ≤ 13) ∧ (0 ≤ x.c ∧ x.c ≤ 13) ∧ x.d = 0) ∨
 (x.op = 6 ∧ (0 ≤ x.a ∧ x.a ≤ 13) ∧ (4 ≤ x.b ∧ x.b ≤ 10) ∧ (0 ≤ x.c ∧ x.c ≤ 13) ∧ (0 ≤ x.d ∧ x.d ≤ 13)) ∨
 (x.op = 7 ∧ (0 ≤ x.a ∧ x.a ≤ 13) ∧ (0 ≤ x.b ∧ x.b ≤ 13) ∧ (0 ≤ x.c ∧ x.c ≤ 13) ∧ (0 ≤ x.d ∧ x.d ≤ 13)) ∨
 (x.op = 8 ∧ (0 ≤ x.a ∧ x.a < L) ∧ x.b = 0 ∧ x.c = 0 ∧ x.d = 0) ∨
 (x.op = 9 ∧ (0 ≤ x.a ∧ x.a ≤ 13) ∧ (0 ≤ x.b ∧ x.b < L) ∧ x.c = 0 ∧ x.d = 0) ∨
 (x.op = 10 ∧ (0 ≤ x.a ∧ x.a ≤ 13) ∧ (0 ≤ x.b ∧ x.b < L) ∧ x.c = 0 ∧ x.d = 0) ∨
 (x.op = 11 ∧ (0 ≤ x.a ∧ x.a ≤ 13) ∧ x.b = 0 ∧ x.c = 0 ∧ x.d = 0)
def gL (nv na : Nat) (L : Int) (l : List d7) : Prop := ∀ x ∈ l, gX nv na L x
theorem bX8 {nv na : Nat} {L : Int} {a b : List d7} (h : gL nv na L a) (k : gL nv na L b) : gL nv na L (a ++ b) := by
 intro x hx
 rcases ci8.1 hx with hx | hx
 ·exact h x hx
 ·exact k x hx
theorem aX0 {nv na : Nat} {L : Int} {a : d7} (h : gX nv na L a) : gL nv na L [a] := by
 intro x hx
 rw [cj5] at hx
 subst hx; exact h
def Gd (nv na : Nat) (L : Int) (x y : I2) : Prop := ∃ ys, y.1 = x.1 ++ ys ∧ gL nv na L ys
theorem Gd.refl {nv na : Nat} {L : Int} (x : I2) : Gd nv na L x x := ⟨[], by simp, fun x hx => by cases hx⟩
theorem Gd.trans {nv na : Nat} {L : Int} {x y z : I2} (h : Gd nv na L x y) (k : Gd nv na L y z) : Gd nv na L x z := by
 obtain ⟨a, a1, a2⟩ := h
 obtain ⟨b, b1, b2⟩ := k
 exact ⟨a ++ b, by rw [b1, a1, cl5], bX8 a2 b2⟩
theorem Gd.add {nv na : Nat} {L : Int} {x : I2} {n : Int} {c : List d7} (h : gL nv na L c) : Gd nv na L x (G7 x n c) := ⟨c, rfl, h⟩
theorem bU8 : (0 : Int) ≤ 0 ∧ (0 : Int) ≤ 13 := by decide
theorem cc7 : (0 : Int) ≤ 1 ∧ (1 : Int) ≤ 13 := by decide
theorem g1 {nv na : Nat} {L a b : Int} (h1 : 0 ≤ a ∧ a ≤ 13) (h2 : 0 ≤ b ∧ b ≤ 255) : gL nv na L [⟨1, a, b, 0, 0⟩] := aX0 (.inl ⟨rfl, h1, h2, rfl, rfl⟩)
theorem g3 {nv na : Nat} {L a : Int} (h1 : 0 ≤ a ∧ a < nv) : gL nv na L [⟨3, a, 0, 0, 0⟩] := aX0 (.inr (.inr (.inl ⟨rfl, h1, bU8, rfl, rfl⟩)))
theorem g5 {nv na : Nat} {L a : Int} (h1 : 0 ≤ a ∧ a < na) : gL nv na L [⟨5, a, 1, 0, 0⟩] := aX0 (.inr (.inr (.inr (.inr (.inl ⟨rfl, h1, cc7, bU8, rfl⟩)))))
theorem g8 {nv na : Nat} {L a : Int} (h1 : 0 ≤ a ∧ a < L) : gX nv na L ⟨8, a, 0, 0, 0⟩ := .inr (.inr (.inr (.inr (.inr (.inr (.inr (.inl ⟨rfl, h1, rfl, rfl, rfl⟩)))))))
theorem g9 {nv na : Nat} {L b : Int} (h1 : 0 ≤ b ∧ b < L) : gX nv na L ⟨9, 0, b, 0, 0⟩ := .inr (.inr (.inr (.inr (.inr (.inr (.inr (.inr (.inl ⟨rfl, bU8, h1, rfl, rfl⟩))))))))
theorem g10 {nv na : Nat} {L a b : Int} (h0 : 0 ≤ a ∧ a ≤ 13) (h1 : 0 ≤ b ∧ b < L) : gL nv na L [⟨10, a, b, 0, 0⟩] := aX0 (.inr (.inr (.inr (.inr (.inr (.inr (.inr (.inr (.inr (.inl ⟨rfl, h0, h1, rfl, rfl⟩))))))))))
def aM4 (c : f7) : List d7 → List Bool → List Bool
 | [], r => r
 | x :: t, r => aM4 c t (t2 c x r)
def aJ4 (c : f7) : List d7 → List Bool → Prop
 | [], _ => True
 | x :: t, r => G8 c x r = 0 ∧ aJ4 c t (t2 c x r)
theorem a61 (c : f7) : ∀ (a b : List d7) (r : List Bool), aM4 c (a ++ b) r = aM4 c b (aM4 c a r)
 | [], _, _ => rfl
 | x :: t, b, r => by simp only [List.cons_append, aM4]; exact a61 c t b _
theorem aQ6 (c : f7) : ∀ (a b : List d7) (r : List Bool), aJ4 c (a ++ b) r ↔ aJ4 c a r ∧ aJ4 c b (aM4 c a r)
 | [], b, r => by simp [aJ4, aM4]
 | x :: t, b, r => by simp only [List.cons_append, aJ4, aM4, aQ6 c t b]; exact and_assoc.symm
section
variable {vs ars : List Int} (hv : ∀ k : Nat, i6 (vs.getD k 0) = true) (ha : ∀ k : Nat, i6 (ars.getD k 0) = true)
include hv ha
end
structure Eff (c : f7) (xs : List d7) (t : List Bool) (reg : Int) : Prop where
 fine : aJ4 c xs t
 keep : ∀ k : Nat, ((k : Int) < reg ∨ 9 ≤ k) → (aM4 c xs t).getD k false = t.getD k false
 ops : ∀ x ∈ xs, x.op ≠ 8 ∧ x.op ≠ 9 ∧ x.op ≠ 10 ∧ x.op ≠ 13
theorem Eff.app {c : f7} {a b : List d7} {t : List Bool} {reg reg2 : Int} (h : Eff c a t reg) (k : Eff c b (aM4 c a t) reg2) (hr : reg ≤ reg2) : Eff c (a ++ b) t reg := by
 refine ⟨(aQ6 c a b t).2 ⟨h.fine, k.fine⟩, fun j hj => ?_, fun x hx => ?_⟩
 ·rw [a61, k.keep j (by omega), h.keep j hj]
 ·rcases ci8.1 hx with hx | hx
  ·exact h.ops x hx
  ·exact k.ops x hx
def bq6 (c : f7) : f7 := ⟨cg8 c.vars.length 0, cg8 c.arrays.length 0, c.list⟩
theorem bk3 (n : Nat) (k : Int) : scB (R1 (cg8 n 0) k) = false := by
 unfold R1
 rw [ch0, ck1]
 split <;> rfl
theorem bz1 {c : f7} (hc : t6 (bq6 c) = true) {m : List (List Bool)} (hm : F6 (bq6 c) m) : (D5 (bq6 c) m).1 = 0 :=
 a22 hc (bk3 _) (bk3 _) hm
theorem br4 (w : World) : l6 (fun _ => True) (fun _ => True) w w (o0 (fun _ : Empty => Rs.none) (fun _ => undef) (r8 [])) := by
 refine (l6.start (ι := Empty ⊕ Nat) (w0 := w) (φ := fun _ => True) (ψ := fun _ => True) fun _ _ => trivial).map (fun k => some k) (fun k k' i a b => by cases a; cases b; rfl) fun k => ?_
 cases k with
 | inl e => exact e.elim
 | inr j => exact .inr rfl
theorem bu5 (w : World) : Agr (fun _ => True) (FrF (fun _ => True) (o0 (fun _ : Empty => Rs.none) (fun _ => undef) (r8 []))) w w := Agr.mono fun b _ _ => ⟨ci2, fun i => by
 cases i with
 | inl e => exact e.elim
 | inr j => exact fun h => h.elim⟩
abbrev u8s (c : List UInt8) : List Value := c.map fun b => Value.int .u8 (b.toNat : Int)
theorem bt7 {P : Program} {f : FuncId} {x : Value} {c : List UInt8} {post : List It} (hc : j8.ok P ⟨f, [.ref 0], [dY c], post, .v x⟩) (u : Value) (w : World) (hp : y8 w (fun _ => True) u c.length 1 (u8s c)) :
  Calls P f #[u] w fun e w' => e = .returned x ∧ Below w.heap.size w w' := by
 obtain ⟨ρ', g1, M2, g2⟩ := l6.dats [.sl (.bytes c)] [u] 0 (br4 w) ⟨RD.nice (.bytes c) _ _ _ _ _ (bu5 w) hp, ci2⟩ (fun _ _ => rfl) (fun _ _ _ => rfl)
 have e : n5 (r8 []) (V3 [.sl (.bytes c)] 0) = r8 [dY c] := by
  funext j
  match j with
  | 0 => rfl
  | j + 1 => simp [V3, n5, r8]
 rw [e] at M2
 simp only [xav, AV.vals, AV.val, List.cons.injEq, and_true] at g2
 subst g2
 refine (hc Empty _ _ w w _ ρ' M2).mono ?_
 rintro e w' ⟨ρ2, -, rfl, M3⟩
 exact ⟨rfl, M3.below fun _ _ => trivial⟩
end Go.Proofs.YthikdkjjdeehoaaGreat
