/- Part 7: functions on the way, plain laws. Conditions: as said. -/
import Derived.Test.YthikdkjjdeehoaaGreatK2
import Derived.Test.YthikdkjjdeehoaaGreatK4
import Derived.Test.YthikdkjjdeehoaaGreatK5
import Derived.Test.YthikdkjjdeehoaaGreatK6
set_option maxRecDepth 100000
set_option maxHeartbeats 16000000
set_option linter.unusedVariables false
set_option linter.unusedSimpArgs false
open Bool renaming and_eq_true → cg5, not_eq_false' → cj0, not_eq_true' → ci3
open Inhabited renaming default → cg3
open List renaming all_eq_true → ch3, append_assoc → cl1, getD_eq_getElem?_getD → cg7, mem_append → ci4, mem_of_getElem? → ci8, mem_singleton → cj3, take → ch1, take_of_length_le → ch9
open Nat renaming le_refl → ch0
open True renaming intro → ch8

namespace Go.Proofs.YthikdkjjdeehoaaGreat
open Go Go.RowKit
theorem aA9 (p : i6) (hb : p.size ≤ 1048576) : j9.ok Tryz.prog ⟨33, [pA 0], pS p, pS p ++ [rI (cvP (G5 p)), rI (caP (G5 p)), rN (I3 (G5 p)).1], .tup [.agg [.ref 3, .ref 4, .ref 5], bA (okC (G5 p))]⟩ := by
 refine F9 18 Tryz.func33 [dI p.vars, dI p.arrays, dT p.body] [(0, pA 0)] fun G => ?_; have hz := bW3 p
 have hz1 : (G5 p).size ≤ 1048576 := by omega
 refine wp_seq (j7 G f7 [0, 1, 2, 3, 11] [dI p.vars, dI p.arrays, dT p.body, .box (pL 0), .box [.v (.slice none 0 0), .v (.slice none 0 0), .v (.slice none 0 0)]] [(1, .ptr 3 0), (2, .ptr 4 0), (3, bA false)] fun G => b6 (wp_seq (j7 G (s6 1 [0, 1, 2] (a71 p (by assumption))) [0, 1, 2, 4, 13, 14, 15, 45] [dI p.vars, dI p.arrays, dT p.body, .box [.v (.slice none 0 0), .v (.slice none 0 0), .v (.slice none 0 0)], dI (G5 p).vars, dI (G5 p).arrays, dT (G5 p).body, .box (pL 4)] [(2, .ptr 3 0), (3, bA false), (4, .ptr 7 0), (5, bA (okL p))] fun G => b6 (wp_seq (wp_seq (k8 G f7 [(12, .v (.bool !okL p))] fun G => b6 ?_)))))); cases h0 : (!okL p)
 ·have q0 : (okL p) = true := (Eq.mp (cj0 _) h0); refine rF G _ h0 (wp_skip (b6 (wp_seq (j7 G (s6 1 [4, 5, 6] (aw8 (G5 p) (by assumption))) [0, 1, 2, 3, 16, 17, 18] [dI p.vars, dI p.arrays, dT p.body, .box (pL 4), .row 3 (D.ints (cvP (G5 p))), .row 3 (D.ints (caP (G5 p))), .row 86 (D.instrs (I3 (G5 p)).fst)] [(2, .ptr 3 0), (3, bA (okC (G5 p)))] fun G => b6 (wp_ret ?_))))); exact M4 G [0, 1, 2, 4, 5, 6]
 ·have q0 : (okL p) = false := (Eq.mp (ci3 _) h0); refine rT G _ h0 (wp_seq (D7 G f7 [(2, .ptr 3 0), (3, bA false), (4, .ptr 7 0)] fun G => b6 (wp_ret (l5 ?_)))); obtain ⟨ρ, G⟩ := G.nil 8 3 (.ints []) 1 [dI p.vars, dI p.arrays, dT p.body, .box [.ref 8, .v (.slice none 0 0), .v (.slice none 0 0)], dI (G5 p).vars, dI (G5 p).arrays, dT (G5 p).body, .box (pL 4)] [(2, .ptr 3 0), (3, bA false), (4, .ptr 7 0)]; obtain ⟨ρ, G⟩ := G.nil 9 3 (.ints []) 1 [dI p.vars, dI p.arrays, dT p.body, .box [.ref 8, .ref 9, .v (.slice none 0 0)], dI (G5 p).vars, dI (G5 p).arrays, dT (G5 p).body, .box (pL 4), .row 3 (D.ints [])] [(2, .ptr 3 0), (3, bA false), (4, .ptr 7 0)]; obtain ⟨ρ, G⟩ := G.nil 10 86 (.instrs []) 5 [dI p.vars, dI p.arrays, dT p.body, .box (pL 8), dI (G5 p).vars, dI (G5 p).arrays, dT (G5 p).body, .box (pL 4), .row 3 (D.ints []), .row 3 (D.ints [])] [(2, .ptr 3 0), (3, bA false), (4, .ptr 7 0)]; exact T3 (.tup [pA 8, bA false]) G [0, 1, 2, 8, 9, 10] (by have e1 : (okC (G5 p) : Bool) = (false) := (bm4 (by with_reducible assumption)); (first | rw [e1] | simp only [e1]) <;> rfl) (by show _ = mR [0, 1, 2, 8, 9, 10] [dI p.vars, dI p.arrays, dT p.body, .row 3 (D.ints (cvP (G5 p))), .row 3 (D.ints (caP (G5 p))), .row 86 (D.instrs (I3 (G5 p)).fst)]; have e2 : (caP (G5 p) : List Int) = ([]) := (by rw [bZ0 (bm4 (by with_reducible assumption))]; done); have e3 : ((I3 (G5 p)).fst : List d7) = ([]) := (by rw [aw4 (bm4 (by with_reducible assumption))]; done); rw [e2, e3, bY4 (bm4 (by with_reducible assumption))] <;> rfl)
abbrev ncC (b : List UInt8) (j : Int) (c : d8) (q : Int) : j9 := ⟨96, [.ptr 0 0], [.box [.ref 1, iA j], dY b], [.box [.ref 1, iA q], dY b, rI c.vars, rI c.arrays, rN c.list], .agg [.ref 2, .ref 3, .ref 4]⟩
theorem bR3 {p : i6} {x : Bool} (hb : p.size ≤ 1048576) (h : okC (G5 p) = x) : j9.ok Tryz.prog ⟨33, [pA 0], pS p, pS p ++ [rI (cvP (G5 p)), rI (caP (G5 p)), rN (I3 (G5 p)).1], .tup [.agg [.ref 3, .ref 4, .ref 5], bA x]⟩ := h ▸ aA9 p hb
abbrev bu3 : It := .box [.v (.slice none 0 0), .v (.slice none 0 0), .v (.slice none 0 0)]
theorem b29 (b : List UInt8) (j : Int) (h0 : ¬ pk b (l6 b j).2 3 = 0) (h1 : ¬ pk b (l6 b j).2 3 = 1) (r0 : 0 ≤ j) (r1 : j ≤ 1000000) : j9.ok Tryz.prog (ncC b j (l6 b j).1 ((l6 b j).2 + 1)) := by
  have hcd := bF3 b r0 (show j ≤ 10000000 by omega); refine F9 103 Tryz.func96 [.box [.ref 1, iA j], dY b] [(0, .ptr 0 0)] fun G => ?_; refine wp_seq (j7 G f7 [0, 1, 2] [.box [.ref 1, iA j], dY b, bu3] [(0, .ptr 0 0), (2, .ptr 2 0)] fun G => b6 (wp_seq (j7 G (s6 1 [0, 1] (as8 b j (by assumption) (by omega))) [0, 1, 2, 11, 12, 13, 19] [.box [.ref 1, iA (l6 b j).snd], dY b, bu3, .row 3 (D.ints (l6 b j).fst.vars), .row 3 (D.ints (l6 b j).fst.arrays), .row 86 (D.instrs (l6 b j).fst.list), .box (pL 3)] [(0, .ptr 0 0), (2, .ptr 2 0), (3, .ptr 6 0)] fun G => b6 (wp_seq (wp_seq (j7 G (s6 1 [0, 1] (t6 b ((l6 b j).snd) 3 (by omega) (by omega))) (rg 7) [.box [.ref 1, iA ((l6 b j).snd + 1)], dY b, bu3, .row 3 (D.ints (l6 b j).fst.vars), .row 3 (D.ints (l6 b j).fst.arrays), .row 86 (D.instrs (l6 b j).fst.list), .box (pL 3)] [(0, .ptr 0 0), (2, .ptr 2 0), (3, .ptr 6 0), (12, iA (pk b (l6 b j).snd 3))] fun G => b6 (wp_block (wp_seq (D7 G f7 [(0, .ptr 0 0), (2, .ptr 2 0), (3, .ptr 6 0), (12, iA (pk b (l6 b j).snd 3)), (13, bA (pk b (l6 b j).snd 3 == 0))] fun G => b6 ?_))))))))); cases h0 : (pk b (l6 b j).snd (3 : Int) == 0)
  ·
   have q0 := ne_of_beq_false h0; refine rF G _ h0 (wp_seq (D7 G f7 [(2, .ptr 2 0), (3, .ptr 6 0), (29, bA (pk b (l6 b j).snd 3 == 1))] fun G => b6 ?_)); cases h1 : (pk b (l6 b j).snd (3 : Int) == 1)
   · have q1 := ne_of_beq_false h1; refine rF G _ h1 (wp_skip (l0 (b6 (wp_seq (j7 G f7 (rg 6) [.box [.ref 1, iA ((l6 b j).snd + 1)], dY b, .box (pL 3), .row 3 (D.ints (l6 b j).fst.vars), .row 3 (D.ints (l6 b j).fst.arrays), .row 86 (D.instrs (l6 b j).fst.list)] [(2, .ptr 2 0)] fun G => b6 (wp_ret ?_)))))); exact M4 G [0, 1, 3, 4, 5]
   · have q1 := eq_of_beq h1; exact False.elim (by omega)
  · have q0 := eq_of_beq h0; exact False.elim (by omega)
abbrev ag9 : It := .box [.v (.slice none 0 0), .v (.slice none 0 0), .v (.slice none 0 0)]
abbrev am7 (b : List UInt8) (j : Int) : It := .box [.ref 1, iA ((l6 b j).snd + 1)]
abbrev ay0 (b : List UInt8) (j : Int) (k : Nat) : It := .row 3 (D.ints (rqL 1 (l6 b j).fst.vars k))
abbrev aN9 (b : List UInt8) (j : Int) (i : Nat) : It := .row 3 (D.ints (rqL 1 (l6 b j).fst.arrays i))
abbrev aN8 (b : List UInt8) (j : Int) : It := .row 86 (D.instrs (l6 b j).fst.list)
theorem b30 (b : List UInt8) (j : Int) (hpk : pk b (l6 b j).2 3 = 1) (r0 : 0 ≤ j) (r1 : j ≤ 1000000) : j9.ok Tryz.prog (ncC b j ⟨(l6 b j).1.vars.map fun x => l4 x 1, (l6 b j).1.arrays.map fun x => l4 x 1, (l6 b j).1.list.map fnI⟩ ((l6 b j).2 + 1)) := by
  have hcd := bF3 b r0 (show j ≤ 10000000 by omega); have hpg := by4 b j; have hpv : (l6 b j).1.vars.length ≤ 12 := hpg.1; have hpa : (l6 b j).1.arrays.length ≤ 2 := hpg.2.1; refine F9 103 Tryz.func96 [.box [.ref 1, iA j], dY b] [(0, .ptr 0 0)] fun G => ?_; refine wp_seq (j7 G f7 [0, 1, 2] [.box [.ref 1, iA j], dY b, ag9] [(0, .ptr 0 0), (2, .ptr 2 0)] fun G => b6 (wp_seq (j7 G (s6 1 [0, 1] (as8 b j (by assumption) (by omega))) [0, 1, 2, 11, 12, 13, 19] [.box [.ref 1, iA (l6 b j).snd], dY b, ag9, .row 3 (D.ints (l6 b j).fst.vars), .row 3 (D.ints (l6 b j).fst.arrays), aN8 b j, .box (pL 3)] [(0, .ptr 0 0), (2, .ptr 2 0), (3, .ptr 6 0)] fun G => b6 (wp_seq (wp_seq (j7 G (s6 1 [0, 1] (t6 b ((l6 b j).snd) 3 (by omega) (by omega))) (rg 7) [am7 b j, dY b, ag9, .row 3 (D.ints (l6 b j).fst.vars), .row 3 (D.ints (l6 b j).fst.arrays), aN8 b j, .box (pL 3)] [(0, .ptr 0 0), (2, .ptr 2 0), (3, .ptr 6 0), (12, iA (pk b (l6 b j).snd 3))] fun G => b6 (wp_block (wp_seq (D7 G f7 [(0, .ptr 0 0), (2, .ptr 2 0), (3, .ptr 6 0), (12, iA (pk b (l6 b j).snd 3)), (13, bA (pk b (l6 b j).snd 3 == 0))] fun G => b6 ?_))))))))); cases h0 : (pk b (l6 b j).snd (3 : Int) == 0)
  ·
   have q0 := ne_of_beq_false h0; refine rF G _ h0 (wp_seq (D7 G f7 [(2, .ptr 2 0), (3, .ptr 6 0), (29, bA (pk b (l6 b j).snd 3 == 1))] fun G => b6 ?_)); cases h1 : (pk b (l6 b j).snd (3 : Int) == 1)
   · have q1 := ne_of_beq_false h1; exact False.elim (by omega)
   ·
    have q1 := eq_of_beq h1; refine rT G _ h1 (wp_seq (wp_seq (D7 G f7 [(2, .ptr 2 0), (3, .ptr 6 0), (6, iA 0)] fun G => b6 (wp_block ?_)))); refine s8 (κ := Nat) (fun k => k ≤ (l6 b j).1.vars.length) (fun k => (l6 b j).1.vars.length - k) (fun k => [.box [.ref 1, iA ((l6 b j).snd + 1)], dY b, .box [.v (.slice none 0 0), .v (.slice none 0 0), .v (.slice none 0 0)], .row 3 (.ints (rqL 1 (l6 b j).1.vars k)), .row 3 (D.ints (l6 b j).fst.arrays), .row 86 (D.instrs (l6 b j).fst.list), .box (pL 3)]) (fun k => [(2, .ptr 2 0), (3, .ptr 6 0), (6, iA k)]) 0 (by omega) (t7.at G _ _) ?_; clear G; intro k ρ a w hp G; replace G := t7.at G [am7 b j, dY b, ag9, ay0 b j k, .row 3 (D.ints (l6 b j).fst.arrays), aN8 b j, .box (pL 3)] [(2, .ptr 2 0), (3, .ptr 6 0), (6, iA k)]; have hq := bj2 1 (l6 b j).1.vars k; refine wp_seq (wp_seq (k8 G f7 [(35, bA (decide ((k : Int) < ((rqL 1 (l6 b j).fst.vars k).length : Int))))] fun G => b6 (rcD G (fun h2 q2 => ?_) fun h2 q2 => ?_)))
    ·
     refine wp_exit (s4 (s4 (r8 (b6 (wp_seq (wp_seq (D7 G f7 [(2, .ptr 2 0), (3, .ptr 6 0), (7, iA 0)] fun G => b6 (wp_block ?_)))))))); refine s8 (κ := Nat) (fun i => i ≤ (l6 b j).1.arrays.length) (fun i => (l6 b j).1.arrays.length - i) (fun i => [.box [.ref 1, iA ((l6 b j).snd + 1)], dY b, .box [.v (.slice none 0 0), .v (.slice none 0 0), .v (.slice none 0 0)], .row 3 (D.ints (rqL 1 (l6 b j).fst.vars k)), .row 3 (.ints (rqL 1 (l6 b j).1.arrays i)), .row 86 (D.instrs (l6 b j).fst.list), .box (pL 3)]) (fun i => [(2, .ptr 2 0), (3, .ptr 6 0), (7, iA i)]) 0 (by omega) (t7.at G _ _) ?_; clear G; intro i ρ a w hp G; replace G := t7.at G [am7 b j, dY b, ag9, ay0 b j k, aN9 b j i, aN8 b j, .box (pL 3)] [(2, .ptr 2 0), (3, .ptr 6 0), (7, iA i)]; have hqa := bj2 1 (l6 b j).1.arrays i; refine wp_seq (wp_seq (k8 G f7 [(52, bA (decide ((i : Int) < ((rqL 1 (l6 b j).fst.arrays i).length : Int))))] fun G => b6 (rcD G (fun h3 q3 => ?_) fun h3 q3 => ?_)))
     ·
      refine wp_exit (s4 (s4 (r8 (b6 (wp_seq (D7 G f7 [(2, .ptr 2 0), (3, .ptr 6 0), (8, iA 0)] fun G => b6 (wp_block ?_))))))); refine s8 (κ := Nat) (fun n => n ≤ (l6 b j).1.list.length) (fun n => (l6 b j).1.list.length - n) (fun n => [.box [.ref 1, iA ((l6 b j).snd + 1)], dY b, .box [.v (.slice none 0 0), .v (.slice none 0 0), .v (.slice none 0 0)], .row 3 (D.ints (rqL 1 (l6 b j).fst.vars k)), .row 3 (D.ints (rqL 1 (l6 b j).fst.arrays i)), .row 86 (.instrs (Y3 (l6 b j).1.list n)), .box (pL 3)]) (fun n => [(2, .ptr 2 0), (3, .ptr 6 0), (8, iA n)]) 0 (by omega) (t7.at G _ _) ?_; clear G; intro n ρ a w hp G; replace G := t7.at G [am7 b j, dY b, ag9, ay0 b j k, aN9 b j i, .row 86 (D.instrs (Y3 (l6 b j).fst.list n)), .box (pL 3)] [(2, .ptr 2 0), (3, .ptr 6 0), (8, iA n)]; have hql := bl8 (l6 b j).1.list n; refine wp_seq (wp_seq (k8 G f7 [(69, bA (decide ((n : Int) < ((Y3 (l6 b j).fst.list n).length : Int))))] fun G => b6 (rcD G (fun h4 q4 => ?_) fun h4 q4 => ?_)))
      · refine wp_exit (s4 (s4 (r8 (l0 (b6 (wp_seq (j7 G f7 (rg 6) [am7 b j, dY b, .box (pL 3), ay0 b j k, aN9 b j i, .row 86 (D.instrs (Y3 (l6 b j).fst.list n))] [(2, .ptr 2 0)] fun G => b6 (wp_ret ?_)))))))); exact M4 G [0, 1, 3, 4, 5] (by show _ = mR [0, 1, 3, 4, 5] [.box [.ref 1, iA ((l6 b j).snd + 1)], dY b, .row 3 (D.ints (d8.mk (List.map (fun (x : Int) => l4 x 1) (l6 b j).fst.vars) (List.map (fun (x : Int) => l4 x 1) (l6 b j).fst.arrays) (List.map fnI (l6 b j).fst.list)).vars), .row 3 (D.ints (d8.mk (List.map (fun (x : Int) => l4 x 1) (l6 b j).fst.vars) (List.map (fun (x : Int) => l4 x 1) (l6 b j).fst.arrays) (List.map fnI (l6 b j).fst.list)).arrays), .row 86 (D.instrs (d8.mk (List.map (fun (x : Int) => l4 x 1) (l6 b j).fst.vars) (List.map (fun (x : Int) => l4 x 1) (l6 b j).fst.arrays) (List.map fnI (l6 b j).fst.list)).list)]; have e1 : ((d8.mk (List.map (fun (x : Int) => l4 x 1) (l6 b j).fst.vars) (List.map (fun (x : Int) => l4 x 1) (l6 b j).fst.arrays) (List.map fnI (l6 b j).fst.list)).vars : List Int) = (rqL 1 (l6 b j).fst.vars k) := ((bj3 (by omega)).symm); have e2 : ((d8.mk (List.map (fun (x : Int) => l4 x 1) (l6 b j).fst.vars) (List.map (fun (x : Int) => l4 x 1) (l6 b j).fst.arrays) (List.map fnI (l6 b j).fst.list)).arrays : List Int) = (rqL 1 (l6 b j).fst.arrays i) := ((bj3 (by omega)).symm); have e3 : ((d8.mk (List.map (fun (x : Int) => l4 x 1) (l6 b j).fst.vars) (List.map (fun (x : Int) => l4 x 1) (l6 b j).fst.arrays) (List.map fnI (l6 b j).fst.list)).list : List d7) = (Y3 (l6 b j).fst.list n) := ((bM1 (by omega)).symm); (first | rw [e1, e2, e3] | simp only [e1, e2, e3]) <;> rfl)
      ·
       refine wp_skip (b6 (wp_seq (wp_block (wp_seq ?_)))); cases h5 : (((Y3 (l6 b j).fst.list n).getD n cg3).op == 9)
       ·
        have q5 := ne_of_beq_false h5; cases h6 : (((Y3 (l6 b j).fst.list n).getD n cg3).op == 4)
        ·
         have q6 := ne_of_beq_false h6; refine E1 G (H8 (fc h5 (fc h6 fz)) (us [(8, 14, 0), (1015, 1015, 0), (17, 23, 1), (1024, 1024, 1)])) [(96, bA (((Y3 (l6 b j).fst.list n).getD n cg3).op == 5))] (iX n n ((Y3 (l6 b j).fst.list n).length) (iX n n ((Y3 (l6 b j).fst.list n).length) (iX n n ((Y3 (l6 b j).fst.list n).length) []))) (iK (by omega) (iK (by omega) (iK (by omega) ch8))) fun G => b6 (J4 G (fun h7 q7 => ?_) fun h7 q7 => ?_)
         · refine wp_skip (l0 (b6 (E1 G f7 [(8, iA ((n : Int) + 1))] [wO ((n : Int) + 1)] (o1 (by omega)) fun G => b6 ?_))); exact I6 G (n + 1) (by omega) (by omega) (rg 7) (by have e1 : (Y3 (l6 b j).fst.list (n + 1) : List d7) = (Y3 (l6 b j).fst.list n) := (b73 (by omega) (by omega)); (first | rw [e1] | simp only [e1]) <;> rfl)
         · refine N4 G f7 (rg 7) [am7 b j, dY b, ag9, ay0 b j k, aN9 b j i, .row 86 (D.instrs ((Y3 (l6 b j).fst.list n).set n (d7.mk 12 0 0 0 0))), .box (pL 3)] [(2, .ptr 2 0), (3, .ptr 6 0), (8, iA n)] (iX n n ((Y3 (l6 b j).fst.list n).length) []) (iK (by omega) ch8) fun G => l0 (b6 (E1 G f7 [(8, iA ((n : Int) + 1))] [wO ((n : Int) + 1)] (o1 (by omega)) fun G => b6 ?_)); exact I6 G (n + 1) (by omega) (by omega) (rg 7) (by have e1 : (Y3 (l6 b j).fst.list (n + 1) : List d7) = ((Y3 (l6 b j).fst.list n).set n (d7.mk 12 0 0 0 0)) := (bC9 (by omega) (by omega)); (first | rw [e1] | simp only [e1]) <;> rfl)
        · have q6 := eq_of_beq h6; refine E1 G (H8 (fc h5 (fc h6 fz)) (us [(8, 14, 0), (1015, 1015, 0), (17, 23, 1), (1024, 1024, 1)])) [(96, bA true)] (iX n n ((Y3 (l6 b j).fst.list n).length) (iX n n ((Y3 (l6 b j).fst.list n).length) [])) (iK (by omega) (iK (by omega) ch8)) fun G => b6 (rT G true (by kernel_rfl) (N4 G f7 (rg 7) [am7 b j, dY b, ag9, ay0 b j k, aN9 b j i, .row 86 (D.instrs ((Y3 (l6 b j).fst.list n).set n (d7.mk 12 0 0 0 0))), .box (pL 3)] [(2, .ptr 2 0), (3, .ptr 6 0), (8, iA n)] (iX n n ((Y3 (l6 b j).fst.list n).length) []) (iK (by omega) ch8) fun G => l0 (b6 (E1 G f7 [(8, iA ((n : Int) + 1))] [wO ((n : Int) + 1)] (o1 (by omega)) fun G => b6 ?_)))); exact I6 G (n + 1) (by omega) (by omega) (rg 7) (by have e1 : (Y3 (l6 b j).fst.list (n + 1) : List d7) = ((Y3 (l6 b j).fst.list n).set n (d7.mk 12 0 0 0 0)) := (bC9 (by omega) (by omega)); (first | rw [e1] | simp only [e1]) <;> rfl)
       · have q5 := eq_of_beq h5; refine E1 G (H8 (fc h5 (fc (b := true) rfl fz)) (us [(8, 14, 0), (1015, 1015, 0), (17, 23, 1), (1024, 1024, 1)])) [(96, bA true)] (iX n n ((Y3 (l6 b j).fst.list n).length) []) (iK (by omega) ch8) fun G => b6 (rT G true (by kernel_rfl) (N4 G f7 (rg 7) [am7 b j, dY b, ag9, ay0 b j k, aN9 b j i, .row 86 (D.instrs ((Y3 (l6 b j).fst.list n).set n (d7.mk 12 0 0 0 0))), .box (pL 3)] [(2, .ptr 2 0), (3, .ptr 6 0), (8, iA n)] (iX n n ((Y3 (l6 b j).fst.list n).length) []) (iK (by omega) ch8) fun G => l0 (b6 (E1 G f7 [(8, iA ((n : Int) + 1))] [wO ((n : Int) + 1)] (o1 (by omega)) fun G => b6 ?_)))); exact I6 G (n + 1) (by omega) (by omega) (rg 7) (by have e1 : (Y3 (l6 b j).fst.list (n + 1) : List d7) = ((Y3 (l6 b j).fst.list n).set n (d7.mk 12 0 0 0 0)) := (bC9 (by omega) (by omega)); (first | rw [e1] | simp only [e1]) <;> rfl)
     · refine wp_skip (b6 (wp_seq (wp_block (M5 G f7 [0, 1, 0, 0, 8, 0, 56, 120, 248, 511, 1023] (rg 7) [am7 b j, dY b, ag9, ay0 b j k, .row 3 (D.ints ((rqL 1 (l6 b j).fst.arrays i).set i (l4 ((rqL 1 (l6 b j).fst.arrays i).getD i 0) 1))), aN8 b j, .box (pL 3)] [(2, .ptr 2 0), (3, .ptr 6 0), (7, iA i)] (iX i i ((rqL (1 : Int) (l6 b j).fst.arrays i).length) (iX i i ((rqL (1 : Int) (l6 b j).fst.arrays i).length) [])) (iK (by omega) (iK (by omega) ch8)) fun G => l0 (b6 (E1 G f7 [(7, iA ((i : Int) + 1))] [wO ((i : Int) + 1)] (o1 (by omega)) fun G => b6 ?_)))))); exact I6 G (i + 1) (by omega) (by omega) (rg 7) (by have e1 : (rqL 1 (l6 b j).fst.arrays (i + 1) : List Int) = ((rqL 1 (l6 b j).fst.arrays i).set i (l4 ((rqL 1 (l6 b j).fst.arrays i).getD i 0) 1)) := ((bj1 (by omega)).symm); (first | rw [e1] | simp only [e1]) <;> rfl)
    · refine wp_skip (b6 (wp_seq (wp_block (M5 G f7 [0, 1, 0, 0, 8, 0, 56, 120, 248, 511, 1023] (rg 7) [am7 b j, dY b, ag9, .row 3 (D.ints ((rqL 1 (l6 b j).fst.vars k).set k (l4 ((rqL 1 (l6 b j).fst.vars k).getD k 0) 1))), .row 3 (D.ints (l6 b j).fst.arrays), aN8 b j, .box (pL 3)] [(2, .ptr 2 0), (3, .ptr 6 0), (6, iA k)] (iX k k ((rqL (1 : Int) (l6 b j).fst.vars k).length) (iX k k ((rqL (1 : Int) (l6 b j).fst.vars k).length) [])) (iK (by omega) (iK (by omega) ch8)) fun G => l0 (b6 (E1 G f7 [(6, iA ((k : Int) + 1))] [wO ((k : Int) + 1)] (o1 (by omega)) fun G => b6 ?_)))))); exact I6 G (k + 1) (by omega) (by omega) (rg 7) (by have e1 : (rqL 1 (l6 b j).fst.vars (k + 1) : List Int) = ((rqL 1 (l6 b j).fst.vars k).set k (l4 ((rqL 1 (l6 b j).fst.vars k).getD k 0) 1)) := ((bj1 (by omega)).symm); (first | rw [e1] | simp only [e1]) <;> rfl)
  · have q0 := eq_of_beq h0; exact False.elim (by omega)
abbrev bh4 : It := .box [.v (.slice none 0 0), .v (.slice none 0 0), .v (.slice none 0 0)]
abbrev bg3 (b : List UInt8) (j : Int) (r0 : List It) : List It := .row 3 (D.ints (l6 b j).fst.vars) :: .row 3 (D.ints (l6 b j).fst.arrays) :: .row 86 (D.instrs (l6 b j).fst.list) :: .box (pL 3) :: r0
theorem bT4 (b : List UInt8) (j : Int) (hpk : pk b (l6 b j).2 3 = 0) (hok : okC (G5 (H9 b 3 ((l6 b j).2 + 1)).1) = true) (hl : (I3 (G5 (H9 b 3 ((l6 b j).2 + 1)).1)).1.length ≤ 60) (r0 : 0 ≤ j) (r1 : j ≤ 1000000) : j9.ok Tryz.prog (ncC b j ⟨cvP (G5 (H9 b 3 ((l6 b j).2 + 1)).1), caP (G5 (H9 b 3 ((l6 b j).2 + 1)).1), (I3 (G5 (H9 b 3 ((l6 b j).2 + 1)).1)).1⟩ (H9 b 3 ((l6 b j).2 + 1)).2) := by
  have hcd := bF3 b r0 (show j ≤ 10000000 by omega); have hfi := bM5 b 3 ((l6 b j).2 + 1) (ch0 _) (by omega) (by omega); have hcs := bR3 (show (H9 b 3 ((l6 b j).2 + 1)).1.size ≤ 1048576 by omega) hok; refine F9 103 Tryz.func96 [.box [.ref 1, iA j], dY b] [(0, .ptr 0 0)] fun G => ?_; refine wp_seq (j7 G f7 [0, 1, 2] [.box [.ref 1, iA j], dY b, bh4] [(0, .ptr 0 0), (2, .ptr 2 0)] fun G => b6 (wp_seq (j7 G (s6 1 [0, 1] (as8 b j (by assumption) (by omega))) [0, 1, 2, 11, 12, 13, 19] (.box [.ref 1, iA (l6 b j).snd] :: dY b :: bh4 :: (bg3 b j [])) [(0, .ptr 0 0), (2, .ptr 2 0), (3, .ptr 6 0)] fun G => b6 (wp_seq (wp_seq (j7 G (s6 1 [0, 1] (t6 b ((l6 b j).snd) 3 (by omega) (by omega))) (rg 7) (.box [.ref 1, iA ((l6 b j).snd + 1)] :: dY b :: bh4 :: (bg3 b j [])) [(0, .ptr 0 0), (2, .ptr 2 0), (3, .ptr 6 0), (12, iA (pk b (l6 b j).snd 3))] fun G => b6 (wp_block (wp_seq (D7 G f7 [(0, .ptr 0 0), (2, .ptr 2 0), (3, .ptr 6 0), (12, iA (pk b (l6 b j).snd 3)), (13, bA (pk b (l6 b j).snd 3 == 0))] fun G => b6 ?_))))))))); cases h0 : (pk b (l6 b j).snd (3 : Int) == 0)
  · have q0 := ne_of_beq_false h0; exact False.elim (by omega)
  ·
   have q0 := eq_of_beq h0; refine rT G _ h0 (wp_seq (j7 G (F5 (t5 1 [0, 1] (az1 b ((l6 b j).snd + 1) (by omega) (by omega)) (t5 2 [15, 16, 17] (j9.lend hcs [.row 3, .row 3, .tree]) F4)) fz []) [0, 1, 2, 3, 4, 5, 6, 23, 24, 25, 55] (.box [.ref 1, iA (H9 b 3 ((l6 b j).snd + 1)).snd] :: dY b :: bh4 :: (bg3 b j [.row 3 (D.ints (cvP (G5 (H9 b 3 ((l6 b j).snd + 1)).fst))), .row 3 (D.ints (caP (G5 (H9 b 3 ((l6 b j).snd + 1)).fst))), .row 86 (D.instrs (I3 (G5 (H9 b 3 ((l6 b j).snd + 1)).fst)).fst), .box (pL 7)])) [(2, .ptr 2 0), (3, .ptr 6 0), (4, .ptr 10 0), (5, bA true)] fun G => b6 (wp_seq (D7 G (H8 (fc (b := true) rfl fz) (us [(2, 5, 0), (1006, 1006, 0)])) [(2, .ptr 2 0), (3, .ptr 6 0), (4, .ptr 10 0), (27, bA (decide (((I3 (G5 (H9 b 3 ((l6 b j).snd + 1)).fst)).fst.length : Int) ≤ 60)))] fun G => b6 ?_)))); cases h1 : (decide (((I3 (G5 (H9 b (3 : Nat) ((l6 b j).snd + 1)).fst)).fst.length : Int) ≤ 60))
   · have q1 := dFf h1; exact False.elim (by omega)
   · have q1 := dTt h1; refine rT G _ h1 (wp_seq (j7 G f7 (rg 10) (.box [.ref 1, iA (H9 b 3 ((l6 b j).snd + 1)).snd] :: dY b :: .box (pL 7) :: (bg3 b j [.row 3 (D.ints (cvP (G5 (H9 b 3 ((l6 b j).snd + 1)).fst))), .row 3 (D.ints (caP (G5 (H9 b 3 ((l6 b j).snd + 1)).fst))), .row 86 (D.instrs (I3 (G5 (H9 b 3 ((l6 b j).snd + 1)).fst)).fst)])) [(2, .ptr 2 0), (3, .ptr 6 0)] fun G => b6 (wp_ret (z4 (l5 ?_))))); exact M4 G [0, 1, 7, 8, 9]
abbrev bh3 : It := .box [.v (.slice none 0 0), .v (.slice none 0 0), .v (.slice none 0 0)]
abbrev aY3 (b : List UInt8) (j : Int) (r0 : List It) : List It := .row 3 (D.ints (l6 b j).fst.vars) :: .row 3 (D.ints (l6 b j).fst.arrays) :: .row 86 (D.instrs (l6 b j).fst.list) :: r0
theorem bT5 (b : List UInt8) (j : Int) (x : Bool) (hpk : pk b (l6 b j).2 3 = 0) (hok : okC (G5 (H9 b 3 ((l6 b j).2 + 1)).1) = x) (hl : ¬ (x = true ∧ (I3 (G5 (H9 b 3 ((l6 b j).2 + 1)).1)).1.length ≤ 60)) (r0 : 0 ≤ j) (r1 : j ≤ 1000000) : j9.ok Tryz.prog (ncC b j (l6 b j).1 (H9 b 3 ((l6 b j).2 + 1)).2) := by
  have hcd := bF3 b r0 (show j ≤ 10000000 by omega); have hfi := bM5 b 3 ((l6 b j).2 + 1) (ch0 _) (by omega) (by omega); have hcs := bR3 (show (H9 b 3 ((l6 b j).2 + 1)).1.size ≤ 1048576 by omega) hok; refine F9 103 Tryz.func96 [.box [.ref 1, iA j], dY b] [(0, .ptr 0 0)] fun G => ?_; refine wp_seq (j7 G f7 [0, 1, 2] [.box [.ref 1, iA j], dY b, bh3] [(0, .ptr 0 0), (2, .ptr 2 0)] fun G => b6 (wp_seq (j7 G (s6 1 [0, 1] (as8 b j (by assumption) (by omega))) [0, 1, 2, 11, 12, 13, 19] (.box [.ref 1, iA (l6 b j).snd] :: dY b :: bh3 :: (aY3 b j [.box (pL 3)])) [(0, .ptr 0 0), (2, .ptr 2 0), (3, .ptr 6 0)] fun G => b6 (wp_seq (wp_seq (j7 G (s6 1 [0, 1] (t6 b ((l6 b j).snd) 3 (by omega) (by omega))) (rg 7) (.box [.ref 1, iA ((l6 b j).snd + 1)] :: dY b :: bh3 :: (aY3 b j [.box (pL 3)])) [(0, .ptr 0 0), (2, .ptr 2 0), (3, .ptr 6 0), (12, iA (pk b (l6 b j).snd 3))] fun G => b6 (wp_block (wp_seq (D7 G f7 [(0, .ptr 0 0), (2, .ptr 2 0), (3, .ptr 6 0), (12, iA (pk b (l6 b j).snd 3)), (13, bA (pk b (l6 b j).snd 3 == 0))] fun G => b6 ?_))))))))); cases h0 : (pk b (l6 b j).snd (3 : Int) == 0)
  · have q0 := ne_of_beq_false h0; exact False.elim (by omega)
  ·
   have q0 := eq_of_beq h0; refine rT G _ h0 (wp_seq (j7 G (F5 (t5 1 [0, 1] (az1 b ((l6 b j).snd + 1) (by omega) (by omega)) (t5 2 [15, 16, 17] (j9.lend hcs [.row 3, .row 3, .tree]) F4)) fz []) [0, 1, 2, 3, 4, 5, 6, 23, 24, 25, 55] (.box [.ref 1, iA (H9 b 3 ((l6 b j).snd + 1)).snd] :: dY b :: bh3 :: (aY3 b j [.box (pL 3), .row 3 (D.ints (cvP (G5 (H9 b 3 ((l6 b j).snd + 1)).fst))), .row 3 (D.ints (caP (G5 (H9 b 3 ((l6 b j).snd + 1)).fst))), .row 86 (D.instrs (I3 (G5 (H9 b 3 ((l6 b j).snd + 1)).fst)).fst), .box (pL 7)])) [(2, .ptr 2 0), (3, .ptr 6 0), (4, .ptr 10 0), (5, bA x)] fun G => b6 (wp_seq ?_))); cases h1 : (x)
   · refine k8 G (H8 (fc h1 fz) (us [(2, 5, 0), (1006, 1006, 0)])) [(27, bA false)] fun G => b6 (rF G false (by kernel_rfl) (wp_skip (l0 (b6 (wp_seq (j7 G f7 (rg 6) (.box [.ref 1, iA (H9 b 3 ((l6 b j).snd + 1)).snd] :: dY b :: .box (pL 3) :: (aY3 b j [])) [(2, .ptr 2 0)] fun G => b6 (wp_ret ?_))))))); exact M4 G [0, 1, 3, 4, 5]
   ·
    refine D7 G (H8 (fc h1 fz) (us [(2, 5, 0), (1006, 1006, 0)])) [(2, .ptr 2 0), (3, .ptr 6 0), (4, .ptr 10 0), (27, bA (decide (((I3 (G5 (H9 b 3 ((l6 b j).snd + 1)).fst)).fst.length : Int) ≤ 60)))] fun G => b6 ?_; cases h2 : (decide (((I3 (G5 (H9 b (3 : Nat) ((l6 b j).snd + 1)).fst)).fst.length : Int) ≤ 60))
    · have q2 := dFf h2; refine rF G _ h2 (wp_skip (l0 (b6 (wp_seq (j7 G f7 (rg 6) (.box [.ref 1, iA (H9 b 3 ((l6 b j).snd + 1)).snd] :: dY b :: .box (pL 3) :: (aY3 b j [])) [(2, .ptr 2 0)] fun G => b6 (wp_ret ?_)))))); exact M4 G [0, 1, 3, 4, 5]
    · have q2 := dTt h2; exact False.elim (hl ⟨by with_reducible assumption, by omega⟩)
theorem a63 (b : List UInt8) (j : Int) (r0 : 0 ≤ j) (r1 : j ≤ 1000000) : j9.ok Tryz.prog ⟨96, [.ptr 0 0], [.box [.ref 1, iA j], dY b], [.box [.ref 1, iA (U5 b j).2], dY b, rI (U5 b j).1.vars, rI (U5 b j).1.arrays, rN (U5 b j).1.list], .agg [.ref 2, .ref 3, .ref 4]⟩ := by
 by_cases h0 : pk b (l6 b j).2 3 = 0
 ·by_cases h2 : okC (G5 (H9 b 3 ((l6 b j).2 + 1)).1) = true ∧ (I3 (G5 (H9 b 3 ((l6 b j).2 + 1)).1)).1.length ≤ 60
  ·have e : U5 b j = (⟨cvP (G5 (H9 b 3 ((l6 b j).2 + 1)).1), caP (G5 (H9 b 3 ((l6 b j).2 + 1)).1), (I3 (G5 (H9 b 3 ((l6 b j).2 + 1)).1)).1⟩, (H9 b 3 ((l6 b j).2 + 1)).2) := by unfold U5; rw [if_pos h0, if_pos h2]
   rw [e]; exact bT4 b j h0 h2.1 h2.2 r0 r1
  ·have e : U5 b j = ((l6 b j).1, (H9 b 3 ((l6 b j).2 + 1)).2) := by unfold U5; rw [if_pos h0, if_neg h2]
   rw [e]; exact bT5 b j _ h0 rfl h2 r0 r1
 ·by_cases h1 : pk b (l6 b j).2 3 = 1
  ·have e : U5 b j = (⟨(l6 b j).1.vars.map fun x => l4 x 1, (l6 b j).1.arrays.map fun x => l4 x 1, (l6 b j).1.list.map fnI⟩, (l6 b j).2 + 1) := by unfold U5; rw [if_neg h0, if_pos h1]
   rw [e]; exact b30 b j h1 r0 r1
  ·have e : U5 b j = ((l6 b j).1, (l6 b j).2 + 1) := by unfold U5; rw [if_neg h0, if_neg h1]
   rw [e]; exact b29 b j h0 h1 r0 r1
def dcX (b : List UInt8) : d8 := (muD b (U5 b 0).2 (U5 b 0).1).1
theorem nc0 (b : List UInt8) : 0 ≤ (U5 b 0).2 ∧ (U5 b 0).2 ≤ 1000000 ∧ (U5 b 0).1.list.length ≤ 60 ∧ (U5 b 0).1.vars.length ≤ 12 ∧ (U5 b 0).1.arrays.length ≤ 2 := by
 have h := b44 b (j := 0) (by omega) (by omega)
 omega
theorem bo9 (c : List UInt8) (hc : c.length ≤ 2000) : j9.ok Tryz.prog ⟨41, [.ref 0], [dY c], [dY c, rI (dcX c).vars, rI (dcX c).arrays, rN (dcX c).list], .agg [.ref 1, .ref 2, .ref 3]⟩ := by
 refine F9 10 Tryz.func41 [dY c] [(0, .ref 0)] fun G => ?_; have hjp := nc0 c; refine wp_seq (j7 G f7 [0, 1] [dY c, .box [.v (.slice none 0 0), .v (.slice none 0 0), .v (.slice none 0 0)]] [(0, .ref 0), (2, .ptr 1 0)] fun G => b6 (wp_seq (j7 G (s6 1 [0] (bf4 c (by assumption))) [0, 1, 10] [dY c, .box [.v (.slice none 0 0), .v (.slice none 0 0), .v (.slice none 0 0)], .box [.ref 0, iA 0]] [(2, .ptr 1 0), (3, .ptr 2 0)] fun G => b6 (wp_seq (j7 G (F5 (t5 2 [2, 0] (a63 c 0 (by omega) (by omega)) (t5 3 [2, 0, 19, 20, 21] (j9.lend (aK5 c ((U5 c 0).snd) ((U5 c 0).fst.vars) ((U5 c 0).fst.arrays) ((U5 c 0).fst.list) (by omega) (by omega) (by omega)) [.no, .no, .row 3, .row 3, .row 86]) F4)) fz []) [0, 1, 27, 28, 29] [dY c, .box (pL 2), .row 3 (D.ints (muD c (U5 c 0).snd (d8.mk (U5 c 0).fst.vars (U5 c 0).fst.arrays (U5 c 0).fst.list)).fst.vars), .row 3 (D.ints (muD c (U5 c 0).snd (d8.mk (U5 c 0).fst.vars (U5 c 0).fst.arrays (U5 c 0).fst.list)).fst.arrays), .row 86 (D.instrs (muD c (U5 c 0).snd (d8.mk (U5 c 0).fst.vars (U5 c 0).fst.arrays (U5 c 0).fst.list)).fst.list)] [(2, .ptr 1 0)] fun G => b6 (wp_ret ?_)))))); exact M4 G [0, 2, 3, 4]
abbrev bu2 (c : List UInt8) := muD (List.drop 0 (ch1 2000 c)) (U5 (List.drop 0 (ch1 2000 c)) 0).snd (d8.mk (U5 (List.drop 0 (ch1 2000 c)) 0).fst.vars (U5 (List.drop 0 (ch1 2000 c)) 0).fst.arrays (U5 (List.drop 0 (ch1 2000 c)) 0).fst.list)
theorem bo8 (c : List UInt8) (hc : 2000 < c.length) : j9.ok Tryz.prog ⟨41, [.ref 0], [dY c], [dY c, rI (dcX ((c.take 2000).drop 0)).vars, rI (dcX ((c.take 2000).drop 0)).arrays, rN (dcX ((c.take 2000).drop 0)).list], .agg [.ref 1, .ref 2, .ref 3]⟩ := by
 refine F9 10 Tryz.func41 [dY c] [(0, .ref 0)] fun G => ?_; have hjp := nc0 ((c.take 2000).drop 0); refine wp_seq (j7 G f7 [0, 1] [dY c, .box [.v (.slice none 0 0), .v (.slice none 0 0), .v (.slice none 0 0)]] [(0, .ref 0), (2, .ptr 1 0)] fun G => b6 (wp_seq (j7 G (s6 1 [0] (bf3 c (by assumption))) [0, 1, 10, 11] [dY c, .box [.v (.slice none 0 0), .v (.slice none 0 0), .v (.slice none 0 0)], .box [.ref 3, iA 0], dY (List.drop 0 (ch1 2000 c))] [(2, .ptr 1 0), (3, .ptr 2 0)] fun G => b6 (wp_seq (j7 G (F5 (t5 2 [2, 3] (a63 (List.drop 0 (ch1 2000 c)) 0 (by omega) (by omega)) (t5 3 [2, 3, 20, 21, 22] (j9.lend (aK5 (List.drop 0 (ch1 2000 c)) ((U5 (List.drop 0 (ch1 2000 c)) 0).snd) ((U5 (List.drop 0 (ch1 2000 c)) 0).fst.vars) ((U5 (List.drop 0 (ch1 2000 c)) 0).fst.arrays) ((U5 (List.drop 0 (ch1 2000 c)) 0).fst.list) (by omega) (by omega) (by omega)) [.no, .no, .row 3, .row 3, .row 86]) F4)) fz []) [0, 1, 28, 29, 30] [dY c, .box (pL 2), .row 3 (D.ints (bu2 c).fst.vars), .row 3 (D.ints (bu2 c).fst.arrays), .row 86 (D.instrs (bu2 c).fst.list)] [(2, .ptr 1 0)] fun G => b6 (wp_ret ?_)))))); exact M4 G [0, 2, 3, 4]
theorem bG2 (c : List UInt8) : j9.ok Tryz.prog ⟨41, [.ref 0], [dY c], [dY c, rI (j8 c).vars, rI (j8 c).arrays, rN (j8 c).list], .agg [.ref 1, .ref 2, .ref 3]⟩ := by
 by_cases h : c.length ≤ 2000
 ·have e : j8 c = dcX c := by unfold j8 dcX bsD; rw [ch9 h]
  rw [e]; exact bo9 c h
 ·exact bo8 c (by omega)
theorem bj6 {P : Program} {f : FuncId} {args : List AV} {S : List It} {x y : Value} (h : ∀ (φ : Nat → Prop) (w : World) (ρ : Nat → Value), (∀ i d, s7 S i = .dat d → RD w φ d (ρ i)) → Calls P f (AV.vals ρ args).toArray w fun e w' => e = .returned (.tuple #[x, y]) ∧ Below w.heap.size w w') : j9.ok P (T6 f args S (.tup [.v x, .v y])) := by
 intro ι φ ψ w0 w F ρ M
 refine (h (FrF φ (p7 F ρ (s7 S))) w ρ fun i d hi => M.datAt hi).mono ?_
 rintro e w' ⟨rfl, hb⟩
 exact ⟨ρ, fun _ _ => rfl, rfl, M.call hb⟩
theorem at1 (v ar : List Int) (l : List d7) : j9.ok Tryz.prog (T6 25 [.agg [.ref 0, .ref 1, .ref 2]] [.dat (.ints v), .dat (.ints ar), .dat (.instrs l)] (.tup [iA (z9 ⟨v, ar, l⟩).1, iA (z9 ⟨v, ar, l⟩).2])) :=
 bj6 fun φ w ρ h => aI9 _ ⟨v, ar, l⟩ w ⟨ρ 0, ρ 1, ρ 2, rfl, A1.row (h 0 _ rfl), A1.row (h 1 _ rfl), A1.row (h 2 _ rfl)⟩
theorem a73 (v ar : List Int) (l : List d7) : j9.ok Tryz.prog (T6 42 [.agg [.ref 0, .ref 1, .ref 2]] [.dat (.ints v), .dat (.ints ar), .dat (.instrs l)] (.tup [iA (z9 ⟨v, ar, l⟩).1, iA (z9 ⟨v, ar, l⟩).2])) :=
 bj6 fun φ w ρ h => aF5 _ ⟨v, ar, l⟩ w ⟨ρ 0, ρ 1, ρ 2, rfl, A1.row (h 0 _ rfl), A1.row (h 1 _ rfl), A1.row (h 2 _ rfl)⟩
theorem bY8 {c : d8} (h : t9 c = false) : z9 c = (5, -1) := by unfold z9; rw [h]; rfl
theorem bF0 {c : d8} (h : t9 c = true) : ∃ m, C5 c m ∧ z9 c = E2 c m := by
 obtain ⟨m, hm⟩ := bA6 h
 refine ⟨m, hm, ?_⟩
 unfold z9
 rw [if_pos h, ← aj0 hm]
def gX (nv na : Nat) (L : Int) (x : d7) : Prop :=
 (x.op = 1 ∧ (0 ≤ x.a ∧ x.a ≤ 13) ∧ (0 ≤ x.b ∧ x.b ≤ 255) ∧ x.c = 0 ∧ x.d = 0) ∨
 (x.op = 2 ∧ (0 ≤ x.a ∧ x.a ≤ 13) ∧ (0 ≤ x.b ∧ x.b < nv) ∧ x.c = 0 ∧ x.d = 0) ∨
 (x.op = 3 ∧ (0 ≤ x.a ∧ x.a < nv) ∧ (0 ≤ x.b ∧ x.b ≤ 13) ∧ x.c = 0 ∧ x.d = 0) ∨
 (x.op = 4 ∧ (0 ≤ x.a ∧ x.a ≤ 13) ∧ (0 ≤ x.b ∧ x.b < na) ∧ (0 ≤ x.c ∧ x.c ≤ 13) ∧ x.d = 0) ∨
 (x.op = 5 ∧ (0 ≤ x.a ∧ x.a < na) ∧ (0 ≤ x.b ∧ x.b ≤ 13) ∧ (0 ≤ x.c ∧ x.c ≤ 13) ∧ x.d = 0) ∨
 (x.op = 6 ∧ (0 ≤ x.a ∧ x.a ≤ 13) ∧ (4 ≤ x.b ∧ x.b ≤ 10) ∧ (0 ≤ x.c ∧ x.c ≤ 13) ∧ (0 ≤ x.d ∧ x.d ≤ 13)) ∨
 (x.op = 7 ∧ (0 ≤ x.a ∧ x.a ≤ 13) ∧ (0 ≤ x.b ∧ x.b ≤ 13) ∧ (0 ≤ x.c ∧ x.c ≤ 13) ∧ (0 ≤ x.d ∧ x.d ≤ 13)) ∨
 (x.op = 8 ∧ (0 ≤ x.a ∧ x.a < L) ∧ x.b = 0 ∧ x.c = 0 ∧ x.d = 0) ∨
 (x.op = 9 ∧ (0 ≤ x.a ∧ x.a ≤ 13) ∧ (0 ≤ x.b ∧ x.b < L) ∧ x.c = 0 ∧ x.d = 0) ∨
 (x.op = 10 ∧ (0 ≤ x.a ∧ x.a ≤ 13) ∧ (0 ≤ x.b ∧ x.b < L) ∧ x.c = 0 ∧ x.d = 0) ∨
 (x.op = 11 ∧ (0 ≤ x.a ∧ x.a ≤ 13) ∧ x.b = 0 ∧ x.c = 0 ∧ x.d = 0)
def gL (nv na : Nat) (L : Int) (l : List d7) : Prop := ∀ x ∈ l, gX nv na L x
theorem bX1 {nv na : Nat} {L : Int} {a b : List d7} (h : gL nv na L a) (k : gL nv na L b) : gL nv na L (a ++ b) := by
 intro x hx
 rcases ci4.1 hx with hx | hx
 ·exact h x hx
 ·exact k x hx
theorem aW7 {nv na : Nat} {L : Int} {a : d7} (h : gX nv na L a) : gL nv na L [a] := by
 intro x hx
 rw [cj3] at hx
 subst hx; exact h
def Gd (nv na : Nat) (L : Int) (x y : I4) : Prop := ∃ ys, y.1 = x.1 ++ ys ∧ gL nv na L ys
theorem Gd.refl {nv na : Nat} {L : Int} (x : I4) : Gd nv na L x x := ⟨[], by simp, fun x hx => by cases hx⟩
theorem Gd.trans {nv na : Nat} {L : Int} {x y z : I4} (h : Gd nv na L x y) (k : Gd nv na L y z) : Gd nv na L x z := by
 obtain ⟨a, a1, a2⟩ := h
 obtain ⟨b, b1, b2⟩ := k
 exact ⟨a ++ b, by rw [b1, a1, cl1], bX1 a2 b2⟩
theorem Gd.add {nv na : Nat} {L : Int} {x : I4} {n : Int} {c : List d7} (h : gL nv na L c) : Gd nv na L x (G8 x n c) := ⟨c, rfl, h⟩
theorem bU2 : (0 : Int) ≤ 0 ∧ (0 : Int) ≤ 13 := by decide
theorem cc2 : (0 : Int) ≤ 1 ∧ (1 : Int) ≤ 13 := by decide
theorem g1 {nv na : Nat} {L a b : Int} (h1 : 0 ≤ a ∧ a ≤ 13) (h2 : 0 ≤ b ∧ b ≤ 255) : gL nv na L [⟨1, a, b, 0, 0⟩] := aW7 (.inl ⟨rfl, h1, h2, rfl, rfl⟩)
theorem g3 {nv na : Nat} {L a : Int} (h1 : 0 ≤ a ∧ a < nv) : gL nv na L [⟨3, a, 0, 0, 0⟩] := aW7 (.inr (.inr (.inl ⟨rfl, h1, bU2, rfl, rfl⟩)))
theorem g5 {nv na : Nat} {L a : Int} (h1 : 0 ≤ a ∧ a < na) : gL nv na L [⟨5, a, 1, 0, 0⟩] := aW7 (.inr (.inr (.inr (.inr (.inl ⟨rfl, h1, cc2, bU2, rfl⟩)))))
theorem g8 {nv na : Nat} {L a : Int} (h1 : 0 ≤ a ∧ a < L) : gX nv na L ⟨8, a, 0, 0, 0⟩ := .inr (.inr (.inr (.inr (.inr (.inr (.inr (.inl ⟨rfl, h1, rfl, rfl, rfl⟩)))))))
theorem g9 {nv na : Nat} {L b : Int} (h1 : 0 ≤ b ∧ b < L) : gX nv na L ⟨9, 0, b, 0, 0⟩ := .inr (.inr (.inr (.inr (.inr (.inr (.inr (.inr (.inl ⟨rfl, bU2, h1, rfl, rfl⟩))))))))
theorem g10 {nv na : Nat} {L a b : Int} (h0 : 0 ≤ a ∧ a ≤ 13) (h1 : 0 ≤ b ∧ b < L) : gL nv na L [⟨10, a, b, 0, 0⟩] := aW7 (.inr (.inr (.inr (.inr (.inr (.inr (.inr (.inr (.inr (.inl ⟨rfl, h0, h1, rfl, rfl⟩))))))))))
def aM5 (c : d8) : List d7 → List Bool → List Bool
 | [], r => r
 | x :: t, r => aM5 c t (t2 c x r)
def aJ6 (c : d8) : List d7 → List Bool → Prop
 | [], _ => True
 | x :: t, r => J5 c x r = 0 ∧ aJ6 c t (t2 c x r)
theorem a54 (c : d8) : ∀ (a b : List d7) (r : List Bool), aM5 c (a ++ b) r = aM5 c b (aM5 c a r)
 | [], _, _ => rfl
 | x :: t, b, r => by simp only [List.cons_append, aM5]; exact a54 c t b _
theorem aQ5 (c : d8) : ∀ (a b : List d7) (r : List Bool), aJ6 c (a ++ b) r ↔ aJ6 c a r ∧ aJ6 c b (aM5 c a r)
 | [], b, r => by simp [aJ6, aM5]
 | x :: t, b, r => by simp only [List.cons_append, aJ6, aM5, aQ5 c t b]; exact and_assoc.symm
theorem bT0 {a b : Int} (ha : f8 a = true) (hb : f8 b = true) : scB (l4 a b) = (scB a || scB b) ∧ f8 (l4 a b) = true := by
 unfold f8 at ha hb
 simp only [cg5, decide_eq_true_eq] at ha hb
 have h1 : a = 0 ∨ a = 1 ∨ a = 2 ∨ a = 3 := by omega
 have h2 : b = 0 ∨ b = 1 ∨ b = 2 ∨ b = 3 := by omega
 rcases h1 with rfl | rfl | rfl | rfl <;> rcases h2 with rfl | rfl | rfl | rfl <;> decide +kernel
section
variable {vs ars : List Int} (hv : ∀ k : Nat, f8 (vs.getD k 0) = true) (ha : ∀ k : Nat, f8 (ars.getD k 0) = true)
include hv ha
end
structure Eff (c : d8) (xs : List d7) (t : List Bool) (reg : Int) : Prop where
 fine : aJ6 c xs t
 keep : ∀ k : Nat, ((k : Int) < reg ∨ 9 ≤ k) → (aM5 c xs t).getD k false = t.getD k false
 ops : ∀ x ∈ xs, x.op ≠ 8 ∧ x.op ≠ 9 ∧ x.op ≠ 10 ∧ x.op ≠ 13
theorem Eff.app {c : d8} {a b : List d7} {t : List Bool} {reg reg2 : Int} (h : Eff c a t reg) (k : Eff c b (aM5 c a t) reg2) (hr : reg ≤ reg2) : Eff c (a ++ b) t reg := by
 refine ⟨(aQ5 c a b t).2 ⟨h.fine, k.fine⟩, fun j hj => ?_, fun x hx => ?_⟩
 ·rw [a54, k.keep j (by omega), h.keep j hj]
 ·rcases ci4.1 hx with hx | hx
  ·exact h.ops x hx
  ·exact k.ops x hx
theorem aO6 {l : Int} (h : f8 l = true) : scB (l4 l 2) = scB l ∧ f8 (l4 l 2) = true := by
 have := bT0 h (show f8 2 = true from rfl)
 exact ⟨by rw [this.1, show scB 2 = false from rfl, Bool.or_false], this.2⟩
theorem bi7 {xs : List Int} (h : xs.all f8 = true) (k : Int) : scB (P3 (xs.map fun l => l4 l 2) k) = scB (P3 xs k) := by
 unfold P3
 rw [cg7, cg7, List.getElem?_map]
 cases e : xs[k.toNat]? with
 | none => rfl
 | some x => exact (aO6 (ch3.1 h x (ci8 e))).1
theorem all_map {xs : List Int} (h : xs.all f8 = true) : (xs.map fun l => l4 l 2).all f8 = true := by
 rw [ch3] at h ⊢
 intro y hy
 obtain ⟨x, hx, rfl⟩ := List.mem_map.1 hy
 exact (aO6 (h x hx)).2
def av9 (c : d8) : d8 := ⟨c.vars.map fun l => l4 l 2, c.arrays.map fun l => l4 l 2, c.list⟩
theorem bX7 {c : d8} (hc : t9 c = true) : t9 (av9 c) = true := by
 have hh := (t0 hc).1
 have e : B5 (av9 c).vars (av9 c).arrays = B5 c.vars c.arrays := by
  rw [hh]
  simp only [B5, cg5, decide_eq_true_eq] at hh ⊢
  exact ⟨⟨⟨⟨all_map hh.1.1.1.1, all_map hh.1.1.1.2⟩, by simpa [av9] using hh.1.1.2⟩, by simpa [av9] using hh.1.2⟩, by simpa [av9] using hh.2⟩
 rw [aX4 (c := c) (d := av9 c) rfl (by simp [av9]) (by simp [av9]) e]; exact hc
theorem bD5 {c : d8} (hc : t9 c = true) (m : List (List Bool)) : (C5 (av9 c) m ↔ C5 c m) ∧ E2 (av9 c) m = E2 c m := by
 have hh := (t0 hc).1
 simp only [B5, cg5, decide_eq_true_eq] at hh
 exact bq7 (c := c) (d := av9 c) rfl (fun k => bi7 hh.1.1.1.1 k) (fun k => bi7 hh.1.1.1.2 k) m
section
variable {p : i6} {l k : Int} (h : l9 p = true) (hl : f8 l = true)
include h hl
end
section
variable {p : i6} {l : Int}
end
def Z6 (x y : Int) : Int := if (f8 x && f8 y) = true then l4 x y else 3
theorem bQ7 {x y : Int} (hx : f8 x = true) (hy : f8 y = true) : Z6 x y = l4 x y := by unfold Z6; rw [hx, hy]; rfl
theorem b61 {x y : Int} (h : f8 x = false) : Z6 x y = 3 := by unfold Z6; rw [h]; rfl
theorem b60 {x y : Int} (h : f8 y = false) : Z6 x y = 3 := by unfold Z6; rw [h, Bool.and_false]; rfl
theorem an5 (x y : Int) : j9.ok Tryz.prog (T6 44 [iA x, iA y] [] (iA (Z6 x y))) := by
  refine F9 16 Tryz.func44 [] [(0, iA x), (1, iA y)] fun G => ?_; refine wp_seq (k8 G f7 [(4, iA 0)] fun G => b6 (wp_seq (wp_seq ?_))); cases h0 : (!f8 x)
  ·
   have q0 : (f8 x) = true := (Eq.mp (cj0 _) h0); refine k8 G (F5 (t5 1 [] (ac0 x) (t5 5 [] (ac0 y) F4)) (fc h0 fz) [(4, 0), (5, 0), (6, 0), (1007, 0)]) [(12, .v (.bool !f8 y))] fun G => b6 ?_; cases h1 : (!f8 y)
   · have q1 : (f8 y) = true := (Eq.mp (cj0 _) h1); refine rF G _ h1 (wp_skip (b6 (wp_seq (k8 G f7 [(4, iA (l4 x y))] fun G => b6 (wp_ret ?_))))); exact X9 (l4 x y) G [] (bQ7 (by with_reducible assumption) (by with_reducible assumption))
   · have q1 : (f8 y) = false := (Eq.mp (ci3 _) h1); refine rT G _ h1 (wp_seq (k8 G f7 [(4, iA 3)] fun G => b6 (wp_ret (l5 ?_)))); exact X9 3 G [] (b60 (by with_reducible assumption))
  · have q0 : (f8 x) = false := (Eq.mp (ci3 _) h0); refine k8 G (F5 (t5 1 [] (ac0 x) F4) (fc h0 fz) [(4, 0), (5, 0), (6, 0), (1007, 0)]) [(12, bA true)] fun G => b6 (rT G true (by kernel_rfl) (wp_seq (k8 G f7 [(4, iA 3)] fun G => b6 (wp_ret (l5 ?_))))); exact X9 3 G [] (b61 (by with_reducible assumption))
theorem bq2 (w : World) : l7 (fun _ => True) (fun _ => True) w w (p7 (fun _ : Empty => Rs.none) (fun _ => undef) (s7 [])) := by
 refine (l7.start (ι := Empty ⊕ Nat) (w0 := w) (φ := fun _ => True) (ψ := fun _ => True) fun _ _ => trivial).map (fun k => some k) (fun k k' i a b => by cases a; cases b; rfl) fun k => ?_
 cases k with
 | inl e => exact e.elim
 | inr j => exact .inr rfl
theorem bt6 (w : World) : Agr (fun _ => True) (FrF (fun _ => True) (p7 (fun _ : Empty => Rs.none) (fun _ => undef) (s7 []))) w w := Agr.mono fun b _ _ => ⟨ch8, fun i => by
 cases i with
 | inl e => exact e.elim
 | inr j => exact fun h => h.elim⟩
abbrev u8s (c : List UInt8) : List Value := c.map fun b => Value.int .u8 (b.toNat : Int)
theorem bs8 {P : Program} {f : FuncId} {x : Value} {c : List UInt8} {post : List It} (hc : j9.ok P ⟨f, [.ref 0], [dY c], post, .v x⟩) (u : Value) (w : World) (hp : A1 w (fun _ => True) u c.length 1 (u8s c)) :
  Calls P f #[u] w fun e w' => e = .returned x ∧ Below w.heap.size w w' := by
 obtain ⟨ρ', g1, M2, g2⟩ := l7.dats [.sl (.bytes c)] [u] 0 (bq2 w) ⟨RD.nice (.bytes c) _ _ _ _ _ (bt6 w) hp, ch8⟩ (fun _ _ => rfl) (fun _ _ _ => rfl)
 have e : n7 (s7 []) (V3 [.sl (.bytes c)] 0) = s7 [dY c] := by
  funext j
  match j with
  | 0 => rfl
  | j + 1 => simp [V3, n7, s7]
 rw [e] at M2
 simp only [xav, AV.vals, AV.val, List.cons.injEq, and_true] at g2
 subst g2
 refine (hc Empty _ _ w w _ ρ' M2).mono ?_
 rintro e w' ⟨ρ2, -, rfl, M3⟩
 exact ⟨rfl, M3.below fun _ _ => trivial⟩
end Go.Proofs.YthikdkjjdeehoaaGreat
