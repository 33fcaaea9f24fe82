/- Part 7: functions on the way, plain laws. Conditions: as said. -/
import Derived.Test.YthikdkjjdeehoaaGreatK1
import Derived.Test.YthikdkjjdeehoaaGreatK2
import Derived.Test.YthikdkjjdeehoaaGreatK4
import Derived.Test.YthikdkjjdeehoaaGreatK6
set_option maxRecDepth 100000
set_option maxHeartbeats 16000000
set_option linter.unusedVariables false
set_option linter.unusedSimpArgs false
open Bool renaming not_eq_false' → ck2, not_eq_true' → cj4
open Inhabited renaming default → ch2
open List renaming getElem?_eq_getElem → ch6, getElem?_eq_some_iff → ci5, take → ci0, take_of_length_le → ci8
open Nat renaming le_refl → ch9
open True renaming intro → ci7

namespace Go.Proofs.YthikdkjjdeehoaaGreat
open Go Go.RowKit
theorem aC3 (p : i6) (hb : p.size ≤ 1048576) : j9.ok Tryz.prog ⟨33, [pA 0], pS p, pS p ++ [rI (cvP (G9 p)), rI (caP (G9 p)), rN (I7 (G9 p)).1], .tup [.agg [.ref 3, .ref 4, .ref 5], bA (okC (G9 p))]⟩ := by
 refine E9 18 Tryz.func33 [dI p.vars, dI p.arrays, dT p.body] [(0, pA 0)] fun G => ?_; have hz := bX3 p
 have hz1 : (G9 p).size ≤ 1048576 := by omega
 refine wp_seq (j8 G d9 [0, 1, 2, 3, 11] [dI p.vars, dI p.arrays, dT p.body, .box (pL 0), .box [.v (.slice none 0 0), .v (.slice none 0 0), .v (.slice none 0 0)]] [(1, .ptr 3 0), (2, .ptr 4 0), (3, bA false)] fun G => b6 (wp_seq (j8 G (s8 1 [0, 1, 2] (a83 p (by assumption))) [0, 1, 2, 4, 13, 14, 15, 45] [dI p.vars, dI p.arrays, dT p.body, .box [.v (.slice none 0 0), .v (.slice none 0 0), .v (.slice none 0 0)], dI (G9 p).vars, dI (G9 p).arrays, dT (G9 p).body, .box (pL 4)] [(2, .ptr 3 0), (3, bA false), (4, .ptr 7 0), (5, bA (okL p))] fun G => b6 (wp_seq (wp_seq (k8 G d9 [(12, .v (.bool !okL p))] fun G => b6 ?_)))))); cases h0 : (!okL p)
 ·have q0 : (okL p) = true := (Eq.mp (ck2 _) h0); refine rF G _ h0 (wp_skip (b6 (wp_seq (j8 G (s8 1 [4, 5, 6] (ay3 (G9 p) (by assumption))) [0, 1, 2, 3, 16, 17, 18] [dI p.vars, dI p.arrays, dT p.body, .box (pL 4), .row 3 (D.ints (cvP (G9 p))), .row 3 (D.ints (caP (G9 p))), .row 86 (D.instrs (I7 (G9 p)).fst)] [(2, .ptr 3 0), (3, bA (okC (G9 p)))] fun G => b6 (wp_ret ?_))))); exact K8 G [0, 1, 2, 4, 5, 6]
 ·have q0 : (okL p) = false := (Eq.mp (cj4 _) h0); refine rT G _ h0 (wp_seq (D2 G d9 [(2, .ptr 3 0), (3, bA false), (4, .ptr 7 0)] fun G => b6 (wp_ret (l6 ?_)))); obtain ⟨ρ, G⟩ := G.nil 8 3 (.ints []) 1 [dI p.vars, dI p.arrays, dT p.body, .box [.ref 8, .v (.slice none 0 0), .v (.slice none 0 0)], dI (G9 p).vars, dI (G9 p).arrays, dT (G9 p).body, .box (pL 4)] [(2, .ptr 3 0), (3, bA false), (4, .ptr 7 0)]; obtain ⟨ρ, G⟩ := G.nil 9 3 (.ints []) 1 [dI p.vars, dI p.arrays, dT p.body, .box [.ref 8, .ref 9, .v (.slice none 0 0)], dI (G9 p).vars, dI (G9 p).arrays, dT (G9 p).body, .box (pL 4), .row 3 (D.ints [])] [(2, .ptr 3 0), (3, bA false), (4, .ptr 7 0)]; obtain ⟨ρ, G⟩ := G.nil 10 86 (.instrs []) 5 [dI p.vars, dI p.arrays, dT p.body, .box (pL 8), dI (G9 p).vars, dI (G9 p).arrays, dT (G9 p).body, .box (pL 4), .row 3 (D.ints []), .row 3 (D.ints [])] [(2, .ptr 3 0), (3, bA false), (4, .ptr 7 0)]; exact U2 (.tup [pA 8, bA false]) G [0, 1, 2, 8, 9, 10] (by have e1 : (okC (G9 p) : Bool) = (false) := (bn6 (by with_reducible assumption)); (first | rw [e1] | simp only [e1]) <;> rfl) (by show _ = mR [0, 1, 2, 8, 9, 10] [dI p.vars, dI p.arrays, dT p.body, .row 3 (D.ints (cvP (G9 p))), .row 3 (D.ints (caP (G9 p))), .row 86 (D.instrs (I7 (G9 p)).fst)]; have e2 : (caP (G9 p) : List Int) = ([]) := (by rw [bZ8 (bn6 (by with_reducible assumption))]; done); have e3 : ((I7 (G9 p)).fst : List d7) = ([]) := (by rw [ax9 (bn6 (by with_reducible assumption))]; done); rw [e2, e3, bZ3 (bn6 (by with_reducible assumption))] <;> rfl)
abbrev ncC (b : List UInt8) (j : Int) (c : f8) (q : Int) : j9 := ⟨96, [.ptr 0 0], [.box [.ref 1, iA j], dY b], [.box [.ref 1, iA q], dY b, rI c.vars, rI c.arrays, rN c.list], .agg [.ref 2, .ref 3, .ref 4]⟩
theorem bS3 {p : i6} {x : Bool} (hb : p.size ≤ 1048576) (h : okC (G9 p) = x) : j9.ok Tryz.prog ⟨33, [pA 0], pS p, pS p ++ [rI (cvP (G9 p)), rI (caP (G9 p)), rN (I7 (G9 p)).1], .tup [.agg [.ref 3, .ref 4, .ref 5], bA x]⟩ := h ▸ aC3 p hb
abbrev bv1 : It := .box [.v (.slice none 0 0), .v (.slice none 0 0), .v (.slice none 0 0)]
theorem b42 (b : List UInt8) (j : Int) (h0 : ¬ pk b (l8 b j).2 3 = 0) (h1 : ¬ pk b (l8 b j).2 3 = 1) (r0 : 0 ≤ j) (r1 : j ≤ 1000000) : j9.ok Tryz.prog (ncC b j (l8 b j).1 ((l8 b j).2 + 1)) := by
  have hcd := bF7 b r0 (show j ≤ 10000000 by omega); refine E9 103 Tryz.func96 [.box [.ref 1, iA j], dY b] [(0, .ptr 0 0)] fun G => ?_; refine wp_seq (j8 G d9 [0, 1, 2] [.box [.ref 1, iA j], dY b, bv1] [(0, .ptr 0 0), (2, .ptr 2 0)] fun G => b6 (wp_seq (j8 G (s8 1 [0, 1] (au5 b j (by assumption) (by omega))) [0, 1, 2, 11, 12, 13, 19] [.box [.ref 1, iA (l8 b j).snd], dY b, bv1, .row 3 (D.ints (l8 b j).fst.vars), .row 3 (D.ints (l8 b j).fst.arrays), .row 86 (D.instrs (l8 b j).fst.list), .box (pL 3)] [(0, .ptr 0 0), (2, .ptr 2 0), (3, .ptr 6 0)] fun G => b6 (wp_seq (wp_seq (j8 G (s8 1 [0, 1] (t5 b ((l8 b j).snd) 3 (by omega) (by omega))) (rg 7) [.box [.ref 1, iA ((l8 b j).snd + 1)], dY b, bv1, .row 3 (D.ints (l8 b j).fst.vars), .row 3 (D.ints (l8 b j).fst.arrays), .row 86 (D.instrs (l8 b j).fst.list), .box (pL 3)] [(0, .ptr 0 0), (2, .ptr 2 0), (3, .ptr 6 0), (12, iA (pk b (l8 b j).snd 3))] fun G => b6 (wp_block (wp_seq (D2 G d9 [(0, .ptr 0 0), (2, .ptr 2 0), (3, .ptr 6 0), (12, iA (pk b (l8 b j).snd 3)), (13, bA (pk b (l8 b j).snd 3 == 0))] fun G => b6 ?_))))))))); cases h0 : (pk b (l8 b j).snd (3 : Int) == 0)
  ·
   have q0 := ne_of_beq_false h0; refine rF G _ h0 (wp_seq (D2 G d9 [(2, .ptr 2 0), (3, .ptr 6 0), (29, bA (pk b (l8 b j).snd 3 == 1))] fun G => b6 ?_)); cases h1 : (pk b (l8 b j).snd (3 : Int) == 1)
   · have q1 := ne_of_beq_false h1; refine rF G _ h1 (wp_skip (l0 (b6 (wp_seq (j8 G d9 (rg 6) [.box [.ref 1, iA ((l8 b j).snd + 1)], dY b, .box (pL 3), .row 3 (D.ints (l8 b j).fst.vars), .row 3 (D.ints (l8 b j).fst.arrays), .row 86 (D.instrs (l8 b j).fst.list)] [(2, .ptr 2 0)] fun G => b6 (wp_ret ?_)))))); exact K8 G [0, 1, 3, 4, 5]
   · have q1 := eq_of_beq h1; exact False.elim (by omega)
  · have q0 := eq_of_beq h0; exact False.elim (by omega)
abbrev ah9 : It := .box [.v (.slice none 0 0), .v (.slice none 0 0), .v (.slice none 0 0)]
abbrev ao3 (b : List UInt8) (j : Int) : It := .box [.ref 1, iA ((l8 b j).snd + 1)]
abbrev az5 (b : List UInt8) (j : Int) (k : Nat) : It := .row 3 (D.ints (rqL 1 (l8 b j).fst.vars k))
abbrev aO9 (b : List UInt8) (j : Int) (i : Nat) : It := .row 3 (D.ints (rqL 1 (l8 b j).fst.arrays i))
abbrev aO8 (b : List UInt8) (j : Int) : It := .row 86 (D.instrs (l8 b j).fst.list)
theorem b43 (b : List UInt8) (j : Int) (hpk : pk b (l8 b j).2 3 = 1) (r0 : 0 ≤ j) (r1 : j ≤ 1000000) : j9.ok Tryz.prog (ncC b j ⟨(l8 b j).1.vars.map fun x => l4 x 1, (l8 b j).1.arrays.map fun x => l4 x 1, (l8 b j).1.list.map fnI⟩ ((l8 b j).2 + 1)) := by
  have hcd := bF7 b r0 (show j ≤ 10000000 by omega); have hpg := bz2 b j; have hpv : (l8 b j).1.vars.length ≤ 12 := hpg.1; have hpa : (l8 b j).1.arrays.length ≤ 2 := hpg.2.1; refine E9 103 Tryz.func96 [.box [.ref 1, iA j], dY b] [(0, .ptr 0 0)] fun G => ?_; refine wp_seq (j8 G d9 [0, 1, 2] [.box [.ref 1, iA j], dY b, ah9] [(0, .ptr 0 0), (2, .ptr 2 0)] fun G => b6 (wp_seq (j8 G (s8 1 [0, 1] (au5 b j (by assumption) (by omega))) [0, 1, 2, 11, 12, 13, 19] [.box [.ref 1, iA (l8 b j).snd], dY b, ah9, .row 3 (D.ints (l8 b j).fst.vars), .row 3 (D.ints (l8 b j).fst.arrays), aO8 b j, .box (pL 3)] [(0, .ptr 0 0), (2, .ptr 2 0), (3, .ptr 6 0)] fun G => b6 (wp_seq (wp_seq (j8 G (s8 1 [0, 1] (t5 b ((l8 b j).snd) 3 (by omega) (by omega))) (rg 7) [ao3 b j, dY b, ah9, .row 3 (D.ints (l8 b j).fst.vars), .row 3 (D.ints (l8 b j).fst.arrays), aO8 b j, .box (pL 3)] [(0, .ptr 0 0), (2, .ptr 2 0), (3, .ptr 6 0), (12, iA (pk b (l8 b j).snd 3))] fun G => b6 (wp_block (wp_seq (D2 G d9 [(0, .ptr 0 0), (2, .ptr 2 0), (3, .ptr 6 0), (12, iA (pk b (l8 b j).snd 3)), (13, bA (pk b (l8 b j).snd 3 == 0))] fun G => b6 ?_))))))))); cases h0 : (pk b (l8 b j).snd (3 : Int) == 0)
  ·
   have q0 := ne_of_beq_false h0; refine rF G _ h0 (wp_seq (D2 G d9 [(2, .ptr 2 0), (3, .ptr 6 0), (29, bA (pk b (l8 b j).snd 3 == 1))] fun G => b6 ?_)); cases h1 : (pk b (l8 b j).snd (3 : Int) == 1)
   · have q1 := ne_of_beq_false h1; exact False.elim (by omega)
   ·
    have q1 := eq_of_beq h1; refine rT G _ h1 (wp_seq (wp_seq (D2 G d9 [(2, .ptr 2 0), (3, .ptr 6 0), (6, iA 0)] fun G => b6 (wp_block ?_)))); refine t0 (κ := Nat) (fun k => k ≤ (l8 b j).1.vars.length) (fun k => (l8 b j).1.vars.length - k) (fun k => [.box [.ref 1, iA ((l8 b j).snd + 1)], dY b, .box [.v (.slice none 0 0), .v (.slice none 0 0), .v (.slice none 0 0)], .row 3 (.ints (rqL 1 (l8 b j).1.vars k)), .row 3 (D.ints (l8 b j).fst.arrays), .row 86 (D.instrs (l8 b j).fst.list), .box (pL 3)]) (fun k => [(2, .ptr 2 0), (3, .ptr 6 0), (6, iA k)]) 0 (by omega) (t7.at G _ _) ?_; clear G; intro k ρ a w hp G; replace G := t7.at G [ao3 b j, dY b, ah9, az5 b j k, .row 3 (D.ints (l8 b j).fst.arrays), aO8 b j, .box (pL 3)] [(2, .ptr 2 0), (3, .ptr 6 0), (6, iA k)]; have hq := bk5 1 (l8 b j).1.vars k; refine wp_seq (wp_seq (k8 G d9 [(35, bA (decide ((k : Int) < ((rqL 1 (l8 b j).fst.vars k).length : Int))))] fun G => b6 (rcD G (fun h2 q2 => ?_) fun h2 q2 => ?_)))
    ·
     refine wp_exit (s7 (s7 (r8 (b6 (wp_seq (wp_seq (D2 G d9 [(2, .ptr 2 0), (3, .ptr 6 0), (7, iA 0)] fun G => b6 (wp_block ?_)))))))); refine t0 (κ := Nat) (fun i => i ≤ (l8 b j).1.arrays.length) (fun i => (l8 b j).1.arrays.length - i) (fun i => [.box [.ref 1, iA ((l8 b j).snd + 1)], dY b, .box [.v (.slice none 0 0), .v (.slice none 0 0), .v (.slice none 0 0)], .row 3 (D.ints (rqL 1 (l8 b j).fst.vars k)), .row 3 (.ints (rqL 1 (l8 b j).1.arrays i)), .row 86 (D.instrs (l8 b j).fst.list), .box (pL 3)]) (fun i => [(2, .ptr 2 0), (3, .ptr 6 0), (7, iA i)]) 0 (by omega) (t7.at G _ _) ?_; clear G; intro i ρ a w hp G; replace G := t7.at G [ao3 b j, dY b, ah9, az5 b j k, aO9 b j i, aO8 b j, .box (pL 3)] [(2, .ptr 2 0), (3, .ptr 6 0), (7, iA i)]; have hqa := bk5 1 (l8 b j).1.arrays i; refine wp_seq (wp_seq (k8 G d9 [(52, bA (decide ((i : Int) < ((rqL 1 (l8 b j).fst.arrays i).length : Int))))] fun G => b6 (rcD G (fun h3 q3 => ?_) fun h3 q3 => ?_)))
     ·
      refine wp_exit (s7 (s7 (r8 (b6 (wp_seq (D2 G d9 [(2, .ptr 2 0), (3, .ptr 6 0), (8, iA 0)] fun G => b6 (wp_block ?_))))))); refine t0 (κ := Nat) (fun n => n ≤ (l8 b j).1.list.length) (fun n => (l8 b j).1.list.length - n) (fun n => [.box [.ref 1, iA ((l8 b j).snd + 1)], dY b, .box [.v (.slice none 0 0), .v (.slice none 0 0), .v (.slice none 0 0)], .row 3 (D.ints (rqL 1 (l8 b j).fst.vars k)), .row 3 (D.ints (rqL 1 (l8 b j).fst.arrays i)), .row 86 (.instrs (Y8 (l8 b j).1.list n)), .box (pL 3)]) (fun n => [(2, .ptr 2 0), (3, .ptr 6 0), (8, iA n)]) 0 (by omega) (t7.at G _ _) ?_; clear G; intro n ρ a w hp G; replace G := t7.at G [ao3 b j, dY b, ah9, az5 b j k, aO9 b j i, .row 86 (D.instrs (Y8 (l8 b j).fst.list n)), .box (pL 3)] [(2, .ptr 2 0), (3, .ptr 6 0), (8, iA n)]; have hql := bn0 (l8 b j).1.list n; refine wp_seq (wp_seq (k8 G d9 [(69, bA (decide ((n : Int) < ((Y8 (l8 b j).fst.list n).length : Int))))] fun G => b6 (rcD G (fun h4 q4 => ?_) fun h4 q4 => ?_)))
      · refine wp_exit (s7 (s7 (r8 (l0 (b6 (wp_seq (j8 G d9 (rg 6) [ao3 b j, dY b, .box (pL 3), az5 b j k, aO9 b j i, .row 86 (D.instrs (Y8 (l8 b j).fst.list n))] [(2, .ptr 2 0)] fun G => b6 (wp_ret ?_)))))))); exact K8 G [0, 1, 3, 4, 5] (by show _ = mR [0, 1, 3, 4, 5] [.box [.ref 1, iA ((l8 b j).snd + 1)], dY b, .row 3 (D.ints (f8.mk (List.map (fun (x : Int) => l4 x 1) (l8 b j).fst.vars) (List.map (fun (x : Int) => l4 x 1) (l8 b j).fst.arrays) (List.map fnI (l8 b j).fst.list)).vars), .row 3 (D.ints (f8.mk (List.map (fun (x : Int) => l4 x 1) (l8 b j).fst.vars) (List.map (fun (x : Int) => l4 x 1) (l8 b j).fst.arrays) (List.map fnI (l8 b j).fst.list)).arrays), .row 86 (D.instrs (f8.mk (List.map (fun (x : Int) => l4 x 1) (l8 b j).fst.vars) (List.map (fun (x : Int) => l4 x 1) (l8 b j).fst.arrays) (List.map fnI (l8 b j).fst.list)).list)]; have e1 : ((f8.mk (List.map (fun (x : Int) => l4 x 1) (l8 b j).fst.vars) (List.map (fun (x : Int) => l4 x 1) (l8 b j).fst.arrays) (List.map fnI (l8 b j).fst.list)).vars : List Int) = (rqL 1 (l8 b j).fst.vars k) := ((bk6 (by omega)).symm); have e2 : ((f8.mk (List.map (fun (x : Int) => l4 x 1) (l8 b j).fst.vars) (List.map (fun (x : Int) => l4 x 1) (l8 b j).fst.arrays) (List.map fnI (l8 b j).fst.list)).arrays : List Int) = (rqL 1 (l8 b j).fst.arrays i) := ((bk6 (by omega)).symm); have e3 : ((f8.mk (List.map (fun (x : Int) => l4 x 1) (l8 b j).fst.vars) (List.map (fun (x : Int) => l4 x 1) (l8 b j).fst.arrays) (List.map fnI (l8 b j).fst.list)).list : List d7) = (Y8 (l8 b j).fst.list n) := ((bM9 (by omega)).symm); (first | rw [e1, e2, e3] | simp only [e1, e2, e3]) <;> rfl)
      ·
       refine wp_skip (b6 (wp_seq (wp_block (wp_seq ?_)))); cases h5 : (((Y8 (l8 b j).fst.list n).getD n ch2).op == 9)
       ·
        have q5 := ne_of_beq_false h5; cases h6 : (((Y8 (l8 b j).fst.list n).getD n ch2).op == 4)
        ·
         have q6 := ne_of_beq_false h6; refine E0 G (J1 (fc h5 (fc h6 fz)) (us [(8, 14, 0), (1015, 1015, 0), (17, 23, 1), (1024, 1024, 1)])) [(96, bA (((Y8 (l8 b j).fst.list n).getD n ch2).op == 5))] (iX n n ((Y8 (l8 b j).fst.list n).length) (iX n n ((Y8 (l8 b j).fst.list n).length) (iX n n ((Y8 (l8 b j).fst.list n).length) []))) (iK (by omega) (iK (by omega) (iK (by omega) ci7))) fun G => b6 (J7 G (fun h7 q7 => ?_) fun h7 q7 => ?_)
         · refine wp_skip (l0 (b6 (E0 G d9 [(8, iA ((n : Int) + 1))] [wO ((n : Int) + 1)] (o1 (by omega)) fun G => b6 ?_))); exact I9 G (n + 1) (by omega) (by omega) (rg 7) (by have e1 : (Y8 (l8 b j).fst.list (n + 1) : List d7) = (Y8 (l8 b j).fst.list n) := (b84 (by omega) (by omega)); (first | rw [e1] | simp only [e1]) <;> rfl)
         · refine N7 G d9 (rg 7) [ao3 b j, dY b, ah9, az5 b j k, aO9 b j i, .row 86 (D.instrs ((Y8 (l8 b j).fst.list n).set n (d7.mk 12 0 0 0 0))), .box (pL 3)] [(2, .ptr 2 0), (3, .ptr 6 0), (8, iA n)] (iX n n ((Y8 (l8 b j).fst.list n).length) []) (iK (by omega) ci7) fun G => l0 (b6 (E0 G d9 [(8, iA ((n : Int) + 1))] [wO ((n : Int) + 1)] (o1 (by omega)) fun G => b6 ?_)); exact I9 G (n + 1) (by omega) (by omega) (rg 7) (by have e1 : (Y8 (l8 b j).fst.list (n + 1) : List d7) = ((Y8 (l8 b j).fst.list n).set n (d7.mk 12 0 0 0 0)) := (bD5 (by omega) (by omega)); (first | rw [e1] | simp only [e1]) <;> rfl)
        · have q6 := eq_of_beq h6; refine E0 G (J1 (fc h5 (fc h6 fz)) (us [(8, 14, 0), (1015, 1015, 0), (17, 23, 1), (1024, 1024, 1)])) [(96, bA true)] (iX n n ((Y8 (l8 b j).fst.list n).length) (iX n n ((Y8 (l8 b j).fst.list n).length) [])) (iK (by omega) (iK (by omega) ci7)) fun G => b6 (rT G true (by kernel_rfl) (N7 G d9 (rg 7) [ao3 b j, dY b, ah9, az5 b j k, aO9 b j i, .row 86 (D.instrs ((Y8 (l8 b j).fst.list n).set n (d7.mk 12 0 0 0 0))), .box (pL 3)] [(2, .ptr 2 0), (3, .ptr 6 0), (8, iA n)] (iX n n ((Y8 (l8 b j).fst.list n).length) []) (iK (by omega) ci7) fun G => l0 (b6 (E0 G d9 [(8, iA ((n : Int) + 1))] [wO ((n : Int) + 1)] (o1 (by omega)) fun G => b6 ?_)))); exact I9 G (n + 1) (by omega) (by omega) (rg 7) (by have e1 : (Y8 (l8 b j).fst.list (n + 1) : List d7) = ((Y8 (l8 b j).fst.list n).set n (d7.mk 12 0 0 0 0)) := (bD5 (by omega) (by omega)); (first | rw [e1] | simp only [e1]) <;> rfl)
       · have q5 := eq_of_beq h5; refine E0 G (J1 (fc h5 (fc (b := true) rfl fz)) (us [(8, 14, 0), (1015, 1015, 0), (17, 23, 1), (1024, 1024, 1)])) [(96, bA true)] (iX n n ((Y8 (l8 b j).fst.list n).length) []) (iK (by omega) ci7) fun G => b6 (rT G true (by kernel_rfl) (N7 G d9 (rg 7) [ao3 b j, dY b, ah9, az5 b j k, aO9 b j i, .row 86 (D.instrs ((Y8 (l8 b j).fst.list n).set n (d7.mk 12 0 0 0 0))), .box (pL 3)] [(2, .ptr 2 0), (3, .ptr 6 0), (8, iA n)] (iX n n ((Y8 (l8 b j).fst.list n).length) []) (iK (by omega) ci7) fun G => l0 (b6 (E0 G d9 [(8, iA ((n : Int) + 1))] [wO ((n : Int) + 1)] (o1 (by omega)) fun G => b6 ?_)))); exact I9 G (n + 1) (by omega) (by omega) (rg 7) (by have e1 : (Y8 (l8 b j).fst.list (n + 1) : List d7) = ((Y8 (l8 b j).fst.list n).set n (d7.mk 12 0 0 0 0)) := (bD5 (by omega) (by omega)); (first | rw [e1] | simp only [e1]) <;> rfl)
     · refine wp_skip (b6 (wp_seq (wp_block (O1 G d9 [0, 1, 0, 0, 8, 0, 56, 120, 248, 511, 1023] (rg 7) [ao3 b j, dY b, ah9, az5 b j k, .row 3 (D.ints ((rqL 1 (l8 b j).fst.arrays i).set i (l4 ((rqL 1 (l8 b j).fst.arrays i).getD i 0) 1))), aO8 b j, .box (pL 3)] [(2, .ptr 2 0), (3, .ptr 6 0), (7, iA i)] (iX i i ((rqL (1 : Int) (l8 b j).fst.arrays i).length) (iX i i ((rqL (1 : Int) (l8 b j).fst.arrays i).length) [])) (iK (by omega) (iK (by omega) ci7)) fun G => l0 (b6 (E0 G d9 [(7, iA ((i : Int) + 1))] [wO ((i : Int) + 1)] (o1 (by omega)) fun G => b6 ?_)))))); exact I9 G (i + 1) (by omega) (by omega) (rg 7) (by have e1 : (rqL 1 (l8 b j).fst.arrays (i + 1) : List Int) = ((rqL 1 (l8 b j).fst.arrays i).set i (l4 ((rqL 1 (l8 b j).fst.arrays i).getD i 0) 1)) := ((bk4 (by omega)).symm); (first | rw [e1] | simp only [e1]) <;> rfl)
    · refine wp_skip (b6 (wp_seq (wp_block (O1 G d9 [0, 1, 0, 0, 8, 0, 56, 120, 248, 511, 1023] (rg 7) [ao3 b j, dY b, ah9, .row 3 (D.ints ((rqL 1 (l8 b j).fst.vars k).set k (l4 ((rqL 1 (l8 b j).fst.vars k).getD k 0) 1))), .row 3 (D.ints (l8 b j).fst.arrays), aO8 b j, .box (pL 3)] [(2, .ptr 2 0), (3, .ptr 6 0), (6, iA k)] (iX k k ((rqL (1 : Int) (l8 b j).fst.vars k).length) (iX k k ((rqL (1 : Int) (l8 b j).fst.vars k).length) [])) (iK (by omega) (iK (by omega) ci7)) fun G => l0 (b6 (E0 G d9 [(6, iA ((k : Int) + 1))] [wO ((k : Int) + 1)] (o1 (by omega)) fun G => b6 ?_)))))); exact I9 G (k + 1) (by omega) (by omega) (rg 7) (by have e1 : (rqL 1 (l8 b j).fst.vars (k + 1) : List Int) = ((rqL 1 (l8 b j).fst.vars k).set k (l4 ((rqL 1 (l8 b j).fst.vars k).getD k 0) 1)) := ((bk4 (by omega)).symm); (first | rw [e1] | simp only [e1]) <;> rfl)
  · have q0 := eq_of_beq h0; exact False.elim (by omega)
abbrev bi8 : It := .box [.v (.slice none 0 0), .v (.slice none 0 0), .v (.slice none 0 0)]
abbrev bh7 (b : List UInt8) (j : Int) (r0 : List It) : List It := .row 3 (D.ints (l8 b j).fst.vars) :: .row 3 (D.ints (l8 b j).fst.arrays) :: .row 86 (D.instrs (l8 b j).fst.list) :: .box (pL 3) :: r0
theorem bU3 (b : List UInt8) (j : Int) (hpk : pk b (l8 b j).2 3 = 0) (hok : okC (G9 (I4 b 3 ((l8 b j).2 + 1)).1) = true) (hl : (I7 (G9 (I4 b 3 ((l8 b j).2 + 1)).1)).1.length ≤ 60) (r0 : 0 ≤ j) (r1 : j ≤ 1000000) : j9.ok Tryz.prog (ncC b j ⟨cvP (G9 (I4 b 3 ((l8 b j).2 + 1)).1), caP (G9 (I4 b 3 ((l8 b j).2 + 1)).1), (I7 (G9 (I4 b 3 ((l8 b j).2 + 1)).1)).1⟩ (I4 b 3 ((l8 b j).2 + 1)).2) := by
  have hcd := bF7 b r0 (show j ≤ 10000000 by omega); have hfi := bN3 b 3 ((l8 b j).2 + 1) (ch9 _) (by omega) (by omega); have hcs := bS3 (show (I4 b 3 ((l8 b j).2 + 1)).1.size ≤ 1048576 by omega) hok; refine E9 103 Tryz.func96 [.box [.ref 1, iA j], dY b] [(0, .ptr 0 0)] fun G => ?_; refine wp_seq (j8 G d9 [0, 1, 2] [.box [.ref 1, iA j], dY b, bi8] [(0, .ptr 0 0), (2, .ptr 2 0)] fun G => b6 (wp_seq (j8 G (s8 1 [0, 1] (au5 b j (by assumption) (by omega))) [0, 1, 2, 11, 12, 13, 19] (.box [.ref 1, iA (l8 b j).snd] :: dY b :: bi8 :: (bh7 b j [])) [(0, .ptr 0 0), (2, .ptr 2 0), (3, .ptr 6 0)] fun G => b6 (wp_seq (wp_seq (j8 G (s8 1 [0, 1] (t5 b ((l8 b j).snd) 3 (by omega) (by omega))) (rg 7) (.box [.ref 1, iA ((l8 b j).snd + 1)] :: dY b :: bi8 :: (bh7 b j [])) [(0, .ptr 0 0), (2, .ptr 2 0), (3, .ptr 6 0), (12, iA (pk b (l8 b j).snd 3))] fun G => b6 (wp_block (wp_seq (D2 G d9 [(0, .ptr 0 0), (2, .ptr 2 0), (3, .ptr 6 0), (12, iA (pk b (l8 b j).snd 3)), (13, bA (pk b (l8 b j).snd 3 == 0))] fun G => b6 ?_))))))))); cases h0 : (pk b (l8 b j).snd (3 : Int) == 0)
  · have q0 := ne_of_beq_false h0; exact False.elim (by omega)
  ·
   have q0 := eq_of_beq h0; refine rT G _ h0 (wp_seq (j8 G (F9 (t4 1 [0, 1] (aA6 b ((l8 b j).snd + 1) (by omega) (by omega)) (t4 2 [15, 16, 17] (j9.lend hcs [.row 3, .row 3, .tree]) F8)) fz []) [0, 1, 2, 3, 4, 5, 6, 23, 24, 25, 55] (.box [.ref 1, iA (I4 b 3 ((l8 b j).snd + 1)).snd] :: dY b :: bi8 :: (bh7 b j [.row 3 (D.ints (cvP (G9 (I4 b 3 ((l8 b j).snd + 1)).fst))), .row 3 (D.ints (caP (G9 (I4 b 3 ((l8 b j).snd + 1)).fst))), .row 86 (D.instrs (I7 (G9 (I4 b 3 ((l8 b j).snd + 1)).fst)).fst), .box (pL 7)])) [(2, .ptr 2 0), (3, .ptr 6 0), (4, .ptr 10 0), (5, bA true)] fun G => b6 (wp_seq (D2 G (J1 (fc (b := true) rfl fz) (us [(2, 5, 0), (1006, 1006, 0)])) [(2, .ptr 2 0), (3, .ptr 6 0), (4, .ptr 10 0), (27, bA (decide (((I7 (G9 (I4 b 3 ((l8 b j).snd + 1)).fst)).fst.length : Int) ≤ 60)))] fun G => b6 ?_)))); cases h1 : (decide (((I7 (G9 (I4 b (3 : Nat) ((l8 b j).snd + 1)).fst)).fst.length : Int) ≤ 60))
   · have q1 := dFf h1; exact False.elim (by omega)
   · have q1 := dTt h1; refine rT G _ h1 (wp_seq (j8 G d9 (rg 10) (.box [.ref 1, iA (I4 b 3 ((l8 b j).snd + 1)).snd] :: dY b :: .box (pL 7) :: (bh7 b j [.row 3 (D.ints (cvP (G9 (I4 b 3 ((l8 b j).snd + 1)).fst))), .row 3 (D.ints (caP (G9 (I4 b 3 ((l8 b j).snd + 1)).fst))), .row 86 (D.instrs (I7 (G9 (I4 b 3 ((l8 b j).snd + 1)).fst)).fst)])) [(2, .ptr 2 0), (3, .ptr 6 0)] fun G => b6 (wp_ret (z5 (l6 ?_))))); exact K8 G [0, 1, 7, 8, 9]
abbrev bi7 : It := .box [.v (.slice none 0 0), .v (.slice none 0 0), .v (.slice none 0 0)]
abbrev aZ1 (b : List UInt8) (j : Int) (r0 : List It) : List It := .row 3 (D.ints (l8 b j).fst.vars) :: .row 3 (D.ints (l8 b j).fst.arrays) :: .row 86 (D.instrs (l8 b j).fst.list) :: r0
theorem bU4 (b : List UInt8) (j : Int) (x : Bool) (hpk : pk b (l8 b j).2 3 = 0) (hok : okC (G9 (I4 b 3 ((l8 b j).2 + 1)).1) = x) (hl : ¬ (x = true ∧ (I7 (G9 (I4 b 3 ((l8 b j).2 + 1)).1)).1.length ≤ 60)) (r0 : 0 ≤ j) (r1 : j ≤ 1000000) : j9.ok Tryz.prog (ncC b j (l8 b j).1 (I4 b 3 ((l8 b j).2 + 1)).2) := by
  have hcd := bF7 b r0 (show j ≤ 10000000 by omega); have hfi := bN3 b 3 ((l8 b j).2 + 1) (ch9 _) (by omega) (by omega); have hcs := bS3 (show (I4 b 3 ((l8 b j).2 + 1)).1.size ≤ 1048576 by omega) hok; refine E9 103 Tryz.func96 [.box [.ref 1, iA j], dY b] [(0, .ptr 0 0)] fun G => ?_; refine wp_seq (j8 G d9 [0, 1, 2] [.box [.ref 1, iA j], dY b, bi7] [(0, .ptr 0 0), (2, .ptr 2 0)] fun G => b6 (wp_seq (j8 G (s8 1 [0, 1] (au5 b j (by assumption) (by omega))) [0, 1, 2, 11, 12, 13, 19] (.box [.ref 1, iA (l8 b j).snd] :: dY b :: bi7 :: (aZ1 b j [.box (pL 3)])) [(0, .ptr 0 0), (2, .ptr 2 0), (3, .ptr 6 0)] fun G => b6 (wp_seq (wp_seq (j8 G (s8 1 [0, 1] (t5 b ((l8 b j).snd) 3 (by omega) (by omega))) (rg 7) (.box [.ref 1, iA ((l8 b j).snd + 1)] :: dY b :: bi7 :: (aZ1 b j [.box (pL 3)])) [(0, .ptr 0 0), (2, .ptr 2 0), (3, .ptr 6 0), (12, iA (pk b (l8 b j).snd 3))] fun G => b6 (wp_block (wp_seq (D2 G d9 [(0, .ptr 0 0), (2, .ptr 2 0), (3, .ptr 6 0), (12, iA (pk b (l8 b j).snd 3)), (13, bA (pk b (l8 b j).snd 3 == 0))] fun G => b6 ?_))))))))); cases h0 : (pk b (l8 b j).snd (3 : Int) == 0)
  · have q0 := ne_of_beq_false h0; exact False.elim (by omega)
  ·
   have q0 := eq_of_beq h0; refine rT G _ h0 (wp_seq (j8 G (F9 (t4 1 [0, 1] (aA6 b ((l8 b j).snd + 1) (by omega) (by omega)) (t4 2 [15, 16, 17] (j9.lend hcs [.row 3, .row 3, .tree]) F8)) fz []) [0, 1, 2, 3, 4, 5, 6, 23, 24, 25, 55] (.box [.ref 1, iA (I4 b 3 ((l8 b j).snd + 1)).snd] :: dY b :: bi7 :: (aZ1 b j [.box (pL 3), .row 3 (D.ints (cvP (G9 (I4 b 3 ((l8 b j).snd + 1)).fst))), .row 3 (D.ints (caP (G9 (I4 b 3 ((l8 b j).snd + 1)).fst))), .row 86 (D.instrs (I7 (G9 (I4 b 3 ((l8 b j).snd + 1)).fst)).fst), .box (pL 7)])) [(2, .ptr 2 0), (3, .ptr 6 0), (4, .ptr 10 0), (5, bA x)] fun G => b6 (wp_seq ?_))); cases h1 : (x)
   · refine k8 G (J1 (fc h1 fz) (us [(2, 5, 0), (1006, 1006, 0)])) [(27, bA false)] fun G => b6 (rF G false (by kernel_rfl) (wp_skip (l0 (b6 (wp_seq (j8 G d9 (rg 6) (.box [.ref 1, iA (I4 b 3 ((l8 b j).snd + 1)).snd] :: dY b :: .box (pL 3) :: (aZ1 b j [])) [(2, .ptr 2 0)] fun G => b6 (wp_ret ?_))))))); exact K8 G [0, 1, 3, 4, 5]
   ·
    refine D2 G (J1 (fc h1 fz) (us [(2, 5, 0), (1006, 1006, 0)])) [(2, .ptr 2 0), (3, .ptr 6 0), (4, .ptr 10 0), (27, bA (decide (((I7 (G9 (I4 b 3 ((l8 b j).snd + 1)).fst)).fst.length : Int) ≤ 60)))] fun G => b6 ?_; cases h2 : (decide (((I7 (G9 (I4 b (3 : Nat) ((l8 b j).snd + 1)).fst)).fst.length : Int) ≤ 60))
    · have q2 := dFf h2; refine rF G _ h2 (wp_skip (l0 (b6 (wp_seq (j8 G d9 (rg 6) (.box [.ref 1, iA (I4 b 3 ((l8 b j).snd + 1)).snd] :: dY b :: .box (pL 3) :: (aZ1 b j [])) [(2, .ptr 2 0)] fun G => b6 (wp_ret ?_)))))); exact K8 G [0, 1, 3, 4, 5]
    · have q2 := dTt h2; exact False.elim (hl ⟨by with_reducible assumption, by omega⟩)
theorem a74 (b : List UInt8) (j : Int) (r0 : 0 ≤ j) (r1 : j ≤ 1000000) : j9.ok Tryz.prog ⟨96, [.ptr 0 0], [.box [.ref 1, iA j], dY b], [.box [.ref 1, iA (V3 b j).2], dY b, rI (V3 b j).1.vars, rI (V3 b j).1.arrays, rN (V3 b j).1.list], .agg [.ref 2, .ref 3, .ref 4]⟩ := by
 by_cases h0 : pk b (l8 b j).2 3 = 0
 ·by_cases h2 : okC (G9 (I4 b 3 ((l8 b j).2 + 1)).1) = true ∧ (I7 (G9 (I4 b 3 ((l8 b j).2 + 1)).1)).1.length ≤ 60
  ·have e : V3 b j = (⟨cvP (G9 (I4 b 3 ((l8 b j).2 + 1)).1), caP (G9 (I4 b 3 ((l8 b j).2 + 1)).1), (I7 (G9 (I4 b 3 ((l8 b j).2 + 1)).1)).1⟩, (I4 b 3 ((l8 b j).2 + 1)).2) := by unfold V3; rw [if_pos h0, if_pos h2]
   rw [e]; exact bU3 b j h0 h2.1 h2.2 r0 r1
  ·have e : V3 b j = ((l8 b j).1, (I4 b 3 ((l8 b j).2 + 1)).2) := by unfold V3; rw [if_pos h0, if_neg h2]
   rw [e]; exact bU4 b j _ h0 rfl h2 r0 r1
 ·by_cases h1 : pk b (l8 b j).2 3 = 1
  ·have e : V3 b j = (⟨(l8 b j).1.vars.map fun x => l4 x 1, (l8 b j).1.arrays.map fun x => l4 x 1, (l8 b j).1.list.map fnI⟩, (l8 b j).2 + 1) := by unfold V3; rw [if_neg h0, if_pos h1]
   rw [e]; exact b43 b j h1 r0 r1
  ·have e : V3 b j = ((l8 b j).1, (l8 b j).2 + 1) := by unfold V3; rw [if_neg h0, if_neg h1]
   rw [e]; exact b42 b j h0 h1 r0 r1
def dcX (b : List UInt8) : f8 := (muD b (V3 b 0).2 (V3 b 0).1).1
theorem nc0 (b : List UInt8) : 0 ≤ (V3 b 0).2 ∧ (V3 b 0).2 ≤ 1000000 ∧ (V3 b 0).1.list.length ≤ 60 ∧ (V3 b 0).1.vars.length ≤ 12 ∧ (V3 b 0).1.arrays.length ≤ 2 := by
 have h := b57 b (j := 0) (by omega) (by omega)
 omega
theorem bq1 (c : List UInt8) (hc : c.length ≤ 2000) : j9.ok Tryz.prog ⟨41, [.ref 0], [dY c], [dY c, rI (dcX c).vars, rI (dcX c).arrays, rN (dcX c).list], .agg [.ref 1, .ref 2, .ref 3]⟩ := by
 refine E9 10 Tryz.func41 [dY c] [(0, .ref 0)] fun G => ?_; have hjp := nc0 c; refine wp_seq (j8 G d9 [0, 1] [dY c, .box [.v (.slice none 0 0), .v (.slice none 0 0), .v (.slice none 0 0)]] [(0, .ref 0), (2, .ptr 1 0)] fun G => b6 (wp_seq (j8 G (s8 1 [0] (bg8 c (by assumption))) [0, 1, 10] [dY c, .box [.v (.slice none 0 0), .v (.slice none 0 0), .v (.slice none 0 0)], .box [.ref 0, iA 0]] [(2, .ptr 1 0), (3, .ptr 2 0)] fun G => b6 (wp_seq (j8 G (F9 (t4 2 [2, 0] (a74 c 0 (by omega) (by omega)) (t4 3 [2, 0, 19, 20, 21] (j9.lend (aL5 c ((V3 c 0).snd) ((V3 c 0).fst.vars) ((V3 c 0).fst.arrays) ((V3 c 0).fst.list) (by omega) (by omega) (by omega)) [.no, .no, .row 3, .row 3, .row 86]) F8)) fz []) [0, 1, 27, 28, 29] [dY c, .box (pL 2), .row 3 (D.ints (muD c (V3 c 0).snd (f8.mk (V3 c 0).fst.vars (V3 c 0).fst.arrays (V3 c 0).fst.list)).fst.vars), .row 3 (D.ints (muD c (V3 c 0).snd (f8.mk (V3 c 0).fst.vars (V3 c 0).fst.arrays (V3 c 0).fst.list)).fst.arrays), .row 86 (D.instrs (muD c (V3 c 0).snd (f8.mk (V3 c 0).fst.vars (V3 c 0).fst.arrays (V3 c 0).fst.list)).fst.list)] [(2, .ptr 1 0)] fun G => b6 (wp_ret ?_)))))); exact K8 G [0, 2, 3, 4]
abbrev bv0 (c : List UInt8) := muD (List.drop 0 (ci0 2000 c)) (V3 (List.drop 0 (ci0 2000 c)) 0).snd (f8.mk (V3 (List.drop 0 (ci0 2000 c)) 0).fst.vars (V3 (List.drop 0 (ci0 2000 c)) 0).fst.arrays (V3 (List.drop 0 (ci0 2000 c)) 0).fst.list)
theorem bq0 (c : List UInt8) (hc : 2000 < c.length) : j9.ok Tryz.prog ⟨41, [.ref 0], [dY c], [dY c, rI (dcX ((c.take 2000).drop 0)).vars, rI (dcX ((c.take 2000).drop 0)).arrays, rN (dcX ((c.take 2000).drop 0)).list], .agg [.ref 1, .ref 2, .ref 3]⟩ := by
 refine E9 10 Tryz.func41 [dY c] [(0, .ref 0)] fun G => ?_; have hjp := nc0 ((c.take 2000).drop 0); refine wp_seq (j8 G d9 [0, 1] [dY c, .box [.v (.slice none 0 0), .v (.slice none 0 0), .v (.slice none 0 0)]] [(0, .ref 0), (2, .ptr 1 0)] fun G => b6 (wp_seq (j8 G (s8 1 [0] (bg7 c (by assumption))) [0, 1, 10, 11] [dY c, .box [.v (.slice none 0 0), .v (.slice none 0 0), .v (.slice none 0 0)], .box [.ref 3, iA 0], dY (List.drop 0 (ci0 2000 c))] [(2, .ptr 1 0), (3, .ptr 2 0)] fun G => b6 (wp_seq (j8 G (F9 (t4 2 [2, 3] (a74 (List.drop 0 (ci0 2000 c)) 0 (by omega) (by omega)) (t4 3 [2, 3, 20, 21, 22] (j9.lend (aL5 (List.drop 0 (ci0 2000 c)) ((V3 (List.drop 0 (ci0 2000 c)) 0).snd) ((V3 (List.drop 0 (ci0 2000 c)) 0).fst.vars) ((V3 (List.drop 0 (ci0 2000 c)) 0).fst.arrays) ((V3 (List.drop 0 (ci0 2000 c)) 0).fst.list) (by omega) (by omega) (by omega)) [.no, .no, .row 3, .row 3, .row 86]) F8)) fz []) [0, 1, 28, 29, 30] [dY c, .box (pL 2), .row 3 (D.ints (bv0 c).fst.vars), .row 3 (D.ints (bv0 c).fst.arrays), .row 86 (D.instrs (bv0 c).fst.list)] [(2, .ptr 1 0)] fun G => b6 (wp_ret ?_)))))); exact K8 G [0, 2, 3, 4]
theorem bG7 (c : List UInt8) : j9.ok Tryz.prog ⟨41, [.ref 0], [dY c], [dY c, rI (x7 c).vars, rI (x7 c).arrays, rN (x7 c).list], .agg [.ref 1, .ref 2, .ref 3]⟩ := by
 by_cases h : c.length ≤ 2000
 ·have e : x7 c = dcX c := by unfold x7 dcX bsD; rw [ci8 h]
  rw [e]; exact bq1 c h
 ·exact bq0 c (by omega)
theorem bG6 (c : List UInt8) : j9.ok Tryz.prog ⟨45, [.ref 0], [dY c], [dY c, rI (x7 c).vars, rI (x7 c).arrays, rN (x7 c).list], .agg [.ref 1, .ref 2, .ref 3]⟩ := by
 refine E9 5 Tryz.func45 [dY c] [(0, .ref 0)] fun G => ?_; refine wp_seq (j8 G d9 [0, 1] [dY c, .box [.v (.slice none 0 0), .v (.slice none 0 0), .v (.slice none 0 0)]] [(0, .ref 0), (2, .ptr 1 0)] fun G => b6 (wp_seq (j8 G (s8 1 [0] (bG7 c)) [0, 1, 10, 11, 12] [dY c, .box (pL 2), .row 3 (D.ints (x7 c).vars), .row 3 (D.ints (x7 c).arrays), .row 86 (D.instrs (x7 c).list)] [(2, .ptr 1 0)] fun G => b6 (wp_ret ?_)))); exact K8 G [0, 2, 3, 4]
theorem bX1 {w : World} {lo hi : Nat} {u : Value} {m : List (List Bool)} (h : M0 w lo hi u m) {φ : Nat → Prop} (hf : ∀ g, lo ≤ g → φ g) : RD w φ (.brows m) u := by
 obtain ⟨vs, h1, h2, _⟩ := h
 refine ⟨vs, B5 h1.1 fun g hg => hf g (h1.lt g hg).1, fun i hi => ?_⟩
 have hl : i < vs.length := by rw [h1.row.1]; omega
 have h3 := h2 i _ _ (ch6 hl) (ch6 hi)
 exact ⟨_, ch6 hl, B5 h3.1 fun g hg => hf g (h3.lt g hg).1⟩
theorem bL3 {ι : Type} {φ ψ : Nat → Prop} {w0 w w' : World} {F : ι → Rs} {ρ : Nat → Value} {a b c d : D} {u : Value} (M : l7 φ ψ w0 w (p8 F ρ (s6 [.dat a, .dat b, .dat c]))) (hbl : Below w.heap.size w w') (hr : ∀ φ' : Nat → Prop, (∀ g, w.heap.size ≤ g → φ' g) → RD w' φ' d u) : l7 φ ψ w0 w' (p8 F (fun i => if i = 3 then u else ρ i) (s6 [.dat a, .dat b, .dat c, .dat d])) := by
 have ho' : ∀ k, ¬ k = Sum.inr 3 → p8 F (fun i => if i = 3 then u else ρ i) (s6 [.dat a, .dat b, .dat c, .dat d]) k = p8 F ρ (s6 [.dat a, .dat b, .dat c]) k := by
  intro k hk
  cases k with
  | inl i => rfl
  | inr j =>
   match j, hk with
   | 0, _ => rfl
   | 1, _ => rfl
   | 2, _ => rfl
   | 3, h => exact absurd rfl h
   | j + 4, _ => rfl
 refine M.grow hbl (fun k => k = .inr 3) ho' (by rintro k rfl b hb; cases hb) (by rintro j k b hjk rfl rfl; exact absurd rfl hjk) ?_
 rintro k rfl
 refine ⟨RD.nice _ _, hr _ fun g h1 => ⟨M.fresh g (by have := M.kept.size; omega), fun k hk => ?_⟩⟩
 by_cases e : k = .inr 3
 ·subst e; cases hk
 ·rw [ho' k e] at hk
  have := M.lt hk
  omega
section
variable {f : FuncId} {c : f8}
theorem bA9 {m : List (List Bool)} {b : Bool} (h : ∀ (v : Value) (w : World), v7 w v c → Calls Tryz.prog f #[v] w fun e w' => ∃ u, e = .returned (.tuple #[u, .bool b]) ∧ M0 w' w.heap.size w'.heap.size u m ∧ Below w.heap.size w w') : j9.ok Tryz.prog ⟨f, [.agg [.ref 0, .ref 1, .ref 2]], [.dat (.ints c.vars), .dat (.ints c.arrays), .dat (.instrs c.list)], [.dat (.ints c.vars), .dat (.ints c.arrays), .dat (.instrs c.list), .dat (.brows m)], .tup [.ref 3, .v (.bool b)]⟩ := by
 intro ι φ ψ w0 w F ρ M
 refine (h (.agg #[ρ 0, ρ 1, ρ 2]) w ⟨_, _, _, rfl, A2.row (M.datAt (id := 0) (d := .ints c.vars) rfl), A2.row (M.datAt (id := 1) (d := .ints c.arrays) rfl), A2.row (M.datAt (id := 2) (d := .instrs c.list) rfl)⟩).mono ?_
 rintro e w' ⟨u, rfl, ho, hbl⟩
 exact ⟨_, fun i (hi : i < 3) => if_neg (show ¬ i = 3 by omega), by simp [AV.val, AV.vals], bL3 (u := u) M hbl fun _ hf => bX1 ho hf⟩
end
theorem bM6 {c : f8} (h : aa1 c = true) : aN6 c (an9 c) = true := by
 have h0 : (D6 c).1 = 0 := of_decide_eq_true h
 have hc := bn8 h0
 obtain ⟨m, hm⟩ := bB4 hc
 have e := ak0 hm
 unfold an9
 rw [if_pos h0, ← e]
 refine bM5 hc hm ?_
 unfold D6 at h0
 rwa [if_pos hc, ← e] at h0
theorem bM3 (c : f8) : true = (aa1 c == ((D6 c).1 == 0)) := by
 unfold aa1
 by_cases h : (D6 c).1 = 0
 ·rw [h]; rfl
 ·rw [decide_eq_false h, beq_eq_false_iff_ne.2 h]; rfl
theorem bV1 {w : World} {φ : Nat → Prop} {v : Value} {m : List (List Bool)} (h : RD w φ (.brows m) v) : F5 w v m := by
 obtain ⟨vs, h1, h2⟩ := h
 refine ⟨vs, h1.row, fun i u r hu hr => ?_⟩
 obtain ⟨hi, rfl⟩ := ci5.1 hr
 obtain ⟨u', e, h3⟩ := h2 i hi
 rw [hu] at e
 cases e
 exact h3.row
theorem bk9 {P : Program} {f : FuncId} {args : List AV} {S : List It} {x y : Value} (h : ∀ (φ : Nat → Prop) (w : World) (ρ : Nat → Value), (∀ i d, s6 S i = .dat d → RD w φ d (ρ i)) → Calls P f (AV.vals ρ args).toArray w fun e w' => e = .returned (.tuple #[x, y]) ∧ Below w.heap.size w w') : j9.ok P (T5 f args S (.tup [.v x, .v y])) := by
 intro ι φ ψ w0 w F ρ M
 refine (h (FrF φ (p8 F ρ (s6 S))) w ρ fun i d hi => M.datAt hi).mono ?_
 rintro e w' ⟨rfl, hb⟩
 exact ⟨ρ, fun _ _ => rfl, rfl, M.call hb⟩
theorem br2 (w : World) : l7 (fun _ => True) (fun _ => True) w w (p8 (fun _ : Empty => Rs.none) (fun _ => undef) (s6 [])) := by
 refine (l7.start (ι := Empty ⊕ Nat) (w0 := w) (φ := fun _ => True) (ψ := fun _ => True) fun _ _ => trivial).map (fun k => some k) (fun k k' i a b => by cases a; cases b; rfl) fun k => ?_
 cases k with
 | inl e => exact e.elim
 | inr j => exact .inr rfl
theorem bu4 (w : World) : Agr (fun _ => True) (FrF (fun _ => True) (p8 (fun _ : Empty => Rs.none) (fun _ => undef) (s6 []))) w w := Agr.mono fun b _ _ => ⟨ci7, fun i => by
 cases i with
 | inl e => exact e.elim
 | inr j => exact fun h => h.elim⟩
abbrev u8s (c : List UInt8) : List Value := c.map fun b => Value.int .u8 (b.toNat : Int)
theorem bt6 {P : Program} {f : FuncId} {x : Value} {c : List UInt8} {post : List It} (hc : j9.ok P ⟨f, [.ref 0], [dY c], post, .v x⟩) (u : Value) (w : World) (hp : A2 w (fun _ => True) u c.length 1 (u8s c)) :
  Calls P f #[u] w fun e w' => e = .returned x ∧ Below w.heap.size w w' := by
 obtain ⟨ρ', g1, M2, g2⟩ := l7.dats [.sl (.bytes c)] [u] 0 (br2 w) ⟨RD.nice (.bytes c) _ _ _ _ _ (bu4 w) hp, ci7⟩ (fun _ _ => rfl) (fun _ _ _ => rfl)
 have e : n7 (s6 []) (W0 [.sl (.bytes c)] 0) = s6 [dY c] := by
  funext j
  match j with
  | 0 => rfl
  | j + 1 => simp [W0, n7, s6]
 rw [e] at M2
 simp only [xav, AV.vals, AV.val, List.cons.injEq, and_true] at g2
 subst g2
 refine (hc Empty _ _ w w _ ρ' M2).mono ?_
 rintro e w' ⟨ρ2, -, rfl, M3⟩
 exact ⟨rfl, M3.below fun _ _ => trivial⟩
end Go.Proofs.YthikdkjjdeehoaaGreat
