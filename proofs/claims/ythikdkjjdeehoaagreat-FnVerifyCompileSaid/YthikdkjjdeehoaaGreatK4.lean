/-
  Texts of this claim, part 4: what the functions on the way do, and plain laws. Conditions: as each statement says.
-/
import Derived.Test.YthikdkjjdeehoaaGreatK3
set_option maxRecDepth 100000
set_option maxHeartbeats 16000000
open Bool renaming and_eq_false_iff → cb4, and_eq_true → b85, and_eq_true_iff → cb6, not_eq_false' → ca0, not_eq_true' → b99, or_eq_true → cc4
open Inhabited renaming default → b81
open List renaming all_eq_true → b93, append_assoc → cc0, eq_nil_of_length_eq_zero → ca3, getD_eq_getElem?_getD → b90, getElem?_eq_getElem → b89, getElem?_eq_none → cb3, getElem?_eq_some_iff → b96, getElem?_replicate → cc5, getElem_mem → ca5, length_append → b83, length_cons → b84, length_nil → b86, length_replicate → b87, length_set → b97, map_cons → cc2, mem_append → ca1, mem_cons → cb7, mem_cons_of_mem → ca9, mem_cons_self → ca6, mem_of_getElem? → ca7, mem_range → cc6, mem_singleton → ca4, range → ca2, replicate → b82, take → b88, take_of_length_le → b98
open Nat renaming le_refl → b94, lt_or_ge → ca8, zero_add → cc3, zero_le → cb1
open True renaming intro → b91

namespace Go.Proofs.YthikdkjjdeehoaaGreat
set_option linter.unusedVariables false
set_option linter.unusedSimpArgs false
open Go Go.RowKit
abbrev lqC (l : List d9) (fr : List Int) (at0 : Int) (s : b5) (d : Int) : m7 := ⟨199, [.agg [.ref 0, .ref 1, iA at0], sA s 2, iA d], [rN l, rI fr] ++ sS s, [.dead, .dead] ++ sS s ++ [rN (N9 s d (l, fr, at0)).1, rI (N9 s d (l, fr, at0)).2.1], .agg [.ref 6, .ref 7, iA (N9 s d (l, fr, at0)).2.2]⟩
abbrev lrC (l : List d9) (fr : List Int) (at0 : Int) (ss : List b5) (d : Int) : m7 := ⟨146, [.agg [.ref 0, .ref 1, iA at0], .ref 2, iA d], [rN l, rI fr, dT ss], [.dead, .dead, dT ss, rN (l9 ss d (l, fr, at0)).1, rI (l9 ss d (l, fr, at0)).2.1], .agg [.ref 3, .ref 4, iA (l9 ss d (l, fr, at0)).2.2]⟩
mutual
theorem bV9 : ∀ (s : b5) (d : Int) (x : D3), x.2.2 ≤ (N9 s d x).2.2 ∧ (N9 s d x).2.2 ≤ x.2.2 + nS s
 | ⟨k, t, i, v, c, b, e⟩, d, x => by
  rw [N9, nS]
  split
  ·have h := al9 b (d + 1) (s9 (x.1, x.2.1, x.2.2 + 1) x.2.2 [⟨1, 9 + d, c, 0, 0⟩])
   simp only [s9] at h ⊢
   omega
  ·split
   ·simp only [s9]; omega
   ·split
    ·simp only [s9]; omega
    ·split
     ·simp only [s9]; omega
     ·simp only
      generalize hy : s9 (x.1, x.2.1, x.2.2 + 1) x.2.2 (b6 v 0) = y
      have hy1 : y.2.2 = x.2.2 + 1 := by rw [← hy]; rfl
      have h1 := al9 b (d + 1) (s9 y x.2.2 [⟨9, 0, 0, 0, 0⟩])
      generalize l9 b (d + 1) (s9 y x.2.2 [⟨9, 0, 0, 0, 0⟩]) = z at h1 ⊢
      have h2 := al9 e (d + 1) (ak3 (s9 z x.2.2 [⟨8, 0, 0, 0, 0⟩]).1 y.1.length ((s9 z x.2.2 [⟨8, 0, 0, 0, 0⟩]).1.length : Int), (s9 z x.2.2 [⟨8, 0, 0, 0, 0⟩]).2)
      simp only [s9] at h1 h2 ⊢
      omega
theorem al9 : ∀ (ss : List b5) (d : Int) (x : D3), x.2.2 ≤ (l9 ss d x).2.2 ∧ (l9 ss d x).2.2 ≤ x.2.2 + E9 ss
 | [], _, x => by simp [l9, E9]
 | s :: r, d, x => by
  have h1 := bV9 s d x
  have h2 := al9 r d (N9 s d x)
  rw [l9, E9]
  omega
end
section
variable {l : List d9} {fr : List Int} {at0 d : Int} {s : b5}
theorem cm1 (k : s.kind = 1) : N9 s d (l, fr, at0) = (l ++ b6 s.value 0 ++ [⟨3, s.target, 0, 0, 0⟩], fr ++ b82 (b6 s.value 0).length at0 ++ [at0], at0 + 1) := by
 obtain ⟨kd, tg, ix, vl, ct, bd, el⟩ := s
 have k : kd = 1 := k
 rw [N9]
 simp only [k, Int.reduceEq, if_true, if_false]
 rfl
theorem cm5 (k : s.kind = 5) : N9 s d (l, fr, at0) = (l ++ b6 s.value 0 ++ [⟨11, 0, 0, 0, 0⟩] ++ [⟨3, s.target, 0, 0, 0⟩], fr ++ b82 (b6 s.value 0).length at0 ++ [at0] ++ [at0], at0 + 1) := by
 obtain ⟨kd, tg, ix, vl, ct, bd, el⟩ := s
 have k : kd = 5 := k
 rw [N9]
 simp only [k, Int.reduceEq, if_true, if_false]
 rfl
theorem cm2 (k : s.kind = 2) : N9 s d (l, fr, at0) = (l ++ b6 s.value 0 ++ b6 s.index 1 ++ [⟨5, s.target, 1, 0, 0⟩], fr ++ b82 (b6 s.value 0).length at0 ++ b82 (b6 s.index 1).length at0 ++ [at0], at0 + 1) := by
 obtain ⟨kd, tg, ix, vl, ct, bd, el⟩ := s
 have k : kd = 2 := k
 rw [N9]
 simp only [k, Int.reduceEq, if_true, if_false]
 rfl
theorem cm4 (k : s.kind = 4) : N9 s d (l, fr, at0) = ((l9 s.body (d + 1) (l ++ [⟨1, 9 + d, s.count, 0, 0⟩], fr ++ [at0], at0 + 1)).1 ++ [⟨10, 9 + d, (((l ++ [(⟨1, 9 + d, s.count, 0, 0⟩ : d9)]).length : Nat) : Int), 0, 0⟩], (l9 s.body (d + 1) (l ++ [⟨1, 9 + d, s.count, 0, 0⟩], fr ++ [at0], at0 + 1)).2.1 ++ [at0], (l9 s.body (d + 1) (l ++ [⟨1, 9 + d, s.count, 0, 0⟩], fr ++ [at0], at0 + 1)).2.2) := by
 obtain ⟨kd, tg, ix, vl, ct, bd, el⟩ := s
 have k : kd = 4 := k
 rw [N9]
 simp only [k, if_true, b83, b84, b86]
 rfl
abbrev w3C (l : List d9) (fr : List Int) (at0 d : Int) (s : b5) : D3 := l9 s.body (d + 1) (l ++ b6 s.value 0 ++ [⟨9, 0, 0, 0, 0⟩], fr ++ b82 (b6 s.value 0).length at0 ++ [at0], at0 + 1)
abbrev w6C (l : List d9) (fr : List Int) (at0 d : Int) (s : b5) : D3 := l9 s.els (d + 1) (ak3 ((w3C l fr at0 d s).1 ++ [⟨8, 0, 0, 0, 0⟩]) (l ++ b6 s.value 0).length ((((w3C l fr at0 d s).1 ++ [(⟨8, 0, 0, 0, 0⟩ : d9)]).length : Nat) : Int), (w3C l fr at0 d s).2.1 ++ [at0], (w3C l fr at0 d s).2.2)
theorem cm3 (k : s.kind = 3) : N9 s d (l, fr, at0) = (aP6 (w6C l fr at0 d s).1 (w3C l fr at0 d s).1.length (((w6C l fr at0 d s).1.length : Nat) : Int), (w6C l fr at0 d s).2.1, (w6C l fr at0 d s).2.2) := by
 obtain ⟨kd, tg, ix, vl, ct, bd, el⟩ := s
 have k : kd = 3 := k
 rw [N9]
 simp only [k, Int.reduceEq, if_false, s9, b83, b84, b86, Nat.add_sub_cancel, cc3, List.replicate_one, w6C, w3C]
 rfl
theorem t3 (ss : List b5) (d : Int) (x : D3) : (l9 ss d x).1.length = x.1.length + A6 ss := (F5 ss d x).1
theorem bR4 (h : l.length + (4 + 4 * szS s) ≤ 5000000) : l.length + F0 s.value ≤ 5000000 ∧ (0 : Int) + F0 s.value ≤ 2000000 ∧ (l ++ b6 s.value 0).length + F0 s.index ≤ 5000000 ∧ (1 : Int) + F0 s.index ≤ 2000000 ∧ (l ++ b6 s.value 0 ++ b6 s.index 1).length + 4 ≤ 5000010 := by
 have h1 := Q6 s.value 0
 have h2 := Q6 s.index 1
 have h3 : szS s = F0 s.index + F0 s.value + p7 s.body + p7 s.els := by cases s; rfl
 simp only [b83]
 omega
end
abbrev R2 (s : b5) (l : List d9) (fr : List Int) (at0 : Int) (d : Int) := l9 s.els (d + 1) (((l9 s.body (d + 1) (l ++ b6 s.value 0 ++ [d9.mk 9 0 0 0 0], fr ++ b82 (b6 s.value 0).length at0 ++ [at0], at0 + 1)).fst ++ [d9.mk 8 0 0 0 0]).set (l ++ b6 s.value 0).length (d9.mk (((l9 s.body (d + 1) (l ++ b6 s.value 0 ++ [d9.mk 9 0 0 0 0], fr ++ b82 (b6 s.value 0).length at0 ++ [at0], at0 + 1)).fst ++ [d9.mk 8 0 0 0 0]).getD (l ++ b6 s.value 0).length b81).op (((l9 s.body (d + 1) (l ++ b6 s.value 0 ++ [d9.mk 9 0 0 0 0], fr ++ b82 (b6 s.value 0).length at0 ++ [at0], at0 + 1)).fst ++ [d9.mk 8 0 0 0 0]).getD (l ++ b6 s.value 0).length b81).a (((l9 s.body (d + 1) (l ++ b6 s.value 0 ++ [d9.mk 9 0 0 0 0], fr ++ b82 (b6 s.value 0).length at0 ++ [at0], at0 + 1)).fst ++ [d9.mk 8 0 0 0 0]).length : Int) (((l9 s.body (d + 1) (l ++ b6 s.value 0 ++ [d9.mk 9 0 0 0 0], fr ++ b82 (b6 s.value 0).length at0 ++ [at0], at0 + 1)).fst ++ [d9.mk 8 0 0 0 0]).getD (l ++ b6 s.value 0).length b81).c (((l9 s.body (d + 1) (l ++ b6 s.value 0 ++ [d9.mk 9 0 0 0 0], fr ++ b82 (b6 s.value 0).length at0 ++ [at0], at0 + 1)).fst ++ [d9.mk 8 0 0 0 0]).getD (l ++ b6 s.value 0).length b81).d), (l9 s.body (d + 1) (l ++ b6 s.value 0 ++ [d9.mk 9 0 0 0 0], fr ++ b82 (b6 s.value 0).length at0 ++ [at0], at0 + 1)).snd.fst ++ [at0], (l9 s.body (d + 1) (l ++ b6 s.value 0 ++ [d9.mk 9 0 0 0 0], fr ++ b82 (b6 s.value 0).length at0 ++ [at0], at0 + 1)).snd.snd)
abbrev D9 (s : b5) (l : List d9) (fr : List Int) (at0 : Int) (d : Int) := l9 s.body (d + 1) (l ++ b6 s.value 0 ++ [d9.mk 9 0 0 0 0], fr ++ b82 (b6 s.value 0).length at0 ++ [at0], at0 + 1)
abbrev ax4 (s : b5) (l : List d9) (fr : List Int) (at0 : Int) (d : Int) := l9 s.body (d + 1) (l ++ b6 s.value 0 ++ [d9.mk 1 (9 + d) s.count 0 0], fr ++ b82 (b6 s.value 0).length at0 ++ [at0], at0 + 1)
abbrev ai9 (s : b5) (l : List d9) (fr : List Int) (at0 : Int) (d : Int) := l9 s.body (d + 1) (l ++ [d9.mk 1 (9 + d) s.count 0 0], fr ++ [at0], at0 + 1)
abbrev V6 (s : b5) (l : List d9) (fr : List Int) (at0 : Int) (d : Int) : List It := [.dead, .dead, dE s.index.kids, dE s.value.kids, dT s.body, dT s.els, .row 86 (D.instrs (N9 s d (l, fr, at0)).fst), .row 3 (D.ints (N9 s d (l, fr, at0)).snd.fst)]
abbrev bw1 (s : b5) (l : List d9) (fr : List Int) (at0 : Int) (d : Int) : It := .row 86 (D.instrs ((R2 s l fr at0 d).fst.set (D9 s l fr at0 d).fst.length (d9.mk ((R2 s l fr at0 d).fst.getD (D9 s l fr at0 d).fst.length b81).op ((R2 s l fr at0 d).fst.length : Int) ((R2 s l fr at0 d).fst.getD (D9 s l fr at0 d).fst.length b81).b ((R2 s l fr at0 d).fst.getD (D9 s l fr at0 d).fst.length b81).c ((R2 s l fr at0 d).fst.getD (D9 s l fr at0 d).fst.length b81).d)))
abbrev O4 : It := .box [.v (.slice none 0 0), .v (.slice none 0 0), iA 0]
abbrev af3 (at0 : Int) : It := .box [.ref 9, .ref 10, iA (at0 + 1)]
abbrev aV0 (s : b5) (fr : List Int) (at0 : Int) : It := .row 3 (D.ints (fr ++ b82 (b6 s.value 0).length at0 ++ [at0]))
abbrev I4 (s : b5) (r0 : List It) : List It := .dead :: .dead :: dE s.index.kids :: dE s.value.kids :: dT s.body :: dT s.els :: r0
abbrev G7 (at0 : Int) (d : Int) (r0 : List (Nat × AV)) : List (Nat × AV) := (2, iA d) :: (3, .ptr 6 0) :: (4, .ptr 7 0) :: (6, .ptr 8 0) :: (7, iA at0) :: r0
theorem a36 (nv na dd : Nat) (s : b5) (hh : D5 nv na s = true) (hbb : s.body.all (i9 nv na dd) = true) (hbe : s.els.all (i9 nv na dd) = true)
    (ih : ∀ (tt : List b5) (l : List d9) (fr : List Int) (at0 d : Int), tt.all (i9 nv na dd) = true → l.length + 4 * p7 tt ≤ 5000000 → fr.length = l.length → 0 ≤ d → d + dd ≤ 100 → 0 ≤ at0 → at0 + E9 tt ≤ 5000000 → m7.ok Tryz.prog (lrC l fr at0 tt d))
    (l : List d9) (fr : List Int) (at0 d : Int) (r1 : l.length + (4 + 4 * szS s) ≤ 5000000) (r2 : fr.length = l.length) (r3 : 0 ≤ d) (r4 : d + (dd + 1) ≤ 100) (r5 : 0 ≤ at0) (r6 : at0 + nS s ≤ 5000000) : m7.ok Tryz.prog (lqC l fr at0 s d) := by
  refine H8 130 Tryz.func199 [.row 86 (D.instrs l), .row 3 (D.ints fr), dE s.index.kids, dE s.value.kids, dT s.body, dT s.els] [(0, .agg [.ref 0, .ref 1, iA at0]), (1, sA s 2), (2, iA d)] fun G => ?_; have hn := ak9 s; have hft := bR4 r1
  have hsz : szS s = F0 s.index + F0 s.value + p7 s.body + p7 s.els := by cases s; rfl
  have hv := Q6 s.value 0; refine wp_seq (m5 G i7 [0, 1, 2, 3, 4, 5, 6, 14, 22] [.row 86 (D.instrs l), .row 3 (D.ints fr), dE s.index.kids, dE s.value.kids, dT s.body, dT s.els, .box [.ref 0, .ref 1, iA at0], .box (sL s 2), O4] [(2, iA d), (3, .ptr 6 0), (4, .ptr 7 0), (6, .ptr 8 0)] fun G => b0 (wp_seq (l8 G i7 [(7, iA at0)] fun G => b0 (wp_seq (U0 G i7 (rg 9) [.row 86 (D.instrs l), .row 3 (D.ints fr), dE s.index.kids, dE s.value.kids, dT s.body, dT s.els, .box [.ref 0, .ref 1, iA (at0 + 1)], .box (sL s 2), O4] (G7 at0 d []) [wO (at0 + 1)] (o1 (by omega)) fun G => b0 (wp_seq (wp_seq (l8 G i7 [(20, bA (s.kind != 4))] fun G => b0 (rcN G (fun h0 q0 => ?_) fun h0 q0 => ?_)))))))))
  ·
   refine wp_skip (b0 (wp_seq (wp_seq (l8 G i7 [(27, iA s.kind)] fun G => b0 (wp_block (wp_seq (K8 G i7 (G7 at0 d [(27, iA s.kind), (28, bA (s.kind == 1))]) fun G => b0 ?_))))))); cases h1 : (s.kind == 1)
   ·
    have q1 := ne_of_beq_false h1; refine rF G _ h1 (wp_seq (K8 G i7 (G7 at0 d [(27, iA s.kind), (36, bA (s.kind == 5))]) fun G => b0 ?_)); cases h2 : (s.kind == 5)
    ·
     have q2 := ne_of_beq_false h2; refine rF G _ h2 (wp_seq (K8 G i7 (G7 at0 d [(27, iA s.kind), (48, bA (s.kind == 2))]) fun G => b0 ?_)); cases h3 : (s.kind == 2)
     ·
      have q3 := ne_of_beq_false h3; refine rF G _ h3 (wp_seq (K8 G i7 (G7 at0 d [(61, bA (s.kind == 3))]) fun G => b0 ?_)); cases h4 : (s.kind == 3)
      ·
       have q4 := ne_of_beq_false h4; refine rF G _ h4 (wp_skip (r7 (b0 (wp_seq (K7 G i7 [(10, iA (9 + d))] [wO ((9 : Int) + d)] (o1 (by omega)) fun G => b0 (wp_seq (m5 G (t5 6 [0, 1] (G4 l fr (at0 + 1) at0 1 (9 + d) s.count 0 0 (by have := hft.2.2.2.2; simp only [b83, b84, b86] at this ⊢; omega) (by simp only [b83, b87, b84, b86, r2]; have := hft.2.2.2.2; simp only [b83] at this; omega))) [0, 1, 2, 3, 4, 5, 6, 7, 8, 57, 58] (I4 s [af3 at0, .box (sL s 2), O4, .row 86 (D.instrs (l ++ [d9.mk 1 (9 + d) s.count 0 0])), .row 3 (D.ints (fr ++ [at0]))]) (G7 at0 d [(10, iA (9 + d))]) fun G => b0 (wp_seq (l8 G i7 [(11, iA ((l ++ [d9.mk 1 (9 + d) s.count 0 0]).length : Int))] fun G => b0 (wp_seq (U0 G (t5 5 [9, 10, 4] (ih s.body (l ++ [d9.mk 1 (9 + d) s.count 0 0]) (fr ++ [at0]) (at0 + 1) (d + 1) (by assumption) (by simp only [b83, b87, b84, b86, r2]; have := hft.2.2.2.2; simp only [b83] at this; omega) (by have := hft.2.2.2.2; simp only [b83, b84, b86] at this ⊢; omega) (by have := hft.2.2.2.2; simp only [b83, b84, b86] at this ⊢; omega) (by have := hft.2.2.2.2; simp only [b83, b84, b86] at this ⊢; omega) (by have := hft.2.2.2.2; simp only [b83, b84, b86] at this ⊢; omega) (by have := hft.2.2.2.2; simp only [b83, b84, b86] at this ⊢; omega))) [0, 1, 2, 3, 4, 5, 6, 8, 51, 52] (I4 s [.box [.ref 8, .ref 9, iA (ai9 s l fr at0 d).snd.snd], O4, .row 86 (D.instrs (ai9 s l fr at0 d).fst), .row 3 (D.ints (ai9 s l fr at0 d).snd.fst)]) [(3, .ptr 6 0), (6, .ptr 7 0), (7, iA at0), (10, iA (9 + d)), (11, iA ((l ++ [d9.mk 1 (9 + d) s.count 0 0]).length : Int))] [wO (d + 1)] (o1 (by omega)) fun G => b0 (wp_seq (m5 G (t5 5 [8, 9] (G4 ((l9 s.body (d + 1) (l ++ [d9.mk 1 (9 + d) s.count 0 0], fr ++ [at0], at0 + 1)).fst) ((l9 s.body (d + 1) (l ++ [d9.mk 1 (9 + d) s.count 0 0], fr ++ [at0], at0 + 1)).snd.fst) ((l9 s.body (d + 1) (l ++ [d9.mk 1 (9 + d) s.count 0 0], fr ++ [at0], at0 + 1)).snd.snd) at0 10 (9 + d) (((l ++ [d9.mk 1 (9 + d) s.count 0 0]).length : Int)) 0 0 (by have := (F5 s.body (d + 1) (l ++ [⟨1, 9 + d, s.count, 0, 0⟩], fr ++ [at0], at0 + 1)); have := O2 s.body; simp only [b83, b84, b86] at *; omega) (by have := (F5 s.body (d + 1) (l ++ [⟨1, 9 + d, s.count, 0, 0⟩], fr ++ [at0], at0 + 1)); have := O2 s.body; simp only [b83, b84, b86] at *; omega))) [0, 1, 2, 3, 4, 5, 7, 50, 51] (I4 s [.box [.ref 7, .ref 8, iA (ai9 s l fr at0 d).snd.snd], .row 86 (D.instrs ((ai9 s l fr at0 d).fst ++ [d9.mk 10 (9 + d) ((l ++ [d9.mk 1 (9 + d) s.count 0 0]).length : Int) 0 0])), .row 3 (D.ints ((ai9 s l fr at0 d).snd.fst ++ [at0]))]) [(6, .ptr 6 0)] fun G => ?_)))))))))))))
       refine b0 (wp_ret ?_); exact X8 (.agg [.ref 7, .ref 8, iA (l9 s.body (d + 1) (l ++ [d9.mk 1 (9 + d) s.count 0 0], fr ++ [at0], at0 + 1)).snd.snd]) G [0, 1, 2, 3, 4, 5, 7, 8] (by have e1 : ((N9 s d (l, fr, at0)).snd.snd : Int) = ((l9 s.body (d + 1) (l ++ [d9.mk 1 (9 + d) s.count 0 0], fr ++ [at0], at0 + 1)).snd.snd) := (by have h9 := congrArg (fun x : D3 => x.2.2) (cm4 (l := l) (fr := fr) (at0 := at0) (d := d) (s := s) (by omega)); exact h9); (first | rw [e1] | simp only [e1]) <;> rfl) (by show _ = mR [0, 1, 2, 3, 4, 5, 7, 8] (V6 s l fr at0 d); unfold V6; have e1 : ((N9 s d (l, fr, at0)).fst : List d9) = ((ai9 s l fr at0 d).fst ++ [d9.mk 10 (9 + d) ((l ++ [d9.mk 1 (9 + d) s.count 0 0]).length : Int) 0 0]) := (congrArg Prod.fst (cm4 (by omega))); have e2 : ((N9 s d (l, fr, at0)).snd.fst : List Int) = ((ai9 s l fr at0 d).snd.fst ++ [at0]) := (congrArg (fun x : D3 => x.2.1) (cm4 (by omega))); (first | rw [e1, e2] | simp only [e1, e2]) <;> rfl)
      · have q4 := eq_of_beq h4; exact False.elim (by omega)
     · have q3 := eq_of_beq h3; exact False.elim (by omega)
    · have q2 := eq_of_beq h2; exact False.elim (by omega)
   · have q1 := eq_of_beq h1; exact False.elim (by omega)
  ·
   refine m5 G (t5 4 [0, 1, 3] (a91 s.value l fr (at0 + 1) at0 0 (by simp [hh, hbb, hbe, h0]) (by have := hft.2.2.2.2; simp only [b83, b84, b86] at this ⊢; omega) (by have := hft.2.2.2.2; simp only [b83, b84, b86] at this ⊢; omega) (by assumption))) [0, 1, 2, 3, 4, 5, 6, 7, 8, 41, 42] (I4 s [af3 at0, .box (sL s 2), O4, .row 86 (D.instrs (l ++ b6 s.value 0)), .row 3 (D.ints (fr ++ b82 (b6 s.value 0).length at0))]) (G7 at0 d []) fun G => b0 (wp_seq (wp_seq (l8 G i7 [(27, iA s.kind)] fun G => b0 (wp_block (wp_seq (l8 G i7 [(28, bA (s.kind == 1))] fun G => b0 (T1 G (fun h5 q5 => ?_) fun h5 q5 => ?_)))))))
   ·
    refine wp_seq (l8 G i7 [(36, bA (s.kind == 5))] fun G => b0 (T1 G (fun h6 q6 => ?_) fun h6 q6 => ?_))
    ·
     refine wp_seq (l8 G i7 [(48, bA (s.kind == 2))] fun G => b0 (T1 G (fun h7 q7 => ?_) fun h7 q7 => ?_))
     ·
      refine wp_seq (l8 G i7 [(61, bA (s.kind == 3))] fun G => b0 (T1 G (fun h8 q8 => ?_) fun h8 q8 => ?_))
      ·
       refine wp_skip (r7 (b0 (wp_seq (K7 G i7 [(10, iA (9 + d))] [wO ((9 : Int) + d)] ⟨(by exact absurd (hh.symm.trans (V2 (by omega))) (by decide)), b91⟩ fun G => b0 (wp_seq (m5 G (t5 6 [9, 10] (G4 (l ++ b6 s.value 0) (fr ++ b82 (b6 s.value 0).length at0) (at0 + 1) at0 1 (9 + d) s.count 0 0 (by simp only [b83, b87, b84, b86, r2]; have := hft.2.2.2.2; simp only [b83] at this; omega) (by simp only [b83, b87, b84, b86, r2]; have := hft.2.2.2.2; simp only [b83] at this; omega))) [0, 1, 2, 3, 4, 5, 6, 7, 8, 59, 60] (I4 s [af3 at0, .box (sL s 2), O4, .row 86 (D.instrs (l ++ b6 s.value 0 ++ [d9.mk 1 (9 + d) s.count 0 0])), aV0 s fr at0]) (G7 at0 d [(10, iA (9 + d))]) fun G => b0 (wp_seq (l8 G i7 [(11, iA ((l ++ b6 s.value 0 ++ [d9.mk 1 (9 + d) s.count 0 0]).length : Int))] fun G => b0 (wp_seq (U0 G (t5 5 [9, 10, 4] (ih s.body (l ++ b6 s.value 0 ++ [d9.mk 1 (9 + d) s.count 0 0]) (fr ++ b82 (b6 s.value 0).length at0 ++ [at0]) (at0 + 1) (d + 1) (by assumption) (by simp only [b83, b87, b84, b86, r2]; have := hft.2.2.2.2; simp only [b83] at this; omega) (by exact absurd (hh.symm.trans (V2 (by omega))) (by decide)) (by have := hft.2.2.2.2; simp only [b83, b84, b86] at this ⊢; omega) (by have := hft.2.2.2.2; simp only [b83, b84, b86] at this ⊢; omega) (by have := hft.2.2.2.2; simp only [b83, b84, b86] at this ⊢; omega) (by have := hft.2.2.2.2; simp only [b83, b84, b86] at this ⊢; omega))) [0, 1, 2, 3, 4, 5, 6, 8, 51, 52] (I4 s [.box [.ref 8, .ref 9, iA (ax4 s l fr at0 d).snd.snd], O4, .row 86 (D.instrs (ax4 s l fr at0 d).fst), .row 3 (D.ints (ax4 s l fr at0 d).snd.fst)]) [(3, .ptr 6 0), (6, .ptr 7 0), (7, iA at0), (10, iA (9 + d)), (11, iA ((l ++ b6 s.value 0 ++ [d9.mk 1 (9 + d) s.count 0 0]).length : Int))] [wO (d + 1)] ⟨(by exact absurd (hh.symm.trans (V2 (by omega))) (by decide)), b91⟩ fun G => b0 (wp_seq (m5 G (t5 5 [8, 9] (G4 ((l9 s.body (d + 1) (l ++ b6 s.value 0 ++ [d9.mk 1 (9 + d) s.count 0 0], fr ++ b82 (b6 s.value 0).length at0 ++ [at0], at0 + 1)).fst) ((l9 s.body (d + 1) (l ++ b6 s.value 0 ++ [d9.mk 1 (9 + d) s.count 0 0], fr ++ b82 (b6 s.value 0).length at0 ++ [at0], at0 + 1)).snd.fst) ((l9 s.body (d + 1) (l ++ b6 s.value 0 ++ [d9.mk 1 (9 + d) s.count 0 0], fr ++ b82 (b6 s.value 0).length at0 ++ [at0], at0 + 1)).snd.snd) at0 10 (9 + d) (((l ++ b6 s.value 0 ++ [d9.mk 1 (9 + d) s.count 0 0]).length : Int)) 0 0 (by exact absurd (hh.symm.trans (V2 (by omega))) (by decide)) (by exact absurd (hh.symm.trans (V2 (by omega))) (by decide)))) [0, 1, 2, 3, 4, 5, 7, 50, 51] (I4 s [.box [.ref 7, .ref 8, iA (ax4 s l fr at0 d).snd.snd], .row 86 (D.instrs ((ax4 s l fr at0 d).fst ++ [d9.mk 10 (9 + d) ((l ++ b6 s.value 0 ++ [d9.mk 1 (9 + d) s.count 0 0]).length : Int) 0 0])), .row 3 (D.ints ((ax4 s l fr at0 d).snd.fst ++ [at0]))]) [(6, .ptr 6 0)] fun G => ?_))))))))))))
       refine b0 (wp_ret ?_); exact X8 (.agg [.ref 7, .ref 8, iA (l9 s.body (d + 1) (l ++ b6 s.value 0 ++ [d9.mk 1 (9 + d) s.count 0 0], fr ++ b82 (b6 s.value 0).length at0 ++ [at0], at0 + 1)).snd.snd]) G [0, 1, 2, 3, 4, 5, 7, 8] (by have e1 : ((N9 s d (l, fr, at0)).snd.snd : Int) = ((l9 s.body (d + 1) (l ++ b6 s.value 0 ++ [d9.mk 1 (9 + d) s.count 0 0], fr ++ b82 (b6 s.value 0).length at0 ++ [at0], at0 + 1)).snd.snd) := (by exact absurd (hh.symm.trans (V2 (by omega))) (by decide)); (first | rw [e1] | simp only [e1]) <;> rfl) (by show _ = mR [0, 1, 2, 3, 4, 5, 7, 8] (V6 s l fr at0 d); unfold V6; have e1 : ((N9 s d (l, fr, at0)).fst : List d9) = ((l9 s.body (d + 1) (l ++ b6 s.value 0 ++ [d9.mk 1 (9 + d) s.count 0 0], fr ++ b82 (b6 s.value 0).length at0 ++ [at0], at0 + 1)).fst ++ [d9.mk 10 (9 + d) ((l ++ b6 s.value 0 ++ [d9.mk 1 (9 + d) s.count 0 0]).length : Int) 0 0]) := (by exact absurd (hh.symm.trans (V2 (by omega))) (by decide)); have e2 : ((N9 s d (l, fr, at0)).snd.fst : List Int) = ((l9 s.body (d + 1) (l ++ b6 s.value 0 ++ [d9.mk 1 (9 + d) s.count 0 0], fr ++ b82 (b6 s.value 0).length at0 ++ [at0], at0 + 1)).snd.fst ++ [at0]) := (by exact absurd (hh.symm.trans (V2 (by omega))) (by decide)); (first | rw [e1, e2] | simp only [e1, e2]) <;> rfl)
      ·
       refine wp_seq (l8 G i7 [(8, iA ((l ++ b6 s.value 0).length : Int))] fun G => b0 (wp_seq (m5 G (t5 3 [9, 10] (G4 (l ++ b6 s.value 0) (fr ++ b82 (b6 s.value 0).length at0) (at0 + 1) at0 9 0 0 0 0 (by simp only [b83, b87, b84, b86, r2]; have := hft.2.2.2.2; simp only [b83] at this; omega) (by simp only [b83, b87, b84, b86, r2]; have := hft.2.2.2.2; simp only [b83] at this; omega))) [0, 1, 2, 3, 4, 5, 6, 7, 8, 35, 36] (I4 s [af3 at0, .box (sL s 2), O4, .row 86 (D.instrs (l ++ b6 s.value 0 ++ [d9.mk 9 0 0 0 0])), aV0 s fr at0]) (G7 at0 d [(8, iA ((l ++ b6 s.value 0).length : Int))]) fun G => b0 (wp_seq (U0 G (t5 5 [9, 10, 4] (ih s.body (l ++ b6 s.value 0 ++ [d9.mk 9 0 0 0 0]) (fr ++ b82 (b6 s.value 0).length at0 ++ [at0]) (at0 + 1) (d + 1) (by assumption) (by simp only [b83, b87, b84, b86, r2]; have := hft.2.2.2.2; simp only [b83] at this; omega) (by simp; omega) (by have := hft.2.2.2.2; simp only [b83, b84, b86] at this ⊢; omega) (by have := hft.2.2.2.2; simp only [b83, b84, b86] at this ⊢; omega) (by have := hft.2.2.2.2; simp only [b83, b84, b86] at this ⊢; omega) (by have := hft.2.2.2.2; simp only [b83, b84, b86] at this ⊢; omega))) [0, 1, 2, 3, 4, 5, 6, 7, 8, 51, 52] (I4 s [.box [.ref 9, .ref 10, iA (D9 s l fr at0 d).snd.snd], .box (sL s 2), O4, .row 86 (D.instrs (D9 s l fr at0 d).fst), .row 3 (D.ints (D9 s l fr at0 d).snd.fst)]) (G7 at0 d [(8, iA ((l ++ b6 s.value 0).length : Int))]) [wO (d + 1)] (o1 (by omega)) fun G => b0 (wp_seq (l8 G i7 [(9, iA ((D9 s l fr at0 d).fst.length : Int))] fun G => b0 (wp_seq (m5 G (t5 3 [9, 10] (G4 ((l9 s.body (d + 1) (l ++ b6 s.value 0 ++ [d9.mk 9 0 0 0 0], fr ++ b82 (b6 s.value 0).length at0 ++ [at0], at0 + 1)).fst) ((l9 s.body (d + 1) (l ++ b6 s.value 0 ++ [d9.mk 9 0 0 0 0], fr ++ b82 (b6 s.value 0).length at0 ++ [at0], at0 + 1)).snd.fst) ((l9 s.body (d + 1) (l ++ b6 s.value 0 ++ [d9.mk 9 0 0 0 0], fr ++ b82 (b6 s.value 0).length at0 ++ [at0], at0 + 1)).snd.snd) at0 8 0 0 0 0 (by have h9 := F5 s.body (d + 1) (l ++ b6 s.value 0 ++ [⟨9, 0, 0, 0, 0⟩], fr ++ b82 (b6 s.value 0).length at0 ++ [at0], at0 + 1); have h8 := O2 s.body; simp only [b83, b84, b86, b87, b97, r2] at h9 ⊢; omega) (by have h9 := F5 s.body (d + 1) (l ++ b6 s.value 0 ++ [⟨9, 0, 0, 0, 0⟩], fr ++ b82 (b6 s.value 0).length at0 ++ [at0], at0 + 1); have h8 := O2 s.body; simp only [b83, b84, b86, b87, b97, r2] at h9 ⊢; omega))) [0, 1, 2, 3, 4, 5, 6, 7, 8, 35, 36] (I4 s [.box [.ref 9, .ref 10, iA (D9 s l fr at0 d).snd.snd], .box (sL s 2), O4, .row 86 (D.instrs ((D9 s l fr at0 d).fst ++ [d9.mk 8 0 0 0 0])), .row 3 (D.ints ((D9 s l fr at0 d).snd.fst ++ [at0]))]) (G7 at0 d [(8, iA ((l ++ b6 s.value 0).length : Int)), (9, iA ((D9 s l fr at0 d).fst.length : Int))]) fun G => ?_)))))))))
       refine b0 (wp_seq (U0 G i7 (rg 11) (I4 s [.box [.ref 9, .ref 10, iA (D9 s l fr at0 d).snd.snd], .box (sL s 2), O4, .row 86 (D.instrs (((D9 s l fr at0 d).fst ++ [d9.mk 8 0 0 0 0]).set (l ++ b6 s.value 0).length (d9.mk (((D9 s l fr at0 d).fst ++ [d9.mk 8 0 0 0 0]).getD (l ++ b6 s.value 0).length b81).op (((D9 s l fr at0 d).fst ++ [d9.mk 8 0 0 0 0]).getD (l ++ b6 s.value 0).length b81).a (((D9 s l fr at0 d).fst ++ [d9.mk 8 0 0 0 0]).length : Int) (((D9 s l fr at0 d).fst ++ [d9.mk 8 0 0 0 0]).getD (l ++ b6 s.value 0).length b81).c (((D9 s l fr at0 d).fst ++ [d9.mk 8 0 0 0 0]).getD (l ++ b6 s.value 0).length b81).d))), .row 3 (D.ints ((D9 s l fr at0 d).snd.fst ++ [at0]))]) (G7 at0 d [(9, iA ((D9 s l fr at0 d).fst.length : Int))]) [(0 : Int) ≤ ((l ++ b6 s.value (0 : Int)).length : Int), ((l ++ b6 s.value (0 : Int)).length : Int) < (((l9 s.body (d + 1) (l ++ b6 s.value (0 : Int) ++ [d9.mk (9 : Int) (0 : Int) (0 : Int) (0 : Int) (0 : Int)], fr ++ b82 (b6 s.value (0 : Int)).length at0 ++ [at0], at0 + 1)).fst ++ [d9.mk (8 : Int) (0 : Int) (0 : Int) (0 : Int) (0 : Int)]).length : Int), (l ++ b6 s.value (0 : Int)).length < ((l9 s.body (d + 1) (l ++ b6 s.value (0 : Int) ++ [d9.mk (9 : Int) (0 : Int) (0 : Int) (0 : Int) (0 : Int)], fr ++ b82 (b6 s.value (0 : Int)).length at0 ++ [at0], at0 + 1)).fst ++ [d9.mk (8 : Int) (0 : Int) (0 : Int) (0 : Int) (0 : Int)]).length] ⟨(by simp only [b83, b87, b84, b86, r2]; have := hft.2.2.2.2; simp only [b83] at this; omega), (by simp only [t3, b97, b83, b84, b86]; omega), (by simp only [t3, b97, b83, b84, b86]; omega), b91⟩ fun G => b0 (wp_seq (U0 G (t5 5 [9, 10, 5] (ih s.els (((l9 s.body (d + 1) (l ++ b6 s.value 0 ++ [d9.mk 9 0 0 0 0], fr ++ b82 (b6 s.value 0).length at0 ++ [at0], at0 + 1)).fst ++ [d9.mk 8 0 0 0 0]).set (l ++ b6 s.value 0).length (d9.mk (((l9 s.body (d + 1) (l ++ b6 s.value 0 ++ [d9.mk 9 0 0 0 0], fr ++ b82 (b6 s.value 0).length at0 ++ [at0], at0 + 1)).fst ++ [d9.mk 8 0 0 0 0]).getD (l ++ b6 s.value 0).length b81).op (((l9 s.body (d + 1) (l ++ b6 s.value 0 ++ [d9.mk 9 0 0 0 0], fr ++ b82 (b6 s.value 0).length at0 ++ [at0], at0 + 1)).fst ++ [d9.mk 8 0 0 0 0]).getD (l ++ b6 s.value 0).length b81).a (((l9 s.body (d + 1) (l ++ b6 s.value 0 ++ [d9.mk 9 0 0 0 0], fr ++ b82 (b6 s.value 0).length at0 ++ [at0], at0 + 1)).fst ++ [d9.mk 8 0 0 0 0]).length : Int) (((l9 s.body (d + 1) (l ++ b6 s.value 0 ++ [d9.mk 9 0 0 0 0], fr ++ b82 (b6 s.value 0).length at0 ++ [at0], at0 + 1)).fst ++ [d9.mk 8 0 0 0 0]).getD (l ++ b6 s.value 0).length b81).c (((l9 s.body (d + 1) (l ++ b6 s.value 0 ++ [d9.mk 9 0 0 0 0], fr ++ b82 (b6 s.value 0).length at0 ++ [at0], at0 + 1)).fst ++ [d9.mk 8 0 0 0 0]).getD (l ++ b6 s.value 0).length b81).d)) ((l9 s.body (d + 1) (l ++ b6 s.value 0 ++ [d9.mk 9 0 0 0 0], fr ++ b82 (b6 s.value 0).length at0 ++ [at0], at0 + 1)).snd.fst ++ [at0]) ((l9 s.body (d + 1) (l ++ b6 s.value 0 ++ [d9.mk 9 0 0 0 0], fr ++ b82 (b6 s.value 0).length at0 ++ [at0], at0 + 1)).snd.snd) (d + 1) (by assumption) (by have h9 := F5 s.body (d + 1) (l ++ b6 s.value 0 ++ [⟨9, 0, 0, 0, 0⟩], fr ++ b82 (b6 s.value 0).length at0 ++ [at0], at0 + 1); have h8 := O2 s.body; simp only [b83, b84, b86, b87, b97, r2] at h9 ⊢; omega) (by have h9 := F5 s.body (d + 1) (l ++ b6 s.value 0 ++ [⟨9, 0, 0, 0, 0⟩], fr ++ b82 (b6 s.value 0).length at0 ++ [at0], at0 + 1); have h8 := O2 s.body; simp only [b83, b84, b86, b87, b97, r2] at h9 ⊢; omega) (by have := hft.2.2.2.2; simp only [b83, b84, b86] at this ⊢; omega) (by have := hft.2.2.2.2; simp only [b83, b84, b86] at this ⊢; omega) (by have h9 := al9 s.body (d + 1) (l ++ b6 s.value 0 ++ [⟨9, 0, 0, 0, 0⟩], fr ++ b82 (b6 s.value 0).length at0 ++ [at0], at0 + 1); simp only at h9; omega) (by have h9 := al9 s.body (d + 1) (l ++ b6 s.value 0 ++ [⟨9, 0, 0, 0, 0⟩], fr ++ b82 (b6 s.value 0).length at0 ++ [at0], at0 + 1); simp only at h9; omega))) [0, 1, 2, 3, 4, 5, 6, 7, 8, 51, 52] (I4 s [.box [.ref 9, .ref 10, iA (R2 s l fr at0 d).snd.snd], .box (sL s 2), O4, .row 86 (D.instrs (R2 s l fr at0 d).fst), .row 3 (D.ints (R2 s l fr at0 d).snd.fst)]) (G7 at0 d [(9, iA ((D9 s l fr at0 d).fst.length : Int))]) [wO (d + 1)] (o1 (by omega)) fun G => ?_))))
       refine b0 (wp_seq (U0 G i7 (rg 11) (I4 s [.box [.ref 9, .ref 10, iA (R2 s l fr at0 d).snd.snd], .box (sL s 2), O4, bw1 s l fr at0 d, .row 3 (D.ints (R2 s l fr at0 d).snd.fst)]) (G7 at0 d []) [(0 : Int) ≤ ((l9 s.body (d + 1) (l ++ b6 s.value (0 : Int) ++ [d9.mk (9 : Int) (0 : Int) (0 : Int) (0 : Int) (0 : Int)], fr ++ b82 (b6 s.value (0 : Int)).length at0 ++ [at0], at0 + 1)).fst.length : Int), ((l9 s.body (d + 1) (l ++ b6 s.value (0 : Int) ++ [d9.mk (9 : Int) (0 : Int) (0 : Int) (0 : Int) (0 : Int)], fr ++ b82 (b6 s.value (0 : Int)).length at0 ++ [at0], at0 + 1)).fst.length : Int) < ((l9 s.els (d + 1) (((l9 s.body (d + 1) (l ++ b6 s.value (0 : Int) ++ [d9.mk (9 : Int) (0 : Int) (0 : Int) (0 : Int) (0 : Int)], fr ++ b82 (b6 s.value (0 : Int)).length at0 ++ [at0], at0 + 1)).fst ++ [d9.mk (8 : Int) (0 : Int) (0 : Int) (0 : Int) (0 : Int)]).set (l ++ b6 s.value (0 : Int)).length (d9.mk (((l9 s.body (d + 1) (l ++ b6 s.value (0 : Int) ++ [d9.mk (9 : Int) (0 : Int) (0 : Int) (0 : Int) (0 : Int)], fr ++ b82 (b6 s.value (0 : Int)).length at0 ++ [at0], at0 + 1)).fst ++ [d9.mk (8 : Int) (0 : Int) (0 : Int) (0 : Int) (0 : Int)]).getD (l ++ b6 s.value (0 : Int)).length b81).op (((l9 s.body (d + 1) (l ++ b6 s.value (0 : Int) ++ [d9.mk (9 : Int) (0 : Int) (0 : Int) (0 : Int) (0 : Int)], fr ++ b82 (b6 s.value (0 : Int)).length at0 ++ [at0], at0 + 1)).fst ++ [d9.mk (8 : Int) (0 : Int) (0 : Int) (0 : Int) (0 : Int)]).getD (l ++ b6 s.value (0 : Int)).length b81).a (((l9 s.body (d + 1) (l ++ b6 s.value (0 : Int) ++ [d9.mk (9 : Int) (0 : Int) (0 : Int) (0 : Int) (0 : Int)], fr ++ b82 (b6 s.value (0 : Int)).length at0 ++ [at0], at0 + 1)).fst ++ [d9.mk (8 : Int) (0 : Int) (0 : Int) (0 : Int) (0 : Int)]).length : Int) (((l9 s.body (d + 1) (l ++ b6 s.value (0 : Int) ++ [d9.mk (9 : Int) (0 : Int) (0 : Int) (0 : Int) (0 : Int)], fr ++ b82 (b6 s.value (0 : Int)).length at0 ++ [at0], at0 + 1)).fst ++ [d9.mk (8 : Int) (0 : Int) (0 : Int) (0 : Int) (0 : Int)]).getD (l ++ b6 s.value (0 : Int)).length b81).c (((l9 s.body (d + 1) (l ++ b6 s.value (0 : Int) ++ [d9.mk (9 : Int) (0 : Int) (0 : Int) (0 : Int) (0 : Int)], fr ++ b82 (b6 s.value (0 : Int)).length at0 ++ [at0], at0 + 1)).fst ++ [d9.mk (8 : Int) (0 : Int) (0 : Int) (0 : Int) (0 : Int)]).getD (l ++ b6 s.value (0 : Int)).length b81).d), (l9 s.body (d + 1) (l ++ b6 s.value (0 : Int) ++ [d9.mk (9 : Int) (0 : Int) (0 : Int) (0 : Int) (0 : Int)], fr ++ b82 (b6 s.value (0 : Int)).length at0 ++ [at0], at0 + 1)).snd.fst ++ [at0], (l9 s.body (d + 1) (l ++ b6 s.value (0 : Int) ++ [d9.mk (9 : Int) (0 : Int) (0 : Int) (0 : Int) (0 : Int)], fr ++ b82 (b6 s.value (0 : Int)).length at0 ++ [at0], at0 + 1)).snd.snd)).fst.length : Int), (l9 s.body (d + 1) (l ++ b6 s.value (0 : Int) ++ [d9.mk (9 : Int) (0 : Int) (0 : Int) (0 : Int) (0 : Int)], fr ++ b82 (b6 s.value (0 : Int)).length at0 ++ [at0], at0 + 1)).fst.length < (l9 s.els (d + 1) (((l9 s.body (d + 1) (l ++ b6 s.value (0 : Int) ++ [d9.mk (9 : Int) (0 : Int) (0 : Int) (0 : Int) (0 : Int)], fr ++ b82 (b6 s.value (0 : Int)).length at0 ++ [at0], at0 + 1)).fst ++ [d9.mk (8 : Int) (0 : Int) (0 : Int) (0 : Int) (0 : Int)]).set (l ++ b6 s.value (0 : Int)).length (d9.mk (((l9 s.body (d + 1) (l ++ b6 s.value (0 : Int) ++ [d9.mk (9 : Int) (0 : Int) (0 : Int) (0 : Int) (0 : Int)], fr ++ b82 (b6 s.value (0 : Int)).length at0 ++ [at0], at0 + 1)).fst ++ [d9.mk (8 : Int) (0 : Int) (0 : Int) (0 : Int) (0 : Int)]).getD (l ++ b6 s.value (0 : Int)).length b81).op (((l9 s.body (d + 1) (l ++ b6 s.value (0 : Int) ++ [d9.mk (9 : Int) (0 : Int) (0 : Int) (0 : Int) (0 : Int)], fr ++ b82 (b6 s.value (0 : Int)).length at0 ++ [at0], at0 + 1)).fst ++ [d9.mk (8 : Int) (0 : Int) (0 : Int) (0 : Int) (0 : Int)]).getD (l ++ b6 s.value (0 : Int)).length b81).a (((l9 s.body (d + 1) (l ++ b6 s.value (0 : Int) ++ [d9.mk (9 : Int) (0 : Int) (0 : Int) (0 : Int) (0 : Int)], fr ++ b82 (b6 s.value (0 : Int)).length at0 ++ [at0], at0 + 1)).fst ++ [d9.mk (8 : Int) (0 : Int) (0 : Int) (0 : Int) (0 : Int)]).length : Int) (((l9 s.body (d + 1) (l ++ b6 s.value (0 : Int) ++ [d9.mk (9 : Int) (0 : Int) (0 : Int) (0 : Int) (0 : Int)], fr ++ b82 (b6 s.value (0 : Int)).length at0 ++ [at0], at0 + 1)).fst ++ [d9.mk (8 : Int) (0 : Int) (0 : Int) (0 : Int) (0 : Int)]).getD (l ++ b6 s.value (0 : Int)).length b81).c (((l9 s.body (d + 1) (l ++ b6 s.value (0 : Int) ++ [d9.mk (9 : Int) (0 : Int) (0 : Int) (0 : Int) (0 : Int)], fr ++ b82 (b6 s.value (0 : Int)).length at0 ++ [at0], at0 + 1)).fst ++ [d9.mk (8 : Int) (0 : Int) (0 : Int) (0 : Int) (0 : Int)]).getD (l ++ b6 s.value (0 : Int)).length b81).d), (l9 s.body (d + 1) (l ++ b6 s.value (0 : Int) ++ [d9.mk (9 : Int) (0 : Int) (0 : Int) (0 : Int) (0 : Int)], fr ++ b82 (b6 s.value (0 : Int)).length at0 ++ [at0], at0 + 1)).snd.fst ++ [at0], (l9 s.body (d + 1) (l ++ b6 s.value (0 : Int) ++ [d9.mk (9 : Int) (0 : Int) (0 : Int) (0 : Int) (0 : Int)], fr ++ b82 (b6 s.value (0 : Int)).length at0 ++ [at0], at0 + 1)).snd.snd)).fst.length] ⟨(by simp [hh, hbb, hbe, h0, h5, h6, h7, h8]), (by simp only [t3, b97, b83, b84, b86]; omega), (by simp only [t3, b97, b83, b84, b86]; omega), b91⟩ fun G => ?_))
       refine b0 (wp_seq (m5 G i7 (rg 11) (I4 s [.box [.ref 9, .ref 10, iA (R2 s l fr at0 d).snd.snd], .box (sL s 2), .box [.ref 9, .ref 10, iA (R2 s l fr at0 d).snd.snd], bw1 s l fr at0 d, .row 3 (D.ints (R2 s l fr at0 d).snd.fst)]) (G7 at0 d []) fun G => b0 (wp_ret (B7 (m8 ?_))))); exact X8 (.agg [.ref 9, .ref 10, iA (l9 s.els (d + 1) (((l9 s.body (d + 1) (l ++ b6 s.value 0 ++ [d9.mk 9 0 0 0 0], fr ++ b82 (b6 s.value 0).length at0 ++ [at0], at0 + 1)).fst ++ [d9.mk 8 0 0 0 0]).set (l ++ b6 s.value 0).length (d9.mk (((l9 s.body (d + 1) (l ++ b6 s.value 0 ++ [d9.mk 9 0 0 0 0], fr ++ b82 (b6 s.value 0).length at0 ++ [at0], at0 + 1)).fst ++ [d9.mk 8 0 0 0 0]).getD (l ++ b6 s.value 0).length b81).op (((l9 s.body (d + 1) (l ++ b6 s.value 0 ++ [d9.mk 9 0 0 0 0], fr ++ b82 (b6 s.value 0).length at0 ++ [at0], at0 + 1)).fst ++ [d9.mk 8 0 0 0 0]).getD (l ++ b6 s.value 0).length b81).a (((l9 s.body (d + 1) (l ++ b6 s.value 0 ++ [d9.mk 9 0 0 0 0], fr ++ b82 (b6 s.value 0).length at0 ++ [at0], at0 + 1)).fst ++ [d9.mk 8 0 0 0 0]).length : Int) (((l9 s.body (d + 1) (l ++ b6 s.value 0 ++ [d9.mk 9 0 0 0 0], fr ++ b82 (b6 s.value 0).length at0 ++ [at0], at0 + 1)).fst ++ [d9.mk 8 0 0 0 0]).getD (l ++ b6 s.value 0).length b81).c (((l9 s.body (d + 1) (l ++ b6 s.value 0 ++ [d9.mk 9 0 0 0 0], fr ++ b82 (b6 s.value 0).length at0 ++ [at0], at0 + 1)).fst ++ [d9.mk 8 0 0 0 0]).getD (l ++ b6 s.value 0).length b81).d), (l9 s.body (d + 1) (l ++ b6 s.value 0 ++ [d9.mk 9 0 0 0 0], fr ++ b82 (b6 s.value 0).length at0 ++ [at0], at0 + 1)).snd.fst ++ [at0], (l9 s.body (d + 1) (l ++ b6 s.value 0 ++ [d9.mk 9 0 0 0 0], fr ++ b82 (b6 s.value 0).length at0 ++ [at0], at0 + 1)).snd.snd)).snd.snd]) G [0, 1, 2, 3, 4, 5, 9, 10] (by have e1 : ((N9 s d (l, fr, at0)).snd.snd : Int) = ((l9 s.els (d + 1) (((l9 s.body (d + 1) (l ++ b6 s.value 0 ++ [d9.mk 9 0 0 0 0], fr ++ b82 (b6 s.value 0).length at0 ++ [at0], at0 + 1)).fst ++ [d9.mk 8 0 0 0 0]).set (l ++ b6 s.value 0).length (d9.mk (((l9 s.body (d + 1) (l ++ b6 s.value 0 ++ [d9.mk 9 0 0 0 0], fr ++ b82 (b6 s.value 0).length at0 ++ [at0], at0 + 1)).fst ++ [d9.mk 8 0 0 0 0]).getD (l ++ b6 s.value 0).length b81).op (((l9 s.body (d + 1) (l ++ b6 s.value 0 ++ [d9.mk 9 0 0 0 0], fr ++ b82 (b6 s.value 0).length at0 ++ [at0], at0 + 1)).fst ++ [d9.mk 8 0 0 0 0]).getD (l ++ b6 s.value 0).length b81).a (((l9 s.body (d + 1) (l ++ b6 s.value 0 ++ [d9.mk 9 0 0 0 0], fr ++ b82 (b6 s.value 0).length at0 ++ [at0], at0 + 1)).fst ++ [d9.mk 8 0 0 0 0]).length : Int) (((l9 s.body (d + 1) (l ++ b6 s.value 0 ++ [d9.mk 9 0 0 0 0], fr ++ b82 (b6 s.value 0).length at0 ++ [at0], at0 + 1)).fst ++ [d9.mk 8 0 0 0 0]).getD (l ++ b6 s.value 0).length b81).c (((l9 s.body (d + 1) (l ++ b6 s.value 0 ++ [d9.mk 9 0 0 0 0], fr ++ b82 (b6 s.value 0).length at0 ++ [at0], at0 + 1)).fst ++ [d9.mk 8 0 0 0 0]).getD (l ++ b6 s.value 0).length b81).d), (l9 s.body (d + 1) (l ++ b6 s.value 0 ++ [d9.mk 9 0 0 0 0], fr ++ b82 (b6 s.value 0).length at0 ++ [at0], at0 + 1)).snd.fst ++ [at0], (l9 s.body (d + 1) (l ++ b6 s.value 0 ++ [d9.mk 9 0 0 0 0], fr ++ b82 (b6 s.value 0).length at0 ++ [at0], at0 + 1)).snd.snd)).snd.snd) := (by have h9 := congrArg (fun x : D3 => x.2.2) (cm3 (l := l) (fr := fr) (at0 := at0) (d := d) (s := s) (by omega)); exact h9); (first | rw [e1] | simp only [e1]) <;> rfl) (by show _ = mR [0, 1, 2, 3, 4, 5, 9, 10] (V6 s l fr at0 d); unfold V6; have h9 := cm3 (l := l) (fr := fr) (at0 := at0) (d := d) (s := s) (by omega); rw [h9] <;> rfl)
     · refine wp_seq (m5 G (t5 4 [9, 10, 2] (a91 s.index (l ++ b6 s.value 0) (fr ++ b82 (b6 s.value 0).length at0) (at0 + 1) at0 1 (by simp [hh, hbb, hbe, h0, h5, h6, h7]) (by have := hft.2.2.2.2; simp only [b83, b84, b86] at this ⊢; omega) (by simp only [b83, b87, b84, b86, r2]; have := hft.2.2.2.2; simp only [b83] at this; omega) (by simp only [b83, b87, r2]; done))) [0, 1, 2, 3, 4, 5, 6, 7, 8, 43, 44] (I4 s [af3 at0, .box (sL s 2), O4, .row 86 (D.instrs (l ++ b6 s.value 0 ++ b6 s.index 1)), .row 3 (D.ints (fr ++ b82 (b6 s.value 0).length at0 ++ b82 (b6 s.index 1).length at0))]) (G7 at0 d []) fun G => b0 (wp_seq (m5 G (t5 5 [9, 10] (G4 (l ++ b6 s.value 0 ++ b6 s.index 1) (fr ++ b82 (b6 s.value 0).length at0 ++ b82 (b6 s.index 1).length at0) (at0 + 1) at0 5 s.target 1 0 0 (by simp only [b83, b87, b84, b86, r2]; have := hft.2.2.2.2; simp only [b83] at this; omega) (by simp only [b83, b87, b84, b86, r2]; have := hft.2.2.2.2; simp only [b83] at this; omega))) [0, 1, 2, 3, 4, 5, 6, 7, 8, 9, 10, 51, 52] (I4 s [af3 at0, .box (sL s 2), .box [.ref 11, .ref 12, iA (at0 + 1)], .dead, .dead, .row 86 (D.instrs (l ++ b6 s.value 0 ++ b6 s.index 1 ++ [d9.mk 5 s.target 1 0 0])), .row 3 (D.ints (fr ++ b82 (b6 s.value 0).length at0 ++ b82 (b6 s.index 1).length at0 ++ [at0]))]) (G7 at0 d []) fun G => b0 (wp_ret (B7 (m8 ?_)))))); exact X8 (.agg [.ref 11, .ref 12, iA (at0 + 1)]) G [0, 1, 2, 3, 4, 5, 11, 12] (by have e1 : ((N9 s d (l, fr, at0)).snd.snd : Int) = (at0 + 1) := (congrArg (fun x : D3 => x.2.2) (cm2 (by omega))); (first | rw [e1] | simp only [e1]) <;> rfl) (by show _ = mR [0, 1, 2, 3, 4, 5, 11, 12] (V6 s l fr at0 d); unfold V6; have e1 : ((N9 s d (l, fr, at0)).fst : List d9) = (l ++ b6 s.value 0 ++ b6 s.index 1 ++ [d9.mk 5 s.target 1 0 0]) := (congrArg Prod.fst (cm2 (by omega))); have e2 : ((N9 s d (l, fr, at0)).snd.fst : List Int) = (fr ++ b82 (b6 s.value 0).length at0 ++ b82 (b6 s.index 1).length at0 ++ [at0]) := (congrArg (fun x : D3 => x.2.1) (cm2 (by omega))); (first | rw [e1, e2] | simp only [e1, e2]) <;> rfl)
    · refine wp_seq (m5 G (t5 3 [9, 10] (G4 (l ++ b6 s.value 0) (fr ++ b82 (b6 s.value 0).length at0) (at0 + 1) at0 11 0 0 0 0 (by simp only [b83, b87, b84, b86, r2]; have := hft.2.2.2.2; simp only [b83] at this; omega) (by simp only [b83, b87, b84, b86, r2]; have := hft.2.2.2.2; simp only [b83] at this; omega))) [0, 1, 2, 3, 4, 5, 6, 7, 8, 35, 36] (I4 s [af3 at0, .box (sL s 2), O4, .row 86 (D.instrs (l ++ b6 s.value 0 ++ [d9.mk 11 0 0 0 0])), aV0 s fr at0]) (G7 at0 d []) fun G => b0 (wp_seq (m5 G (t5 5 [9, 10] (G4 (l ++ b6 s.value 0 ++ [d9.mk 11 0 0 0 0]) (fr ++ b82 (b6 s.value 0).length at0 ++ [at0]) (at0 + 1) at0 3 s.target 0 0 0 (by simp only [b83, b87, b84, b86, r2]; have := hft.2.2.2.2; simp only [b83] at this; omega) (by simp only [b83, b87, b84, b86, r2]; have := hft.2.2.2.2; simp only [b83] at this; omega))) [0, 1, 2, 3, 4, 5, 6, 7, 8, 9, 10, 51, 52] (I4 s [af3 at0, .box (sL s 2), .box [.ref 11, .ref 12, iA (at0 + 1)], .dead, .dead, .row 86 (D.instrs (l ++ b6 s.value 0 ++ [d9.mk 11 0 0 0 0] ++ [d9.mk 3 s.target 0 0 0])), .row 3 (D.ints (fr ++ b82 (b6 s.value 0).length at0 ++ [at0] ++ [at0]))]) (G7 at0 d []) fun G => b0 (wp_ret (B7 (m8 ?_)))))); exact X8 (.agg [.ref 11, .ref 12, iA (at0 + 1)]) G [0, 1, 2, 3, 4, 5, 11, 12] (by have e1 : ((N9 s d (l, fr, at0)).snd.snd : Int) = (at0 + 1) := (congrArg (fun x : D3 => x.2.2) (cm5 (by omega))); (first | rw [e1] | simp only [e1]) <;> rfl) (by show _ = mR [0, 1, 2, 3, 4, 5, 11, 12] (V6 s l fr at0 d); unfold V6; have e1 : ((N9 s d (l, fr, at0)).fst : List d9) = (l ++ b6 s.value 0 ++ [d9.mk 11 0 0 0 0] ++ [d9.mk 3 s.target 0 0 0]) := (congrArg Prod.fst (cm5 (by omega))); have e2 : ((N9 s d (l, fr, at0)).snd.fst : List Int) = (fr ++ b82 (b6 s.value 0).length at0 ++ [at0] ++ [at0]) := (congrArg (fun x : D3 => x.2.1) (cm5 (by omega))); (first | rw [e1, e2] | simp only [e1, e2]) <;> rfl)
   · refine wp_seq (m5 G (t5 5 [9, 10] (G4 (l ++ b6 s.value 0) (fr ++ b82 (b6 s.value 0).length at0) (at0 + 1) at0 3 s.target 0 0 0 (by simp only [b83, b87, b84, b86, r2]; have := hft.2.2.2.2; simp only [b83] at this; omega) (by simp only [b83, b87, b84, b86, r2]; have := hft.2.2.2.2; simp only [b83] at this; omega))) [0, 1, 2, 3, 4, 5, 6, 7, 8, 9, 10, 51, 52] (I4 s [af3 at0, .box (sL s 2), .box [.ref 11, .ref 12, iA (at0 + 1)], .dead, .dead, .row 86 (D.instrs (l ++ b6 s.value 0 ++ [d9.mk 3 s.target 0 0 0])), aV0 s fr at0]) (G7 at0 d []) fun G => b0 (wp_ret (B7 (m8 ?_)))); exact X8 (.agg [.ref 11, .ref 12, iA (at0 + 1)]) G [0, 1, 2, 3, 4, 5, 11, 12] (by have e1 : ((N9 s d (l, fr, at0)).snd.snd : Int) = (at0 + 1) := (congrArg (fun x : D3 => x.2.2) (cm1 (by omega))); (first | rw [e1] | simp only [e1]) <;> rfl) (by show _ = mR [0, 1, 2, 3, 4, 5, 11, 12] (V6 s l fr at0 d); unfold V6; have e1 : ((N9 s d (l, fr, at0)).fst : List d9) = (l ++ b6 s.value 0 ++ [d9.mk 3 s.target 0 0 0]) := (congrArg Prod.fst (cm1 (by omega))); have e2 : ((N9 s d (l, fr, at0)).snd.fst : List Int) = (fr ++ b82 (b6 s.value 0).length at0 ++ [at0]) := (congrArg (fun x : D3 => x.2.1) (cm1 (by omega))); (first | rw [e1, e2] | simp only [e1, e2]) <;> rfl)
section
variable {ss : List b5} {k : Nat} {d : Int} {l : List d9} {fr : List Int} {at0 : Int}
theorem bq6 (hk : k < ss.length) : p7 (ss.take k) + (1 + szS (ss.getD k b81)) ≤ p7 ss := by
 have h1 := aB4 (ss.take (k + 1)) (ss.drop (k + 1))
 rw [List.take_append_drop, n9 _ _ hk, aB4, ← p6 (d := b81) hk] at h1
 simp only [p7] at h1
 omega
theorem bB5 (hk : k < ss.length) : E9 (ss.take k) + nS (ss.getD k b81) ≤ E9 ss := by
 have h1 := ag2 (ss.take (k + 1)) (ss.drop (k + 1))
 rw [List.take_append_drop, n9 _ _ hk, ag2, ← p6 (d := b81) hk] at h1
 simp only [E9] at h1
 omega
theorem a04 (r1 : l.length + 4 * p7 ss ≤ 5000000) (hk : k < ss.length) : (l9 (ss.take k) d (l, fr, at0)).1.length + (4 + 4 * szS (ss.getD k b81)) ≤ 5000000 := by
 have h1 := bq6 hk
 have h2 := O2 (ss.take k)
 rw [t3]
 simp only
 omega
theorem bF9 (r2 : fr.length = l.length) : (l9 (ss.take k) d (l, fr, at0)).2.1.length = (l9 (ss.take k) d (l, fr, at0)).1.length := by
 have h := F5 (ss.take k) d (l, fr, at0)
 simp only at h
 omega
theorem bh3 (r5 : 0 ≤ at0) : 0 ≤ (l9 (ss.take k) d (l, fr, at0)).2.2 := by
 have h := al9 (ss.take k) d (l, fr, at0)
 simp only at h
 omega
theorem bh2 (r6 : at0 + E9 ss ≤ 5000000) (hk : k < ss.length) : (l9 (ss.take k) d (l, fr, at0)).2.2 + nS (ss.getD k b81) ≤ 5000000 := by
 have h := al9 (ss.take k) d (l, fr, at0)
 have h1 := bB5 hk
 simp only at h
 omega
theorem b25 (hk : k < ss.length) : (l9 (ss.take (k + 1)) d (l, fr, at0)).1 = (N9 (ss.getD k b81) d (l9 (ss.take k) d (l, fr, at0))).1 := by rw [V3 hk]
theorem b24 (hk : k < ss.length) : (l9 (ss.take (k + 1)) d (l, fr, at0)).2.1 = (N9 (ss.getD k b81) d (l9 (ss.take k) d (l, fr, at0))).2.1 := by rw [V3 hk]
theorem b23 (hk : k < ss.length) : (l9 (ss.take (k + 1)) d (l, fr, at0)).2.2 = (N9 (ss.getD k b81) d (l9 (ss.take k) d (l, fr, at0))).2.2 := by rw [V3 hk]
theorem a05 (hk : ss.length ≤ k) (x : D3) : l9 ss d x = l9 (ss.take k) d x := by rw [b98 hk]
end
theorem aS7 (ss : List b5) (B : Int) (ih : ∀ (s : b5), s ∈ ss → ∀ (l : List d9) (fr : List Int) (at0 d : Int), l.length + (4 + 4 * szS s) ≤ 5000000 → fr.length = l.length → 0 ≤ d → d ≤ B → 0 ≤ at0 → at0 + nS s ≤ 5000000 → m7.ok Tryz.prog (lqC l fr at0 s d))
  (l : List d9) (fr : List Int) (at0 d : Int) (r1 : l.length + 4 * p7 ss ≤ 5000000) (r2 : fr.length = l.length) (r3 : 0 ≤ d) (r4 : d ≤ B) (r5 : 0 ≤ at0) (r6 : at0 + E9 ss ≤ 5000000) : m7.ok Tryz.prog (lrC l fr at0 ss d) := by
 refine H8 22 Tryz.func146 [.row 86 (D.instrs l), .row 3 (D.ints fr), dT ss] [(0, .agg [.ref 0, .ref 1, iA at0]), (1, .ref 2), (2, iA d)] fun G => ?_; have hl := Z1 ss; refine wp_seq (m5 G i7 [0, 1, 2, 3, 11] [.row 86 (D.instrs l), .row 3 (D.ints fr), dT ss, .box [.ref 0, .ref 1, iA at0], .box [.v (.slice none 0 0), .v (.slice none 0 0), iA 0]] [(1, .ref 2), (2, iA d), (3, .ptr 3 0), (6, .ptr 4 0)] fun G => b0 (wp_seq (wp_seq (K8 G i7 [(1, .ref 2), (2, iA d), (3, .ptr 3 0), (6, .ptr 4 0), (7, iA 0)] fun G => b0 (wp_block ?_))))); obtain ⟨ρ, G⟩ := G.shift 0 5 [.dead, .row 3 (D.ints fr), dT ss, .box [.ref 5, .ref 1, iA at0], .box [.v (.slice none 0 0), .v (.slice none 0 0), iA 0], .row 86 (D.instrs l)] [(1, .ref 2), (2, iA d), (3, .ptr 3 0), (6, .ptr 4 0), (7, iA 0)]; obtain ⟨ρ, G⟩ := G.shift 1 6 [.dead, .dead, dT ss, .box [.ref 5, .ref 6, iA at0], .box [.v (.slice none 0 0), .v (.slice none 0 0), iA 0], .row 86 (D.instrs l), .row 3 (D.ints fr)] [(1, .ref 2), (2, iA d), (3, .ptr 3 0), (6, .ptr 4 0), (7, iA 0)]; refine y9 (κ := Nat) (fun k => k ≤ ss.length) (fun k => ss.length - k) (fun k => [.dead, .dead, dT ss, .box [.ref 5, .ref 6, iA (l9 (ss.take k) d (l, fr, at0)).2.2], .box [.v (.slice none 0 0), .v (.slice none 0 0), iA 0], .row 86 (.instrs (l9 (ss.take k) d (l, fr, at0)).1), .row 3 (.ints (l9 (ss.take k) d (l, fr, at0)).2.1)]) (fun k => [(1, .ref 2), (2, iA d), (3, .ptr 3 0), (6, .ptr 4 0), (7, iA k)]) 0 (by omega) (x8.at G _ _) ?_; clear G; intro k ρ a w hp G; replace G := x8.at G [.dead, .dead, dT ss, .box [.ref 5, .ref 6, iA (l9 (b88 k ss) d (l, fr, at0)).snd.snd], .box [.v (.slice none 0 0), .v (.slice none 0 0), iA 0], .row 86 (D.instrs (l9 (b88 k ss) d (l, fr, at0)).fst), .row 3 (D.ints (l9 (b88 k ss) d (l, fr, at0)).snd.fst)] [(1, .ref 2), (2, iA d), (3, .ptr 3 0), (6, .ptr 4 0), (7, iA k)]; refine wp_seq (wp_seq (l8 G i7 [(11, bA (decide ((k : Int) < ss.length)))] fun G => b0 (rcD G (fun h0 q0 => ?_) fun h0 q0 => ?_)))
 ·refine wp_exit (y7 (y7 (y6 (b0 (wp_seq (m5 G i7 [0, 1, 2, 4, 5, 6] [.dead, .dead, dT ss, .box [.ref 4, .ref 5, iA (l9 (b88 k ss) d (l, fr, at0)).snd.snd], .row 86 (D.instrs (l9 (b88 k ss) d (l, fr, at0)).fst), .row 3 (D.ints (l9 (b88 k ss) d (l, fr, at0)).snd.fst)] [(6, .ptr 3 0)] fun G => b0 (wp_ret ?_))))))); exact X8 (.agg [.ref 4, .ref 5, iA (l9 (b88 k ss) d (l, fr, at0)).snd.snd]) G [0, 1, 2, 4, 5] (by have e1 : ((l9 ss d (l, fr, at0)).snd.snd : Int) = ((l9 (b88 k ss) d (l, fr, at0)).snd.snd) := (congrArg (fun x : D3 => x.2.2) (a05 (by omega) _)); (first | rw [e1] | simp only [e1]) <;> rfl) (by show _ = mR [0, 1, 2, 4, 5] [.dead, .dead, dT ss, .row 86 (D.instrs (l9 ss d (l, fr, at0)).fst), .row 3 (D.ints (l9 ss d (l, fr, at0)).snd.fst)]; have e1 : ((l9 ss d (l, fr, at0)).fst : List d9) = ((l9 (b88 k ss) d (l, fr, at0)).fst) := (congrArg Prod.fst (a05 (by omega) _)); have e2 : ((l9 ss d (l, fr, at0)).snd.fst : List Int) = ((l9 (b88 k ss) d (l, fr, at0)).snd.fst) := (congrArg (fun x : D3 => x.2.1) (a05 (by omega) _)); (first | rw [e1, e2] | simp only [e1, e2]) <;> rfl)
 ·refine wp_skip (b0 (wp_seq (wp_block (R5 G (t5 6 [5, 6, 39, 40, 41, 42] (ih (ss.getD k b81) (ae4 (by omega)) ((l9 (b88 k ss) d (l, fr, at0)).fst) ((l9 (b88 k ss) d (l, fr, at0)).snd.fst) ((l9 (b88 k ss) d (l, fr, at0)).snd.snd) d (a04 r1 (by omega)) (bF9 r2) (by assumption) (by assumption) (bh3 r5) (bh2 r6 (by omega)))) [0, 0, 0, 6, 14, 0, 63, 127] [0, 1, 2, 3, 4, 55, 56] [.dead, .dead, dT ss, .box [.ref 5, .ref 6, iA (N9 (ss.getD k b81) d (l9 (b88 k ss) d (l, fr, at0))).snd.snd], .box [.v (.slice none 0 0), .v (.slice none 0 0), iA 0], .row 86 (D.instrs (N9 (ss.getD k b81) d (l9 (b88 k ss) d (l, fr, at0))).fst), .row 3 (D.ints (N9 (ss.getD k b81) d (l9 (b88 k ss) d (l, fr, at0))).snd.fst)] [(1, .ref 2), (2, iA d), (3, .ptr 3 0), (6, .ptr 4 0), (7, iA k)] (iX k k ss.length []) (iK (by omega) b91) fun G => r7 (b0 (K7 G i7 [(7, iA ((k : Int) + 1))] [wO ((k : Int) + 1)] (o1 (by omega)) fun G => b0 ?_)))))); exact rxn G (k + 1) (by omega) (by omega) (rg 7) (by have e1 : ((l9 (b88 (k + 1) ss) d (l, fr, at0)).snd.snd : Int) = ((N9 (ss.getD k b81) d (l9 (b88 k ss) d (l, fr, at0))).snd.snd) := (b23 (by omega)); have e2 : ((l9 (b88 (k + 1) ss) d (l, fr, at0)).fst : List d9) = ((N9 (ss.getD k b81) d (l9 (b88 k ss) d (l, fr, at0))).fst) := (b25 (by omega)); have e3 : ((l9 (b88 (k + 1) ss) d (l, fr, at0)).snd.fst : List Int) = ((N9 (ss.getD k b81) d (l9 (b88 k ss) d (l, fr, at0))).snd.fst) := (b24 (by omega)); (first | rw [e1, e2, e3] | simp only [e1, e2, e3]) <;> rfl)
theorem bC4 (nv na : Nat) : ∀ (dd : Nat) (ss : List b5) (l : List d9) (fr : List Int) (at0 d : Int), ss.all (i9 nv na dd) = true → l.length + 4 * p7 ss ≤ 5000000 → fr.length = l.length → 0 ≤ d → d + dd ≤ 100 → 0 ≤ at0 → at0 + E9 ss ≤ 5000000 → m7.ok Tryz.prog (lrC l fr at0 ss d) := by
 intro dd
 induction dd with
 | zero =>
  intro ss l fr at0 d hs r1 r2 r3 r4 r5 r6
  have h0 : ss = [] := by
   cases ss with
   | nil => rfl
   | cons a r => simp [i9] at hs
  subst h0
  exact aS7 [] 100 (fun s hs => by cases hs) l fr at0 d r1 r2 r3 (by omega) r5 r6
 | succ dd ih =>
  intro ss l fr at0 d hs r1 r2 r3 r4 r5 r6
  refine aS7 ss (100 - (dd + 1)) (fun s hm l fr at0 d q1 q2 q3 q4 q5 q6 => ?_) l fr at0 d r1 r2 r3 (by omega) r5 r6
  have h := b93.1 hs s hm
  rw [O5, b85, b85] at h
  exact a36 nv na dd s h.1 h.2.1 h.2.2 (fun tt l fr at0 d h1 h2 h3 h4 h5 h6 h7 => ih tt l fr at0 d h1 h2 h3 h4 h5 h6 h7) l fr at0 d q1 q2 q3 (by omega) q5 q6
abbrev aU9 : It := .box [.v (.slice none 0 0), .v (.slice none 0 0), iA 0]
theorem bd1 (ss : List b5) (B : Int) (ih : ∀ (s : b5), s ∈ ss → ∀ (l : List d9) (fr : List Int) (at0 d : Int), l.length + (4 + 4 * szS s) ≤ 5000000 → fr.length = l.length → 0 ≤ d → d ≤ B → 0 ≤ at0 → at0 + nS s ≤ 5000000 → m7.ok Tryz.prog (lqC l fr at0 s d))
  (d : Int) (r1 : ([] : List d9).length + 4 * p7 ss ≤ 5000000) (r3 : 0 ≤ d) (r4 : d ≤ B) (r6 : (0 : Int) + E9 ss ≤ 5000000) : m7.ok Tryz.prog ⟨146, [.agg [.v (.slice none 0 0), .v (.slice none 0 0), iA 0], .ref 0, iA d], [dT ss], [dT ss, rN (l9 ss d ([], [], 0)).1, rI (l9 ss d ([], [], 0)).2.1], .agg [.ref 1, .ref 2, iA (l9 ss d ([], [], 0)).2.2]⟩ := by
 refine H8 22 Tryz.func146 [dT ss] [(0, .agg [.v (.slice none 0 0), .v (.slice none 0 0), iA 0]), (1, .ref 0), (2, iA d)] fun G => ?_; have hl := Z1 ss; refine wp_seq (m5 G i7 [0, 1, 9] [dT ss, aU9, aU9] [(1, .ref 0), (2, iA d), (3, .ptr 1 0), (6, .ptr 2 0)] fun G => b0 (wp_seq (wp_seq (K8 G i7 [(1, .ref 0), (2, iA d), (3, .ptr 1 0), (6, .ptr 2 0), (7, iA 0)] fun G => b0 (wp_block ?_))))); obtain ⟨ρ, G⟩ := G.nil 3 86 (.instrs []) 5 [dT ss, .box [.ref 3, .v (.slice none 0 0), iA 0], .box [.v (.slice none 0 0), .v (.slice none 0 0), iA 0]] [(1, .ref 0), (2, iA d), (3, .ptr 1 0), (6, .ptr 2 0), (7, iA 0)]; obtain ⟨ρ, G⟩ := G.nil 4 3 (.ints []) 1 [dT ss, .box [.ref 3, .ref 4, iA 0], .box [.v (.slice none 0 0), .v (.slice none 0 0), iA 0], .row 86 (D.instrs [])] [(1, .ref 0), (2, iA d), (3, .ptr 1 0), (6, .ptr 2 0), (7, iA 0)]; refine y9 (κ := Nat) (fun k => k ≤ ss.length) (fun k => ss.length - k) (fun k => [dT ss, .box [.ref 3, .ref 4, iA (l9 (ss.take k) d ([], [], 0)).2.2], .box [.v (.slice none 0 0), .v (.slice none 0 0), iA 0], .row 86 (.instrs (l9 (ss.take k) d ([], [], 0)).1), .row 3 (.ints (l9 (ss.take k) d ([], [], 0)).2.1)]) (fun k => [(1, .ref 0), (2, iA d), (3, .ptr 1 0), (6, .ptr 2 0), (7, iA k)]) 0 (by omega) (x8.at G _ _) ?_; clear G; intro k ρ a w hp G; replace G := x8.at G [dT ss, .box [.ref 3, .ref 4, iA (l9 (b88 k ss) d ([], [], 0)).snd.snd], aU9, .row 86 (D.instrs (l9 (b88 k ss) d ([], [], 0)).fst), .row 3 (D.ints (l9 (b88 k ss) d ([], [], 0)).snd.fst)] [(1, .ref 0), (2, iA d), (3, .ptr 1 0), (6, .ptr 2 0), (7, iA k)]; refine wp_seq (wp_seq (l8 G i7 [(11, bA (decide ((k : Int) < ss.length)))] fun G => b0 (rcD G (fun h0 q0 => ?_) fun h0 q0 => ?_)))
 ·refine wp_exit (y7 (y7 (y6 (b0 (wp_seq (m5 G i7 [0, 2, 3, 4] [dT ss, .box [.ref 2, .ref 3, iA (l9 (b88 k ss) d ([], [], 0)).snd.snd], .row 86 (D.instrs (l9 (b88 k ss) d ([], [], 0)).fst), .row 3 (D.ints (l9 (b88 k ss) d ([], [], 0)).snd.fst)] [(6, .ptr 1 0)] fun G => b0 (wp_ret ?_))))))); exact X8 (.agg [.ref 2, .ref 3, iA (l9 (b88 k ss) d ([], [], 0)).snd.snd]) G [0, 2, 3] (by have e1 : ((l9 ss d ([], [], 0)).snd.snd : Int) = ((l9 (b88 k ss) d ([], [], 0)).snd.snd) := (congrArg (fun x : D3 => x.2.2) (a05 (by omega) _)); (first | rw [e1] | simp only [e1]) <;> rfl) (by show _ = mR [0, 2, 3] [dT ss, .row 86 (D.instrs (l9 ss d ([], [], 0)).fst), .row 3 (D.ints (l9 ss d ([], [], 0)).snd.fst)]; have e1 : ((l9 ss d ([], [], 0)).fst : List d9) = ((l9 (b88 k ss) d ([], [], 0)).fst) := (congrArg Prod.fst (a05 (by omega) _)); have e2 : ((l9 ss d ([], [], 0)).snd.fst : List Int) = ((l9 (b88 k ss) d ([], [], 0)).snd.fst) := (congrArg (fun x : D3 => x.2.1) (a05 (by omega) _)); (first | rw [e1, e2] | simp only [e1, e2]) <;> rfl)
 ·refine wp_skip (b0 (wp_seq (wp_block (R5 G (t5 6 [3, 4, 37, 38, 39, 40] (ih (ss.getD k b81) (ae4 (by omega)) ((l9 (b88 k ss) d ([], [], 0)).fst) ((l9 (b88 k ss) d ([], [], 0)).snd.fst) ((l9 (b88 k ss) d ([], [], 0)).snd.snd) d (a04 r1 (by omega)) (bF9 rfl) (by assumption) (by assumption) (bh3 (Int.le_refl 0)) (bh2 r6 (by omega)))) [0, 0, 0, 6, 14, 0, 63, 127] [0, 1, 2, 53, 54] [dT ss, .box [.ref 3, .ref 4, iA (N9 (ss.getD k b81) d (l9 (b88 k ss) d ([], [], 0))).snd.snd], aU9, .row 86 (D.instrs (N9 (ss.getD k b81) d (l9 (b88 k ss) d ([], [], 0))).fst), .row 3 (D.ints (N9 (ss.getD k b81) d (l9 (b88 k ss) d ([], [], 0))).snd.fst)] [(1, .ref 0), (2, iA d), (3, .ptr 1 0), (6, .ptr 2 0), (7, iA k)] (iX k k ss.length []) (iK (by omega) b91) fun G => r7 (b0 (K7 G i7 [(7, iA ((k : Int) + 1))] [wO ((k : Int) + 1)] (o1 (by omega)) fun G => b0 ?_)))))); exact rxn G (k + 1) (by omega) (by omega) (rg 5) (by have e1 : ((l9 (b88 (k + 1) ss) d ([], [], 0)).snd.snd : Int) = ((N9 (ss.getD k b81) d (l9 (b88 k ss) d ([], [], 0))).snd.snd) := (b23 (by omega)); have e2 : ((l9 (b88 (k + 1) ss) d ([], [], 0)).fst : List d9) = ((N9 (ss.getD k b81) d (l9 (b88 k ss) d ([], [], 0))).fst) := (b25 (by omega)); have e3 : ((l9 (b88 (k + 1) ss) d ([], [], 0)).snd.fst : List Int) = ((N9 (ss.getD k b81) d (l9 (b88 k ss) d ([], [], 0))).snd.fst) := (b24 (by omega)); (first | rw [e1, e2, e3] | simp only [e1, e2, e3]) <;> rfl)
theorem bh4 (p : f7) (hp : n4 p = true) (hb : p7 p.body ≤ 1048576) : m7.ok Tryz.prog ⟨146, [.agg [.v (.slice none 0 0), .v (.slice none 0 0), iA 0], .ref 0, iA 0], [dT p.body], [dT p.body, rN (l9 p.body 0 ([], [], 0)).1, rI (l9 p.body 0 ([], [], 0)).2.1], .agg [.ref 1, .ref 2, iA (l9 p.body 0 ([], [], 0)).2.2]⟩ := by
 simp only [n4, S6, b85, decide_eq_true_eq] at hp
 refine bd1 p.body 95 (fun s hm l fr at0 d q1 q2 q3 q4 q5 q6 => ?_) 0 (by simp only [b86]; omega) (by omega) (by omega) (by have := aL1 p.body; omega)
 have h := b93.1 hp.1.2 s hm
 rw [O5, b85, b85] at h
 exact a36 _ _ 4 s h.1 h.2.1 h.2.2 (fun tt l fr at0 d h1 h2 h3 h4 h5 h6 h7 => bC4 _ _ 4 tt l fr at0 d h1 h2 h3 h4 h5 h6 h7) l fr at0 d q1 q2 q3 (by omega) q5 q6
def J6 (p : f7) : D3 := ((l9 p.body 0 ([], [], 0)).1 ++ [⟨13, 0, 0, 0, 0⟩], (l9 p.body 0 ([], [], 0)).2.1 ++ [-1], (l9 p.body 0 ([], [], 0)).2.2)
def W0 (p : f7) : Bool := n4 p && decide ((J6 p).1.length ≤ 400)
def J5 (p : f7) : D3 := if W0 p = true then J6 p else ([], [], 0)
theorem aq9 {p : f7} (h : n4 p = false) : W0 p = false := by unfold W0; rw [h]; rfl
theorem aK8 {p : f7} (h : ¬ (J6 p).1.length ≤ 400) : W0 p = false := by unfold W0; rw [decide_eq_false h, Bool.and_false]
theorem aK7 {p : f7} (h1 : n4 p = true) (h : (J6 p).1.length ≤ 400) : W0 p = true := by unfold W0; rw [decide_eq_true h, h1]; rfl
theorem ar8 {p : f7} (h : W0 p = false) : J5 p = ([], [], 0) := by unfold J5; rw [h]; rfl
theorem a01 {p : f7} (h : W0 p = true) : J5 p = J6 p := by unfold J5; rw [h]; rfl
theorem aT8 (p : f7) (hb : p7 p.body ≤ 1048576) : (l9 p.body 0 ([], [], 0)).1.length ≤ 5000000 ∧ (l9 p.body 0 ([], [], 0)).2.1.length ≤ 5000000 := by
 have h := F5 p.body 0 ([], [], 0)
 have h1 := O2 p.body
 simp only [b86] at h
 omega
abbrev ax3 (p : f7) : List It := [dI p.vars, dI p.arrays, dT p.body, .row 86 (D.instrs (J5 p).fst), .row 3 (D.ints (J5 p).snd.fst)]
abbrev aU5 (p : f7) (r0 : List It) : List It := .row 86 (D.instrs ((l9 p.body 0 ([], [], 0)).fst ++ [d9.mk 13 0 0 0 0])) :: .row 3 (D.ints ((l9 p.body 0 ([], [], 0)).snd.fst ++ [-1])) :: r0
theorem a92 (p : f7) (hb : p7 p.body ≤ 1048576) : m7.ok Tryz.prog ⟨71, [pA 0], pS p, pS p ++ [rN (J5 p).1, rI (J5 p).2.1], .tup [.agg [.ref 3, .ref 4, iA (J5 p).2.2], bA (W0 p)]⟩ := by
  refine H8 22 Tryz.func71 [dI p.vars, dI p.arrays, dT p.body] [(0, pA 0)] fun G => ?_; have hcb := aT8 p hb; refine wp_seq (m5 G i7 [0, 1, 2, 3, 11] [dI p.vars, dI p.arrays, dT p.body, .box (pL 0), .box [.v (.slice none 0 0), .v (.slice none 0 0), iA 0]] [(1, .ptr 3 0), (2, .ptr 4 0), (3, bA false)] fun G => b0 (wp_seq (wp_seq (l8 G (t5 1 [0, 1, 2] (S5 p (by assumption))) [(7, .v (.bool !n4 p))] fun G => b0 ?_)))); cases h0 : (!n4 p)
  ·
   have q0 : (n4 p) = true := (Eq.mp (ca0 _) h0); refine rF G _ h0 (wp_skip (b0 (wp_seq (m5 G (t5 3 [2] (bh4 p (by assumption) (by assumption))) [0, 1, 2, 4, 29, 30, 37] [dI p.vars, dI p.arrays, dT p.body, .box [.v (.slice none 0 0), .v (.slice none 0 0), iA 0], .row 86 (D.instrs (l9 p.body 0 ([], [], 0)).fst), .row 3 (D.ints (l9 p.body 0 ([], [], 0)).snd.fst), .box [.ref 4, .ref 5, iA (l9 p.body 0 ([], [], 0)).snd.snd]] [(2, .ptr 3 0), (3, bA false), (4, .ptr 6 0)] fun G => b0 (wp_seq (m5 G (t5 2 [4, 5] (G4 ((l9 p.body 0 ([], [], 0)).fst) ((l9 p.body 0 ([], [], 0)).snd.fst) ((l9 p.body 0 ([], [], 0)).snd.snd) (-1) 13 0 0 0 0 (by omega) (by omega))) [0, 1, 2, 3, 6, 23, 24] (dI p.vars :: dI p.arrays :: dT p.body :: .box [.v (.slice none 0 0), .v (.slice none 0 0), iA 0] :: .box [.ref 5, .ref 6, iA (l9 p.body 0 ([], [], 0)).snd.snd] :: (aU5 p [])) [(2, .ptr 3 0), (3, bA false), (4, .ptr 4 0)] fun G => b0 (wp_seq (wp_seq (l8 G i7 [(19, bA (decide ((((l9 p.body 0 ([], [], 0)).fst ++ [d9.mk 13 0 0 0 0]).length : Int) > 400)))] fun G => b0 (rcD G (fun h1 q1 => ?_) fun h1 q1 => ?_))))))))))
   · refine wp_skip (b0 (wp_seq (m5 G i7 [0, 1, 2, 3, 5, 6] (dI p.vars :: dI p.arrays :: dT p.body :: .box [.ref 4, .ref 5, iA (l9 p.body 0 ([], [], 0)).snd.snd] :: (aU5 p [])) [(2, .ptr 3 0), (3, bA true)] fun G => b0 (wp_ret ?_)))); exact X8 (.tup [.agg [.ref 4, .ref 5, iA (l9 p.body 0 ([], [], 0)).snd.snd], bA true]) G [0, 1, 2, 4, 5] (by have e1 : ((J5 p).snd.snd : Int) = ((l9 p.body 0 ([], [], 0)).snd.snd) := (by rw [a01 (aK7 (by with_reducible assumption) (by simp only [J6]; omega))]; rfl); have e2 : (W0 p : Bool) = (true) := (aK7 (by with_reducible assumption) (by simp only [J6]; omega)); (first | rw [e1, e2] | simp only [e1, e2]) <;> rfl) (by show _ = mR [0, 1, 2, 4, 5] (ax3 p); unfold ax3; rw [a01 (aK7 (by with_reducible assumption) (by simp only [J6]; omega))] <;> rfl)
   · refine wp_seq (K8 G i7 [(2, .ptr 3 0), (3, bA false), (4, .ptr 4 0)] fun G => b0 (wp_ret (m8 ?_))); obtain ⟨ρ, G⟩ := G.nil 7 86 (.instrs []) 5 (dI p.vars :: dI p.arrays :: dT p.body :: .box [.ref 7, .v (.slice none 0 0), iA 0] :: .box [.ref 5, .ref 6, iA (l9 p.body 0 ([], [], 0)).snd.snd] :: (aU5 p [])) [(2, .ptr 3 0), (3, bA false), (4, .ptr 4 0)]; obtain ⟨ρ, G⟩ := G.nil 8 3 (.ints []) 1 (dI p.vars :: dI p.arrays :: dT p.body :: .box [.ref 7, .ref 8, iA 0] :: .box [.ref 5, .ref 6, iA (l9 p.body 0 ([], [], 0)).snd.snd] :: (aU5 p [.row 86 (D.instrs [])])) [(2, .ptr 3 0), (3, bA false), (4, .ptr 4 0)]; exact X8 (.tup [.agg [.ref 7, .ref 8, iA 0], bA false]) G [0, 1, 2, 7, 8] (by have e1 : ((J5 p).snd.snd : Int) = (0) := (by rw [ar8 (aK8 (by simp only [J6]; omega))]; done); have e2 : (W0 p : Bool) = (false) := (aK8 (by simp only [J6]; omega)); (first | rw [e1, e2] | simp only [e1, e2]) <;> rfl) (by show _ = mR [0, 1, 2, 7, 8] (ax3 p); unfold ax3; rw [ar8 (aK8 (by simp only [J6]; omega))] <;> rfl)
  · have q0 : (n4 p) = false := (Eq.mp (b99 _) h0); refine rT G _ h0 (wp_seq (K8 G i7 [(1, .ptr 3 0), (2, .ptr 4 0), (3, bA false)] fun G => b0 (wp_ret (m8 ?_)))); obtain ⟨ρ, G⟩ := G.nil 5 86 (.instrs []) 5 [dI p.vars, dI p.arrays, dT p.body, .box (pL 0), .box [.ref 5, .v (.slice none 0 0), iA 0]] [(1, .ptr 3 0), (2, .ptr 4 0), (3, bA false)]; obtain ⟨ρ, G⟩ := G.nil 6 3 (.ints []) 1 [dI p.vars, dI p.arrays, dT p.body, .box (pL 0), .box [.ref 5, .ref 6, iA 0], .row 86 (D.instrs [])] [(1, .ptr 3 0), (2, .ptr 4 0), (3, bA false)]; exact X8 (.tup [.agg [.ref 5, .ref 6, iA 0], bA false]) G [0, 1, 2, 5, 6] (by have e1 : ((J5 p).snd.snd : Int) = (0) := (by rw [ar8 (aq9 (by with_reducible assumption))]; done); have e2 : (W0 p : Bool) = (false) := (aq9 (by with_reducible assumption)); (first | rw [e1, e2] | simp only [e1, e2]) <;> rfl) (by show _ = mR [0, 1, 2, 5, 6] (ax3 p); unfold ax3; rw [ar8 (aq9 (by with_reducible assumption))] <;> rfl)
def gX (nv na : Nat) (L : Int) (x : d9) : Prop :=
 (x.op = 1 ∧ (0 ≤ x.a ∧ x.a ≤ 13) ∧ (0 ≤ x.b ∧ x.b ≤ 255) ∧ x.c = 0 ∧ x.d = 0) ∨
 (x.op = 2 ∧ (0 ≤ x.a ∧ x.a ≤ 13) ∧ (0 ≤ x.b ∧ x.b < nv) ∧ x.c = 0 ∧ x.d = 0) ∨
 (x.op = 3 ∧ (0 ≤ x.a ∧ x.a < nv) ∧ (0 ≤ x.b ∧ x.b ≤ 13) ∧ x.c = 0 ∧ x.d = 0) ∨
 (x.op = 4 ∧ (0 ≤ x.a ∧ x.a ≤ 13) ∧ (0 ≤ x.b ∧ x.b < na) ∧ (0 ≤ x.c ∧ x.c ≤ 13) ∧ x.d = 0) ∨
 (x.op = 5 ∧ (0 ≤ x.a ∧ x.a < na) ∧ (0 ≤ x.b ∧ x.b ≤ 13) ∧ (0 ≤ x.c ∧ x.c ≤ 13) ∧ x.d = 0) ∨
 (x.op = 6 ∧ (0 ≤ x.a ∧ x.a ≤ 13) ∧ (4 ≤ x.b ∧ x.b ≤ 10) ∧ (0 ≤ x.c ∧ x.c ≤ 13) ∧ (0 ≤ x.d ∧ x.d ≤ 13)) ∨
 (x.op = 7 ∧ (0 ≤ x.a ∧ x.a ≤ 13) ∧ (0 ≤ x.b ∧ x.b ≤ 13) ∧ (0 ≤ x.c ∧ x.c ≤ 13) ∧ (0 ≤ x.d ∧ x.d ≤ 13)) ∨
 (x.op = 8 ∧ (0 ≤ x.a ∧ x.a < L) ∧ x.b = 0 ∧ x.c = 0 ∧ x.d = 0) ∨
 (x.op = 9 ∧ (0 ≤ x.a ∧ x.a ≤ 13) ∧ (0 ≤ x.b ∧ x.b < L) ∧ x.c = 0 ∧ x.d = 0) ∨
 (x.op = 10 ∧ (0 ≤ x.a ∧ x.a ≤ 13) ∧ (0 ≤ x.b ∧ x.b < L) ∧ x.c = 0 ∧ x.d = 0) ∨
 (x.op = 11 ∧ (0 ≤ x.a ∧ x.a ≤ 13) ∧ x.b = 0 ∧ x.c = 0 ∧ x.d = 0)
def gL (nv na : Nat) (L : Int) (l : List d9) : Prop := ∀ x ∈ l, gX nv na L x
theorem aZ4 {nv na : Nat} {L : Int} {a b : List d9} (h : gL nv na L a) (k : gL nv na L b) : gL nv na L (a ++ b) := by
 intro x hx
 rcases ca1.1 hx with hx | hx
 ·exact h x hx
 ·exact k x hx
theorem al7 {nv na : Nat} {L : Int} {a : d9} (h : gX nv na L a) : gL nv na L [a] := by
 intro x hx
 rw [ca4] at hx
 subst hx; exact h
theorem b10 {c : i8} {x : d9} (h : gX c.vars.length c.arrays.length c.list.length x) : J0 c x = true := by
 obtain ⟨op, a, b, cc, d⟩ := x
 unfold gX at h
 simp only at h
 rcases h with h | h | h | h | h | h | h | h | h | h | h <;> obtain ⟨rfl, h1, h2, h3, h4⟩ := h <;>
  ·simp only [J0, aa4, Z5, af8, b85, decide_eq_true_eq]
   simp
   omega
theorem aj7 {nv na n : Nat} {k v : Int} {ks : List d7} (h : m6 nv na (n + 1) ⟨k, v, ks⟩ = true) : (ks.length : Int) = o0 k ∧ 0 ≤ v ∧ v < N6 nv na k ∧ ks.all (m6 nv na n) = true := by
 rw [m6] at h
 simp only [b85, C2, decide_eq_true_eq] at h
 exact ⟨h.1.1.1.1, h.1.1.1.2, h.1.1.2, h.1.2⟩
theorem aI8 {nv na n : Nat} {k t c : Int} {i v : d7} {b e : List b5} (h : i9 nv na (n + 1) ⟨k, t, i, v, c, b, e⟩ = true) :
    (k = 4 → 1 ≤ c ∧ c ≤ 3 ∧ b.all (i9 nv na n) = true) ∧ (k = 1 ∨ k = 5 → (0 ≤ t ∧ t < nv) ∧ l0 nv na v = true) ∧ (k = 2 → (0 ≤ t ∧ t < na) ∧ l0 nv na i = true ∧ l0 nv na v = true) ∧
    (k ≠ 4 → k ≠ 1 → k ≠ 5 → k ≠ 2 → l0 nv na v = true ∧ b.all (i9 nv na n) = true ∧ e.all (i9 nv na n) = true) := by
  rw [i9, b85] at h
  obtain ⟨hp, h⟩ := h
  have hp : (if (k = 3 ∨ k = 4) then
    decide (t = 0) && (if k = 4 then decide (e.length = 0) && decide (1 ≤ c) && decide (c ≤ 3) && noneB i && noneB v
      else decide (c = 0) && noneB i)
  else decide (b.length = 0) && decide (e.length = 0) && decide (c = 0) && (decide (k = 2) || noneB i)) = true := hp
  have h : (if k = 1 ∨ k = 5 then decide (0 ≤ t) && decide (t < nv) && l0 nv na v
     else if k = 2 then decide (0 ≤ t) && decide (t < na) && l0 nv na i && F6 i && l0 nv na v
     else if k = 3 then l0 nv na v && b.all (i9 nv na n) && e.all (i9 nv na n)
     else if k = 4 then b.all (i9 nv na n)
     else false) = true := h
  refine ⟨?_, ?_, ?_, ?_⟩
  · rintro rfl
    rw [if_pos (.inr rfl), if_pos rfl] at hp
    rw [if_neg (by omega), if_neg (by omega), if_neg (by omega), if_pos rfl] at h
    simp only [b85, decide_eq_true_eq] at hp
    exact ⟨hp.2.1.1.1.2, hp.2.1.1.2, h⟩
  · intro hk
    rw [if_pos hk] at h
    simp only [b85, decide_eq_true_eq] at h
    exact ⟨h.1, h.2⟩
  · rintro rfl
    rw [if_neg (by omega), if_pos rfl] at h
    simp only [b85, decide_eq_true_eq] at h
    exact ⟨h.1.1.1, h.1.1.2, h.2⟩
  · intro k4 k1 k5 k2
    rw [if_neg (by omega), if_neg k2] at h
    split at h
    · simp only [b85] at h
      exact ⟨h.1.1, h.1.2, h.2⟩
    · exact absurd h (by decide)
mutual
theorem bo4 (nv na : Nat) (L : Int) : ∀ (n : Nat) (e : d7) (r : Int), m6 nv na n e = true → 0 ≤ r → r + 2 * n ≤ 13 → gL nv na L (b6 e r)
 | 0, e, r, h, _, _ => by simp [m6] at h
 | n + 1, ⟨k, v, ks⟩, r, h, h0, h1 => by
  obtain ⟨ha, hv0, hv1, hk⟩ := aj7 h
  simp only [o0, N6] at ha hv1
  rw [b6]
  split
  ·rename_i hk1
   subst hk1
   simp at hv1
   exact al7 (.inl ⟨rfl, by constructor <;> simp only <;> omega, by constructor <;> simp only <;> omega, rfl, rfl⟩)
  ·split
   ·rename_i hk2
    subst hk2
    simp at hv1
    exact al7 (.inr (.inl ⟨rfl, by constructor <;> simp only <;> omega, by constructor <;> simp only <;> omega, rfl, rfl⟩))
   ·rename_i k1 k2
    have hlen : ks.length ≤ 3 ∧ (3 ≤ k ∧ k ≤ 11) := by
     rw [if_neg (by omega)] at ha
     split at ha
     ·omega
     ·split at ha
      ·omega
      ·split at ha <;> omega
    refine aZ4 (a83 nv na L n ks r hk h0 (by omega)) (al7 ?_)
    unfold al3
    split
    ·rename_i hk3
     subst hk3
     simp at hv1
     exact .inr (.inr (.inr (.inl ⟨rfl, by constructor <;> simp only <;> omega, by constructor <;> simp only <;> omega, by constructor <;> simp only <;> omega, rfl⟩)))
    ·split
     ·exact .inr (.inr (.inr (.inr (.inr (.inr (.inl ⟨rfl, by constructor <;> simp only <;> omega, by constructor <;> simp only <;> omega, by constructor <;> simp only <;> omega, by constructor <;> simp only <;> omega⟩))))))
     ·exact .inr (.inr (.inr (.inr (.inr (.inl ⟨rfl, by constructor <;> simp only <;> omega, by constructor <;> simp only <;> omega, by constructor <;> simp only <;> omega, by constructor <;> simp only <;> omega⟩)))))
termination_by n _ => (n, 0)
theorem a83 (nv na : Nat) (L : Int) : ∀ (n : Nat) (ks : List d7) (r : Int), ks.all (m6 nv na n) = true → 0 ≤ r → r + ks.length + 2 * n ≤ 14 → gL nv na L (k6 ks r)
 | _, [], r, _, _, _ => by rw [k6]; intro x hx; cases hx
 | n, e :: t, r, h, h0, h1 => by
  simp only [List.all_cons, b85] at h
  simp only [b84] at h1
  rw [k6]
  exact aZ4 (bo4 nv na L n e r h.1 h0 (by omega)) (a83 nv na L n t (r + 1) h.2 (by omega) (by omega))
termination_by n ks => (n, ks.length + 1)
end
theorem au2 {nv na : Nat} {e : d7} (L r : Int) (h : l0 nv na e = true) (h0 : 0 ≤ r) (h1 : r ≤ 1) : gL nv na L (b6 e r) := by
 unfold l0 at h
 rw [b85] at h
 exact bo4 nv na L 5 e r h.1 h0 (by omega)
def Gd (nv na : Nat) (L : Int) (x y : D3) : Prop := ∃ ys, y.1 = x.1 ++ ys ∧ gL nv na L ys
theorem Gd.refl {nv na : Nat} {L : Int} (x : D3) : Gd nv na L x x := ⟨[], by simp, fun x hx => by cases hx⟩
theorem Gd.trans {nv na : Nat} {L : Int} {x y z : D3} (h : Gd nv na L x y) (k : Gd nv na L y z) : Gd nv na L x z := by
 obtain ⟨a, a1, a2⟩ := h
 obtain ⟨b, b1, b2⟩ := k
 exact ⟨a ++ b, by rw [b1, a1, cc0], aZ4 a2 b2⟩
theorem Gd.add {nv na : Nat} {L : Int} {x : D3} {n : Int} {c : List d9} (h : gL nv na L c) : Gd nv na L x (s9 x n c) := ⟨c, rfl, h⟩
theorem Gd.add1 {nv na : Nat} {L : Int} {x : D3} {n m : Int} {c : List d9} (h : gL nv na L c) : Gd nv na L x (s9 (x.1, x.2.1, m) n c) := ⟨c, rfl, h⟩
theorem bQ7 {a b : List d9} {n : Int} {k : Nat} (hk : k = a.length) : ak3 (a ++ ⟨9, 0, 0, 0, 0⟩ :: b) k n = a ++ ⟨9, 0, n, 0, 0⟩ :: b := by
 subst hk
 simp [ak3, b90, List.set_append_right]
theorem bQ8 {a b : List d9} {n : Int} {k : Nat} (hk : k = a.length) : aP6 (a ++ ⟨8, 0, 0, 0, 0⟩ :: b) k n = a ++ ⟨8, n, 0, 0, 0⟩ :: b := by
 subst hk
 simp [aP6, b90, List.set_append_right]
theorem bK3 : (0 : Int) ≤ 0 ∧ (0 : Int) ≤ 13 := by decide
theorem b42 : (0 : Int) ≤ 1 ∧ (1 : Int) ≤ 13 := by decide
theorem g1 {nv na : Nat} {L a b : Int} (h1 : 0 ≤ a ∧ a ≤ 13) (h2 : 0 ≤ b ∧ b ≤ 255) : gL nv na L [⟨1, a, b, 0, 0⟩] := al7 (.inl ⟨rfl, h1, h2, rfl, rfl⟩)
theorem g3 {nv na : Nat} {L a : Int} (h1 : 0 ≤ a ∧ a < nv) : gL nv na L [⟨3, a, 0, 0, 0⟩] := al7 (.inr (.inr (.inl ⟨rfl, h1, bK3, rfl, rfl⟩)))
theorem g5 {nv na : Nat} {L a : Int} (h1 : 0 ≤ a ∧ a < na) : gL nv na L [⟨5, a, 1, 0, 0⟩] := al7 (.inr (.inr (.inr (.inr (.inl ⟨rfl, h1, b42, bK3, rfl⟩)))))
theorem g8 {nv na : Nat} {L a : Int} (h1 : 0 ≤ a ∧ a < L) : gX nv na L ⟨8, a, 0, 0, 0⟩ := .inr (.inr (.inr (.inr (.inr (.inr (.inr (.inl ⟨rfl, h1, rfl, rfl, rfl⟩)))))))
theorem g9 {nv na : Nat} {L b : Int} (h1 : 0 ≤ b ∧ b < L) : gX nv na L ⟨9, 0, b, 0, 0⟩ := .inr (.inr (.inr (.inr (.inr (.inr (.inr (.inr (.inl ⟨rfl, bK3, h1, rfl, rfl⟩))))))))
theorem g10 {nv na : Nat} {L a b : Int} (h0 : 0 ≤ a ∧ a ≤ 13) (h1 : 0 ≤ b ∧ b < L) : gL nv na L [⟨10, a, b, 0, 0⟩] := al7 (.inr (.inr (.inr (.inr (.inr (.inr (.inr (.inr (.inr (.inl ⟨rfl, h0, h1, rfl, rfl⟩))))))))))
theorem g11 {nv na : Nat} {L : Int} : gL nv na L [⟨11, 0, 0, 0, 0⟩] := al7 (.inr (.inr (.inr (.inr (.inr (.inr (.inr (.inr (.inr (.inr ⟨rfl, bK3, rfl, rfl, rfl⟩))))))))))
mutual
theorem b22 (nv na : Nat) (L : Int) : ∀ (n : Nat) (s : b5) (d : Int) (x : D3), i9 nv na n s = true → 0 ≤ d → d + n ≤ 5 → ((N9 s d x).1.length : Int) < L → Gd nv na L x (N9 s d x)
 | 0, s, d, x, h, _, _, _ => by simp [i9] at h
 | n + 1, ⟨k, t, i, v, c, b, e⟩, d, x, h, h0, h1, hL => by
  have hl := (bo5 ⟨k, t, i, v, c, b, e⟩ d x).1
  obtain ⟨p4, p1, p2, p3⟩ := aI8 h
  rw [N9] at hL ⊢
  split
  ·rename_i hk
   subst hk
   obtain ⟨c1, c2, h⟩ := p4 rfl
   rw [if_pos rfl] at hL
   simp only [s9, b83, b84, b86] at hL
   have a1 : Gd nv na L x (s9 (x.1, x.2.1, x.2.2 + 1) x.2.2 [⟨1, 9 + d, c, 0, 0⟩]) := Gd.add1 (g1 (by omega) (by omega))
   have a2 := a84 nv na L n b (d + 1) (s9 (x.1, x.2.1, x.2.2 + 1) x.2.2 [⟨1, 9 + d, c, 0, 0⟩]) h (by omega) (by omega) (by simp only [s9, b84, b86]; omega)
   have l2 := (F5 b (d + 1) (s9 (x.1, x.2.1, x.2.2 + 1) x.2.2 [⟨1, 9 + d, c, 0, 0⟩])).1
   simp only [s9, b83, b84, b86] at l2
   exact (a1.trans a2).trans (Gd.add (g10 (by omega) (by omega)))
  ·rename_i k4
   rw [if_neg k4] at hL
   split
   ·rename_i hk
    obtain ⟨h1, h2⟩ := p1 (.inl hk)
    exact (Gd.add1 (au2 L 0 h2 (by omega) (by omega))).trans (Gd.add (g3 h1))
   ·rename_i k1
    rw [if_neg k1] at hL
    split
    ·rename_i hk
     obtain ⟨h1, h2⟩ := p1 (.inr hk)
     exact ((Gd.add1 (au2 L 0 h2 (by omega) (by omega))).trans (Gd.add g11)).trans (Gd.add (g3 h1))
    ·rename_i k5
     rw [if_neg k5] at hL
     split
     ·rename_i hk
      obtain ⟨h1, h2, h3⟩ := p2 hk
      exact ((Gd.add1 (au2 L 0 h3 (by omega) (by omega))).trans (Gd.add (au2 L 1 h2 (by omega) (by omega)))).trans (Gd.add (g5 h1))
     ·rename_i k2
      rw [if_neg k2] at hL
      have h := p3 k4 k1 k5 k2
      simp only at hL ⊢
      have a1 : Gd nv na L x (s9 (x.1, x.2.1, x.2.2 + 1) x.2.2 (b6 v 0)) := Gd.add1 (au2 L 0 h.1 (by omega) (by omega))
      generalize s9 (x.1, x.2.1, x.2.2 + 1) x.2.2 (b6 v 0) = y at hL a1 ⊢
      have a2 := a84 nv na L n b (d + 1) (s9 y x.2.2 [⟨9, 0, 0, 0, 0⟩]) h.2.1 (by omega) (by omega)
      generalize l9 b (d + 1) (s9 y x.2.2 [⟨9, 0, 0, 0, 0⟩]) = z at hL a2 ⊢
      have l3 := (F5 e (d + 1) (ak3 (s9 z x.2.2 [⟨8, 0, 0, 0, 0⟩]).1 y.1.length ((s9 z x.2.2 [⟨8, 0, 0, 0, 0⟩]).1.length : Int), (s9 z x.2.2 [⟨8, 0, 0, 0, 0⟩]).2)).1
      have a3 := a84 nv na L n e (d + 1) (ak3 (s9 z x.2.2 [⟨8, 0, 0, 0, 0⟩]).1 y.1.length ((s9 z x.2.2 [⟨8, 0, 0, 0, 0⟩]).1.length : Int), (s9 z x.2.2 [⟨8, 0, 0, 0, 0⟩]).2) h.2.2 (by omega) (by omega)
      generalize l9 e (d + 1) (ak3 (s9 z x.2.2 [⟨8, 0, 0, 0, 0⟩]).1 y.1.length ((s9 z x.2.2 [⟨8, 0, 0, 0, 0⟩]).1.length : Int), (s9 z x.2.2 [⟨8, 0, 0, 0, 0⟩]).2) = u at hL l3 a3 ⊢
      simp only [s9, ak3, aP6, b97, b83, b84, b86] at hL l3
      obtain ⟨b2, e2, q2⟩ := a2 (by omega)
      obtain ⟨b3, e3, q3⟩ := a3 (by omega)
      obtain ⟨b1, e1, q1⟩ := a1
      simp only [s9, cc0, List.singleton_append] at e2 e3
      rw [e2] at e3
      simp only [cc0, List.cons_append] at e3
      rw [bQ7 rfl] at e3
      have e4 : u.1 = (y.1 ++ ⟨9, 0, ((z.1 ++ [(⟨8, 0, 0, 0, 0⟩ : d9)]).length : Int), 0, 0⟩ :: b2) ++ ⟨8, 0, 0, 0, 0⟩ :: b3 := by
       rw [e3, e2]; simp
      refine ⟨b1 ++ ⟨9, 0, ((z.1 ++ [(⟨8, 0, 0, 0, 0⟩ : d9)]).length : Int), 0, 0⟩ :: (b2 ++ ⟨8, (u.1.length : Int), 0, 0, 0⟩ :: b3), ?_, ?_⟩
      ·show aP6 u.1 _ _ = _
       rw [show aP6 u.1 ((s9 z x.2.2 [⟨8, 0, 0, 0, 0⟩]).1.length - 1) (u.1.length : Int) = aP6 ((y.1 ++ ⟨9, 0, ((z.1 ++ [(⟨8, 0, 0, 0, 0⟩ : d9)]).length : Int), 0, 0⟩ :: b2) ++ ⟨8, 0, 0, 0, 0⟩ :: b3) ((s9 z x.2.2 [⟨8, 0, 0, 0, 0⟩]).1.length - 1) (u.1.length : Int) from by rw [← e4]]
       rw [bQ8 (by simp only [s9, e2, b83, b84, b86]; omega), e1]
       simp only [cc0, List.cons_append]
      ·refine aZ4 q1 ?_
       intro w hw
       simp only [cb7, ca1] at hw
       rcases hw with rfl | hw | rfl | hw
       ·refine g9 ⟨by omega, ?_⟩
        simp only [b83, b84, b86]; omega
       ·exact q2 w hw
       ·exact g8 ⟨by omega, by omega⟩
       ·exact q3 w hw
termination_by n _ => (n, 0)
theorem a84 (nv na : Nat) (L : Int) : ∀ (n : Nat) (ss : List b5) (d : Int) (x : D3), ss.all (i9 nv na n) = true → 0 ≤ d → d + n ≤ 5 → ((l9 ss d x).1.length : Int) < L → Gd nv na L x (l9 ss d x)
 | _, [], _, x, _, _, _, _ => by rw [l9]; exact Gd.refl x
 | n, s :: r, d, x, h, h0, h1, hL => by
  simp only [List.all_cons, b85] at h
  rw [l9] at hL ⊢
  have hl := (F5 r d (N9 s d x)).1
  exact (b22 nv na L n s d x h.1 h0 h1 (by omega)).trans (a84 nv na L n r d _ h.2 h0 h1 hL)
termination_by n ss => (n, ss.length + 1)
end
theorem b21 {p : f7} (h : n4 p = true) : gL p.vars.length p.arrays.length ((J6 p).1.length : Int) (l9 p.body 0 ([], [], 0)).1 := by
 simp only [n4, S6, b85, decide_eq_true_eq] at h
 obtain ⟨ys, e1, e2⟩ := a84 p.vars.length p.arrays.length ((J6 p).1.length : Int) 5 p.body 0 ([], [], 0) h.1.2 (by omega) (by omega) (by simp only [J6, b83, b84, b86]; omega)
 rw [e1]; exact e2
theorem bF1 {p : f7} (h : W0 p = true) : E3 ⟨p.vars, p.arrays, (J6 p).1⟩ = true := by
 unfold W0 at h
 simp only [b85, decide_eq_true_eq] at h
 have hg := b21 h.1
 have hh : B6 p.vars p.arrays = true := by have := h.1; simp only [n4, b85] at this; exact this.1.1
 simp only [E3, b85, decide_eq_true_eq]
 refine ⟨⟨⟨⟨hh, ?_⟩, h.2⟩, ?_⟩, ?_⟩
 ·simp [J6]
 ·rw [b93]
  intro x hx
  simp only [J6, ca1, ca4] at hx
  rcases hx with hx | rfl
  ·exact b10 (c := ⟨p.vars, p.arrays, (J6 p).1⟩) (hg x hx)
  ·simp [J0, aa4, Z5]
 ·simp [ar0, J6]
mutual
def aZ3 : b5 → Int → Nat → List d9
 | ⟨k, t, i, v, c, b, e⟩, d, o =>
  if k = 4 then ⟨1, 9 + d, c, 0, 0⟩ :: (Y0 b (d + 1) (o + 1) ++ [⟨10, 9 + d, ((o + 1 : Nat) : Int), 0, 0⟩])
  else if k = 1 then b6 v 0 ++ [⟨3, t, 0, 0, 0⟩]
  else if k = 5 then b6 v 0 ++ [⟨11, 0, 0, 0, 0⟩, ⟨3, t, 0, 0, 0⟩]
  else if k = 2 then b6 v 0 ++ b6 i 1 ++ [⟨5, t, 1, 0, 0⟩]
  else b6 v 0 ++ ⟨9, 0, ((o + (b6 v 0).length + 1 + A6 b + 1 : Nat) : Int), 0, 0⟩ :: (Y0 b (d + 1) (o + (b6 v 0).length + 1) ++ ⟨8, ((o + (b6 v 0).length + 1 + A6 b + 1 + A6 e : Nat) : Int), 0, 0, 0⟩ :: Y0 e (d + 1) (o + (b6 v 0).length + 1 + A6 b + 1))
def Y0 : List b5 → Int → Nat → List d9
 | [], _, _ => []
 | s :: r, d, o => aZ3 s d o ++ Y0 r d (o + ad1 s)
end
mutual
theorem al6 : ∀ (s : b5) (d : Int) (o : Nat), (aZ3 s d o).length = ad1 s
 | ⟨k, t, i, v, c, b, e⟩, d, o => by
  rw [aZ3, ad1]
  split
  ·simp only [b84, b83, b86, H1 b]; omega
  ·split
   ·simp
   ·split
    ·simp
    ·split
     ·simp; omega
     ·simp only [b84, b83, H1 b, H1 e]; omega
theorem H1 : ∀ (ss : List b5) (d : Int) (o : Nat), (Y0 ss d o).length = A6 ss
 | [], _, _ => rfl
 | s :: r, d, o => by
  rw [Y0, A6, b83, al6 s, H1 r]
end
mutual
theorem bN9 : ∀ (s : b5) (d : Int) (x : D3), (N9 s d x).1 = x.1 ++ aZ3 s d x.1.length
 | ⟨k, t, i, v, c, b, e⟩, d, x => by
  rw [N9, aZ3]
  split
  ·simp only [s9]
   rw [aw4 b]
   simp
  ·split
   ·simp [s9]
   ·split
    ·simp [s9]
    ·split
     ·simp [s9]
     ·simp only
      have e1 : (s9 (x.1, x.2.1, x.2.2 + 1) x.2.2 (b6 v 0)).1 = x.1 ++ b6 v 0 := rfl
      generalize s9 (x.1, x.2.1, x.2.2 + 1) x.2.2 (b6 v 0) = y at e1 ⊢
      have e2 := aw4 b (d + 1) (s9 y x.2.2 [⟨9, 0, 0, 0, 0⟩])
      generalize l9 b (d + 1) (s9 y x.2.2 [⟨9, 0, 0, 0, 0⟩]) = z at e2 ⊢
      have e3 := aw4 e (d + 1) (ak3 (s9 z x.2.2 [⟨8, 0, 0, 0, 0⟩]).1 y.1.length ((s9 z x.2.2 [⟨8, 0, 0, 0, 0⟩]).1.length : Int), (s9 z x.2.2 [⟨8, 0, 0, 0, 0⟩]).2)
      generalize l9 e (d + 1) (ak3 (s9 z x.2.2 [⟨8, 0, 0, 0, 0⟩]).1 y.1.length ((s9 z x.2.2 [⟨8, 0, 0, 0, 0⟩]).1.length : Int), (s9 z x.2.2 [⟨8, 0, 0, 0, 0⟩]).2) = u at e3 ⊢
      have y1 : y.1.length = x.1.length + (b6 v 0).length := by rw [e1, b83]
      have e2' : z.1 = y.1 ++ ⟨9, 0, 0, 0, 0⟩ :: Y0 b (d + 1) (y.1.length + 1) := by
       rw [e2]; simp [s9]
      have z1 : z.1.length = x.1.length + (b6 v 0).length + 1 + A6 b := by rw [e2']; simp only [b83, b84, H1, y1]; omega
      have eP : ∀ N : Int, ak3 (z.1 ++ [⟨8, 0, 0, 0, 0⟩]) y.1.length N = y.1 ++ ⟨9, 0, N, 0, 0⟩ :: (Y0 b (d + 1) (y.1.length + 1) ++ [⟨8, 0, 0, 0, 0⟩]) := fun N => by
       rw [e2', cc0, List.cons_append]; exact bQ7 rfl
      have e3 : u.1 = ak3 (z.1 ++ [⟨8, 0, 0, 0, 0⟩]) y.1.length (((z.1 ++ [(⟨8, 0, 0, 0, 0⟩ : d9)]).length : Nat) : Int) ++ Y0 e (d + 1) (ak3 (z.1 ++ [⟨8, 0, 0, 0, 0⟩]) y.1.length (((z.1 ++ [(⟨8, 0, 0, 0, 0⟩ : d9)]).length : Nat) : Int)).length := e3
      rw [eP] at e3
      have hl : (z.1 ++ [(⟨8, 0, 0, 0, 0⟩ : d9)]).length = x.1.length + (b6 v 0).length + 1 + A6 b + 1 := by rw [b83, z1]; rfl
      have hl2 : ∀ N : Int, (y.1 ++ ⟨9, 0, N, 0, 0⟩ :: (Y0 b (d + 1) (y.1.length + 1) ++ [(⟨8, 0, 0, 0, 0⟩ : d9)])).length = x.1.length + (b6 v 0).length + 1 + A6 b + 1 := fun N => by
       simp only [b83, b84, b86, H1, y1]; omega
      rw [hl2, hl] at e3
      have e4 : u.1 = (y.1 ++ ⟨9, 0, ((x.1.length + (b6 v 0).length + 1 + A6 b + 1 : Nat) : Int), 0, 0⟩ :: Y0 b (d + 1) (y.1.length + 1)) ++ ⟨8, 0, 0, 0, 0⟩ :: Y0 e (d + 1) (x.1.length + (b6 v 0).length + 1 + A6 b + 1) := by
       rw [e3]; simp only [cc0, List.cons_append, List.nil_append]
      have hu : u.1.length = x.1.length + (b6 v 0).length + 1 + A6 b + 1 + A6 e := by
       rw [e4]; simp only [b83, b84, H1, y1]; omega
      show aP6 u.1 ((z.1 ++ [(⟨8, 0, 0, 0, 0⟩ : d9)]).length - 1) (u.1.length : Int) = _
      rw [hu, hl, e4, bQ8 (by simp only [b83, b84, H1, y1]; omega), y1, e1]
      simp only [cc0, List.cons_append]
theorem aw4 : ∀ (ss : List b5) (d : Int) (x : D3), (l9 ss d x).1 = x.1 ++ Y0 ss d x.1.length
 | [], _, x => by rw [l9, Y0, List.append_nil]
 | s :: r, d, x => by
  have h1 := bN9 s d x
  rw [l9, Y0, aw4 r, h1, b83, al6, cc0]
end
end Go.Proofs.YthikdkjjdeehoaaGreat

namespace Go.Proofs.YthikdkjjdeehoaaGreat
set_option linter.unusedVariables false
set_option linter.unusedSimpArgs false
def scB (l : Int) : Bool := i5 l && decide (l = 1 ∨ l = 3)
def bAt (t : List Bool) (k : Int) : Bool := t.getD k.toNat false
def iAt (t : List Int) (k : Int) : Int := t.getD k.toNat 0
def E4 (c : i8) (x : d9) (t : List Bool) : Option Bool :=
 if x.op = 1 ∨ x.op = 11 then some false
 else if x.op = 2 then some (scB (iAt c.vars x.b))
 else if x.op = 4 then some (scB (iAt c.arrays x.b) || bAt t x.c)
 else if x.op = 6 then some (bAt t x.c || bAt t x.d)
 else if x.op = 7 then some (bAt t x.b || bAt t x.c || bAt t x.d)
 else none
def w6 (c : i8) (x : d9) (t : List Bool) : List Bool := match E4 c x t with | some b => t.set x.a.toNat b | none => t
theorem P4 (c : i8) (x : d9) (t : List Bool) : (w6 c x t).length = t.length := by unfold w6; split <;> simp
def O8 (c : i8) (x : d9) (t : List Bool) : Int :=
 if x.op = 3 then (if bAt t x.b && !scB (iAt c.vars x.a) then 1 else 0)
 else if x.op = 4 then (if bAt t x.c then 4 else 0)
 else if x.op = 5 then (if bAt t x.b then 4 else if bAt t x.c && !scB (iAt c.arrays x.a) then 1 else 0)
 else if x.op = 9 ∨ x.op = 10 then (if bAt t x.a then 3 else 0)
 else 0
def aw2 (t row : List Bool) : Bool := decide (0 < row.length) && (ca2 t.length).all fun k => !(t.getD k false && !row.getD k false)
theorem aM5 {c : i8} {x : d9} (h : J0 c x = true) :
  (x.op = 1 → 0 ≤ x.a ∧ x.a < 14) ∧ (x.op = 11 → 0 ≤ x.a ∧ x.a < 14) ∧
  (x.op = 2 → (0 ≤ x.a ∧ x.a < 14) ∧ 0 ≤ x.b ∧ x.b < c.vars.length) ∧
  (x.op = 3 → (0 ≤ x.a ∧ x.a < c.vars.length) ∧ 0 ≤ x.b ∧ x.b < 14) ∧
  (x.op = 4 → (0 ≤ x.a ∧ x.a < 14) ∧ (0 ≤ x.b ∧ x.b < c.arrays.length) ∧ 0 ≤ x.c ∧ x.c < 14) ∧
  (x.op = 5 → (0 ≤ x.a ∧ x.a < c.arrays.length) ∧ (0 ≤ x.b ∧ x.b < 14) ∧ 0 ≤ x.c ∧ x.c < 14) ∧
  (x.op = 6 → (0 ≤ x.a ∧ x.a < 14) ∧ (0 ≤ x.c ∧ x.c < 14) ∧ 0 ≤ x.d ∧ x.d < 14) ∧
  (x.op = 7 → (0 ≤ x.a ∧ x.a < 14) ∧ (0 ≤ x.b ∧ x.b < 14) ∧ (0 ≤ x.c ∧ x.c < 14) ∧ 0 ≤ x.d ∧ x.d < 14) ∧
  (x.op = 9 → 0 ≤ x.a ∧ x.a < 14) ∧ (x.op = 10 → 0 ≤ x.a ∧ x.a < 14) := by
 unfold J0 at h
 simp only [b85, decide_eq_true_eq] at h
 obtain ⟨_, ⟨⟨ha, hb⟩, hc⟩, hd⟩ := h
 refine ⟨fun e => ?_, fun e => ?_, fun e => ?_, fun e => ?_, fun e => ?_, fun e => ?_, fun e => ?_, fun e => ?_, fun e => ?_, fun e => ?_⟩
 all_goals
  rw [e] at ha hb hc hd
  simp [aa4, Z5, af8] at ha hb hc hd
  omega
def ap4 (r : List Bool) : Bool := decide (r.length = 0) || decide (r.length = 14)
def a00 (t row : List Bool) (k : Nat) : Bool := (ca2 k).all fun j => !(t.getD j false && !row.getD j false)
def rowAt (m : List (List Bool)) (i : Int) : List Bool := m.getD i.toNat []
theorem P9 {m : List (List Bool)} {i : Nat} (h : i < m.length) : rowAt m i = m[i] := by simp [rowAt, h]
def F4 (c : i8) (i : Nat) : d9 := c.list.getD i ⟨0, 0, 0, 0, 0⟩
theorem an6 {c : i8} {i : Nat} (h : i < c.list.length) : F4 c i = c.list[i] := by simp [F4, h]
def badAt (c : i8) (m : List (List Bool)) (i : Nat) : Bool := decide (0 < (rowAt m i).length) && decide (O8 c (F4 c i) (rowAt m i) ≠ 0)
def P1 (c : i8) (m : List (List Bool)) : Int × Int := match (ca2 m.length).find? (badAt c m) with | some i => (O8 c (F4 c i) (rowAt m i), (i : Int)) | none => (0, -1)
def P3 (c : i8) (m : List (List Bool)) (k : Nat) : Bool := (ca2 k).any (badAt c m)
theorem ba4 (c : i8) (m : List (List Bool)) (k : Nat) : P3 c m (k + 1) = (P3 c m k || badAt c m k) := by
 unfold P3; rw [List.range_succ, List.any_append]; simp
theorem aC2 {c : i8} {m : List (List Bool)} (h : P3 c m m.length = false) : P1 c m = (0, -1) := by
 unfold P1
 have : (ca2 m.length).find? (badAt c m) = none := by
  rw [List.find?_eq_none]
  intro x hx hb
  have := List.any_eq_false.1 h x hx
  exact this hb
 rw [this]
theorem a72 {c : i8} {m : List (List Bool)} {k : Nat} (hk : k < m.length) (h : P3 c m k = false) (hb : badAt c m k = true) : P1 c m = (O8 c (F4 c k) (rowAt m k), (k : Int)) := by
 unfold P1
 have : (ca2 m.length).find? (badAt c m) = some k := by
  rw [List.find?_range_eq_some]
  refine ⟨hb, cc6.2 hk, fun j hj => ?_⟩
  have := List.any_eq_false.1 h j (cc6.2 hj)
  simpa using this
 rw [this]
theorem a71 (c : i8) (m : List (List Bool)) : decide ((P1 c m).1 = 0) = !P3 c m m.length := by
 cases hb : P3 c m m.length
 ·rw [aC2 hb]; rfl
 ·unfold P1
  split
  ·rename_i i hi
   rw [List.find?_range_eq_some] at hi
   have := hi.1
   simp only [badAt, b85, decide_eq_true_eq] at this
   simp [this.2]
  ·rename_i hi
   rw [List.find?_eq_none] at hi
   obtain ⟨x, hx, hy⟩ := List.any_eq_true.1 hb
   exact absurd hy (hi x hx)
def ab9 (c : i8) (m : List (List Bool)) (i : Nat) : Bool := decide ((rowAt m i).length = 0) || (nx c i).all fun t => aw2 (w6 c (F4 c i) (rowAt m i)) (rowAt m t)
theorem T9 {m : List (List Bool)} (h : m.all ap4 = true) (i : Int) : (rowAt m i).length = 0 ∨ (rowAt m i).length = 14 := by
 unfold rowAt
 rcases ca8 i.toNat m.length with h1 | h1
 ·have := b93.1 h _ (ca5 h1)
  simp only [ap4, cc4, decide_eq_true_eq] at this
  simpa [h1] using this
 ·left; simp [h1]
def rle (t u : List Bool) : Prop := ∀ k : Nat, t.getD k false = true → u.getD k false = true
theorem rle.refl (t : List Bool) : rle t t := fun _ h => h
theorem rle.trans {a b c : List Bool} (h : rle a b) (g : rle b c) : rle a c := fun k x => g k (h k x)
theorem rle.antisymm {a b : List Bool} (hl : a.length = b.length) (h : rle a b) (g : rle b a) : a = b := by
 apply List.ext_getElem hl
 intro i h1 h2
 have e1 := h i
 have e2 := g i
 simp only [b90, b89 h1, b89 h2, Option.getD_some] at e1 e2
 cases ha : a[i] <;> cases hb : b[i] <;> simp_all
theorem a82 (t row : List Bool) : a00 t row t.length = true ↔ rle t row := by
 unfold a00 rle
 rw [b93]
 constructor
 ·intro h k hk
  rcases ca8 k t.length with h1 | h1
  ·have := h k (cc6.2 h1)
   rw [hk] at this
   simpa using this
  ·simp [h1] at hk
 ·intro h k _
  cases hk : t.getD k false
  ·rfl
  ·rw [h k hk]; rfl
theorem L4 (t row : List Bool) : aw2 t row = true ↔ 0 < row.length ∧ rle t row := by
 have : aw2 t row = (decide (0 < row.length) && a00 t row t.length) := rfl
 rw [this, b85, decide_eq_true_eq, a82]
theorem aa2 (t : List Bool) (a k : Nat) (b : Bool) : (t.set a b).getD k false = if k = a ∧ a < t.length then b else t.getD k false := by
 simp only [b90, List.getElem?_set]
 by_cases h : a = k
 ·subst h
  by_cases h2 : a < t.length
  ·simp [h2]
  ·simp [h2]
 ·rw [if_neg h, if_neg (fun x => h x.1.symm)]
theorem ba5 {t u : List Bool} (h : rle t u) (k : Int) : bAt t k = true → bAt u k = true := h k.toNat
theorem aQ6 {c : i8} {x : d9} {t u : List Bool} (h : rle t u) : (E4 c x t = none ∧ E4 c x u = none) ∨ ∃ p q, E4 c x t = some p ∧ E4 c x u = some q ∧ (p = true → q = true) := by
 have hb := ba5 h
 unfold E4
 by_cases h1 : x.op = 1 ∨ x.op = 11
 ·rw [if_pos h1, if_pos h1]; exact .inr ⟨_, _, rfl, rfl, id⟩
 rw [if_neg h1, if_neg h1]
 by_cases h2 : x.op = 2
 ·rw [if_pos h2, if_pos h2]; exact .inr ⟨_, _, rfl, rfl, id⟩
 rw [if_neg h2, if_neg h2]
 by_cases h4 : x.op = 4
 ·rw [if_pos h4, if_pos h4]; refine .inr ⟨_, _, rfl, rfl, fun g => ?_⟩
  simp only [cc4] at g ⊢
  rcases g with g | g
  ·exact .inl g
  ·exact .inr (hb _ g)
 rw [if_neg h4, if_neg h4]
 by_cases h6 : x.op = 6
 ·rw [if_pos h6, if_pos h6]; refine .inr ⟨_, _, rfl, rfl, fun g => ?_⟩
  simp only [cc4] at g ⊢
  rcases g with g | g
  ·exact .inl (hb _ g)
  ·exact .inr (hb _ g)
 rw [if_neg h6, if_neg h6]
 by_cases h7 : x.op = 7
 ·rw [if_pos h7, if_pos h7]; refine .inr ⟨_, _, rfl, rfl, fun g => ?_⟩
  simp only [cc4] at g ⊢
  rcases g with (g | g) | g
  ·exact .inl (.inl (hb _ g))
  ·exact .inl (.inr (hb _ g))
  ·exact .inr (hb _ g)
 rw [if_neg h7, if_neg h7]
 exact .inl ⟨rfl, rfl⟩
theorem aC7 {c : i8} {x : d9} {t u : List Bool} (hl : t.length = u.length) (h : rle t u) : rle (w6 c x t) (w6 c x u) := by
 unfold w6
 rcases aQ6 (c := c) (x := x) h with ⟨e1, e2⟩ | ⟨p, q, e1, e2, hpq⟩
 ·rw [e1, e2]; exact h
 ·rw [e1, e2]
  intro k
  rw [aa2, aa2, hl]
  split
  ·exact hpq
  ·exact h k
def mle (m p : List (List Bool)) : Prop := ∀ i : Nat, (rowAt m i).length = 0 ∨ ((rowAt p i).length ≠ 0 ∧ rle (rowAt m i) (rowAt p i))
def Z9 (c : i8) (m : List (List Bool)) : Prop := m.length = c.list.length ∧ m.all ap4 = true ∧ (rowAt m 0).length ≠ 0 ∧ ∀ i : Nat, i < m.length → ab9 c m i = true
def M6 (c : i8) (m : List (List Bool)) : Prop := Z9 c m ∧ ∀ p, Z9 c p → mle m p
theorem aY6 {c : i8} {m p : List (List Bool)} (h : M6 c m) (g : M6 c p) : m = p := by
 have h1 := h.2 p g.1
 have h2 := g.2 m h.1
 have hl : m.length = p.length := h.1.1.trans g.1.1.symm
 apply List.ext_getElem hl
 intro i hi hj
 have e1 := h1 i
 have e2 := h2 i
 have o1 := T9 h.1.2.1 i
 have o2 := T9 g.1.2.1 i
 rw [P9 hi] at e1 e2 o1
 rw [P9 hj] at e1 e2 o2
 have el : m[i].length = p[i].length := by omega
 rcases Nat.eq_zero_or_pos m[i].length with h0 | h0
 ·have e3 : p[i].length = 0 := by omega
  rw [ca3 h0, ca3 e3]
 ·rcases e1 with e1 | e1
  ·omega
  ·rcases e2 with e2 | e2
   ·omega
   ·exact rle.antisymm el e1.2 e2.2
structure Low (c : i8) (m : List (List Bool)) : Prop where
 len : m.length = c.list.length
 ok : m.all ap4 = true
 first : (rowAt m 0).length ≠ 0
 low : ∀ p, Z9 c p → mle m p
theorem Low.least {c : i8} {m : List (List Bool)} (h : Low c m) (hc : ∀ i : Nat, i < m.length → ab9 c m i = true) : M6 c m := ⟨⟨h.len, h.ok, h.first, hc⟩, h.low⟩
theorem J2 {m : List (List Bool)} {y : Nat} (r : List Bool) (i : Int) (hy : y < m.length) : rowAt (m.set y r) i = if i.toNat = y then r else rowAt m i := by
 unfold rowAt
 simp only [b90, List.getElem?_set]
 by_cases h : y = i.toNat
 ·rw [if_pos h, if_pos h.symm]; subst h; simp [hy]
 ·rw [if_neg h, if_neg (Ne.symm h)]
theorem Low.start {c : i8} (hn : 1 ≤ c.list.length) : Low c ((b82 c.list.length ([] : List Bool)).set 0 (b82 14 false)) := by
 have hl : 0 < (b82 c.list.length ([] : List Bool)).length := by rw [b87]; omega
 refine ⟨by simp, ?_, ?_, fun p hp i => ?_⟩
 ·rw [b93]
  intro r hr
  rcases List.mem_or_eq_of_mem_set hr with h | h
  ·rw [(List.mem_replicate.1 h).2]; rfl
  ·rw [h]; rfl
 ·rw [J2 _ _ hl]; simp
 ·rw [J2 _ _ hl]
  by_cases hi : i = 0
  ·subst hi
   right
   refine ⟨hp.2.2.1, fun k hk => ?_⟩
   exfalso
   rw [if_pos (by simp)] at hk
   simp only [b90, cc5] at hk
   split at hk <;> simp at hk
  ·left
   rw [if_neg (by simpa using hi)]
   unfold rowAt
   simp only [b90, cc5]
   split <;> simp
theorem Low.set {c : i8} {m : List (List Bool)} (h : Low c m) {y : Nat} (hy : y < m.length) {r : List Bool} (hr : r.length = 14) (hp : ∀ p, Z9 c p → (rowAt p y).length ≠ 0 ∧ rle r (rowAt p y)) : Low c (m.set y r) := by
 refine ⟨by simpa using h.len, ?_, ?_, fun p g i => ?_⟩
 ·rw [b93]
  intro r' hr'
  rcases List.mem_or_eq_of_mem_set hr' with h' | h'
  ·exact b93.1 h.ok _ h'
  ·rw [h']; simp [ap4, hr]
 ·rw [J2 _ _ hy]
  split
  ·omega
  ·exact h.first
 ·rw [J2 _ _ hy]
  split
  ·rename_i e
   have e : i = y := by simpa using e
   subst e
   exact .inr (hp p g)
  ·exact h.low p g i
theorem Low.after {c : i8} {m : List (List Bool)} (h : Low c m) {i : Nat} (hi : i < m.length) (h14 : (rowAt m i).length = 14) : ∀ p, Z9 c p → ∀ t ∈ nx c i, (rowAt p t).length ≠ 0 ∧ rle (w6 c (F4 c i) (rowAt m i)) (rowAt p t) := by
 intro p hp t ht
 have hpi : i < p.length := by rw [hp.1, ← h.len]; exact hi
 rcases h.low p hp i with h0 | ⟨hn, hr⟩
 ·omega
 ·have hc := hp.2.2.2 i hpi
  unfold ab9 at hc
  rw [cc4, decide_eq_true_eq] at hc
  rcases hc with hc | hc
  ·exact absurd hc hn
  ·have := b93.1 hc t ht
   rw [L4] at this
   have h2 := T9 hp.2.1 i
   exact ⟨by omega, (aC7 (by omega) hr).trans this.2⟩
def aD1 (r : List Bool) : Nat := if r.length = 0 then 15 else r.count false
def pot (m : List (List Bool)) : Nat := (m.map aD1).sum
theorem aX5 : ∀ (m : List (List Bool)) (y : Nat) (r : List Bool) (hy : y < m.length), pot (m.set y r) + aD1 m[y] = pot m + aD1 r
 | [], y, _, hy => by simp at hy
 | a :: m, 0, r, _ => by simp [pot]; omega
 | a :: m, y + 1, r, hy => by
  have := aX5 m y r (by simpa using hy)
  simp [pot] at this ⊢
  omega
theorem bS8 (m : List (List Bool)) (h : m.all ap4 = true) : pot m ≤ 15 * m.length := by
 induction m with
 | nil => simp [pot]
 | cons r m ih =>
  simp only [List.all_cons, b85] at h
  have h1 := ih h.2
  have h2 : aD1 r ≤ 15 := by
   unfold aD1
   split
   ·omega
   ·have := List.count_le_length (a := false) (l := r)
    have := h.1
    simp only [ap4, cc4, decide_eq_true_eq] at this
    omega
  simp only [pot, cc2, List.sum_cons, b84] at h1 ⊢
  omega
structure bi9 (c : i8) (m : List (List Bool)) (qs : List Int) (k : Nat) : Prop where
 low : Low c m
 q : ∀ x ∈ qs, 0 ≤ x ∧ x < c.list.length ∧ (rowAt m x).length = 14
 pend : ∀ i : Nat, i < c.list.length → ab9 c m i = true ∨ ∃ p, k ≤ p ∧ qs[p]? = some (i : Int)
 cnt : qs.length + pot m ≤ 15 * c.list.length + 1
structure bv9 (c : i8) (m : List (List Bool)) (qs : List Int) (k a : Nat) (t : List Bool) (ns : List Int) (j : Nat) : Prop where
 low : Low c m
 q : ∀ x ∈ qs, 0 ≤ x ∧ x < c.list.length ∧ (rowAt m x).length = 14
 pend : ∀ i : Nat, i < c.list.length → i ≠ a → ab9 c m i = true ∨ ∃ p, k + 1 ≤ p ∧ qs[p]? = some (i : Int)
 self : (∃ p, k + 1 ≤ p ∧ qs[p]? = some (a : Int)) ∨ (∀ y ∈ ns.take j, aw2 t (rowAt m y) = true) ∧ w6 c (F4 c a) (rowAt m a) = t
 cnt : qs.length + pot m ≤ 15 * c.list.length + 1
 bnd : ∀ p, Z9 c p → ∀ y ∈ ns, (rowAt p y).length ≠ 0 ∧ rle t (rowAt p y)
 tl : t.length = 14
theorem bi9.start {c : i8} (hn : 1 ≤ c.list.length) : bi9 c ((b82 c.list.length ([] : List Bool)).set 0 (b82 14 false)) [0] 0 := by
 have hl : 0 < (b82 c.list.length ([] : List Bool)).length := by rw [b87]; omega
 have h0 := Low.start hn
 refine ⟨h0, ?_, fun i hi => ?_, ?_⟩
 ·intro x hx
  rw [ca4.1 hx]
  refine ⟨Int.le_refl _, by omega, ?_⟩
  rw [J2 _ _ hl]; simp
 ·by_cases e : i = 0
  ·subst e; exact .inr ⟨0, b94 _, rfl⟩
  ·left
   unfold ab9
   rw [cc4, decide_eq_true_eq]
   left
   rw [J2 _ _ hl, if_neg (by simpa using e)]
   unfold rowAt
   simp only [b90, cc5]
   split <;> simp
 ·have := bS8 _ h0.ok
  simp only [b97, b87] at this
  simp only [List.length_singleton]
  omega
theorem bi9.enter {c : i8} {m : List (List Bool)} {qs : List Int} {k a : Nat} (h : bi9 c m qs k) (ha : qs[k]? = some (a : Int)) :
  (rowAt m a).length = 14 ∧ a < c.list.length ∧ bv9 c m qs k a (w6 c (F4 c a) (rowAt m a)) (nx c a) 0 := by
 have hm := h.q a (ca7 ha)
 have hl : a < m.length := by rw [h.low.len]; omega
 refine ⟨hm.2.2, by omega, h.low, h.q, fun i hi hne => ?_, .inr ⟨by simp, rfl⟩, h.cnt, ?_, by rw [P4]; exact hm.2.2⟩
 ·rcases h.pend i hi with g | ⟨p, g1, g2⟩
  ·exact .inl g
  ·refine .inr ⟨p, ?_, g2⟩
   rcases ca8 k p with g3 | g3
   ·exact g3
   ·have : p = k := by omega
    subst this
    rw [ha] at g2
    have := Option.some.inj g2
    omega
 ·exact fun p hp y hy => h.low.after hl hm.2.2 p hp y hy
theorem bv9.keep {c : i8} {m : List (List Bool)} {qs : List Int} {k a : Nat} {t : List Bool} {ns : List Int} {j : Nat} (h : bv9 c m qs k a t ns j) (hj : j < ns.length) (hc : aw2 t (rowAt m ns[j]) = true) : bv9 c m qs k a t ns (j + 1) := by
 refine ⟨h.low, h.q, h.pend, ?_, h.cnt, h.bnd, h.tl⟩
 rcases h.self with g | ⟨g1, g2⟩
 ·exact .inl g
 ·refine .inr ⟨fun y hy => ?_, g2⟩
  rw [D4 _ _ hj, ca1, ca4] at hy
  rcases hy with hy | hy
  ·exact g1 y hy
  ·rw [hy]; exact hc
theorem bv9.done {c : i8} {m : List (List Bool)} {qs : List Int} {k a : Nat} {t : List Bool} {j : Nat} (h : bv9 c m qs k a t (nx c a) j) (hj : (nx c a).length ≤ j) : bi9 c m qs (k + 1) := by
 refine ⟨h.low, h.q, fun i hi => ?_, h.cnt⟩
 by_cases e : i = a
 ·subst e
  rcases h.self with g | ⟨g1, g2⟩
  ·exact .inr g
  ·left
   rw [b98 hj] at g1
   unfold ab9
   rw [cc4]
   right
   rw [b93, g2]
   exact g1
 ·exact h.pend i hi e
theorem bi9.done {c : i8} {m : List (List Bool)} {qs : List Int} (h : bi9 c m qs qs.length) : M6 c m := by
 refine h.low.least fun i hi => ?_
 rcases h.pend i (by rw [← h.low.len]; exact hi) with g | ⟨p, g1, g2⟩
 ·exact g
 ·have := (b96.1 g2).1
  omega
structure aE3 (c : i8) (m : List (List Bool)) (p0 : Nat) (ch : Bool) (i : Nat) : Prop where
 low : Low c m
 cov : ch = false → ∀ j : Nat, j < i → ab9 c m j = true
 le : pot m ≤ p0
 lt : ch = true → pot m < p0
structure KInv (c : i8) (m : List (List Bool)) (p0 : Nat) (ch : Bool) (i : Nat) (t : List Bool) (ns : List Int) (j : Nat) : Prop where
 low : Low c m
 cov : ch = false → (∀ j : Nat, j < i → ab9 c m j = true) ∧ w6 c (F4 c i) (rowAt m i) = t ∧ ∀ y ∈ ns.take j, aw2 t (rowAt m y) = true
 le : pot m ≤ p0
 lt : ch = true → pot m < p0
 bnd : ∀ p, Z9 c p → ∀ y ∈ ns, (rowAt p y).length ≠ 0 ∧ rle t (rowAt p y)
 tl : t.length = 14
structure ax0 (c : i8) (m : List (List Bool)) (p0 : Nat) (ch : Bool) (i : Nat) (t : List Bool) (ns : List Int) (j y q : Nat) : Prop extends KInv c m p0 ch i t ns j where
 row : (rowAt m y).length = 14
 bits : ch = false → ∀ k : Nat, k < q → t.getD k false = true → (rowAt m y).getD k false = true
theorem aE3.start {c : i8} {m : List (List Bool)} (h : Low c m) : aE3 c m (pot m) false 0 := ⟨h, fun _ j hj => by omega, b94 _, fun h => by cases h⟩
theorem aE3.done {c : i8} {m : List (List Bool)} {p0 i : Nat} (h : aE3 c m p0 false i) (hi : m.length ≤ i) : M6 c m := h.low.least fun j hj => h.cov rfl j (by omega)
theorem aE3.skip {c : i8} {m : List (List Bool)} {p0 i : Nat} {ch : Bool} (h : aE3 c m p0 ch i) (h0 : (rowAt m i).length = 0) : aE3 c m p0 ch (i + 1) := by
 refine ⟨h.low, fun g j hj => ?_, h.le, h.lt⟩
 rcases ca8 j i with h1 | h1
 ·exact h.cov g j h1
 ·obtain rfl : j = i := by omega
  unfold ab9
  rw [h0]; rfl
theorem aE3.enter {c : i8} {m : List (List Bool)} {p0 i : Nat} {ch : Bool} (h : aE3 c m p0 ch i) (hi : i < m.length) (h14 : (rowAt m i).length = 14) {ns : List Int} (hns : ∀ y, y ∈ ns ↔ y ∈ nx c i) : KInv c m p0 ch i (w6 c (F4 c i) (rowAt m i)) ns 0 :=
 ⟨h.low, fun g => ⟨h.cov g, rfl, by simp⟩, h.le, h.lt, fun p hp y hy => h.low.after hi h14 p hp y ((hns y).1 hy), by rw [P4]; exact h14⟩
theorem KInv.done {c : i8} {m : List (List Bool)} {p0 i j : Nat} {ch : Bool} {t : List Bool} {ns : List Int} (h : KInv c m p0 ch i t ns j) (hj : ns.length ≤ j) (hns : ∀ y, y ∈ ns ↔ y ∈ nx c i) : aE3 c m p0 ch (i + 1) := by
 refine ⟨h.low, fun g k hk => ?_, h.le, h.lt⟩
 obtain ⟨g1, g2, g3⟩ := h.cov g
 rcases ca8 k i with h1 | h1
 ·exact g1 k h1
 ·obtain rfl : k = i := by omega
  rw [b98 hj] at g3
  unfold ab9
  rw [cc4]
  right
  rw [b93, g2]
  exact fun y hy => g3 y ((hns y).2 hy)
theorem KInv.bits {c : i8} {m : List (List Bool)} {p0 i j y : Nat} {ch : Bool} {t : List Bool} {ns : List Int} (h : KInv c m p0 ch i t ns j) (h14 : (rowAt m y).length = 14) : ax0 c m p0 ch i t ns j y 0 :=
 ⟨h, h14, fun _ k hk => by omega⟩
theorem KInv.fresh {c : i8} {m : List (List Bool)} {p0 i j y : Nat} {ch : Bool} {t : List Bool} {ns : List Int} (h : KInv c m p0 ch i t ns j) (hj : j < ns.length) (hy : ns[j] = (y : Int)) (hym : y < m.length) (h0 : (rowAt m y).length = 0) :
  ax0 c (m.set y (b82 14 false)) p0 true i t ns j y 0 := by
 have hf : ∀ k : Nat, (b82 14 false).getD k false = false := by
  intro k
  simp only [b90, cc5]
  split <;> rfl
 have hp := aX5 m y (b82 14 false) hym
 rw [← P9 hym] at hp
 have e1 : aD1 (rowAt m y) = 15 := by unfold aD1; rw [if_pos h0]
 have e2 : aD1 (b82 14 false) = 14 := by rfl
 rw [e1, e2] at hp
 have hle := h.le
 refine ⟨⟨?_, (fun g => by cases g), by omega, fun _ => by omega, h.bnd, h.tl⟩, ?_, (fun g => by cases g)⟩
 ·refine h.low.set hym (by simp) fun p hpp => ⟨(h.bnd p hpp y (by rw [← hy]; exact ca5 hj)).1, fun k hk => ?_⟩
  rw [hf k] at hk
  cases hk
 ·rw [J2 _ _ hym, if_pos (by simp)]; simp
theorem ax0.keep {c : i8} {m : List (List Bool)} {p0 i j y q : Nat} {ch : Bool} {t : List Bool} {ns : List Int} (h : ax0 c m p0 ch i t ns j y q) (hq : t.getD q false = true → (rowAt m y).getD q false = true) : ax0 c m p0 ch i t ns j y (q + 1) := by
 refine ⟨h.toKInv, h.row, fun g k hk ht => ?_⟩
 rcases ca8 k q with h1 | h1
 ·exact h.bits g k h1 ht
 ·obtain rfl : k = q := by omega
  exact hq ht
theorem ax0.put {c : i8} {m : List (List Bool)} {p0 i j y q : Nat} {ch : Bool} {t : List Bool} {ns : List Int} (h : ax0 c m p0 ch i t ns j y q) (hj : j < ns.length) (hy : ns[j] = (y : Int)) (hym : y < m.length) (hq : q < 14) (h1 : t.getD q false = true) (h0 : (rowAt m y).getD q false = false) :
  ax0 c (m.set y ((rowAt m y).set q true)) p0 true i t ns j y (q + 1) := by
 have hl := h.row
 have hp := aX5 m y ((rowAt m y).set q true) hym
 rw [← P9 hym] at hp
 have hb : (rowAt m y)[q]? = some false := by
  rw [b90] at h0
  rw [b89 (by omega)] at h0 ⊢
  simpa using h0
 have e1 : aD1 (rowAt m y) = (rowAt m y).count false := by unfold aD1; rw [if_neg (by omega)]
 have e2 : aD1 ((rowAt m y).set q true) = ((rowAt m y).set q true).count false := by unfold aD1; rw [if_neg (by rw [b97]; omega)]
 have e3 := az4 hb
 rw [e1, e2] at hp
 have hle := h.le
 refine ⟨⟨?_, (fun g => by cases g), by omega, fun _ => by omega, h.bnd, h.tl⟩, ?_, (fun g => by cases g)⟩
 ·refine h.low.set hym (by rw [b97]; exact hl) fun p hpp => ?_
  have hb := h.bnd p hpp y (by rw [← hy]; exact ca5 hj)
  refine ⟨hb.1, fun k hk => ?_⟩
  rw [aa2] at hk
  split at hk
  ·rename_i e
   rw [e.1]
   exact hb.2 q h1
  ·rcases h.low.low p hpp y with h2 | h2
   ·omega
   ·exact h2.2 k hk
 ·rw [J2 _ _ hym, if_pos (by simp), b97]; exact hl
theorem ax0.done {c : i8} {m : List (List Bool)} {p0 i j y q : Nat} {ch : Bool} {t : List Bool} {ns : List Int} (h : ax0 c m p0 ch i t ns j y q) (hj : j < ns.length) (hy : ns[j] = (y : Int)) (hq : 14 ≤ q) : KInv c m p0 ch i t ns (j + 1) := by
 refine ⟨h.low, fun g => ?_, h.le, h.lt, h.bnd, h.tl⟩
 obtain ⟨g1, g2, g3⟩ := h.cov g
 refine ⟨g1, g2, fun z hz => ?_⟩
 rw [D4 _ _ hj, ca1, ca4] at hz
 rcases hz with hz | hz
 ·exact g3 z hz
 ·rw [hz, hy, L4]
  refine ⟨by have := h.row; omega, fun k hk => ?_⟩
  rcases ca8 k 14 with h1 | h1
  ·exact h.bits g k (by omega) hk
  ·have := h.tl
   simp [show t.length ≤ k by omega] at hk
def isJ (c : i8) (x : Int) : Bool := decide ((F4 c x.toNat).op = 8)
def bF5 (c : i8) : Nat → Int → Int
 | 0, x => x
 | k + 1, x => if isJ c x = true then bF5 c k (F4 c x.toNat).a else x
def bU8 (c : i8) (t : Int) : Int := if isJ c (bF5 c c.list.length t) = true then t else bF5 c c.list.length t
def b31 (x : d9) (t : Int) : d9 := if x.op = 8 then { x with a := t } else if x.op = 9 ∨ x.op = 10 then { x with b := t } else x
def b38 (c : i8) (x : d9) : d9 := if 0 ≤ F9 x then b31 x (bU8 c (F9 x)) else x
def bX4 (c : i8) : i8 := { c with list := c.list.map (b38 c) }
end Go.Proofs.YthikdkjjdeehoaaGreat

namespace Go.Proofs.YthikdkjjdeehoaaGreat
set_option linter.unusedVariables false
set_option linter.unusedSimpArgs false
def b09 (c : i8) (i : Nat) : Bool := decide ((F4 c i).op = 8) && decide ((F4 c i).a = (i : Int) + 1)
noncomputable def kpB (c : i8) (i : Nat) : Bool := (ak2 c).getD i false && !b09 c i
noncomputable def kpL (c : i8) : List Bool := (ca2 c.list.length).map (kpB c)
noncomputable def b33 (c : i8) (k : Nat) : List Bool := (ca2 c.list.length).map fun i => (ak2 c).getD i false && !(decide (i < k) && b09 c i)
def plc (ks : List Bool) (k : Nat) : Nat := (ks.take k).count true
def trI (ks : List Bool) (x : d9) : d9 := if 0 ≤ F9 x then b31 x (plc ks (F9 x).toNat : Int) else x
def bX2 (c : i8) (ks : List Bool) (k : Nat) : List d9 := (ca2 k).flatMap fun i => if ks.getD i false = true then [trI ks (F4 c i)] else []
noncomputable def bX3 (c : i8) : i8 := { c with list := bX2 c (kpL c) c.list.length }
theorem bT6 {c : i8} {i : Nat} (h : i < c.list.length) : nx c (i : Int) = ap5 c.list[i] i := by
 have := bB3 (c := c) (t := (i : Int)) (by simpa using h)
 simpa using this
noncomputable def bT1 (c : i8) : i8 := bX3 (bX4 c)
inductive Opt : i8 → i8 → Prop
 | stop {c : i8} : bT1 c = c → Opt c c
 | step {c r : i8} : bT1 c ≠ c → Opt (bT1 c) r → Opt c r
open Classical in
noncomputable def b78 (c : i8) : Nat := 2 * c.list.length + (if bX4 c = c then 0 else 1)
open Classical in
noncomputable def b79 (c : i8) : i8 := if h : ∃ r, Opt c r then Classical.choose h else c
theorem br3 {f : Nat → List Bool} {n : Nat} {i : Int} (h : i.toNat < n) : rowAt ((ca2 n).map f) i = f i.toNat := by simp [rowAt, h]
theorem br2 {m : List (List Bool)} {i : Int} (h : m.length ≤ i.toNat) : rowAt m i = [] := by simp [rowAt, h]
noncomputable def X2 (c : i8) (i : Nat) : List Bool := open Classical in if ∀ p, Z9 c p → (rowAt p i).length ≠ 0 then (ca2 14).map fun k => decide (∀ p, Z9 c p → (rowAt p i).getD k false = true) else []
noncomputable def aL2 (c : i8) : List (List Bool) := (ca2 c.list.length).map (X2 c)
theorem aT4 (c : i8) (i : Nat) : (X2 c i).length = 0 ∨ (X2 c i).length = 14 := by
 unfold X2; split <;> simp
theorem au7 {c : i8} {i : Nat} : (X2 c i).length ≠ 0 ↔ ∀ p, Z9 c p → (rowAt p i).length ≠ 0 := by
 unfold X2; split
 ·rename_i h; simp only [List.length_map, List.length_range, ne_eq, Nat.reduceEqDiff, not_false_eq_true, true_iff]; exact h
 ·rename_i h; simp only [b86, ne_eq, not_true_eq_false, false_iff]; exact h
theorem a52 {c : i8} {i : Nat} {p : List (List Bool)} (hp : Z9 c p) : rle (X2 c i) (rowAt p i) := by
 intro k hk
 unfold X2 at hk
 split at hk
 ·rcases ca8 k 14 with h1 | h1
  ·simp [b90, h1] at hk
   exact hk p hp
  ·simp [b90, h1] at hk
 ·simp at hk
theorem bC2 {c : i8} {i : Nat} {t : List Bool} (ht : t.length = 14) (h0 : ∀ p, Z9 c p → (rowAt p i).length ≠ 0) (h : ∀ p, Z9 c p → rle t (rowAt p i)) : rle t (X2 c i) := by
 intro k hk
 have h1 : k < 14 := by
  rcases ca8 k 14 with h1 | h1
  ·exact h1
  ·rw [b90, cb3 (by omega)] at hk; simp at hk
 unfold X2
 rw [if_pos h0]
 simp [b90, h1]
 intro p hp
 have := h p hp k hk
 rwa [b90] at this
theorem bC1 {c : i8} (hc : E3 c = true) : ∃ m, M6 c m := by
 have hn := (C0 hc).2.1
 have hlen : (aL2 c).length = c.list.length := by simp [aL2]
 have hat : ∀ i : Nat, i < c.list.length → rowAt (aL2 c) i = X2 c i := fun i hi => by
  have := br3 (f := X2 c) (n := c.list.length) (i := (i : Int)) (by omega)
  simpa [aL2] using this
 have hoff : ∀ i : Nat, c.list.length ≤ i → rowAt (aL2 c) i = [] := fun i hi => br2 (by rw [hlen]; omega)
 refine ⟨aL2 c, ⟨hlen, ?_, ?_, ?_⟩, ?_⟩
 ·rw [b93]
  intro r hr
  simp only [aL2, List.mem_map, cc6] at hr
  obtain ⟨i, _, rfl⟩ := hr
  simp only [ap4, cc4, decide_eq_true_eq]
  exact aT4 c i
 ·have := hat 0 (by omega)
  rw [show ((0 : Nat) : Int) = 0 from rfl] at this
  rw [this, au7]
  exact fun p hp => hp.2.2.1
 ·intro i hi
  rw [hlen] at hi
  unfold ab9
  rw [hat i hi]
  rcases Nat.eq_zero_or_pos (X2 c i).length with h0 | h0
  ·rw [decide_eq_true h0]; rfl
  ·rw [decide_eq_false (by omega), Bool.false_or, b93]
   intro t ht
   have ho := bB2 hc (by omega) ht
   have h14 : (X2 c i).length = 14 := by have := aT4 c i; omega
   have key : ∀ p, Z9 c p → aw2 (w6 c (F4 c i) (X2 c i)) (rowAt p t) = true := by
    intro p hp
    have h1 := hp.2.2.2 i (by rw [hp.1]; exact hi)
    have hne : (rowAt p i).length ≠ 0 := au7.1 (by omega) p hp
    have h2 : (rowAt p i).length = 14 := by have := T9 hp.2.1 i; omega
    unfold ab9 at h1
    rw [decide_eq_false hne, Bool.false_or, b93] at h1
    have h3 := (L4 _ _).1 (h1 t ht)
    exact (L4 _ _).2 ⟨h3.1, (aC7 (by omega) (a52 hp)).trans h3.2⟩
   obtain ⟨y, rfl⟩ := Int.eq_ofNat_of_zero_le ho.1
   rw [hat y (by omega)]
   refine (L4 _ _).2 ⟨Nat.pos_of_ne_zero (au7.2 fun p hp => ?_), bC2 (by rw [P4]; exact h14) (fun p hp => ?_) fun p hp => ?_⟩
   ·have := ((L4 _ _).1 (key p hp)).1; omega
   ·have := ((L4 _ _).1 (key p hp)).1; omega
   ·exact ((L4 _ _).1 (key p hp)).2
 ·intro p hp i
  rcases ca8 i c.list.length with hi | hi
  ·rw [hat i hi]
   rcases Nat.eq_zero_or_pos (X2 c i).length with h0 | h0
   ·exact .inl h0
   ·exact .inr ⟨au7.1 (by omega) p hp, a52 hp⟩
  ·rw [hoff i hi]; exact .inl rfl
theorem br6 {c : i8} {x : d9} {t u : List Bool} (h : rle t u) (hu : O8 c x u = 0) : O8 c x t = 0 := by
 have hb := ba5 h
 have nb : ∀ k, bAt u k = false → bAt t k = false := fun k hk => by
  cases e : bAt t k
  ·rfl
  ·rw [hb k e] at hk; cases hk
 unfold O8 at hu ⊢
 split
 ·rename_i h3
  rw [if_pos h3] at hu
  cases e : bAt t x.b
  ·rfl
  ·rw [hb _ e] at hu; exact hu
 ·rename_i h3
  rw [if_neg h3] at hu
  split
  ·rename_i h4
   rw [if_pos h4] at hu
   cases e : bAt t x.c
   ·rfl
   ·rw [hb _ e] at hu; exact hu
  ·rename_i h4
   rw [if_neg h4] at hu
   split
   ·rename_i h5
    rw [if_pos h5] at hu
    cases e : bAt u x.b
    ·rw [nb _ e]
     rw [e] at hu
     cases e2 : bAt t x.c
     ·rfl
     ·rw [hb _ e2] at hu; exact hu
    ·rw [e] at hu; simp at hu
   ·rename_i h5
    rw [if_neg h5] at hu
    split
    ·rename_i h9
     rw [if_pos h9] at hu
     cases e : bAt t x.a
     ·rfl
     ·rw [hb _ e] at hu; exact hu
    ·rfl
theorem ar9 {c : i8} {m : List (List Bool)} : P3 c m m.length = false ↔ ∀ i : Nat, i < m.length → (rowAt m i).length = 0 ∨ O8 c (F4 c i) (rowAt m i) = 0 := by
 unfold P3
 rw [Bool.eq_false_iff, ne_eq, List.any_eq_true]
 constructor
 ·intro h i hi
  rcases Nat.eq_zero_or_pos (rowAt m i).length with h0 | h0
  ·exact .inl h0
  ·right
   by_cases e : O8 c (F4 c i) (rowAt m i) = 0
   ·exact e
   ·exact absurd ⟨i, cc6.2 hi, by unfold badAt; rw [decide_eq_true h0, decide_eq_true e]; rfl⟩ h
 ·rintro h ⟨i, hi, hb⟩
  simp only [badAt, b85, decide_eq_true_eq] at hb
  rcases h i (cc6.1 hi) with h1 | h1
  ·omega
  ·exact hb.2 h1
theorem aN4 {c : i8} {m : List (List Bool)} : (P1 c m).1 = 0 ↔ P3 c m m.length = false := by
 have h := a71 c m
 constructor
 ·intro e
  rw [decide_eq_true e] at h
  simpa using h.symm
 ·intro e
  rw [e] at h
  simpa using h
def Vf (c : i8) : Prop := ∃ p, Z9 c p ∧ P3 c p p.length = false
theorem bw6 {c : i8} {m : List (List Bool)} (hm : M6 c m) : (P1 c m).1 = 0 ↔ Vf c := by
 constructor
 ·intro h; exact ⟨m, hm.1, aN4.1 h⟩
 ·rintro ⟨p, hp, hb⟩
  refine aN4.2 (ar9.2 fun i hi => ?_)
  rcases hm.2 p hp i with h0 | ⟨h0, h1⟩
  ·exact .inl h0
  ·rcases ar9.1 hb i (by rw [hp.1, ← hm.1.1]; exact hi) with h4 | h4
   ·omega
   ·exact .inr (br6 h1 h4)
end Go.Proofs.YthikdkjjdeehoaaGreat

namespace Go.Proofs.YthikdkjjdeehoaaGreat
set_option linter.unusedVariables false
set_option linter.unusedSimpArgs false
open Go Go.RowKit
def ad9 (vs ars : List Int) (e : d7) : Int := if e.kind = 2 then vs.getD e.value.toNat 0 else if e.kind = 3 then ars.getD e.value.toNat 0 else 0
def n5 (vs ars : List Int) : Nat → d7 → Int
 | 0, _ => 0
 | d + 1, e => e.kids.foldl (fun a k => r8 a (n5 vs ars d k)) (ad9 vs ars e)
def D0 (vs ars : List Int) (d : Nat) (x : Int) (ks : List d7) (k : Nat) : Int := (ks.take k).foldl (fun a k => r8 a (n5 vs ars d k)) x
theorem Y6 {vs ars : List Int} {d k : Nat} {x : Int} {ks : List d7} (h : k < ks.length) : D0 vs ars d x ks (k + 1) = r8 (D0 vs ars d x ks k) (n5 vs ars d (ks.getD k b81)) := by
 unfold D0; rw [D4 ks k h, List.foldl_append, p6 h]; rfl
theorem ae1 {vs ars : List Int} {d k : Nat} {x : Int} {e : d7} (h : e.kids.length ≤ k) (hx : ad9 vs ars e = x) : n5 vs ars (d + 1) e = D0 vs ars d x e.kids k := by
 unfold D0; rw [b98 h, n5, hx]
section
variable {nv na d : Nat} {e : d7}
theorem aW6 (h : m6 nv na (d + 1) e = true) : C2 nv na e = true := by simp only [m6, b85] at h; exact h.1.1
theorem ay2 (h : m6 nv na (d + 1) e = true) (k : e.kind = 2) : 0 ≤ e.value ∧ e.value < nv ∧ e.value.toNat < nv := by
 have := aW6 h
 simp [C2, N6, k] at this; omega
theorem ay3 (h : m6 nv na (d + 1) e = true) (k : e.kind = 3) : 0 ≤ e.value ∧ e.value < na ∧ e.value.toNat < na := by
 have := aW6 h
 simp [C2, N6, k] at this; omega
theorem ac5 {k : Nat} (h : m6 nv na (d + 1) e = true) (hk : k < e.kids.length) : m6 nv na d (e.kids.getD k b81) = true := by
 simp only [m6, b85] at h
 rw [p6 hk]; exact b93.1 h.1.2 _ (ca5 hk)
theorem aW7 (h : m6 nv na (d + 1) e = true) (k : e.kind = 3) : 0 < e.kids.length := by
 have := aW6 h
 simp [C2, o0, k] at this; omega
end
theorem an4 {x : Int} (h : i5 x = true) : x = 0 ∨ x = 1 ∨ x = 2 ∨ x = 3 := by simp [i5] at h; omega
theorem ad2 (l : Int) : m7.ok Tryz.prog (N1 158 [iA l] [] (bA (i5 l && decide (l % 2 = 1)))) := by
 refine H8 10 Tryz.func158 [] [(0, iA l)] fun G => ?_; refine wp_seq (l8 G i7 [(2, bA false)] fun G => b0 (wp_seq ?_)); cases h0 : (i5 l)
 ·refine l8 G (B8 ⟨[(1, _, [])], [(i5 l, false)], [(3, 0), (4, 0), (5, 0), (1006, 0)]⟩ (b9 (D2 l) d8) ⟨(by assumption), b91⟩) [] fun G => b0 (wp_ret ?_); exact Q9 G []
 ·refine l8 G (B8 ⟨[(1, _, [])], [(i5 l, true)], [(3, 0), (4, 0), (5, 0), (1006, 0)]⟩ (b9 (D2 l) d8) ⟨(by assumption), b91⟩) [(2, bA (ba9 l 1 == 1))] fun G => b0 (wp_ret ?_); exact H6 (ba9 l 1 == 1) G [] (by rcases an4 h0 with rfl | rfl | rfl | rfl <;> kernel_rfl)
theorem L5 (l : Int) : m7.ok Tryz.prog (N1 142 [iA l] [] (bA (i5 l && decide (l % 2 = 1)))) := by
 refine H8 10 Tryz.func142 [] [(0, iA l)] fun G => ?_; refine wp_seq (l8 G i7 [(2, bA false)] fun G => b0 (wp_seq ?_)); cases h0 : (i5 l)
 ·refine l8 G (B8 ⟨[(1, _, [])], [(i5 l, false)], [(3, 0), (4, 0), (5, 0), (1006, 0)]⟩ (b9 (U5 l) d8) ⟨(by assumption), b91⟩) [] fun G => b0 (wp_ret ?_); exact Q9 G []
 ·refine l8 G (B8 ⟨[(1, _, [])], [(i5 l, true)], [(3, 0), (4, 0), (5, 0), (1006, 0)]⟩ (b9 (U5 l) d8) ⟨(by assumption), b91⟩) [(2, bA (ba9 l 1 != 0))] fun G => b0 (wp_ret ?_); exact H6 (ba9 l 1 != 0) G [] (by rcases an4 h0 with rfl | rfl | rfl | rfl <;> kernel_rfl)
theorem am3 (l : Int) : m7.ok Tryz.prog (N1 256 [iA l] [] (bA (i5 l && decide (l ≤ 1)))) := by
 refine H8 10 Tryz.func256 [] [(0, iA l)] fun G => ?_; refine wp_seq (l8 G i7 [(2, bA false)] fun G => b0 (wp_seq ?_)); cases h0 : (i5 l)
 ·refine l8 G (B8 ⟨[(1, _, [])], [(i5 l, false)], [(3, 0), (4, 0), (5, 0), (1006, 0)]⟩ (b9 (D2 l) d8) ⟨(by assumption), b91⟩) [] fun G => b0 (wp_ret ?_); exact Q9 G []
 ·refine l8 G (B8 ⟨[(1, _, [])], [(i5 l, true)], [(3, 0), (4, 0), (5, 0), (1006, 0)]⟩ (b9 (D2 l) d8) ⟨(by assumption), b91⟩) [(2, bA (ba9 l 2 == 0))] fun G => b0 (wp_ret ?_); exact H6 (ba9 l 2 == 0) G [] (by rcases an4 h0 with rfl | rfl | rfl | rfl <;> kernel_rfl)
theorem ai1 (l : Int) : m7.ok Tryz.prog (N1 140 [iA l] [] (bA (i5 l && decide (l ≤ 1)))) := by
 refine H8 10 Tryz.func140 [] [(0, iA l)] fun G => ?_; refine wp_seq (l8 G i7 [(2, bA false)] fun G => b0 (wp_seq ?_)); cases h0 : (i5 l)
 ·refine l8 G (B8 ⟨[(1, _, [])], [(i5 l, false)], [(3, 0), (4, 0), (5, 0), (1006, 0)]⟩ (b9 (U5 l) d8) ⟨(by assumption), b91⟩) [] fun G => b0 (wp_ret ?_); exact Q9 G []
 ·refine l8 G (B8 ⟨[(1, _, [])], [(i5 l, true)], [(3, 0), (4, 0), (5, 0), (1006, 0)]⟩ (b9 (U5 l) d8) ⟨(by assumption), b91⟩) [(2, bA (ba9 l 2 == 0))] fun G => b0 (wp_ret ?_); exact H6 (ba9 l 2 == 0) G [] (by rcases an4 h0 with rfl | rfl | rfl | rfl <;> kernel_rfl)
theorem aw7 (x y : Int) : m7.ok Tryz.prog (N1 255 [iA x, iA y] [] (bA (i5 x && i5 y && (r8 x y == y)))) := by
  refine H8 18 Tryz.func255 [] [(0, iA x), (1, iA y)] fun G => ?_; refine wp_seq (l8 G i7 [(4, bA false)] fun G => b0 (wp_seq ?_)); cases h0 : (i5 x)
  · refine l8 G (B8 ⟨[(1, _, [])], [(i5 x, false), (false, false)], us [(3, 4, 0), (1005, 1005, 0), (7, 11, 1), (1012, 1012, 1)]⟩ (b9 (D2 x) d8) ⟨(by assumption), (by kernel_rfl), b91⟩) [] fun G => b0 (wp_ret ?_); exact Q9 G []
  ·
   cases h1 : (i5 y)
   · refine l8 G (B8 ⟨[(1, _, []), (4, _, [])], [(i5 x, true), (i5 y, false)], us [(3, 4, 0), (1005, 1005, 0), (7, 11, 1), (1012, 1012, 1)]⟩ (b9 (D2 x) (b9 (D2 y) d8)) ⟨(by assumption), (by assumption), b91⟩) [] fun G => b0 (wp_ret ?_); exact Q9 G []
   · refine l8 G (B8 ⟨[(1, _, []), (4, _, [])], [(i5 x, true), (i5 y, true)], us [(3, 4, 0), (1005, 1005, 0), (7, 11, 1), (1012, 1012, 1)]⟩ (b9 (D2 x) (b9 (D2 y) d8)) ⟨(by assumption), (by assumption), b91⟩) [(4, bA (r8 x y == y))] fun G => b0 (wp_ret ?_); exact Q9 G []
theorem bt1 : ∀ x : Fin 4, ∀ y : Fin 4, (anI x.val y.val == 0) = (r8 x.val y.val == (y.val : Int)) := by decide +kernel
theorem G3 {x : Int} (h : i5 x = true) : ∃ a : Fin 4, x = (a.val : Int) := by
 simp [i5] at h
 exact ⟨⟨x.toNat, by omega⟩, by simp; omega⟩
theorem a67 {x y : Int} (hx : i5 x = true) (hy : i5 y = true) : (anI x y == 0) = (r8 x y == y) := by
 obtain ⟨a, rfl⟩ := G3 hx
 obtain ⟨b, rfl⟩ := G3 hy
 exact bt1 a b
theorem bp4 (x y : Int) : m7.ok Tryz.prog (N1 138 [iA x, iA y] [] (bA (anI x y == 0))) := by
 refine H8 9 Tryz.func138 [] [(0, iA x), (1, iA y)] fun G => ?_; refine wp_seq (l8 G i7 [(4, bA false)] fun G => b0 (wp_seq (l8 G i7 [(4, bA (anI x y == 0))] fun G => b0 (wp_ret ?_)))); exact Q9 G []
theorem bh7 (p : f7) (d : Nat) (ih : ∀ (e : d7), m6 p.vars.length p.arrays.length d e = true → m7.ok Tryz.prog (N1 159 [pA 0, eA e 3] (pS p ++ eS e) (iA (n5 p.vars p.arrays d e))))
    (e : d7) (he : m6 p.vars.length p.arrays.length (d + 1) e = true) : m7.ok Tryz.prog (N1 159 [pA 0, eA e 3] (pS p ++ eS e) (iA (n5 p.vars p.arrays (d + 1) e))) := by
  refine H8 42 Tryz.func159 [dI p.vars, dI p.arrays, dT p.body, dE e.kids] [(0, pA 0), (1, eA e 3)] fun G => ?_; refine wp_seq (m5 G i7 [0, 1, 2, 3, 4, 12] [dI p.vars, dI p.arrays, dT p.body, dE e.kids, .box (pL 0), .box (eL e 3)] [(2, .ptr 4 0), (3, .ptr 5 0), (4, iA 0)] fun G => b0 (wp_seq (l8 G i7 [(5, iA 0)] fun G => b0 (wp_seq (wp_seq (l8 G i7 [(8, iA e.kind)] fun G => b0 (wp_block (wp_seq (l8 G i7 [(9, bA (e.kind == 2))] fun G => b0 (T1 G (fun h0 q0 => ?_) fun h0 q0 => ?_))))))))))
  ·
   refine wp_seq (l8 G i7 [(17, bA (e.kind == 3))] fun G => b0 (T1 G (fun h1 q1 => ?_) fun h1 q1 => ?_))
   ·
    refine wp_skip (r7 (b0 (wp_seq (wp_seq (K8 G i7 [(2, .ptr 4 0), (3, .ptr 5 0), (4, iA 0), (5, iA 0), (6, iA 0)] fun G => b0 (wp_block ?_)))))); refine y9 (κ := Nat) (fun k => k ≤ e.kids.length) (fun k => e.kids.length - k) (fun k => [dI p.vars, dI p.arrays, dT p.body, dE e.kids, .box (pL 0), .box (eL e 3)]) (fun k => [(2, .ptr 4 0), (3, .ptr 5 0), (4, iA 0), (5, iA (D0 p.vars p.arrays d 0 e.kids k)), (6, iA k)]) 0 (by simp [he, h0, h1]) (x8.at G _ _) ?_; clear G; intro k ρ a w hp G; have hlen : e.kids.length ≤ 9223372036854775807 := G.len 3 (d := .exprs e.kids) (by kernel_rfl); refine wp_seq (wp_seq (K8 G i7 [(2, .ptr 4 0), (3, .ptr 5 0), (4, iA 0), (5, iA (D0 p.vars p.arrays d 0 e.kids k)), (6, iA k), (29, bA (decide ((k : Int) < e.kids.length)))] fun G => b0 (rcD G (fun h2 q2 => ?_) fun h2 q2 => ?_)))
    · refine wp_exit (y7 (y7 (y6 (b0 (wp_seq (m5 G i7 (rg 4) [dI p.vars, dI p.arrays, dT p.body, dE e.kids] [(4, iA (D0 p.vars p.arrays d 0 e.kids k))] fun G => b0 (wp_ret ?_))))))); exact P7 (D0 p.vars p.arrays d 0 e.kids k) G (rg 4) (ae1 (by omega) (by simp [ad9, h0, q0, h1, q1, h2, q2]; done))
    · refine wp_skip (b0 (wp_seq (wp_block (aD2 G (t5 7 [0, 1, 2, 54] (ih (e.kids.getD k b81) (ac5 he (by omega)))) [0, 0, 0, 4, 0, 28, 60, 126, 255, 511] [(5, iA (r8 (D0 p.vars p.arrays d 0 e.kids k) (n5 p.vars p.arrays d (e.kids.getD k b81))))] (iX k k e.kids.length []) (iK (by omega) b91) fun G => r7 (b0 (K7 G i7 [(6, iA ((k : Int) + 1))] [wO ((k : Int) + 1)] (o1 (by omega)) fun G => b0 ?_)))))); exact rxn G (k + 1) (by omega) (by omega) (rg 6) (ht := by have e1 : (D0 p.vars p.arrays d 0 e.kids (k + 1) : Int) = (r8 (D0 p.vars p.arrays d 0 e.kids k) (n5 p.vars p.arrays d (e.kids.getD k b81))) := (Y6 (by omega)); (first | rw [e1] | simp only [e1]) <;> rfl)
   ·
    refine K7 G i7 [(5, iA (p.arrays.getD e.value.toNat 0))] [(0 : Int) ≤ e.value, e.value < (p.arrays.length : Int), e.value.toNat < p.arrays.length] ⟨((ay3 he (by assumption)).1), ((ay3 he (by assumption)).2.1), ((ay3 he (by assumption)).2.2), b91⟩ fun G => r7 (b0 (wp_seq (wp_seq (K8 G i7 [(2, .ptr 4 0), (3, .ptr 5 0), (4, iA 0), (5, iA (p.arrays.getD e.value.toNat 0)), (6, iA 0)] fun G => b0 (wp_block ?_))))); refine y9 (κ := Nat) (fun k => k ≤ e.kids.length) (fun k => e.kids.length - k) (fun k => [dI p.vars, dI p.arrays, dT p.body, dE e.kids, .box (pL 0), .box (eL e 3)]) (fun k => [(2, .ptr 4 0), (3, .ptr 5 0), (4, iA 0), (5, iA (D0 p.vars p.arrays d (p.arrays.getD e.value.toNat 0) e.kids k)), (6, iA k)]) 0 (by simp [he, h0, h1]) (x8.at G _ _) ?_; clear G; intro k ρ a w hp G; have hlen : e.kids.length ≤ 9223372036854775807 := G.len 3 (d := .exprs e.kids) (by kernel_rfl); refine wp_seq (wp_seq (K8 G i7 [(2, .ptr 4 0), (3, .ptr 5 0), (4, iA 0), (5, iA (D0 p.vars p.arrays d (p.arrays.getD e.value.toNat 0) e.kids k)), (6, iA k), (29, bA (decide ((k : Int) < e.kids.length)))] fun G => b0 (rcD G (fun h3 q3 => ?_) fun h3 q3 => ?_)))
    · refine wp_exit (y7 (y7 (y6 (b0 (wp_seq (m5 G i7 (rg 4) [dI p.vars, dI p.arrays, dT p.body, dE e.kids] [(4, iA (D0 p.vars p.arrays d (p.arrays.getD e.value.toNat 0) e.kids k))] fun G => b0 (wp_ret ?_))))))); exact P7 (D0 p.vars p.arrays d (p.arrays.getD e.value.toNat 0) e.kids k) G (rg 4) (ae1 (by omega) (by simp [ad9, h0, q0, h1, q1, h3, q3]; done))
    · refine wp_skip (b0 (wp_seq (wp_block (aD2 G (t5 7 [0, 1, 2, 54] (ih (e.kids.getD k b81) (ac5 he (by omega)))) [0, 0, 0, 4, 0, 28, 60, 126, 255, 511] [(5, iA (r8 (D0 p.vars p.arrays d (p.arrays.getD e.value.toNat 0) e.kids k) (n5 p.vars p.arrays d (e.kids.getD k b81))))] (iX k k e.kids.length []) (iK (by omega) b91) fun G => r7 (b0 (K7 G i7 [(6, iA ((k : Int) + 1))] [wO ((k : Int) + 1)] (o1 (by omega)) fun G => b0 ?_)))))); exact rxn G (k + 1) (by omega) (by omega) (rg 6) (ht := by have e1 : (D0 p.vars p.arrays d (p.arrays.getD e.value.toNat 0) e.kids (k + 1) : Int) = (r8 (D0 p.vars p.arrays d (p.arrays.getD e.value.toNat 0) e.kids k) (n5 p.vars p.arrays d (e.kids.getD k b81))) := (Y6 (by omega)); (first | rw [e1] | simp only [e1]) <;> rfl)
  ·
   refine K7 G i7 [(5, iA (p.vars.getD e.value.toNat 0))] [(0 : Int) ≤ e.value, e.value < (p.vars.length : Int), e.value.toNat < p.vars.length] ⟨((ay2 he (by assumption)).1), ((ay2 he (by assumption)).2.1), ((ay2 he (by assumption)).2.2), b91⟩ fun G => r7 (b0 (wp_seq (wp_seq (K8 G i7 [(2, .ptr 4 0), (3, .ptr 5 0), (4, iA 0), (5, iA (p.vars.getD e.value.toNat 0)), (6, iA 0)] fun G => b0 (wp_block ?_))))); refine y9 (κ := Nat) (fun k => k ≤ e.kids.length) (fun k => e.kids.length - k) (fun k => [dI p.vars, dI p.arrays, dT p.body, dE e.kids, .box (pL 0), .box (eL e 3)]) (fun k => [(2, .ptr 4 0), (3, .ptr 5 0), (4, iA 0), (5, iA (D0 p.vars p.arrays d (p.vars.getD e.value.toNat 0) e.kids k)), (6, iA k)]) 0 (by simp [he, h0]) (x8.at G _ _) ?_; clear G; intro k ρ a w hp G; have hlen : e.kids.length ≤ 9223372036854775807 := G.len 3 (d := .exprs e.kids) (by kernel_rfl); refine wp_seq (wp_seq (K8 G i7 [(2, .ptr 4 0), (3, .ptr 5 0), (4, iA 0), (5, iA (D0 p.vars p.arrays d (p.vars.getD e.value.toNat 0) e.kids k)), (6, iA k), (29, bA (decide ((k : Int) < e.kids.length)))] fun G => b0 (rcD G (fun h4 q4 => ?_) fun h4 q4 => ?_)))
   · refine wp_exit (y7 (y7 (y6 (b0 (wp_seq (m5 G i7 (rg 4) [dI p.vars, dI p.arrays, dT p.body, dE e.kids] [(4, iA (D0 p.vars p.arrays d (p.vars.getD e.value.toNat 0) e.kids k))] fun G => b0 (wp_ret ?_))))))); exact P7 (D0 p.vars p.arrays d (p.vars.getD e.value.toNat 0) e.kids k) G (rg 4) (ae1 (by omega) (by simp [ad9, h0, q0, h4, q4]; done))
   · refine wp_skip (b0 (wp_seq (wp_block (aD2 G (t5 7 [0, 1, 2, 54] (ih (e.kids.getD k b81) (ac5 he (by omega)))) [0, 0, 0, 4, 0, 28, 60, 126, 255, 511] [(5, iA (r8 (D0 p.vars p.arrays d (p.vars.getD e.value.toNat 0) e.kids k) (n5 p.vars p.arrays d (e.kids.getD k b81))))] (iX k k e.kids.length []) (iK (by omega) b91) fun G => r7 (b0 (K7 G i7 [(6, iA ((k : Int) + 1))] [wO ((k : Int) + 1)] (o1 (by omega)) fun G => b0 ?_)))))); exact rxn G (k + 1) (by omega) (by omega) (rg 6) (ht := by have e1 : (D0 p.vars p.arrays d (p.vars.getD e.value.toNat 0) e.kids (k + 1) : Int) = (r8 (D0 p.vars p.arrays d (p.vars.getD e.value.toNat 0) e.kids k) (n5 p.vars p.arrays d (e.kids.getD k b81))) := (Y6 (by omega)); (first | rw [e1] | simp only [e1]) <;> rfl)
abbrev as5 (e : d7) (k : Nat) (r0 : List (Nat × AV)) : List (Nat × AV) := (27, .ref 3) :: (28, iA (e.kids.length : Int)) :: (29, iA (k : Int)) :: r0
abbrev aa7 (p : f7) (e : d7) (r0 : List It) : List It := dI p.vars :: dI p.arrays :: dT p.body :: dE e.kids :: r0
theorem bG1 (p : f7) (d : Nat) (ih : ∀ (e : d7), m6 p.vars.length p.arrays.length d e = true → m7.ok Tryz.prog (N1 141 [pA 0, eA e 3] (pS p ++ eS e) (iA (n5 p.vars p.arrays d e))))
    (e : d7) (he : m6 p.vars.length p.arrays.length (d + 1) e = true) : m7.ok Tryz.prog (N1 141 [pA 0, eA e 3] (pS p ++ eS e) (iA (n5 p.vars p.arrays (d + 1) e))) := by
  refine H8 40 Tryz.func141 (aa7 p e []) [(0, pA 0), (1, eA e 3)] fun G => ?_; refine wp_seq (m5 G i7 [0, 1, 2, 3, 4, 12] (aa7 p e [.box (pL 0), .box (eL e 3)]) [(2, .ptr 4 0), (3, .ptr 5 0), (4, iA 0)] fun G => b0 (wp_seq (l8 G i7 [(5, iA 0)] fun G => b0 (wp_seq (wp_seq (l8 G i7 [(9, iA e.kind)] fun G => b0 (wp_block (wp_seq (l8 G i7 [(10, bA (e.kind == 2))] fun G => b0 (T1 G (fun h0 q0 => ?_) fun h0 q0 => ?_))))))))))
  ·
   refine wp_seq (l8 G i7 [(18, bA (e.kind == 3))] fun G => b0 (T1 G (fun h1 q1 => ?_) fun h1 q1 => ?_))
   ·
    refine wp_skip (r7 (b0 (wp_seq (wp_seq (m5 G i7 (rg 5) (aa7 p e [.box (pL 0)]) [(2, .ptr 4 0), (4, iA 0), (5, iA 0), (27, .ref 3), (28, iA (e.kids.length : Int)), (29, iA 0)] fun G => b0 (wp_block ?_)))))); refine y9 (κ := Nat) (fun k => k ≤ e.kids.length) (fun k => e.kids.length - k) (fun k => [dI p.vars, dI p.arrays, dT p.body, dE e.kids, .box (pL 0)]) (fun k => [(2, .ptr 4 0), (4, iA 0), (5, iA (D0 p.vars p.arrays d 0 e.kids k)), (27, .ref 3), (28, iA (e.kids.length : Int)), (29, iA k)]) 0 (by simp [he, h0, h1]) (x8.at G _ _) ?_; clear G; intro k ρ a w hp G; have hlen : e.kids.length ≤ 9223372036854775807 := G.len 3 (d := .exprs e.kids) (by kernel_rfl); refine wp_seq (K8 G i7 ((2, .ptr 4 0) :: (4, iA 0) :: (5, iA (D0 p.vars p.arrays d 0 e.kids k)) :: (as5 e k [(30, bA (decide ((k : Int) < e.kids.length)))])) fun G => b0 (wp_seq (rcD G (fun h2 q2 => ?_) fun h2 q2 => ?_)))
    · refine wp_exit (y7 (y7 (y6 (b0 (wp_seq (m5 G i7 (rg 4) (aa7 p e []) [(4, iA (D0 p.vars p.arrays d 0 e.kids k))] fun G => b0 (wp_ret ?_))))))); exact P7 (D0 p.vars p.arrays d 0 e.kids k) G (rg 4) (ae1 (by omega) (by simp [ad9, h0, q0, h1, q1, h2, q2]; done))
    · refine wp_skip (b0 (wp_seq (wp_block (wp_seq (U0 G i7 [0, 1, 2, 3, 4, 13, 21] (aa7 p e [.box (pL 0), dE (e.kids.getD k b81).kids, .box (eL (e.kids.getD k b81) 5)]) ((2, .ptr 4 0) :: (4, iA 0) :: (5, iA (D0 p.vars p.arrays d 0 e.kids k)) :: (7, .ptr 6 0) :: (as5 e k [])) (iX k k e.kids.length []) (iK (by omega) b91) fun G => b0 (m5 G (t5 3 [0, 1, 2, 5] (ih (e.kids.getD k b81) (ac5 he (by omega)))) (rg 5) (aa7 p e [.box (pL 0)]) ((2, .ptr 4 0) :: (4, iA 0) :: (5, iA (r8 (D0 p.vars p.arrays d 0 e.kids k) (n5 p.vars p.arrays d (e.kids.getD k b81)))) :: (as5 e k [])) fun G => r7 (b0 (K7 G i7 [(29, iA ((k : Int) + 1))] [wO ((k : Int) + 1)] (o1 (by omega)) fun G => b0 ?_)))))))); exact rxn G (k + 1) (by omega) (by omega) (rg 5) (ht := by have e1 : (D0 p.vars p.arrays d 0 e.kids (k + 1) : Int) = (r8 (D0 p.vars p.arrays d 0 e.kids k) (n5 p.vars p.arrays d (e.kids.getD k b81))) := (Y6 (by omega)); (first | rw [e1] | simp only [e1]) <;> rfl)
   ·
    refine K7 G i7 [(5, iA (p.arrays.getD e.value.toNat 0))] [(0 : Int) ≤ e.value, e.value < (p.arrays.length : Int), e.value.toNat < p.arrays.length] ⟨((ay3 he (by assumption)).1), ((ay3 he (by assumption)).2.1), ((ay3 he (by assumption)).2.2), b91⟩ fun G => r7 (b0 (wp_seq (wp_seq (m5 G i7 (rg 5) (aa7 p e [.box (pL 0)]) [(2, .ptr 4 0), (4, iA 0), (5, iA (p.arrays.getD e.value.toNat 0)), (27, .ref 3), (28, iA (e.kids.length : Int)), (29, iA 0)] fun G => b0 (wp_block ?_))))); refine y9 (κ := Nat) (fun k => k ≤ e.kids.length) (fun k => e.kids.length - k) (fun k => [dI p.vars, dI p.arrays, dT p.body, dE e.kids, .box (pL 0)]) (fun k => [(2, .ptr 4 0), (4, iA 0), (5, iA (D0 p.vars p.arrays d (p.arrays.getD e.value.toNat 0) e.kids k)), (27, .ref 3), (28, iA (e.kids.length : Int)), (29, iA k)]) 0 (by simp [he, h0, h1]) (x8.at G _ _) ?_; clear G; intro k ρ a w hp G; have hlen : e.kids.length ≤ 9223372036854775807 := G.len 3 (d := .exprs e.kids) (by kernel_rfl); refine wp_seq (K8 G i7 ((2, .ptr 4 0) :: (4, iA 0) :: (5, iA (D0 p.vars p.arrays d (p.arrays.getD e.value.toNat 0) e.kids k)) :: (as5 e k [(30, bA (decide ((k : Int) < e.kids.length)))])) fun G => b0 (wp_seq (rcD G (fun h3 q3 => ?_) fun h3 q3 => ?_)))
    · refine wp_exit (y7 (y7 (y6 (b0 (wp_seq (m5 G i7 (rg 4) (aa7 p e []) [(4, iA (D0 p.vars p.arrays d (p.arrays.getD e.value.toNat 0) e.kids k))] fun G => b0 (wp_ret ?_))))))); exact P7 (D0 p.vars p.arrays d (p.arrays.getD e.value.toNat 0) e.kids k) G (rg 4) (ae1 (by omega) (by simp [ad9, h0, q0, h1, q1, h3, q3]; done))
    · refine wp_skip (b0 (wp_seq (wp_block (wp_seq (U0 G i7 [0, 1, 2, 3, 4, 13, 21] (aa7 p e [.box (pL 0), dE (e.kids.getD k b81).kids, .box (eL (e.kids.getD k b81) 5)]) ((2, .ptr 4 0) :: (4, iA 0) :: (5, iA (D0 p.vars p.arrays d (p.arrays.getD e.value.toNat 0) e.kids k)) :: (7, .ptr 6 0) :: (as5 e k [])) (iX k k e.kids.length []) (iK (by omega) b91) fun G => b0 (m5 G (t5 3 [0, 1, 2, 5] (ih (e.kids.getD k b81) (ac5 he (by omega)))) (rg 5) (aa7 p e [.box (pL 0)]) ((2, .ptr 4 0) :: (4, iA 0) :: (5, iA (r8 (D0 p.vars p.arrays d (p.arrays.getD e.value.toNat 0) e.kids k) (n5 p.vars p.arrays d (e.kids.getD k b81)))) :: (as5 e k [])) fun G => r7 (b0 (K7 G i7 [(29, iA ((k : Int) + 1))] [wO ((k : Int) + 1)] (o1 (by omega)) fun G => b0 ?_)))))))); exact rxn G (k + 1) (by omega) (by omega) (rg 5) (ht := by have e1 : (D0 p.vars p.arrays d (p.arrays.getD e.value.toNat 0) e.kids (k + 1) : Int) = (r8 (D0 p.vars p.arrays d (p.arrays.getD e.value.toNat 0) e.kids k) (n5 p.vars p.arrays d (e.kids.getD k b81))) := (Y6 (by omega)); (first | rw [e1] | simp only [e1]) <;> rfl)
  ·
   refine K7 G i7 [(5, iA (p.vars.getD e.value.toNat 0))] [(0 : Int) ≤ e.value, e.value < (p.vars.length : Int), e.value.toNat < p.vars.length] ⟨((ay2 he (by assumption)).1), ((ay2 he (by assumption)).2.1), ((ay2 he (by assumption)).2.2), b91⟩ fun G => r7 (b0 (wp_seq (wp_seq (m5 G i7 (rg 5) (aa7 p e [.box (pL 0)]) [(2, .ptr 4 0), (4, iA 0), (5, iA (p.vars.getD e.value.toNat 0)), (27, .ref 3), (28, iA (e.kids.length : Int)), (29, iA 0)] fun G => b0 (wp_block ?_))))); refine y9 (κ := Nat) (fun k => k ≤ e.kids.length) (fun k => e.kids.length - k) (fun k => [dI p.vars, dI p.arrays, dT p.body, dE e.kids, .box (pL 0)]) (fun k => [(2, .ptr 4 0), (4, iA 0), (5, iA (D0 p.vars p.arrays d (p.vars.getD e.value.toNat 0) e.kids k)), (27, .ref 3), (28, iA (e.kids.length : Int)), (29, iA k)]) 0 (by simp [he, h0]) (x8.at G _ _) ?_; clear G; intro k ρ a w hp G; have hlen : e.kids.length ≤ 9223372036854775807 := G.len 3 (d := .exprs e.kids) (by kernel_rfl); refine wp_seq (K8 G i7 ((2, .ptr 4 0) :: (4, iA 0) :: (5, iA (D0 p.vars p.arrays d (p.vars.getD e.value.toNat 0) e.kids k)) :: (as5 e k [(30, bA (decide ((k : Int) < e.kids.length)))])) fun G => b0 (wp_seq (rcD G (fun h4 q4 => ?_) fun h4 q4 => ?_)))
   · refine wp_exit (y7 (y7 (y6 (b0 (wp_seq (m5 G i7 (rg 4) (aa7 p e []) [(4, iA (D0 p.vars p.arrays d (p.vars.getD e.value.toNat 0) e.kids k))] fun G => b0 (wp_ret ?_))))))); exact P7 (D0 p.vars p.arrays d (p.vars.getD e.value.toNat 0) e.kids k) G (rg 4) (ae1 (by omega) (by simp [ad9, h0, q0, h4, q4]; done))
   · refine wp_skip (b0 (wp_seq (wp_block (wp_seq (U0 G i7 [0, 1, 2, 3, 4, 13, 21] (aa7 p e [.box (pL 0), dE (e.kids.getD k b81).kids, .box (eL (e.kids.getD k b81) 5)]) ((2, .ptr 4 0) :: (4, iA 0) :: (5, iA (D0 p.vars p.arrays d (p.vars.getD e.value.toNat 0) e.kids k)) :: (7, .ptr 6 0) :: (as5 e k [])) (iX k k e.kids.length []) (iK (by omega) b91) fun G => b0 (m5 G (t5 3 [0, 1, 2, 5] (ih (e.kids.getD k b81) (ac5 he (by omega)))) (rg 5) (aa7 p e [.box (pL 0)]) ((2, .ptr 4 0) :: (4, iA 0) :: (5, iA (r8 (D0 p.vars p.arrays d (p.vars.getD e.value.toNat 0) e.kids k) (n5 p.vars p.arrays d (e.kids.getD k b81)))) :: (as5 e k [])) fun G => r7 (b0 (K7 G i7 [(29, iA ((k : Int) + 1))] [wO ((k : Int) + 1)] (o1 (by omega)) fun G => b0 ?_)))))))); exact rxn G (k + 1) (by omega) (by omega) (rg 5) (ht := by have e1 : (D0 p.vars p.arrays d (p.vars.getD e.value.toNat 0) e.kids (k + 1) : Int) = (r8 (D0 p.vars p.arrays d (p.vars.getD e.value.toNat 0) e.kids k) (n5 p.vars p.arrays d (e.kids.getD k b81))) := (Y6 (by omega)); (first | rw [e1] | simp only [e1]) <;> rfl)
theorem aO3 (p : f7) : ∀ (d : Nat) (e : d7), m6 p.vars.length p.arrays.length d e = true → m7.ok Tryz.prog (N1 159 [pA 0, eA e 3] (pS p ++ eS e) (iA (n5 p.vars p.arrays d e))) := by
 intro d
 induction d with
 | zero => intro e h; simp [m6] at h
 | succ d ih => intro e h; exact bh7 p d ih e h
theorem a90 (p : f7) : ∀ (d : Nat) (e : d7), m6 p.vars.length p.arrays.length d e = true → m7.ok Tryz.prog (N1 141 [pA 0, eA e 3] (pS p ++ eS e) (iA (n5 p.vars p.arrays d e))) := by
 intro d
 induction d with
 | zero => intro e h; simp [m6] at h
 | succ d ih => intro e h; exact bG1 p d ih e h
def v7 (vs ars : List Int) : Nat → d7 → Bool
 | 0, _ => false
 | d + 1, e => (decide (e.kind = 3) && (i5 (n5 vs ars d (e.kids.getD 0 b81)) && decide (n5 vs ars d (e.kids.getD 0 b81) % 2 = 1))) || e.kids.any (v7 vs ars d)
section
variable {vs ars : List Int} {d : Nat} {e : d7}
theorem by4 (k : e.kind = 3) (h : (i5 (n5 vs ars d (e.kids.getD 0 b81)) && decide (n5 vs ars d (e.kids.getD 0 b81) % 2 = 1)) = true) : v7 vs ars (d + 1) e = true := by rw [v7, h]; simp [k]
theorem by5 (h : e.kids.any (v7 vs ars d) = false) (k : ¬ e.kind = 3) : v7 vs ars (d + 1) e = false := by rw [v7, h]; simp [k]
theorem bJ2 (h : e.kids.any (v7 vs ars d) = false) (k : (i5 (n5 vs ars d (e.kids.getD 0 b81)) && decide (n5 vs ars d (e.kids.getD 0 b81) % 2 = 1)) = false) : v7 vs ars (d + 1) e = false := by rw [v7, h, k]; simp
end
theorem aP2 {α : Type} {l : List α} {k : Nat} {p : α → Bool} {z : α} (h : (l.take k).any p = false) (hk : k < l.length) (hp : p (l.getD k z) = false) : (l.take (k + 1)).any p = false := by
 rw [D4 l k hk, List.any_append, h, ← p6 (d := z) hk, List.any_cons, hp]; rfl
theorem aP3 {α : Type} {l : List α} {k : Nat} {p : α → Bool} (h : (l.take k).any p = false) (hk : l.length ≤ k) : l.any p = false := by
 rw [b98 hk] at h; exact h
theorem bp9 {α : Type} {l : List α} {k : Nat} {p : α → Bool} {z : α} (hk : k < l.length) (hp : p (l.getD k z) = true) : l.any p = true := by
 rw [p6 hk] at hp
 exact List.any_eq_true.2 ⟨_, ca5 hk, hp⟩
theorem a93 (p : f7) (d : Nat) (ih : ∀ (e : d7), m6 p.vars.length p.arrays.length d e = true → m7.ok Tryz.prog (N1 257 [pA 0, eA e 3] (pS p ++ eS e) (bA (v7 p.vars p.arrays d e))))
    (ihl : ∀ (e : d7), m6 p.vars.length p.arrays.length d e = true → m7.ok Tryz.prog (N1 159 [pA 0, eA e 3] (pS p ++ eS e) (iA (n5 p.vars p.arrays d e))))
    (e : d7) (he : m6 p.vars.length p.arrays.length (d + 1) e = true) : m7.ok Tryz.prog (N1 257 [pA 0, eA e 3] (pS p ++ eS e) (bA (v7 p.vars p.arrays (d + 1) e))) := by
  refine H8 32 Tryz.func257 [dI p.vars, dI p.arrays, dT p.body, dE e.kids] [(0, pA 0), (1, eA e 3)] fun G => ?_; have hlen : e.kids.length ≤ 9223372036854775807 := G.len 3 (d := .exprs e.kids) (by kernel_rfl); refine wp_seq (m5 G i7 [0, 1, 2, 3, 4, 12] [dI p.vars, dI p.arrays, dT p.body, dE e.kids, .box (pL 0), .box (eL e 3)] [(2, .ptr 4 0), (3, .ptr 5 0), (4, bA false)] fun G => b0 (wp_seq (wp_seq ?_))); cases h0 : (e.kind == 3)
  ·
   have q0 := ne_of_beq_false h0; refine bK2 G (X3 (fc h0 fz) (us [(4, 10, 0), (1011, 1011, 0)])) [0, 1, 3, 7, 15, 15, 47, 111, 239, 511, 1023, 2047] [(17, bA false)] fun G => b0 (rF G false (by kernel_rfl) (wp_skip (b0 (wp_seq (wp_seq (K8 G i7 [(2, .ptr 4 0), (3, .ptr 5 0), (4, bA false), (5, iA 0)] fun G => b0 (wp_block ?_))))))); refine y9 (κ := Nat) (fun k => k ≤ e.kids.length ∧ (e.kids.take k).any (v7 p.vars p.arrays d) = false) (fun k => e.kids.length - k) (fun k => [dI p.vars, dI p.arrays, dT p.body, dE e.kids, .box (pL 0), .box (eL e 3)]) (fun k => [(2, .ptr 4 0), (3, .ptr 5 0), (4, bA false), (5, iA k)]) 0 (by simp [he, h0]) (x8.at G _ _) ?_; clear G; intro k ρ a w hp G; refine wp_seq (wp_seq (l8 G i7 [(22, bA (decide ((k : Int) < e.kids.length)))] fun G => b0 (rcD G (fun h2 q2 => ?_) fun h2 q2 => ?_)))
   · refine wp_exit (y7 (y7 (y6 (b0 (wp_seq (m5 G i7 (rg 4) [dI p.vars, dI p.arrays, dT p.body, dE e.kids] [(4, bA false)] fun G => b0 (wp_ret ?_))))))); exact H6 false G (rg 4) (by5 (aP3 hp.2 (by omega)) (by assumption))
   ·
    refine wp_skip (b0 (wp_seq (wp_block (wp_seq (aD2 G (t5 6 [0, 1, 2, 46] (ih (e.kids.getD k b81) (ac5 he (by omega)))) [0, 0, 2, 0, 14, 30, 63] [(31, bA (v7 p.vars p.arrays d (e.kids.getD k b81)))] (iX k k e.kids.length []) (iK (by have hp := hp; omega) b91) fun G => b0 (rcB G (fun h3 => ?_) fun h3 => ?_))))))
    · refine wp_skip (r7 (b0 (K7 G i7 [(5, iA ((k : Int) + 1))] [wO ((k : Int) + 1)] (o1 (by omega)) fun G => b0 ?_))); exact rxn G (k + 1) (⟨by omega, aP2 hp.2 (by omega) (by assumption)⟩) (by have hp := hp; omega) (rg 6)
    · refine wp_seq (l8 G i7 [(4, bA true)] fun G => b0 (wp_ret (B7 (m8 (m8 (B7 (m8 ?_))))))); exact H6 true G (rg 4) (by rw [v7, bp9 (k := k) (by omega) (by assumption), Bool.or_true])
  ·
   have q0 := eq_of_beq h0; refine aD2 G (B8 ⟨[(9, _, [0, 1, 2, 70]), (10, _, [])], [(e.kind == 3, true)], us [(4, 10, 0), (1011, 1011, 0)]⟩ (b9 (ihl (e.kids.getD 0 b81) (ac5 he (aW7 he (by assumption)))) (b9 (ad2 (n5 p.vars p.arrays d (e.kids.getD 0 b81))) d8)) ⟨(by assumption), b91⟩) [0, 1, 3, 7, 15, 15, 47, 111, 239, 511, 1023, 2047] [(17, bA (i5 (n5 p.vars p.arrays d (e.kids.getD 0 b81)) && decide (n5 p.vars p.arrays d (e.kids.getD 0 b81) % 2 = 1)))] (iX 0 0 e.kids.length []) (iK (by have := aW7 he (by assumption); omega) b91) fun G => b0 ?_; cases h1 : (i5 (n5 p.vars p.arrays d (e.kids.getD (0 : Nat) b81)) && decide (n5 p.vars p.arrays d (e.kids.getD (0 : Nat) b81) % (2 : Int) = 1))
   ·
    have q1 : ((i5 (n5 p.vars p.arrays d (e.kids.getD 0 b81))) = false) ∨ (¬ (n5 p.vars p.arrays d (e.kids.getD 0 b81) % 2 = 1)) := Or.imp (fun hq => (hq)) (fun hq => of_decide_eq_false hq) (cb4.1 h1); refine rF G _ h1 (wp_skip (b0 (wp_seq (wp_seq (K8 G i7 [(2, .ptr 4 0), (3, .ptr 5 0), (4, bA false), (5, iA 0)] fun G => b0 (wp_block ?_)))))); refine y9 (κ := Nat) (fun k => k ≤ e.kids.length ∧ (e.kids.take k).any (v7 p.vars p.arrays d) = false) (fun k => e.kids.length - k) (fun k => [dI p.vars, dI p.arrays, dT p.body, dE e.kids, .box (pL 0), .box (eL e 3)]) (fun k => [(2, .ptr 4 0), (3, .ptr 5 0), (4, bA false), (5, iA k)]) 0 (by simp [he, h0, h1]) (x8.at G _ _) ?_; clear G; intro k ρ a w hp G; refine wp_seq (wp_seq (l8 G i7 [(22, bA (decide ((k : Int) < e.kids.length)))] fun G => b0 (rcD G (fun h4 q4 => ?_) fun h4 q4 => ?_)))
    · refine wp_exit (y7 (y7 (y6 (b0 (wp_seq (m5 G i7 (rg 4) [dI p.vars, dI p.arrays, dT p.body, dE e.kids] [(4, bA false)] fun G => b0 (wp_ret ?_))))))); exact H6 false G (rg 4) (bJ2 (aP3 hp.2 (by omega)) (by assumption))
    ·
     refine wp_skip (b0 (wp_seq (wp_block (wp_seq (aD2 G (t5 6 [0, 1, 2, 46] (ih (e.kids.getD k b81) (ac5 he (by omega)))) [0, 0, 2, 0, 14, 30, 63] [(31, bA (v7 p.vars p.arrays d (e.kids.getD k b81)))] (iX k k e.kids.length []) (iK (by have hp := hp; omega) b91) fun G => b0 (rcB G (fun h5 => ?_) fun h5 => ?_))))))
     · refine wp_skip (r7 (b0 (K7 G i7 [(5, iA ((k : Int) + 1))] [wO ((k : Int) + 1)] (o1 (by omega)) fun G => b0 ?_))); exact rxn G (k + 1) (⟨by omega, aP2 hp.2 (by omega) (by assumption)⟩) (by have hp := hp; omega) (rg 6)
     · refine wp_seq (l8 G i7 [(4, bA true)] fun G => b0 (wp_ret (B7 (m8 (m8 (B7 (m8 ?_))))))); exact H6 true G (rg 4) (by rw [v7, bp9 (k := k) (by omega) (by assumption), Bool.or_true])
   · have q1 : ((i5 (n5 p.vars p.arrays d (e.kids.getD 0 b81))) = true) ∧ (n5 p.vars p.arrays d (e.kids.getD 0 b81) % 2 = 1) := And.imp (fun hq => (hq)) (fun hq => of_decide_eq_true hq) (cb6.1 h1); refine rT G _ h1 (wp_seq (l8 G i7 [(4, bA true)] fun G => b0 (wp_ret (m8 ?_)))); exact H6 true G (rg 4) (by4 (by assumption) (by assumption))
def flB (x y : Int) : Bool := i5 x && i5 y && (r8 x y == y)
abbrev l5 (p : f7) (e : d7) : Int := n5 p.vars p.arrays 5 e
def aD0 (x : Int) : Bool := i5 x && decide (x % 2 = 1)
def L0 (p : f7) (s : b5) (pc : Int) : Int :=
 if s.kind = 1 then if flB (r8 (l5 p s.value) pc) (p.vars.getD s.target.toNat 0) then 0 else 1
 else if s.kind = 2 then if flB (r8 (r8 (l5 p s.value) (l5 p s.index)) pc) (p.arrays.getD s.target.toNat 0) then 0 else 1
 else if s.kind = 5 then if (i5 (l5 p s.value) && decide (l5 p s.value ≤ 1)) && decide (pc = 0) then 0 else 2
 else 0
def ab6 (p : f7) (s : b5) : Int :=
 if s.kind = 3 ∧ aD0 (l5 p s.value) = true then 3
 else if (s.kind ≠ 4 ∧ v7 p.vars p.arrays 5 s.value = true) ∨ (s.kind = 2 ∧ aD0 (l5 p s.index) = true) then 4 else 0
def O7 (p : f7) (s : b5) (pc : Int) (strict : Bool) : Int := if L0 p s pc = 0 then (if strict then ab6 p s else 0) else L0 p s pc
theorem M7 (p : f7) (e : d7) (he : m6 p.vars.length p.arrays.length 5 e = true) : m7.ok Tryz.prog (N1 159 [pA 0, eA e 3] (pS p ++ eS e) (iA (l5 p e))) := aO3 p 5 e he
theorem a94 (p : f7) : ∀ (d : Nat) (e : d7), m6 p.vars.length p.arrays.length d e = true → m7.ok Tryz.prog (N1 257 [pA 0, eA e 3] (pS p ++ eS e) (bA (v7 p.vars p.arrays d e))) := by
 intro d
 induction d with
 | zero => intro e h; simp [m6] at h
 | succ d ih => intro e h; exact a93 p d ih (aO3 p d) e h
theorem F8 (p : f7) (e : d7) (he : m6 p.vars.length p.arrays.length 5 e = true) : m7.ok Tryz.prog (N1 257 [pA 0, eA e 3] (pS p ++ eS e) (bA (v7 p.vars p.arrays 5 e))) := a94 p 5 e he
section
variable {nv na : Nat} {s : b5}
theorem aB7 {e : d7} (h : l0 nv na e = true) : m6 nv na 5 e = true := by unfold l0 at h; simp only [b85] at h; exact h.1
variable (h : D5 nv na s = true)
include h
theorem v9 (k : ¬ s.kind = 4) : m6 nv na 5 s.value = true := by
 apply aB7
 by_cases k1 : s.kind = 1 ∨ s.kind = 5
 ·rw [C5 k1] at h; simp only [b85] at h; exact h.2.2
 by_cases k2 : s.kind = 2
 ·rw [N7 k2] at h; simp only [b85] at h; exact h.2.2.2
 by_cases k3 : s.kind = 3
 ·rw [ae2 k3] at h; simp only [b85] at h; exact h.2.2
 ·rw [V2 (by omega)] at h; cases h
theorem ae3 (k : s.kind = 2) : m6 nv na 5 s.index = true := by
 rw [N7 k] at h; simp only [b85] at h; exact aB7 h.2.1
theorem R9 (k : s.kind = 1 ∨ s.kind = 5) : 0 ≤ s.target ∧ s.target < nv ∧ s.target.toNat < nv := by
 rw [C5 k] at h; simp only [b85, decide_eq_true_eq] at h; omega
theorem S0 (k : s.kind = 2) : 0 ≤ s.target ∧ s.target < na ∧ s.target.toNat < na := by
 rw [N7 k] at h; simp only [b85, decide_eq_true_eq] at h; omega
end
section
variable {p : f7} {s : b5} {pc : Int} {strict : Bool} {x : Int}
theorem au4 (h : L0 p s pc = x) (hx : x ≠ 0) : O7 p s pc strict = x := by rw [O7, h, if_neg hx]
theorem ak6 (h : L0 p s pc = 0) : O7 p s pc false = 0 := by rw [O7, h]; rfl
theorem A2 (h : L0 p s pc = 0) (hl : ab6 p s = x) : O7 p s pc true = x := by rw [O7, h, hl]; rfl
theorem bU7 (k : s.kind = 1) (h : (!(i5 (r8 (l5 p s.value) pc) && i5 (p.vars.getD s.target.toNat 0) && (r8 (r8 (l5 p s.value) pc) (p.vars.getD s.target.toNat 0) == (p.vars.getD s.target.toNat 0)))) = false) : L0 p s pc = 0 := by rw [L0, if_pos k, if_pos (by unfold flB; first | (rw [ca0] at h; exact h) | (rw [b99] at h; rw [h]; simp))]
theorem b74 (k : s.kind = 1) (h : (!(i5 (r8 (l5 p s.value) pc) && i5 (p.vars.getD s.target.toNat 0) && (r8 (r8 (l5 p s.value) pc) (p.vars.getD s.target.toNat 0) == (p.vars.getD s.target.toNat 0)))) = true) : L0 p s pc = 1 := by rw [L0, if_pos k, if_neg (by unfold flB; first | (rw [ca0] at h; exact h) | (rw [b99] at h; rw [h]; simp))]
theorem bM9 (k : s.kind = 2) (h : (!(i5 (r8 (r8 (l5 p s.value) (l5 p s.index)) pc) && i5 (p.arrays.getD s.target.toNat 0) && (r8 (r8 (r8 (l5 p s.value) (l5 p s.index)) pc) (p.arrays.getD s.target.toNat 0) == (p.arrays.getD s.target.toNat 0)))) = false) : L0 p s pc = 0 := by rw [L0, if_neg (by omega), if_pos k, if_pos (by unfold flB; first | (rw [ca0] at h; exact h) | (rw [b99] at h; rw [h]; simp))]
theorem b73 (k : s.kind = 2) (h : (!(i5 (r8 (r8 (l5 p s.value) (l5 p s.index)) pc) && i5 (p.arrays.getD s.target.toNat 0) && (r8 (r8 (r8 (l5 p s.value) (l5 p s.index)) pc) (p.arrays.getD s.target.toNat 0) == (p.arrays.getD s.target.toNat 0)))) = true) : L0 p s pc = 1 := by rw [L0, if_neg (by omega), if_pos k, if_neg (by unfold flB; first | (rw [ca0] at h; exact h) | (rw [b99] at h; rw [h]; simp))]
theorem bU6 (k : s.kind = 5) (h : (!(i5 (l5 p s.value) && decide (l5 p s.value ≤ 1))) = false) (h2 : pc = 0) : L0 p s pc = 0 := by
 rw [ca0] at h
 rw [L0, if_neg (by omega), if_neg (by omega), if_pos k, h, decide_eq_true h2]; rfl
theorem b11 (k : s.kind = 5) (h : (!(i5 (l5 p s.value) && decide (l5 p s.value ≤ 1))) = true ∨ ¬ pc = 0) : L0 p s pc = 2 := by
 rw [L0, if_neg (by omega), if_neg (by omega), if_pos k]
 rcases h with h | h
 ·rw [b99] at h
  rw [h]; rfl
 ·rw [decide_eq_false h, Bool.and_false]; rfl
theorem fl0 (k : ¬ s.kind = 1 ∧ ¬ s.kind = 2 ∧ ¬ s.kind = 5) : L0 p s pc = 0 := by rw [L0, if_neg k.1, if_neg k.2.1, if_neg k.2.2]
theorem lk3 (k : s.kind = 3) (h : (i5 (l5 p s.value) && decide (l5 p s.value % 2 = 1)) = true) : ab6 p s = 3 := by rw [ab6, if_pos ⟨k, (show aD0 _ = true from h)⟩]
theorem lkv (h3 : ¬ s.kind = 3 ∨ (i5 (l5 p s.value) && decide (l5 p s.value % 2 = 1)) = false) (k : ¬ s.kind = 4) (h : v7 p.vars p.arrays 5 s.value = true) : ab6 p s = 4 := by
 rw [ab6, if_neg (by rintro ⟨a, b⟩; exact h3.elim (fun h => h a) (fun h => Bool.false_ne_true (h.symm.trans b))), if_pos (.inl ⟨k, h⟩)]
theorem lki (k : s.kind = 2) (h : (i5 (l5 p s.index) && decide (l5 p s.index % 2 = 1)) = true) : ab6 p s = 4 := by
 rw [ab6, if_neg (by omega), if_pos (.inr ⟨k, (show aD0 _ = true from h)⟩)]
theorem lk0 (h3 : ¬ s.kind = 3 ∨ (i5 (l5 p s.value) && decide (l5 p s.value % 2 = 1)) = false) (h4 : s.kind = 4 ∨ v7 p.vars p.arrays 5 s.value = false) (h2 : ¬ s.kind = 2 ∨ (i5 (l5 p s.index) && decide (l5 p s.index % 2 = 1)) = false) : ab6 p s = 0 := by
 rw [ab6, if_neg (by rintro ⟨a, b⟩; exact h3.elim (fun h => h a) (fun h => Bool.false_ne_true (h.symm.trans b))), if_neg]
 rintro (⟨a, b⟩ | ⟨a, b⟩)
 ·rcases h4 with h | h
  ·exact a h
  ·rw [h] at b; cases b
 ·rcases h2 with h | h
  ·exact h a
  ·exact Bool.false_ne_true (h.symm.trans b)
end
abbrev T5 (p : f7) (s : b5) (r0 : List It) : List It := dI p.vars :: dI p.arrays :: dT p.body :: dE s.index.kids :: dE s.value.kids :: dT s.body :: dT s.els :: r0
theorem bO6 (p : f7) (s : b5) (pc : Int) (strict : Bool) (h : D5 p.vars.length p.arrays.length s = true) : m7.ok Tryz.prog (N1 241 [pA 0, sA s 3, iA pc, bA strict] (pS p ++ sS s) (iA (O7 p s pc strict))) := by
  refine H8 94 Tryz.func241 (T5 p s []) [(0, pA 0), (1, sA s 3), (2, iA pc), (3, bA strict)] fun G => ?_; refine wp_seq (m5 G i7 [0, 1, 2, 3, 4, 5, 6, 7, 15] (T5 p s [.box (pL 0), .box (sL s 3)]) [(2, iA pc), (3, bA strict), (4, .ptr 7 0), (5, .ptr 8 0), (8, iA 0)] fun G => b0 (wp_seq (wp_seq (l8 G i7 [(10, iA s.kind)] fun G => b0 (wp_block (wp_seq (l8 G i7 [(11, bA (s.kind == 1))] fun G => b0 (T1 G (fun h0 q0 => ?_) fun h0 q0 => ?_))))))))
  ·
   refine wp_seq (l8 G i7 [(27, bA (s.kind == 2))] fun G => b0 (T1 G (fun h1 q1 => ?_) fun h1 q1 => ?_))
   ·
    refine wp_seq (l8 G i7 [(48, bA (s.kind == 5))] fun G => b0 (T1 G (fun h2 q2 => ?_) fun h2 q2 => ?_))
    ·
     refine wp_seq (l8 G i7 [(60, bA (s.kind == 3))] fun G => b0 (T1 G (fun h3 q3 => ?_) fun h3 q3 => ?_))
     ·
      refine wp_skip (r7 (b0 (wp_seq (wp_seq ?_)))); cases h4 : (strict)
      · refine m5 G (X3 (fc h4 fz) (us [(2, 5, 0), (10, 11, 0), (22, 22, 0), (1023, 1023, 0)])) (rg 7) (T5 p s []) [(8, iA 0), (93, bA false)] fun G => b0 (rF G false (by kernel_rfl) (wp_skip (b0 (wp_seq (l8 G i7 [] fun G => b0 (wp_ret ?_)))))); exact P7 0 G (rg 7) (ak6 (fl0 (by omega)))
      ·
       cases h5 : (s.kind != 4)
       · have q5 := bne_eq_false_iff_eq.1 h5; refine m5 G (X3 (fc h4 (fc h5 (fc (b := false) rfl (fc h1 fz)))) (us [(2, 5, 0), (6, 9, 1), (10, 10, 0), (1010, 1010, 1), (11, 11, 0), (12, 15, 2), (16, 20, 3), (21, 21, 2), (1021, 1021, 3), (22, 22, 0), (1022, 1022, 2), (1023, 1023, 0)])) (rg 7) (T5 p s []) [(8, iA 0), (93, bA false)] fun G => b0 (rF G false (by kernel_rfl) (wp_skip (b0 (wp_seq (l8 G i7 [] fun G => b0 (wp_ret ?_)))))); exact P7 0 G (rg 7) (A2 (fl0 (by omega)) (lk0 (by exact .inl (by omega)) (by exact .inl (by omega)) (by exact .inl (by omega))))
       ·
        have q5 := bne_iff_ne.1 h5; cases h6 : (v7 p.vars p.arrays (5 : Nat) s.value)
        · refine m5 G (B8 ⟨[(9, _, [0, 1, 2, 4])], [(strict, true), (s.kind != 4, true), (v7 p.vars p.arrays (5 : Nat) s.value, false), (s.kind == 2, false)], us [(2, 5, 0), (6, 9, 1), (10, 10, 0), (1010, 1010, 1), (11, 11, 0), (12, 15, 2), (16, 20, 3), (21, 21, 2), (1021, 1021, 3), (22, 22, 0), (1022, 1022, 2), (1023, 1023, 0)]⟩ (b9 (F8 p s.value (v9 h (by omega))) d8) ⟨(by assumption), (by assumption), (by assumption), (by assumption), b91⟩) (rg 7) (T5 p s []) [(8, iA 0), (93, bA false)] fun G => b0 (rF G false (by kernel_rfl) (wp_skip (b0 (wp_seq (l8 G i7 [] fun G => b0 (wp_ret ?_)))))); exact P7 0 G (rg 7) (A2 (fl0 (by omega)) (lk0 (by exact .inl (by omega)) (by exact .inr (by with_reducible assumption)) (by exact .inl (by omega))))
        · refine m5 G (B8 ⟨[(9, _, [0, 1, 2, 4])], [(strict, true), (s.kind != 4, true), (v7 p.vars p.arrays (5 : Nat) s.value, true)], us [(2, 5, 0), (6, 9, 1), (10, 10, 0), (1010, 1010, 1), (11, 11, 0), (12, 15, 2), (21, 21, 2), (22, 22, 0), (1022, 1022, 2), (1023, 1023, 0)]⟩ (b9 (F8 p s.value (v9 h (by omega))) d8) ⟨(by assumption), (by assumption), (by assumption), b91⟩) (rg 7) (T5 p s []) [(8, iA 0), (93, bA true)] fun G => b0 (rT G true (by kernel_rfl) (wp_seq (l8 G i7 [(8, iA 4)] fun G => b0 (wp_ret (m8 ?_))))); exact P7 4 G (rg 7) (A2 (fl0 (by omega)) (lkv (by exact .inl (by omega)) (by omega) (by with_reducible assumption)))
     ·
      refine wp_seq ?_; cases h7 : (strict)
      · refine l8 G (X3 (fc h7 fz) (us [(2, 6, 0), (1007, 1007, 0)])) [(69, bA false)] fun G => b0 (rF G false (by kernel_rfl) (wp_skip (r7 (b0 (wp_seq (wp_seq (m5 G (X3 (fc h7 fz) (us [(2, 5, 0), (10, 11, 0), (22, 22, 0), (1023, 1023, 0)])) (rg 7) (T5 p s []) [(8, iA 0), (93, bA false)] fun G => b0 (rF G false (by kernel_rfl) (wp_skip (b0 (wp_seq (l8 G i7 [] fun G => b0 (wp_ret ?_))))))))))))); exact P7 0 G (rg 7) (ak6 (fl0 (by omega)))
      ·
       refine K8 G (B8 ⟨[(5, _, [0, 1, 2, 4]), (6, _, [])], [(strict, true)], us [(2, 6, 0), (1007, 1007, 0)]⟩ (b9 (M7 p s.value (v9 h (by omega))) (b9 (ad2 (l5 p s.value)) d8)) ⟨(by assumption), b91⟩) [(3, bA strict), (4, .ptr 7 0), (5, .ptr 8 0), (8, iA 0), (69, bA (i5 (l5 p s.value) && decide (l5 p s.value % 2 = 1)))] fun G => b0 ?_; cases h8 : (i5 (l5 p s.value) && decide (l5 p s.value % (2 : Int) = 1))
       ·
        have q8 : ((i5 (l5 p s.value)) = false) ∨ (¬ (l5 p s.value % 2 = 1)) := Or.imp (fun hq => (hq)) (fun hq => of_decide_eq_false hq) (cb4.1 h8); refine rF G _ h8 (wp_skip (r7 (b0 (wp_seq (wp_seq ?_))))); cases h9 : (s.kind != 4)
        · have q9 := bne_eq_false_iff_eq.1 h9; exact False.elim (by omega)
        ·
         have q9 := bne_iff_ne.1 h9; cases h10 : (v7 p.vars p.arrays (5 : Nat) s.value)
         · refine m5 G (B8 ⟨[(9, _, [0, 1, 2, 4])], [(strict, true), (s.kind != 4, true), (v7 p.vars p.arrays (5 : Nat) s.value, false), (s.kind == 2, false)], us [(2, 5, 0), (6, 9, 1), (10, 10, 0), (1010, 1010, 1), (11, 11, 0), (12, 15, 2), (16, 20, 3), (21, 21, 2), (1021, 1021, 3), (22, 22, 0), (1022, 1022, 2), (1023, 1023, 0)]⟩ (b9 (F8 p s.value (v9 h (by omega))) d8) ⟨(by assumption), (by assumption), (by assumption), (by assumption), b91⟩) (rg 7) (T5 p s []) [(8, iA 0), (93, bA false)] fun G => b0 (rF G false (by kernel_rfl) (wp_skip (b0 (wp_seq (l8 G i7 [] fun G => b0 (wp_ret ?_)))))); exact P7 0 G (rg 7) (A2 (fl0 (by omega)) (lk0 (by exact .inr (by with_reducible assumption)) (by exact .inr (by with_reducible assumption)) (by exact .inl (by omega))))
         · refine m5 G (B8 ⟨[(9, _, [0, 1, 2, 4])], [(strict, true), (s.kind != 4, true), (v7 p.vars p.arrays (5 : Nat) s.value, true)], us [(2, 5, 0), (6, 9, 1), (10, 10, 0), (1010, 1010, 1), (11, 11, 0), (12, 15, 2), (21, 21, 2), (22, 22, 0), (1022, 1022, 2), (1023, 1023, 0)]⟩ (b9 (F8 p s.value (v9 h (by omega))) d8) ⟨(by assumption), (by assumption), (by assumption), b91⟩) (rg 7) (T5 p s []) [(8, iA 0), (93, bA true)] fun G => b0 (rT G true (by kernel_rfl) (wp_seq (l8 G i7 [(8, iA 4)] fun G => b0 (wp_ret (m8 ?_))))); exact P7 4 G (rg 7) (A2 (fl0 (by omega)) (lkv (by exact .inr (by with_reducible assumption)) (by omega) (by with_reducible assumption)))
       · have q8 : ((i5 (l5 p s.value)) = true) ∧ (l5 p s.value % 2 = 1) := And.imp (fun hq => (hq)) (fun hq => of_decide_eq_true hq) (cb6.1 h8); refine rT G _ h8 (wp_seq (l8 G i7 [(8, iA 3)] fun G => b0 (wp_ret (B7 (m8 ?_))))); exact P7 3 G (rg 7) (A2 (fl0 (by omega)) (lk3 (by with_reducible assumption) (by with_reducible assumption)))
    ·
     refine wp_seq ?_; cases h11 : (!(i5 (l5 p s.value) && decide (l5 p s.value ≤ 1)))
     ·
      have q11 : ((i5 (l5 p s.value)) = true) ∧ (l5 p s.value ≤ 1) := (fun hq => And.imp (fun hq => (hq)) (fun hq => of_decide_eq_true hq) (cb6.1 hq)) (Eq.mp (ca0 _) h11); refine K8 G (B8 ⟨[(3, _, [0, 1, 2, 4]), (4, _, [])], [(!(i5 (l5 p s.value) && decide (l5 p s.value ≤ 1)), false)], [(7, 0), (8, 0), (1009, 0)]⟩ (b9 (M7 p s.value (v9 h (by omega))) (b9 (am3 (l5 p s.value)) d8)) ⟨(by assumption), b91⟩) [(3, bA strict), (4, .ptr 7 0), (5, .ptr 8 0), (8, iA 0), (59, bA (pc != 0))] fun G => b0 (rcN G (fun h12 q12 => ?_) fun h12 q12 => ?_)
      ·
       refine wp_skip (r7 (b0 (wp_seq (wp_seq ?_)))); cases h13 : (strict)
       · refine m5 G (X3 (fc h13 fz) (us [(2, 5, 0), (10, 11, 0), (22, 22, 0), (1023, 1023, 0)])) (rg 7) (T5 p s []) [(8, iA 0), (93, bA false)] fun G => b0 (rF G false (by kernel_rfl) (wp_skip (b0 (wp_seq (l8 G i7 [] fun G => b0 (wp_ret ?_)))))); exact P7 0 G (rg 7) (ak6 (bU6 (by with_reducible assumption) (by with_reducible assumption) (by with_reducible assumption)))
       ·
        cases h14 : (s.kind != 4)
        · have q14 := bne_eq_false_iff_eq.1 h14; exact False.elim (by omega)
        ·
         have q14 := bne_iff_ne.1 h14; cases h15 : (v7 p.vars p.arrays (5 : Nat) s.value)
         · refine m5 G (B8 ⟨[(9, _, [0, 1, 2, 4])], [(strict, true), (s.kind != 4, true), (v7 p.vars p.arrays (5 : Nat) s.value, false), (s.kind == 2, false)], us [(2, 5, 0), (6, 9, 1), (10, 10, 0), (1010, 1010, 1), (11, 11, 0), (12, 15, 2), (16, 20, 3), (21, 21, 2), (1021, 1021, 3), (22, 22, 0), (1022, 1022, 2), (1023, 1023, 0)]⟩ (b9 (F8 p s.value (v9 h (by omega))) d8) ⟨(by assumption), (by assumption), (by assumption), (by assumption), b91⟩) (rg 7) (T5 p s []) [(8, iA 0), (93, bA false)] fun G => b0 (rF G false (by kernel_rfl) (wp_skip (b0 (wp_seq (l8 G i7 [] fun G => b0 (wp_ret ?_)))))); exact P7 0 G (rg 7) (A2 (bU6 (by with_reducible assumption) (by with_reducible assumption) (by with_reducible assumption)) (lk0 (by exact .inl (by omega)) (by exact .inr (by with_reducible assumption)) (by exact .inl (by omega))))
         · refine m5 G (B8 ⟨[(9, _, [0, 1, 2, 4])], [(strict, true), (s.kind != 4, true), (v7 p.vars p.arrays (5 : Nat) s.value, true)], us [(2, 5, 0), (6, 9, 1), (10, 10, 0), (1010, 1010, 1), (11, 11, 0), (12, 15, 2), (21, 21, 2), (22, 22, 0), (1022, 1022, 2), (1023, 1023, 0)]⟩ (b9 (F8 p s.value (v9 h (by omega))) d8) ⟨(by assumption), (by assumption), (by assumption), b91⟩) (rg 7) (T5 p s []) [(8, iA 0), (93, bA true)] fun G => b0 (rT G true (by kernel_rfl) (wp_seq (l8 G i7 [(8, iA 4)] fun G => b0 (wp_ret (m8 ?_))))); exact P7 4 G (rg 7) (A2 (bU6 (by with_reducible assumption) (by with_reducible assumption) (by with_reducible assumption)) (lkv (by exact .inl (by omega)) (by omega) (by with_reducible assumption)))
      · refine wp_seq (l8 G i7 [(8, iA 2)] fun G => b0 (wp_ret (B7 (m8 ?_)))); exact P7 2 G (rg 7) (au4 (b11 (by with_reducible assumption) (.inr (by with_reducible assumption))) (by decide))
     · have q11 : ((i5 (l5 p s.value)) = false) ∨ (¬ (l5 p s.value ≤ 1)) := (fun hq => Or.imp (fun hq => (hq)) (fun hq => of_decide_eq_false hq) (cb4.1 hq)) (Eq.mp (b99 _) h11); refine l8 G (B8 ⟨[(3, _, [0, 1, 2, 4]), (4, _, [])], [(!(i5 (l5 p s.value) && decide (l5 p s.value ≤ 1)), true)], [(7, 0), (8, 0), (1009, 0)]⟩ (b9 (M7 p s.value (v9 h (by omega))) (b9 (am3 (l5 p s.value)) d8)) ⟨(by assumption), b91⟩) [(59, bA true)] fun G => b0 (rT G true (by kernel_rfl) (wp_seq (l8 G i7 [(8, iA 2)] fun G => b0 (wp_ret (B7 (m8 ?_)))))); exact P7 2 G (rg 7) (au4 (b11 (by with_reducible assumption) (.inl (by with_reducible assumption))) (by decide))
   ·
    refine wp_seq (bz9 G (B8 ⟨[(3, _, [0, 1, 2, 4]), (7, _, (rg 4)), (17, _, [])], [], []⟩ (b9 (M7 p s.value (v9 h (by omega))) (b9 (M7 p s.index (ae3 h (by with_reducible assumption))) (b9 (aw7 (r8 (r8 (l5 p s.value) (l5 p s.index)) pc) (p.arrays.getD s.target.toNat 0)) d8))) b91) [0, 0, 2, 7, 0, 0, 32, 127, 255, 0, 1023, 0, 2048, 0, 8192, 30720, 63488, 131071, 262143] [(3, bA strict), (4, .ptr 7 0), (5, .ptr 8 0), (8, iA 0), (47, .v (.bool !(i5 (r8 (r8 (l5 p s.value) (l5 p s.index)) pc) && i5 (p.arrays.getD s.target.toNat 0) && r8 (r8 (r8 (l5 p s.value) (l5 p s.index)) pc) (p.arrays.getD s.target.toNat 0) == p.arrays.getD s.target.toNat 0)))] [(0 : Int) ≤ s.target, s.target < (p.arrays.length : Int), s.target.toNat < p.arrays.length] ⟨((S0 h (by omega)).1), ((S0 h (by omega)).2.1), ((S0 h (by omega)).2.2), b91⟩ fun G => b0 ?_); cases h16 : (!(i5 (r8 (r8 (l5 p s.value) (l5 p s.index)) pc) && i5 (p.arrays.getD s.target.toNat (0 : Int)) && r8 (r8 (r8 (l5 p s.value) (l5 p s.index)) pc) (p.arrays.getD s.target.toNat (0 : Int)) == p.arrays.getD s.target.toNat (0 : Int)))
    ·
     have q16 : (((i5 (r8 (r8 (l5 p s.value) (l5 p s.index)) pc)) = true) ∧ ((i5 (p.arrays.getD s.target.toNat 0)) = true)) ∧ (r8 (r8 (r8 (l5 p s.value) (l5 p s.index)) pc) (p.arrays.getD s.target.toNat 0) = p.arrays.getD s.target.toNat 0) := (fun hq => And.imp (fun hq => And.imp (fun hq => (hq)) (fun hq => (hq)) (cb6.1 hq)) (fun hq => eq_of_beq hq) (cb6.1 hq)) (Eq.mp (ca0 _) h16); refine rF G _ h16 (wp_skip (r7 (b0 (wp_seq (wp_seq ?_))))); cases h17 : (strict)
     · refine m5 G (X3 (fc h17 fz) (us [(2, 5, 0), (10, 11, 0), (22, 22, 0), (1023, 1023, 0)])) (rg 7) (T5 p s []) [(8, iA 0), (93, bA false)] fun G => b0 (rF G false (by kernel_rfl) (wp_skip (b0 (wp_seq (l8 G i7 [] fun G => b0 (wp_ret ?_)))))); exact P7 0 G (rg 7) (ak6 (bM9 (by with_reducible assumption) (by with_reducible assumption)))
     ·
      cases h18 : (s.kind != 4)
      · have q18 := bne_eq_false_iff_eq.1 h18; exact False.elim (by omega)
      ·
       have q18 := bne_iff_ne.1 h18; cases h19 : (v7 p.vars p.arrays (5 : Nat) s.value)
       ·
        refine m5 G (B8 ⟨[(9, _, [0, 1, 2, 4]), (19, _, (rg 4)), (20, _, [])], [(strict, true), (s.kind != 4, true), (v7 p.vars p.arrays (5 : Nat) s.value, false), (s.kind == 2, true)], us [(2, 5, 0), (6, 9, 1), (10, 10, 0), (1010, 1010, 1), (11, 11, 0), (12, 15, 2), (16, 20, 3), (21, 21, 2), (1021, 1021, 3), (22, 22, 0), (1022, 1022, 2), (1023, 1023, 0)]⟩ (b9 (F8 p s.value (v9 h (by omega))) (b9 (M7 p s.index (ae3 h (by with_reducible assumption))) (b9 (ad2 (l5 p s.index)) d8))) ⟨(by assumption), (by assumption), (by assumption), (by assumption), b91⟩) (rg 7) (T5 p s []) [(8, iA 0), (93, bA (i5 (l5 p s.index) && decide (l5 p s.index % 2 = 1)))] fun G => b0 ?_; cases h20 : (i5 (l5 p s.index) && decide (l5 p s.index % (2 : Int) = 1))
        · have q20 : ((i5 (l5 p s.index)) = false) ∨ (¬ (l5 p s.index % 2 = 1)) := Or.imp (fun hq => (hq)) (fun hq => of_decide_eq_false hq) (cb4.1 h20); refine rF G _ h20 (wp_skip (b0 (wp_seq (l8 G i7 [] fun G => b0 (wp_ret ?_))))); exact P7 0 G (rg 7) (A2 (bM9 (by with_reducible assumption) (by with_reducible assumption)) (lk0 (by exact .inl (by omega)) (by exact .inr (by with_reducible assumption)) (by exact .inr (by with_reducible assumption))))
        · have q20 : ((i5 (l5 p s.index)) = true) ∧ (l5 p s.index % 2 = 1) := And.imp (fun hq => (hq)) (fun hq => of_decide_eq_true hq) (cb6.1 h20); refine rT G _ h20 (wp_seq (l8 G i7 [(8, iA 4)] fun G => b0 (wp_ret (m8 ?_)))); exact P7 4 G (rg 7) (A2 (bM9 (by with_reducible assumption) (by with_reducible assumption)) (lki (by with_reducible assumption) (by with_reducible assumption)))
       · refine m5 G (B8 ⟨[(9, _, [0, 1, 2, 4])], [(strict, true), (s.kind != 4, true), (v7 p.vars p.arrays (5 : Nat) s.value, true)], us [(2, 5, 0), (6, 9, 1), (10, 10, 0), (1010, 1010, 1), (11, 11, 0), (12, 15, 2), (21, 21, 2), (22, 22, 0), (1022, 1022, 2), (1023, 1023, 0)]⟩ (b9 (F8 p s.value (v9 h (by omega))) d8) ⟨(by assumption), (by assumption), (by assumption), b91⟩) (rg 7) (T5 p s []) [(8, iA 0), (93, bA true)] fun G => b0 (rT G true (by kernel_rfl) (wp_seq (l8 G i7 [(8, iA 4)] fun G => b0 (wp_ret (m8 ?_))))); exact P7 4 G (rg 7) (A2 (bM9 (by with_reducible assumption) (by with_reducible assumption)) (lkv (by exact .inl (by omega)) (by omega) (by with_reducible assumption)))
    · have q16 : (((i5 (r8 (r8 (l5 p s.value) (l5 p s.index)) pc)) = false) ∨ ((i5 (p.arrays.getD s.target.toNat 0)) = false)) ∨ (¬ (r8 (r8 (r8 (l5 p s.value) (l5 p s.index)) pc) (p.arrays.getD s.target.toNat 0) = p.arrays.getD s.target.toNat 0)) := (fun hq => Or.imp (fun hq => Or.imp (fun hq => (hq)) (fun hq => (hq)) (cb4.1 hq)) (fun hq => ne_of_beq_false hq) (cb4.1 hq)) (Eq.mp (b99 _) h16); refine rT G _ h16 (wp_seq (l8 G i7 [(8, iA 1)] fun G => b0 (wp_ret (B7 (m8 ?_))))); exact P7 1 G (rg 7) (au4 (b73 (by with_reducible assumption) (by with_reducible assumption)) (by decide))
  ·
   refine wp_seq (bz9 G (B8 ⟨[(3, _, [0, 1, 2, 4]), (12, _, [])], [], []⟩ (b9 (M7 p s.value (v9 h (by omega))) (b9 (aw7 (r8 (l5 p s.value) pc) (p.vars.getD s.target.toNat 0)) d8)) b91) [0, 0, 2, 7, 0, 31, 0, 64, 0, 256, 960, 1984, 4095, 8191] [(3, bA strict), (4, .ptr 7 0), (5, .ptr 8 0), (8, iA 0), (26, .v (.bool !(i5 (r8 (l5 p s.value) pc) && i5 (p.vars.getD s.target.toNat 0) && r8 (r8 (l5 p s.value) pc) (p.vars.getD s.target.toNat 0) == p.vars.getD s.target.toNat 0)))] [(0 : Int) ≤ s.target, s.target < (p.vars.length : Int), s.target.toNat < p.vars.length] ⟨((R9 h (by omega)).1), ((R9 h (by omega)).2.1), ((R9 h (by omega)).2.2), b91⟩ fun G => b0 ?_); cases h21 : (!(i5 (r8 (l5 p s.value) pc) && i5 (p.vars.getD s.target.toNat (0 : Int)) && r8 (r8 (l5 p s.value) pc) (p.vars.getD s.target.toNat (0 : Int)) == p.vars.getD s.target.toNat (0 : Int)))
   ·
    have q21 : (((i5 (r8 (l5 p s.value) pc)) = true) ∧ ((i5 (p.vars.getD s.target.toNat 0)) = true)) ∧ (r8 (r8 (l5 p s.value) pc) (p.vars.getD s.target.toNat 0) = p.vars.getD s.target.toNat 0) := (fun hq => And.imp (fun hq => And.imp (fun hq => (hq)) (fun hq => (hq)) (cb6.1 hq)) (fun hq => eq_of_beq hq) (cb6.1 hq)) (Eq.mp (ca0 _) h21); refine rF G _ h21 (wp_skip (r7 (b0 (wp_seq (wp_seq ?_))))); cases h22 : (strict)
    · refine m5 G (X3 (fc h22 fz) (us [(2, 5, 0), (10, 11, 0), (22, 22, 0), (1023, 1023, 0)])) (rg 7) (T5 p s []) [(8, iA 0), (93, bA false)] fun G => b0 (rF G false (by kernel_rfl) (wp_skip (b0 (wp_seq (l8 G i7 [] fun G => b0 (wp_ret ?_)))))); exact P7 0 G (rg 7) (ak6 (bU7 (by with_reducible assumption) (by with_reducible assumption)))
    ·
     cases h23 : (s.kind != 4)
     · have q23 := bne_eq_false_iff_eq.1 h23; exact False.elim (by omega)
     ·
      have q23 := bne_iff_ne.1 h23; cases h24 : (v7 p.vars p.arrays (5 : Nat) s.value)
      ·
       cases h25 : (s.kind == 2)
       · have q25 := ne_of_beq_false h25; refine m5 G (B8 ⟨[(9, _, [0, 1, 2, 4])], [(strict, true), (s.kind != 4, true), (v7 p.vars p.arrays (5 : Nat) s.value, false), (s.kind == 2, false)], us [(2, 5, 0), (6, 9, 1), (10, 10, 0), (1010, 1010, 1), (11, 11, 0), (12, 15, 2), (16, 20, 3), (21, 21, 2), (1021, 1021, 3), (22, 22, 0), (1022, 1022, 2), (1023, 1023, 0)]⟩ (b9 (F8 p s.value (v9 h (by omega))) d8) ⟨(by assumption), (by assumption), (by assumption), (by assumption), b91⟩) (rg 7) (T5 p s []) [(8, iA 0), (93, bA false)] fun G => b0 (rF G false (by kernel_rfl) (wp_skip (b0 (wp_seq (l8 G i7 [] fun G => b0 (wp_ret ?_)))))); exact P7 0 G (rg 7) (A2 (bU7 (by with_reducible assumption) (by with_reducible assumption)) (lk0 (by exact .inl (by omega)) (by exact .inr (by with_reducible assumption)) (by exact .inl (by omega))))
       · have q25 := eq_of_beq h25; exact False.elim (by omega)
      · refine m5 G (B8 ⟨[(9, _, [0, 1, 2, 4])], [(strict, true), (s.kind != 4, true), (v7 p.vars p.arrays (5 : Nat) s.value, true)], us [(2, 5, 0), (6, 9, 1), (10, 10, 0), (1010, 1010, 1), (11, 11, 0), (12, 15, 2), (21, 21, 2), (22, 22, 0), (1022, 1022, 2), (1023, 1023, 0)]⟩ (b9 (F8 p s.value (v9 h (by omega))) d8) ⟨(by assumption), (by assumption), (by assumption), b91⟩) (rg 7) (T5 p s []) [(8, iA 0), (93, bA true)] fun G => b0 (rT G true (by kernel_rfl) (wp_seq (l8 G i7 [(8, iA 4)] fun G => b0 (wp_ret (m8 ?_))))); exact P7 4 G (rg 7) (A2 (bU7 (by with_reducible assumption) (by with_reducible assumption)) (lkv (by exact .inl (by omega)) (by omega) (by with_reducible assumption)))
   · have q21 : (((i5 (r8 (l5 p s.value) pc)) = false) ∨ ((i5 (p.vars.getD s.target.toNat 0)) = false)) ∨ (¬ (r8 (r8 (l5 p s.value) pc) (p.vars.getD s.target.toNat 0) = p.vars.getD s.target.toNat 0)) := (fun hq => Or.imp (fun hq => Or.imp (fun hq => (hq)) (fun hq => (hq)) (cb4.1 hq)) (fun hq => ne_of_beq_false hq) (cb4.1 hq)) (Eq.mp (b99 _) h21); refine rT G _ h21 (wp_seq (l8 G i7 [(8, iA 1)] fun G => b0 (wp_ret (B7 (m8 ?_))))); exact P7 1 G (rg 7) (au4 (b74 (by with_reducible assumption) (by with_reducible assumption)) (by decide))
def D6 (F : Nat → b5 → Int × Nat) : Nat → List b5 → Int × Nat
 | c, [] => (0, c)
 | c, s :: r => if (F c s).1 = 0 then D6 F (F c s).2 r else F c s
def I5 (p : f7) (s : b5) (pc : Int) : Int := if s.kind = 3 then r8 pc (l5 p s.value) else pc
def stC (p : f7) (strict : Bool) : Nat → Int → Nat → b5 → Int × Nat
  | 0, _, c, _ => (0, c)
  | d + 1, pc, c, s => if O7 p s pc strict = 0 then
      (if (D6 (stC p strict d (I5 p s pc)) (c + 1) s.body).1 = 0 then D6 (stC p strict d (I5 p s pc)) (D6 (stC p strict d (I5 p s pc)) (c + 1) s.body).2 s.els
       else D6 (stC p strict d (I5 p s pc)) (c + 1) s.body)
    else (O7 p s pc strict, c)
abbrev t9 (p : f7) (strict : Bool) (d : Nat) (pc : Int) (c : Nat) (ss : List b5) : Int × Nat := D6 (stC p strict d pc) c ss
theorem ag7 (F : Nat → b5 → Int × Nat) : ∀ (a b : List b5) (c : Nat), D6 F c (a ++ b) = if (D6 F c a).1 = 0 then D6 F (D6 F c a).2 b else D6 F c a
 | [], b, c => by simp [D6]
 | x :: r, b, c => by
  simp only [List.cons_append, D6]
  by_cases h : (F c x).1 = 0
  ·simp only [h, if_true]; exact ag7 F r b _
  ·simp [h]
theorem aa3 {F : Nat → b5 → Int × Nat} {c k : Nat} {ss : List b5} (h : (D6 F c (ss.take k)).1 = 0) (hk : k < ss.length) : D6 F c (ss.take (k + 1)) = F (D6 F c (ss.take k)).2 (ss.getD k b81) := by
 rw [n9 _ _ hk, ag7, if_pos h, p6 hk]
 simp only [D6]
 split
 ·rename_i h; exact Prod.ext h.symm rfl
 ·rfl
theorem F7 {F : Nat → b5 → Int × Nat} {c k : Nat} {ss : List b5} (h : (D6 F c (ss.take k)).1 = 0) (hk : k < ss.length) (hf : ¬ (F (D6 F c (ss.take k)).2 (ss.getD k b81)).1 = 0) : D6 F c ss = F (D6 F c (ss.take k)).2 (ss.getD k b81) := by
 conv => lhs; rw [← List.take_append_drop (k + 1) ss]
 rw [ag7, aa3 h hk, if_neg hf]
theorem aN3 {F : Nat → b5 → Int × Nat} {c k : Nat} {ss : List b5} (hk : ss.length ≤ k) : D6 F c ss = D6 F c (ss.take k) := by rw [b98 hk]
theorem av4 {F : Nat → b5 → Int × Nat} (hF : ∀ c s, (F c s).2 ≤ c + nS s) : ∀ (ss : List b5) (c : Nat), (D6 F c ss).2 ≤ c + E9 ss
 | [], c => by simp [D6]
 | s :: r, c => by
  simp only [D6, E9]
  have h1 := hF c s
  have h2 := av4 hF r (F c s).2
  split <;> omega
theorem bc4 {p : f7} {strict : Bool} : ∀ (d : Nat) (pc : Int) (c : Nat) (s : b5), (stC p strict d pc c s).2 ≤ c + nS s
 | 0, _, c, s => by simp [stC]
 | d + 1, pc, c, s => by
  have hs := ak9 s
  have h1 := av4 (bc4 (p := p) (strict := strict) d (I5 p s pc)) s.body (c + 1)
  have h2 := av4 (bc4 (p := p) (strict := strict) d (I5 p s pc)) s.els (D6 (stC p strict d (I5 p s pc)) (c + 1) s.body).2
  rw [stC]
  split
  ·split <;> omega
  ·simp only; omega
theorem bi6 {p : f7} {strict : Bool} {d : Nat} {pc : Int} {c : Nat} {ss : List b5} : (t9 p strict d pc c ss).2 ≤ c + E9 ss := av4 (bc4 d pc) ss c
theorem z9 {nv na d k : Nat} {ss : List b5} (hs : ss.all (i9 nv na (d + 1)) = true) (hk : k < ss.length) : D5 nv na (ss.getD k b81) = true ∧ (ss.getD k b81).body.all (i9 nv na d) = true ∧ (ss.getD k b81).els.all (i9 nv na d) = true := by
 have h := b93.1 hs _ (ca5 hk)
 rw [O5, b85, b85] at h
 rw [p6 hk]; exact h
theorem ba3 {k : Nat} {ss : List b5} (hk : k < ss.length) : E9 (ss.take k) + (1 + E9 (ss.getD k b81).body + E9 (ss.getD k b81).els) ≤ E9 ss := by
 have h1 := bs1 hk
 have h2 := a51 ss (k + 1)
 rw [ak9] at h1
 rw [p6 hk]; omega
section
variable {p : f7} {strict : Bool} {d c : Nat} {pc : Int} {s : b5}
theorem aE8 (h : ¬ O7 p s pc strict = 0) : stC p strict (d + 1) pc c s = (O7 p s pc strict, c) := by rw [stC, if_neg h]
theorem U9 {x : Int} (h : O7 p s pc strict = 0) (hx : I5 p s pc = x) (h2 : ¬ (t9 p strict d x (c + 1) s.body).1 = 0) : stC p strict (d + 1) pc c s = t9 p strict d x (c + 1) s.body := by
 subst hx; rw [stC, if_pos h, if_neg h2]
theorem O0 {x : Int} (h : O7 p s pc strict = 0) (hx : I5 p s pc = x) (h2 : (t9 p strict d x (c + 1) s.body).1 = 0) : stC p strict (d + 1) pc c s = t9 p strict d x (t9 p strict d x (c + 1) s.body).2 s.els := by
 subst hx; rw [stC, if_pos h, if_pos h2]
theorem ac9 (k : s.kind = 3) : I5 p s pc = r8 pc (l5 p s.value) := if_pos k
theorem ac8 (k : ¬ s.kind = 3) : I5 p s pc = pc := if_neg k
end
theorem aO7 {p : f7} {strict : Bool} {d k c : Nat} {pc : Int} {ss : List b5} (hc : c + E9 ss ≤ 4000000) (hk : k < ss.length) : (t9 p strict (d + 1) pc c (ss.take k)).2 + 1 + E9 (ss.getD k b81).body ≤ 4000000 := by
 have h1 := ba3 (k := k) (ss := ss) hk
 have h2 := bi6 (p := p) (strict := strict) (d := d + 1) (pc := pc) (c := c) (ss := ss.take k)
 omega
theorem aU2 {p : f7} {strict : Bool} {d k c : Nat} {pc x : Int} {ss : List b5} (hc : c + E9 ss ≤ 4000000) (hk : k < ss.length) : (t9 p strict d x ((t9 p strict (d + 1) pc c (ss.take k)).2 + 1) (ss.getD k b81).body).2 + E9 (ss.getD k b81).els ≤ 4000000 := by
 have h1 := ba3 (k := k) (ss := ss) hk
 have h2 := bi6 (p := p) (strict := strict) (d := d + 1) (pc := pc) (c := c) (ss := ss.take k)
 have h3 := bi6 (p := p) (strict := strict) (d := d) (pc := x) (c := (t9 p strict (d + 1) pc c (ss.take k)).2 + 1) (ss := (ss.getD k b81).body)
 omega
theorem bP5 {p : f7} {strict : Bool} {d k c : Nat} {pc : Int} {ss : List b5} (hc : c + E9 ss ≤ 4000000) (hk : k < ss.length) : IntKind.i64.wrap (((t9 p strict (d + 1) pc c (ss.take k)).2 : Int) + 1) = ((t9 p strict (d + 1) pc c (ss.take k)).2 : Int) + 1 := by
 have h1 := aO7 (p := p) (strict := strict) (d := d) (pc := pc) hc hk
 exact w64 (by omega) (by omega)
abbrev bP4 (p : f7) (d : Nat) (ss : List b5) (pc : Int) (c : Nat) (strict : Bool) : m7 := N1 201 [pA 0, .ref 3, iA pc, iA c, bA strict] (pS p ++ [.dat (.stmts ss)]) (.tup [iA (t9 p strict d pc c ss).1, iA (t9 p strict d pc c ss).2])
theorem bi0 (p : f7) (pc : Int) (c : Nat) (strict : Bool) : m7.ok Tryz.prog (bP4 p 0 [] pc c strict) := by
 refine H8 74 Tryz.func201 [dI p.vars, dI p.arrays, dT p.body, dT []] [(0, pA 0), (1, .ref 3), (2, iA pc), (3, iA c), (4, bA strict)] fun G => ?_; refine wp_seq (m5 G i7 (rg 5) [dI p.vars, dI p.arrays, dT p.body, dT [], .box (pL 0)] [(1, .ref 3), (2, iA pc), (3, iA c), (4, bA strict), (5, .ptr 4 0), (10, iA 0), (11, iA 0)] fun G => b0 (wp_seq (wp_seq (K8 G i7 [(1, .ref 3), (2, iA pc), (3, iA c), (4, bA strict), (5, .ptr 4 0), (10, iA 0), (11, iA 0), (12, iA 0)] fun G => b0 (wp_block ?_))))); refine y9 (κ := Nat) (fun k => k = 0) (fun k => 0) (fun k => [dI p.vars, dI p.arrays, dT p.body, dT [], .box (pL 0)]) (fun k => [(1, .ref 3), (2, iA pc), (3, iA c), (4, bA strict), (5, .ptr 4 0), (10, iA 0), (11, iA 0), (12, iA 0)]) 0 (by kernel_rfl) (x8.at G _ _) ?_; clear G; intro k ρ a w hp G; refine wp_seq (wp_seq (l8 G i7 [(19, bA false)] fun G => b0 (rF G false (by kernel_rfl) (wp_exit (y7 (y7 (y6 (b0 (wp_seq (m5 G i7 (rg 4) [dI p.vars, dI p.arrays, dT p.body, dT []] [(10, iA 0), (11, iA c)] fun G => b0 (wp_ret ?_))))))))))); exact Q9 G (rg 4)
abbrev ao7 (p : f7) (d : Nat) (strict : Bool) (ss : List b5) (pc : Int) (c : Nat) (k : Nat) := t9 p strict d (r8 pc (l5 p (ss.getD k b81).value)) ((t9 p strict (d + 1) pc c (b88 k ss)).snd + 1) (ss.getD k b81).body
abbrev aa9 (p : f7) (d : Nat) (strict : Bool) (ss : List b5) (pc : Int) (c : Nat) (k : Nat) := t9 p strict d pc ((t9 p strict (d + 1) pc c (b88 k ss)).snd + 1) (ss.getD k b81).body
abbrev a17 (p : f7) (d : Nat) (strict : Bool) (ss : List b5) (pc : Int) (c : Nat) (k : Nat) := t9 p strict d (r8 pc (l5 p (ss.getD k b81).value)) (ao7 p d strict ss pc c k).snd (ss.getD k b81).els
abbrev aQ7 (strict : Bool) (k : Nat) (r0 : List (Nat × AV)) : List (Nat × AV) := (4, bA strict) :: (5, .ptr 4 0) :: (10, iA 0) :: (11, iA 0) :: (12, iA (k : Int)) :: r0
abbrev aH0 (p : f7) (ss : List b5) (r0 : List It) : List It := dI p.vars :: dI p.arrays :: dT p.body :: dT ss :: .box (pL 0) :: r0
theorem bh8 (p : f7) (d : Nat) (strict : Bool) (ih : ∀ (ss : List b5) (pc : Int) (c : Nat), ss.all (i9 p.vars.length p.arrays.length d) = true → c + E9 ss ≤ 4000000 → m7.ok Tryz.prog (bP4 p d ss pc c strict))
    (ss : List b5) (pc : Int) (c : Nat) (hs : ss.all (i9 p.vars.length p.arrays.length (d + 1)) = true) (hc : c + E9 ss ≤ 4000000) : m7.ok Tryz.prog (bP4 p (d + 1) ss pc c strict) := by
  refine H8 74 Tryz.func201 [dI p.vars, dI p.arrays, dT p.body, dT ss] [(0, pA 0), (1, .ref 3), (2, iA pc), (3, iA c), (4, bA strict)] fun G => ?_; have hlen : ss.length ≤ 9223372036854775807 := G.len 3 (d := .stmts ss) (by kernel_rfl); refine wp_seq (m5 G i7 (rg 5) (aH0 p ss []) [(1, .ref 3), (2, iA pc), (3, iA c), (4, bA strict), (5, .ptr 4 0), (10, iA 0), (11, iA 0)] fun G => b0 (wp_seq (wp_seq (K8 G i7 [(1, .ref 3), (2, iA pc), (3, iA c), (4, bA strict), (5, .ptr 4 0), (10, iA 0), (11, iA 0), (12, iA 0)] fun G => b0 (wp_block ?_))))); refine y9 (κ := Nat) (fun k => k ≤ ss.length ∧ (t9 p strict (d + 1) pc c (ss.take k)).1 = 0) (fun k => ss.length - k) (fun k => [dI p.vars, dI p.arrays, dT p.body, dT ss, .box (pL 0)]) (fun k => [(1, .ref 3), (2, iA pc), (3, iA (t9 p strict (d + 1) pc c (ss.take k)).2), (4, bA strict), (5, .ptr 4 0), (10, iA 0), (11, iA 0), (12, iA k)]) 0 (⟨cb1 _, rfl⟩) (x8.at G _ _) ?_; clear G; intro k ρ a w hp G; replace G := x8.at G (aH0 p ss []) ((1, .ref 3) :: (2, iA pc) :: (3, iA ((t9 p strict (d + 1) pc c (b88 k ss)).snd : Int)) :: (aQ7 strict k [])); refine wp_seq (wp_seq (l8 G i7 [(19, bA (decide ((k : Int) < ss.length)))] fun G => b0 (rcD G (fun h0 q0 => ?_) fun h0 q0 => ?_)))
  · refine wp_exit (y7 (y7 (y6 (b0 (wp_seq (m5 G i7 (rg 4) [dI p.vars, dI p.arrays, dT p.body, dT ss] [(10, iA 0), (11, iA ((t9 p strict (d + 1) pc c (b88 k ss)).snd : Int))] fun G => b0 (wp_ret ?_))))))); exact X8 (.tup [iA 0, iA ((t9 p strict (d + 1) pc c (b88 k ss)).snd : Int)]) G (rg 4) (by have e1 : ((t9 p strict (d + 1) pc c ss).fst : Int) = (0) := (by rw [t9, aN3 (k := k) (by omega)]; exact hp.2); have e2 : (((t9 p strict (d + 1) pc c ss).snd : Int) : Int) = (((t9 p strict (d + 1) pc c (b88 k ss)).snd : Int)) := (by rw [t9, aN3 (k := k) (by omega)]); (first | rw [e1, e2] | simp only [e1, e2]) <;> rfl)
  ·
   refine wp_skip (b0 (wp_seq (wp_block (wp_seq (U0 G i7 [0, 1, 2, 3, 4, 29, 30, 31, 32, 37] (aH0 p ss [dE (ss.getD k b81).index.kids, dE (ss.getD k b81).value.kids, dT (ss.getD k b81).body, dT (ss.getD k b81).els, .box (sL (ss.getD k b81) 5)]) ((1, .ref 3) :: (2, iA pc) :: (3, iA ((t9 p strict (d + 1) pc c (b88 k ss)).snd : Int)) :: (aQ7 strict k [(13, .ptr 9 0)])) (iX k k ss.length []) (iK (by have hp := hp; omega) b91) fun G => b0 (wp_seq (l8 G (t5 4 [0, 1, 2, 5, 6, 7, 8] (bO6 p (ss.getD k b81) pc strict ((z9 hs (by omega)).1))) [(14, iA (O7 p (ss.getD k b81) pc strict))] fun G => b0 (wp_seq (wp_seq (l8 G i7 [(32, bA (O7 p (ss.getD k b81) pc strict != 0))] fun G => b0 (rcN G (fun h1 q1 => ?_) fun h1 q1 => ?_)))))))))))
   ·
    refine wp_skip (b0 (wp_seq (K7 G i7 [(3, iA (((t9 p strict (d + 1) pc c (b88 k ss)).snd : Int) + 1))] [wO (((t9 p strict (d + (1 : Nat)) pc c (b88 k ss)).snd : Int) + 1)] ⟨(bP5 hc (by omega)), b91⟩ fun G => b0 (wp_seq (l8 G i7 [(15, iA pc)] fun G => b0 (wp_seq (wp_seq (l8 G i7 [(40, bA ((ss.getD k b81).kind == 3))] fun G => b0 (T1 G (fun h2 q2 => ?_) fun h2 q2 => ?_)))))))))
    ·
     refine wp_skip (b0 (wp_seq (l8 G (t5 6 [0, 1, 2, 7] (ih ((ss.getD k b81).body) pc ((t9 p strict (d + 1) pc c (b88 k ss)).snd + 1) ((z9 hs (by omega)).2.1) (aO7 hc (by omega)))) [(3, iA ((aa9 p d strict ss pc c k).snd : Int)), (14, iA (aa9 p d strict ss pc c k).fst)] fun G => b0 (wp_seq (wp_seq (l8 G i7 [(58, bA ((aa9 p d strict ss pc c k).fst == 0))] fun G => b0 (T1 (u := ((t9 p strict d pc ((t9 p strict (d + (1 : Nat)) pc c (b88 k ss)).snd + (1 : Nat)) (ss.getD k b81).body).fst)) (v := (0 : Int)) G (fun h3 q3 => ?_) fun h3 q3 => ?_)))))))
     ·
      refine wp_skip (b0 (wp_seq (m5 G i7 (rg 5) (aH0 p ss []) ((1, .ref 3) :: (2, iA pc) :: (3, iA ((aa9 p d strict ss pc c k).snd : Int)) :: (aQ7 strict k [(14, iA (aa9 p d strict ss pc c k).fst), (70, bA ((aa9 p d strict ss pc c k).fst != 0))])) fun G => b0 ?_))); cases h4 : ((t9 p strict d pc ((t9 p strict (d + (1 : Nat)) pc c (b88 k ss)).snd + (1 : Nat)) (ss.getD k b81).body).fst != 0)
      · have q4 := bne_eq_false_iff_eq.1 h4; exact False.elim (by omega)
      · have q4 := bne_iff_ne.1 h4; refine rT G _ h4 (wp_seq (l8 G i7 [(10, iA (aa9 p d strict ss pc c k).fst), (11, iA ((aa9 p d strict ss pc c k).snd : Int))] fun G => b0 (wp_ret (B7 (m8 (m8 (B7 (m8 ?_)))))))); exact X8 (.tup [iA (t9 p strict d pc ((t9 p strict (d + 1) pc c (b88 k ss)).snd + 1) (ss.getD k b81).body).fst, iA ((t9 p strict d pc ((t9 p strict (d + 1) pc c (b88 k ss)).snd + 1) (ss.getD k b81).body).snd : Int)]) G (rg 4) (by have e1 : ((t9 p strict (d + 1) pc c ss).fst : Int) = ((t9 p strict d pc ((t9 p strict (d + 1) pc c (b88 k ss)).snd + 1) (ss.getD k b81).body).fst) := (by rw [t9, F7 hp.2 (by omega) (by rw [U9 (by with_reducible assumption) (ac8 (by with_reducible assumption)) (by with_reducible assumption)]; with_reducible assumption), U9 (by with_reducible assumption) (ac8 (by with_reducible assumption)) (by with_reducible assumption)]); have e2 : (((t9 p strict (d + 1) pc c ss).snd : Int) : Int) = (((t9 p strict d pc ((t9 p strict (d + 1) pc c (b88 k ss)).snd + 1) (ss.getD k b81).body).snd : Int)) := (by rw [t9, F7 hp.2 (by omega) (by rw [U9 (by with_reducible assumption) (ac8 (by with_reducible assumption)) (by with_reducible assumption)]; with_reducible assumption), U9 (by with_reducible assumption) (ac8 (by with_reducible assumption)) (by with_reducible assumption)]); (first | rw [e1, e2] | simp only [e1, e2]) <;> rfl)
     ·
      refine m5 G (t5 6 [0, 1, 2, 8] (ih ((ss.getD k b81).els) pc ((aa9 p d strict ss pc c k).snd) ((z9 hs (by omega)).2.2) (aU2 hc (by omega)))) (rg 5) (aH0 p ss []) ((1, .ref 3) :: (2, iA pc) :: (3, iA ((t9 p strict d pc (aa9 p d strict ss pc c k).snd (ss.getD k b81).els).snd : Int)) :: (aQ7 strict k [(14, iA (t9 p strict d pc (aa9 p d strict ss pc c k).snd (ss.getD k b81).els).fst)])) fun G => b0 (wp_seq (l8 G i7 [(70, bA ((t9 p strict d pc (aa9 p d strict ss pc c k).snd (ss.getD k b81).els).fst != 0))] fun G => b0 (rcN (u := ((t9 p strict d pc (t9 p strict d pc ((t9 p strict (d + (1 : Nat)) pc c (b88 k ss)).snd + (1 : Nat)) (ss.getD k b81).body).snd (ss.getD k b81).els).fst)) (v := (0 : Int)) G (fun h5 q5 => ?_) fun h5 q5 => ?_)))
      · refine wp_skip (r7 (b0 (K7 G i7 [(12, iA ((k : Int) + 1))] [wO ((k : Int) + 1)] (o1 (by omega)) fun G => b0 ?_))); exact rxn G (k + 1) (⟨by omega, by rw [t9, aa3 hp.2 (by omega), O0 (by with_reducible assumption) (ac8 (by with_reducible assumption)) (by with_reducible assumption)]; with_reducible assumption⟩) (by have hp := hp; omega) (rg 5) (ht := by have e1 : (((t9 p strict (d + 1) pc c (b88 (k + 1) ss)).snd : Int) : Int) = (((t9 p strict d pc (t9 p strict d pc ((t9 p strict (d + 1) pc c (b88 k ss)).snd + 1) (ss.getD k b81).body).snd (ss.getD k b81).els).snd : Int)) := (by rw [t9, aa3 hp.2 (by omega), O0 (by with_reducible assumption) (ac8 (by with_reducible assumption)) (by with_reducible assumption)]); (first | rw [e1] | simp only [e1]) <;> rfl)
      · refine wp_seq (l8 G i7 [(10, iA (t9 p strict d pc (aa9 p d strict ss pc c k).snd (ss.getD k b81).els).fst), (11, iA ((t9 p strict d pc (aa9 p d strict ss pc c k).snd (ss.getD k b81).els).snd : Int))] fun G => b0 (wp_ret (B7 (m8 (m8 (B7 (m8 ?_))))))); exact X8 (.tup [iA (t9 p strict d pc (t9 p strict d pc ((t9 p strict (d + 1) pc c (b88 k ss)).snd + 1) (ss.getD k b81).body).snd (ss.getD k b81).els).fst, iA ((t9 p strict d pc (t9 p strict d pc ((t9 p strict (d + 1) pc c (b88 k ss)).snd + 1) (ss.getD k b81).body).snd (ss.getD k b81).els).snd : Int)]) G (rg 4) (by have e1 : ((t9 p strict (d + 1) pc c ss).fst : Int) = ((t9 p strict d pc (t9 p strict d pc ((t9 p strict (d + 1) pc c (b88 k ss)).snd + 1) (ss.getD k b81).body).snd (ss.getD k b81).els).fst) := (by rw [t9, F7 hp.2 (by omega) (by rw [O0 (by with_reducible assumption) (ac8 (by with_reducible assumption)) (by with_reducible assumption)]; with_reducible assumption), O0 (by with_reducible assumption) (ac8 (by with_reducible assumption)) (by with_reducible assumption)]); have e2 : (((t9 p strict (d + 1) pc c ss).snd : Int) : Int) = (((t9 p strict d pc (t9 p strict d pc ((t9 p strict (d + 1) pc c (b88 k ss)).snd + 1) (ss.getD k b81).body).snd (ss.getD k b81).els).snd : Int)) := (by rw [t9, F7 hp.2 (by omega) (by rw [O0 (by with_reducible assumption) (ac8 (by with_reducible assumption)) (by with_reducible assumption)]; with_reducible assumption), O0 (by with_reducible assumption) (ac8 (by with_reducible assumption)) (by with_reducible assumption)]); (first | rw [e1, e2] | simp only [e1, e2]) <;> rfl)
    ·
     refine l8 G (t5 4 [0, 1, 2, 6] (M7 p ((ss.getD k b81).value) (v9 (z9 hs (by omega)).1 (by omega)))) [(15, iA (r8 pc (l5 p (ss.getD k b81).value)))] fun G => b0 (wp_seq (l8 G (t5 6 [0, 1, 2, 7] (ih ((ss.getD k b81).body) (r8 pc (l5 p (ss.getD k b81).value)) ((t9 p strict (d + 1) pc c (b88 k ss)).snd + 1) ((z9 hs (by omega)).2.1) (aO7 hc (by omega)))) [(3, iA ((ao7 p d strict ss pc c k).snd : Int)), (14, iA (ao7 p d strict ss pc c k).fst)] fun G => b0 (wp_seq (wp_seq (l8 G i7 [(58, bA ((ao7 p d strict ss pc c k).fst == 0))] fun G => b0 (T1 (u := ((t9 p strict d (r8 pc (l5 p (ss.getD k b81).value)) ((t9 p strict (d + (1 : Nat)) pc c (b88 k ss)).snd + (1 : Nat)) (ss.getD k b81).body).fst)) (v := (0 : Int)) G (fun h6 q6 => ?_) fun h6 q6 => ?_))))))
     ·
      refine wp_skip (b0 (wp_seq (m5 G i7 (rg 5) (aH0 p ss []) ((1, .ref 3) :: (2, iA pc) :: (3, iA ((ao7 p d strict ss pc c k).snd : Int)) :: (aQ7 strict k [(14, iA (ao7 p d strict ss pc c k).fst), (70, bA ((ao7 p d strict ss pc c k).fst != 0))])) fun G => b0 ?_))); cases h7 : ((t9 p strict d (r8 pc (l5 p (ss.getD k b81).value)) ((t9 p strict (d + (1 : Nat)) pc c (b88 k ss)).snd + (1 : Nat)) (ss.getD k b81).body).fst != 0)
      · have q7 := bne_eq_false_iff_eq.1 h7; exact False.elim (by omega)
      · have q7 := bne_iff_ne.1 h7; refine rT G _ h7 (wp_seq (l8 G i7 [(10, iA (ao7 p d strict ss pc c k).fst), (11, iA ((ao7 p d strict ss pc c k).snd : Int))] fun G => b0 (wp_ret (B7 (m8 (m8 (B7 (m8 ?_)))))))); exact X8 (.tup [iA (t9 p strict d (r8 pc (l5 p (ss.getD k b81).value)) ((t9 p strict (d + 1) pc c (b88 k ss)).snd + 1) (ss.getD k b81).body).fst, iA ((t9 p strict d (r8 pc (l5 p (ss.getD k b81).value)) ((t9 p strict (d + 1) pc c (b88 k ss)).snd + 1) (ss.getD k b81).body).snd : Int)]) G (rg 4) (by have e1 : ((t9 p strict (d + 1) pc c ss).fst : Int) = ((t9 p strict d (r8 pc (l5 p (ss.getD k b81).value)) ((t9 p strict (d + 1) pc c (b88 k ss)).snd + 1) (ss.getD k b81).body).fst) := (by rw [t9, F7 hp.2 (by omega) (by rw [U9 (by with_reducible assumption) (ac9 (by with_reducible assumption)) (by with_reducible assumption)]; with_reducible assumption), U9 (by with_reducible assumption) (ac9 (by with_reducible assumption)) (by with_reducible assumption)]); have e2 : (((t9 p strict (d + 1) pc c ss).snd : Int) : Int) = (((t9 p strict d (r8 pc (l5 p (ss.getD k b81).value)) ((t9 p strict (d + 1) pc c (b88 k ss)).snd + 1) (ss.getD k b81).body).snd : Int)) := (by rw [t9, F7 hp.2 (by omega) (by rw [U9 (by with_reducible assumption) (ac9 (by with_reducible assumption)) (by with_reducible assumption)]; with_reducible assumption), U9 (by with_reducible assumption) (ac9 (by with_reducible assumption)) (by with_reducible assumption)]); (first | rw [e1, e2] | simp only [e1, e2]) <;> rfl)
     ·
      refine m5 G (t5 6 [0, 1, 2, 8] (ih ((ss.getD k b81).els) (r8 pc (l5 p (ss.getD k b81).value)) ((ao7 p d strict ss pc c k).snd) ((z9 hs (by omega)).2.2) (aU2 hc (by omega)))) (rg 5) (aH0 p ss []) ((1, .ref 3) :: (2, iA pc) :: (3, iA ((a17 p d strict ss pc c k).snd : Int)) :: (aQ7 strict k [(14, iA (a17 p d strict ss pc c k).fst)])) fun G => b0 (wp_seq (l8 G i7 [(70, bA ((a17 p d strict ss pc c k).fst != 0))] fun G => b0 (rcN (u := ((t9 p strict d (r8 pc (l5 p (ss.getD k b81).value)) (t9 p strict d (r8 pc (l5 p (ss.getD k b81).value)) ((t9 p strict (d + (1 : Nat)) pc c (b88 k ss)).snd + (1 : Nat)) (ss.getD k b81).body).snd (ss.getD k b81).els).fst)) (v := (0 : Int)) G (fun h8 q8 => ?_) fun h8 q8 => ?_)))
      · refine wp_skip (r7 (b0 (K7 G i7 [(12, iA ((k : Int) + 1))] [wO ((k : Int) + 1)] (o1 (by omega)) fun G => b0 ?_))); exact rxn G (k + 1) (⟨by omega, by rw [t9, aa3 hp.2 (by omega), O0 (by with_reducible assumption) (ac9 (by with_reducible assumption)) (by with_reducible assumption)]; with_reducible assumption⟩) (by have hp := hp; omega) (rg 5) (ht := by have e1 : (((t9 p strict (d + 1) pc c (b88 (k + 1) ss)).snd : Int) : Int) = (((t9 p strict d (r8 pc (l5 p (ss.getD k b81).value)) (t9 p strict d (r8 pc (l5 p (ss.getD k b81).value)) ((t9 p strict (d + 1) pc c (b88 k ss)).snd + 1) (ss.getD k b81).body).snd (ss.getD k b81).els).snd : Int)) := (by rw [t9, aa3 hp.2 (by omega), O0 (by with_reducible assumption) (ac9 (by with_reducible assumption)) (by with_reducible assumption)]); (first | rw [e1] | simp only [e1]) <;> rfl)
      · refine wp_seq (l8 G i7 [(10, iA (a17 p d strict ss pc c k).fst), (11, iA ((a17 p d strict ss pc c k).snd : Int))] fun G => b0 (wp_ret (B7 (m8 (m8 (B7 (m8 ?_))))))); exact X8 (.tup [iA (t9 p strict d (r8 pc (l5 p (ss.getD k b81).value)) (t9 p strict d (r8 pc (l5 p (ss.getD k b81).value)) ((t9 p strict (d + 1) pc c (b88 k ss)).snd + 1) (ss.getD k b81).body).snd (ss.getD k b81).els).fst, iA ((t9 p strict d (r8 pc (l5 p (ss.getD k b81).value)) (t9 p strict d (r8 pc (l5 p (ss.getD k b81).value)) ((t9 p strict (d + 1) pc c (b88 k ss)).snd + 1) (ss.getD k b81).body).snd (ss.getD k b81).els).snd : Int)]) G (rg 4) (by have e1 : ((t9 p strict (d + 1) pc c ss).fst : Int) = ((t9 p strict d (r8 pc (l5 p (ss.getD k b81).value)) (t9 p strict d (r8 pc (l5 p (ss.getD k b81).value)) ((t9 p strict (d + 1) pc c (b88 k ss)).snd + 1) (ss.getD k b81).body).snd (ss.getD k b81).els).fst) := (by rw [t9, F7 hp.2 (by omega) (by rw [O0 (by with_reducible assumption) (ac9 (by with_reducible assumption)) (by with_reducible assumption)]; with_reducible assumption), O0 (by with_reducible assumption) (ac9 (by with_reducible assumption)) (by with_reducible assumption)]); have e2 : (((t9 p strict (d + 1) pc c ss).snd : Int) : Int) = (((t9 p strict d (r8 pc (l5 p (ss.getD k b81).value)) (t9 p strict d (r8 pc (l5 p (ss.getD k b81).value)) ((t9 p strict (d + 1) pc c (b88 k ss)).snd + 1) (ss.getD k b81).body).snd (ss.getD k b81).els).snd : Int)) := (by rw [t9, F7 hp.2 (by omega) (by rw [O0 (by with_reducible assumption) (ac9 (by with_reducible assumption)) (by with_reducible assumption)]; with_reducible assumption), O0 (by with_reducible assumption) (ac9 (by with_reducible assumption)) (by with_reducible assumption)]); (first | rw [e1, e2] | simp only [e1, e2]) <;> rfl)
   · refine wp_seq (l8 G i7 [(10, iA (O7 p (ss.getD k b81) pc strict)), (11, iA ((t9 p strict (d + 1) pc c (b88 k ss)).snd : Int))] fun G => b0 (wp_ret (m8 (B7 (m8 (m8 (B7 (m8 ?_)))))))); exact X8 (.tup [iA (O7 p (ss.getD k b81) pc strict), iA ((t9 p strict (d + 1) pc c (b88 k ss)).snd : Int)]) G (rg 4) (by have e1 : ((t9 p strict (d + 1) pc c ss).fst : Int) = (O7 p (ss.getD k b81) pc strict) := (by rw [t9, F7 hp.2 (by omega) (by rw [aE8 (by with_reducible assumption)]; with_reducible assumption), aE8 (by with_reducible assumption)]); have e2 : (((t9 p strict (d + 1) pc c ss).snd : Int) : Int) = (((t9 p strict (d + 1) pc c (b88 k ss)).snd : Int)) := (by rw [t9, F7 hp.2 (by omega) (by rw [aE8 (by with_reducible assumption)]; with_reducible assumption), aE8 (by with_reducible assumption)]); (first | rw [e1, e2] | simp only [e1, e2]) <;> rfl)
theorem bh9 (p : f7) (strict : Bool) : ∀ (d : Nat) (ss : List b5) (pc : Int) (c : Nat), ss.all (i9 p.vars.length p.arrays.length d) = true → c + E9 ss ≤ 4000000 → m7.ok Tryz.prog (bP4 p d ss pc c strict) := by
 intro d
 induction d with
 | zero =>
  intro ss pc c h hc
  cases ss with
  | nil => exact bi0 p pc c strict
  | cons s r => simp [i9] at h
 | succ d ih => intro ss pc c h hc; exact bh8 p d strict ih ss pc c h hc
theorem M0 {p : f7} (h : n4 p = true) : p.body.all (i9 p.vars.length p.arrays.length 5) = true ∧ E9 p.body ≤ 60 := by
 simp only [n4, S6, b85, decide_eq_true_eq] at h
 exact ⟨h.1.2, h.2⟩
theorem bG2 (p : f7) (strict : Bool) (h : n4 p = true) : m7.ok Tryz.prog (N1 201 [pA 0, .ref 2, iA 0, iA 0, bA strict] (pS p) (.tup [iA (t9 p strict 5 0 0 p.body).1, iA (t9 p strict 5 0 0 p.body).2])) :=
 m7.dup (S := pS p) (S' := pS p) (d := .stmts p.body) (i := 2) (bh9 p strict 5 p.body 0 0 (M0 h).1 (by have := (M0 h).2; omega)) rfl rfl rfl (fun ρ h => by simp only [AV.vals, AV.val]; rw [show ρ 3 = ρ 2 from h]; rfl) rfl
def R0 (p : f7) (strict : Bool) : Int × Int := if n4 p then (if (t9 p strict 5 0 0 p.body).1 = 0 then (0, -1) else ((t9 p strict 5 0 0 p.body).1, ((t9 p strict 5 0 0 p.body).2 : Int))) else (5, -1)
def ctR (p : f7) : Int × Int := if (R0 p false).1 = 0 then R0 p true else R0 p false
section
variable {p : f7} {strict : Bool}
theorem bo6 (h : n4 p = false) : R0 p strict = (5, -1) := by rw [R0, h]; rfl
theorem bp0 (h : n4 p = true) (h1 : (t9 p strict 5 0 0 p.body).1 = 0) : R0 p strict = (0, -1) := by rw [R0, h, h1]; rfl
theorem bF4 (h : n4 p = true) (h1 : ¬ (t9 p strict 5 0 0 p.body).1 = 0) : R0 p strict = ((t9 p strict 5 0 0 p.body).1, ((t9 p strict 5 0 0 p.body).2 : Int)) := by rw [R0, h, if_neg h1]; rfl
theorem b20 (h : (R0 p false).1 = 0) : ctR p = R0 p true := if_pos h
theorem b19 (h : ¬ (R0 p false).1 = 0) : ctR p = R0 p false := if_neg h
end
theorem bu2 (p : f7) (strict : Bool) (hb : p7 p.body ≤ 1048576) : m7.ok Tryz.prog (N1 150 [pA 0, bA strict] (pS p) (.tup [iA (R0 p strict).1, iA (R0 p strict).2])) := by
  refine H8 24 Tryz.func150 [dI p.vars, dI p.arrays, dT p.body] [(0, pA 0), (1, bA strict)] fun G => ?_; refine wp_seq (m5 G i7 (rg 4) [dI p.vars, dI p.arrays, dT p.body, .box (pL 0)] [(1, bA strict), (2, .ptr 3 0), (4, iA 0), (5, iA 0)] fun G => b0 (wp_seq (wp_seq (l8 G (t5 1 [0, 1, 2] (S5 p (by assumption))) [(10, .v (.bool !n4 p))] fun G => b0 ?_)))); cases h0 : (!n4 p)
  ·
   have q0 : (n4 p) = true := (Eq.mp (ca0 _) h0); refine rF G _ h0 (wp_skip (b0 (wp_seq (m5 G (t5 4 [0, 1, 2] (bG2 p strict (by assumption))) [0, 1, 2] [dI p.vars, dI p.arrays, dT p.body] [(4, iA 0), (5, iA 0), (6, iA (t9 p strict 5 0 0 p.body).fst), (7, iA ((t9 p strict 5 0 0 p.body).snd : Int))] fun G => b0 (wp_seq (wp_seq (l8 G i7 [(20, bA ((t9 p strict 5 0 0 p.body).fst == 0))] fun G => b0 (T1 G (fun h1 q1 => ?_) fun h1 q1 => ?_))))))))
   · refine wp_skip (b0 (wp_seq (l8 G i7 [(4, iA (t9 p strict 5 0 0 p.body).fst), (5, iA ((t9 p strict 5 0 0 p.body).snd : Int))] fun G => b0 (wp_ret ?_)))); exact X8 (.tup [iA (t9 p strict 5 0 0 p.body).fst, iA ((t9 p strict 5 0 0 p.body).snd : Int)]) G [0, 1, 2] (by have e1 : ((R0 p strict).fst : Int) = ((t9 p strict 5 0 0 p.body).fst) := (by rw [bF4 (by assumption) (by assumption)]; done); have e2 : ((R0 p strict).snd : Int) = (((t9 p strict 5 0 0 p.body).snd : Int)) := (by rw [bF4 (by assumption) (by assumption)]; done); (first | rw [e1, e2] | simp only [e1, e2]) <;> rfl)
   · refine wp_seq (l8 G i7 [(4, iA (t9 p strict 5 0 0 p.body).fst), (5, iA (-1))] fun G => b0 (wp_ret (m8 ?_))); exact X8 (.tup [iA (t9 p strict 5 0 0 p.body).fst, iA (-1)]) G [0, 1, 2] (by have e1 : ((R0 p strict).fst : Int) = ((t9 p strict 5 0 0 p.body).fst) := ((congrArg Prod.fst (bp0 (by assumption) (by assumption))).trans (Eq.symm (by assumption))); have e2 : ((R0 p strict).snd : Int) = (-1) := (by rw [bp0 (by assumption) (by assumption)]; done); (first | rw [e1, e2] | simp only [e1, e2]) <;> rfl)
  · have q0 : (n4 p) = false := (Eq.mp (b99 _) h0); refine rT G _ h0 (wp_seq (l8 G i7 [(4, iA 5), (5, iA (-1))] fun G => b0 (wp_ret (m8 ?_)))); exact X8 (.tup [iA 5, iA (-1)]) G [0, 1, 2] (by have e1 : ((R0 p strict).fst : Int) = (5) := (by rw [bo6 (by assumption)]; done); have e2 : ((R0 p strict).snd : Int) = (-1) := (by rw [bo6 (by assumption)]; done); (first | rw [e1, e2] | simp only [e1, e2]) <;> rfl)
theorem ba1 (p : f7) (hb : p7 p.body ≤ 1048576) : m7.ok Tryz.prog (N1 77 [pA 0] (pS p) (.tup [iA (R0 p false).1, iA (R0 p false).2])) := by
 refine H8 8 Tryz.func77 [dI p.vars, dI p.arrays, dT p.body] [(0, pA 0)] fun G => ?_; refine wp_seq (m5 G i7 (rg 4) [dI p.vars, dI p.arrays, dT p.body, .box (pL 0)] [(1, .ptr 3 0), (2, iA 0), (3, iA 0)] fun G => b0 (wp_seq (m5 G (t5 1 [0, 1, 2] (bu2 p false (by assumption))) [0, 1, 2] [dI p.vars, dI p.arrays, dT p.body] [(2, iA (R0 p false).fst), (3, iA (R0 p false).snd)] fun G => b0 (wp_ret ?_)))); exact Q9 G [0, 1, 2]
theorem Y3 (p : f7) (e : d7) (he : m6 p.vars.length p.arrays.length 5 e = true) : m7.ok Tryz.prog (N1 141 [pA 0, eA e 3] (pS p ++ eS e) (iA (l5 p e))) := a90 p 5 e he
def aj4 (p : f7) (s : b5) (cx : Int) : Int := if s.kind = 2 then r8 (r8 (l5 p s.value) cx) (l5 p s.index) else r8 (l5 p s.value) cx
def R7 (p : f7) (s : b5) (cx : Int) : Int :=
 if s.kind = 1 then if anI (r8 (l5 p s.value) cx) (p.vars.getD s.target.toNat 0) = 0 then 0 else 1
 else if s.kind = 2 then if anI (r8 (r8 (l5 p s.value) cx) (l5 p s.index)) (p.arrays.getD s.target.toNat 0) = 0 then 0 else 1
 else if s.kind = 5 then if (i5 (l5 p s.value) && decide (l5 p s.value ≤ 1)) = true ∧ cx = 0 then 0 else 2
 else 0
theorem bx5 {p : f7} {s : b5} {cx : Int} (k : ¬ s.kind = 2) : aj4 p s cx = r8 (l5 p s.value) cx := if_neg k
theorem bx4 {p : f7} {s : b5} {cx : Int} (k : s.kind = 2) : aj4 p s cx = r8 (r8 (l5 p s.value) cx) (l5 p s.index) := if_pos k
section
variable {p : f7} {s : b5} {cx : Int}
theorem b69 (k : s.kind = 1) (h : (!(anI (aj4 p s cx) (p.vars.getD s.target.toNat 0) == 0)) = false) : R7 p s cx = 0 := by
 rw [bx5 (by omega)] at h
 rw [R7, if_pos k, if_pos (by simpa using h)]
theorem b70 (k : s.kind = 1) (h : (!(anI (aj4 p s cx) (p.vars.getD s.target.toNat 0) == 0)) = true) : R7 p s cx = 1 := by
 rw [bx5 (by omega)] at h
 rw [R7, if_pos k, if_neg (by simpa using h)]
theorem b67 (k : s.kind = 2) (h : (!(anI (aj4 p s cx) (p.arrays.getD s.target.toNat 0) == 0)) = false) : R7 p s cx = 0 := by
 rw [bx4 k] at h
 rw [R7, if_neg (by omega), if_pos k, if_pos (by simpa using h)]
theorem b68 (k : s.kind = 2) (h : (!(anI (aj4 p s cx) (p.arrays.getD s.target.toNat 0) == 0)) = true) : R7 p s cx = 1 := by
 rw [bx4 k] at h
 rw [R7, if_neg (by omega), if_pos k, if_neg (by simpa using h)]
theorem b66 (k : s.kind = 5) (h : (!(i5 (l5 p s.value) && decide (l5 p s.value ≤ 1))) = false) (h2 : cx = 0) : R7 p s cx = 0 := by
 rw [ca0] at h
 rw [R7, if_neg (by omega), if_neg (by omega), if_pos k, if_pos ⟨h, h2⟩]
theorem b07 (k : s.kind = 5) (h : (!(i5 (l5 p s.value) && decide (l5 p s.value ≤ 1))) = true ∨ ¬ cx = 0) : R7 p s cx = 2 := by
 rw [R7, if_neg (by omega), if_neg (by omega), if_pos k, if_neg]
 rintro ⟨a, b⟩
 rcases h with h | h
 ·rw [a] at h; cases h
 ·exact h b
theorem if0 (k : ¬ s.kind = 1 ∧ ¬ s.kind = 2 ∧ ¬ s.kind = 5) : R7 p s cx = 0 := by rw [R7, if_neg k.1, if_neg k.2.1, if_neg k.2.2]
end
theorem a87 (p : f7) (s : b5) (cx : Int) (h : D5 p.vars.length p.arrays.length s = true) (h4 : ¬ s.kind = 4) : m7.ok Tryz.prog (N1 139 [pA 0, sA s 3, iA cx] (pS p ++ sS s) (iA (aj4 p s cx))) := by
 refine H8 24 Tryz.func139 [dI p.vars, dI p.arrays, dT p.body, dE s.index.kids, dE s.value.kids, dT s.body, dT s.els] [(0, pA 0), (1, sA s 3), (2, iA cx)] fun G => ?_; refine wp_seq (m5 G i7 [0, 1, 2, 3, 4, 5, 6, 7, 15] [dI p.vars, dI p.arrays, dT p.body, dE s.index.kids, dE s.value.kids, dT s.body, dT s.els, .box (pL 0), .box (sL s 3)] [(2, iA cx), (3, .ptr 7 0), (4, .ptr 8 0), (6, iA 0)] fun G => b0 (wp_seq (l8 G (t5 3 [0, 1, 2, 4] (Y3 p s.value (v9 h (by omega)))) [(7, iA (r8 (l5 p s.value) cx))] fun G => b0 (wp_seq (wp_seq (l8 G i7 [(16, bA (s.kind == 2))] fun G => b0 (T1 G (fun h0 q0 => ?_) fun h0 q0 => ?_)))))))
 ·refine wp_skip (b0 (wp_seq (m5 G i7 (rg 7) [dI p.vars, dI p.arrays, dT p.body, dE s.index.kids, dE s.value.kids, dT s.body, dT s.els] [(6, iA (r8 (l5 p s.value) cx))] fun G => b0 (wp_ret ?_)))); exact P7 (r8 (l5 p s.value) cx) G (rg 7) (bx5 (by assumption))
 ·refine m5 G (t5 4 (rg 4) (Y3 p s.index (ae3 h (by assumption)))) (rg 7) [dI p.vars, dI p.arrays, dT p.body, dE s.index.kids, dE s.value.kids, dT s.body, dT s.els] [(6, iA 0), (7, iA (r8 (r8 (l5 p s.value) cx) (l5 p s.index)))] fun G => b0 (wp_seq (l8 G i7 [(6, iA (r8 (r8 (l5 p s.value) cx) (l5 p s.index)))] fun G => b0 (wp_ret ?_))); exact P7 (r8 (r8 (l5 p s.value) cx) (l5 p s.index)) G (rg 7) (bx4 (by assumption))
abbrev as4 (p : f7) (s : b5) (r0 : List It) : List It := dI p.vars :: dI p.arrays :: dT p.body :: dE s.index.kids :: dE s.value.kids :: dT s.body :: dT s.els :: r0
theorem bW4 (p : f7) (s : b5) (cx : Int) (h : D5 p.vars.length p.arrays.length s = true) : m7.ok Tryz.prog (N1 67 [pA 0, sA s 3, iA cx] (pS p ++ sS s) (iA (R7 p s cx))) := by
  refine H8 59 Tryz.func67 (as4 p s []) [(0, pA 0), (1, sA s 3), (2, iA cx)] fun G => ?_; refine wp_seq (m5 G i7 [0, 1, 2, 3, 4, 5, 6, 7, 15] (as4 p s [.box (pL 0), .box (sL s 3)]) [(2, iA cx), (3, .ptr 7 0), (4, .ptr 8 0), (6, iA 0)] fun G => b0 (wp_seq (wp_block (wp_seq ?_)))); cases h0 : (s.kind == 1)
  ·
   have q0 := ne_of_beq_false h0; refine bK2 G (X3 (fc h0 fz) (us [(4, 15, 0), (1016, 1016, 0)])) [0, 1, 3, 7, 15, 15, 15, 127, 15, 271, 15, 1039, 3855, 7951, 16383, 32767, 65535, 131071] [(7, bA false)] fun G => b0 (rF G false (by kernel_rfl) (wp_seq ?_)); cases h1 : (s.kind == 2)
   ·
    have q1 := ne_of_beq_false h1; refine bK2 G (X3 (fc h1 fz) (us [(4, 15, 0), (1016, 1016, 0)])) [0, 1, 3, 7, 15, 15, 15, 127, 15, 271, 15, 1039, 3855, 7951, 16383, 32767, 65535, 131071] [(25, bA false)] fun G => b0 (rF G false (by kernel_rfl) (wp_seq ?_)); cases h2 : (s.kind == 5)
    · have q2 := ne_of_beq_false h2; refine m5 G (X3 (fc h2 fz) (us [(4, 10, 0), (13, 13, 0), (1014, 1014, 0)])) (rg 7) (as4 p s []) [(6, iA 0), (43, bA false)] fun G => b0 (rF G false (by kernel_rfl) (wp_skip (r7 (b0 (wp_seq (l8 G i7 [] fun G => b0 (wp_ret ?_))))))); exact P7 0 G (rg 7) (if0 (by omega))
    ·
     have q2 := eq_of_beq h2; cases h3 : (!(i5 (l5 p s.value) && decide (l5 p s.value ≤ 1)))
     ·
      have q3 : ((i5 (l5 p s.value)) = true) ∧ (l5 p s.value ≤ 1) := (fun hq => And.imp (fun hq => (hq)) (fun hq => of_decide_eq_true hq) (cb6.1 hq)) (Eq.mp (ca0 _) h3); refine m5 G (B8 ⟨[(7, _, [0, 1, 2, 4]), (8, _, [])], [(s.kind == 5, true), (!(i5 (l5 p s.value) && decide (l5 p s.value ≤ 1)), false)], us [(4, 10, 0), (11, 12, 1), (13, 13, 0), (1013, 1013, 1), (1014, 1014, 0)]⟩ (b9 (Y3 p s.value (v9 h (by omega))) (b9 (ai1 (l5 p s.value)) d8)) ⟨(by assumption), (by assumption), b91⟩) (rg 7) (as4 p s []) [(6, iA 0), (43, bA (cx != 0))] fun G => b0 (rcN G (fun h4 q4 => ?_) fun h4 q4 => ?_)
      · refine wp_skip (r7 (b0 (wp_seq (l8 G i7 [] fun G => b0 (wp_ret ?_))))); exact P7 0 G (rg 7) (b66 (by with_reducible assumption) (by with_reducible assumption) (by with_reducible assumption))
      · refine wp_seq (l8 G i7 [(6, iA 2)] fun G => b0 (wp_ret (B7 (m8 ?_)))); exact P7 2 G (rg 7) (b07 (by with_reducible assumption) (.inr (by with_reducible assumption)))
     · have q3 : ((i5 (l5 p s.value)) = false) ∨ (¬ (l5 p s.value ≤ 1)) := (fun hq => Or.imp (fun hq => (hq)) (fun hq => of_decide_eq_false hq) (cb4.1 hq)) (Eq.mp (b99 _) h3); refine m5 G (B8 ⟨[(7, _, [0, 1, 2, 4]), (8, _, [])], [(s.kind == 5, true), (!(i5 (l5 p s.value) && decide (l5 p s.value ≤ 1)), true)], us [(4, 10, 0), (11, 12, 1), (13, 13, 0), (1013, 1013, 1), (1014, 1014, 0)]⟩ (b9 (Y3 p s.value (v9 h (by omega))) (b9 (ai1 (l5 p s.value)) d8)) ⟨(by assumption), (by assumption), b91⟩) (rg 7) (as4 p s []) [(6, iA 0), (43, bA true)] fun G => b0 (rT G true (by kernel_rfl) (wp_seq (l8 G i7 [(6, iA 2)] fun G => b0 (wp_ret (B7 (m8 ?_)))))); exact P7 2 G (rg 7) (b07 (by with_reducible assumption) (.inl (by with_reducible assumption)))
   ·
    have q1 := eq_of_beq h1; refine bz9 G (B8 ⟨[(7, _, (rg 7)), (14, _, [])], [(s.kind == 2, true)], us [(4, 15, 0), (1016, 1016, 0)]⟩ (b9 (a87 p s cx (by assumption) (by omega)) (b9 (bp4 (aj4 p s cx) (p.arrays.getD s.target.toNat 0)) d8)) ⟨(by assumption), b91⟩) [0, 1, 3, 7, 15, 15, 15, 127, 15, 271, 15, 1039, 3855, 7951, 16383, 32767, 65535, 131071] [(2, iA cx), (3, .ptr 7 0), (4, .ptr 8 0), (6, iA 0), (25, .v (.bool !anI (aj4 p s cx) (p.arrays.getD s.target.toNat 0) == 0))] [(0 : Int) ≤ s.target, s.target < (p.arrays.length : Int), s.target.toNat < p.arrays.length] ⟨((S0 h (by omega)).1), ((S0 h (by omega)).2.1), ((S0 h (by omega)).2.2), b91⟩ fun G => b0 ?_; cases h5 : (!anI (aj4 p s cx) (p.arrays.getD s.target.toNat (0 : Int)) == 0)
    ·
     have q5 : anI (aj4 p s cx) (p.arrays.getD s.target.toNat 0) = 0 := (fun hq => eq_of_beq hq) (Eq.mp (ca0 _) h5); refine rF G _ h5 (wp_seq ?_); cases h6 : (s.kind == 5)
     · have q6 := ne_of_beq_false h6; refine m5 G (X3 (fc h6 fz) (us [(4, 10, 0), (13, 13, 0), (1014, 1014, 0)])) (rg 7) (as4 p s []) [(6, iA 0), (43, bA false)] fun G => b0 (rF G false (by kernel_rfl) (wp_skip (r7 (b0 (wp_seq (l8 G i7 [] fun G => b0 (wp_ret ?_))))))); exact P7 0 G (rg 7) (b67 (by with_reducible assumption) (by with_reducible assumption))
     · have q6 := eq_of_beq h6; exact False.elim (by omega)
    · have q5 : ¬ (anI (aj4 p s cx) (p.arrays.getD s.target.toNat 0) = 0) := (fun hq => ne_of_beq_false hq) (Eq.mp (b99 _) h5); refine rT G _ h5 (wp_seq (m5 G i7 (rg 7) (as4 p s []) [(6, iA 1)] fun G => b0 (wp_ret (B7 (m8 ?_))))); exact P7 1 G (rg 7) (b68 (by with_reducible assumption) (by with_reducible assumption))
  ·
   have q0 := eq_of_beq h0; refine bz9 G (B8 ⟨[(7, _, (rg 7)), (14, _, [])], [(s.kind == 1, true)], us [(4, 15, 0), (1016, 1016, 0)]⟩ (b9 (a87 p s cx (by assumption) (by omega)) (b9 (bp4 (aj4 p s cx) (p.vars.getD s.target.toNat 0)) d8)) ⟨(by assumption), b91⟩) [0, 1, 3, 7, 15, 15, 15, 127, 15, 271, 15, 1039, 3855, 7951, 16383, 32767, 65535, 131071] [(2, iA cx), (3, .ptr 7 0), (4, .ptr 8 0), (6, iA 0), (7, .v (.bool !anI (aj4 p s cx) (p.vars.getD s.target.toNat 0) == 0))] [(0 : Int) ≤ s.target, s.target < (p.vars.length : Int), s.target.toNat < p.vars.length] ⟨((R9 h (by omega)).1), ((R9 h (by omega)).2.1), ((R9 h (by omega)).2.2), b91⟩ fun G => b0 ?_; cases h7 : (!anI (aj4 p s cx) (p.vars.getD s.target.toNat (0 : Int)) == 0)
   ·
    have q7 : anI (aj4 p s cx) (p.vars.getD s.target.toNat 0) = 0 := (fun hq => eq_of_beq hq) (Eq.mp (ca0 _) h7); refine rF G _ h7 (wp_seq ?_); cases h8 : (s.kind == 2)
    ·
     have q8 := ne_of_beq_false h8; refine b40 G (X3 (fc h8 fz) (us [(4, 15, 0), (1016, 1016, 0)])) [0, 1, 3, 7, 15, 15, 15, 127, 15, 271, 15, 1039, 3855, 7951, 16383, 32767, 65535, 131071] [(2, iA cx), (3, .ptr 7 0), (4, .ptr 8 0), (6, iA 0), (25, bA false)] fun G => b0 (rF G false (by kernel_rfl) (wp_seq ?_)); cases h9 : (s.kind == 5)
     · have q9 := ne_of_beq_false h9; refine m5 G (X3 (fc h9 fz) (us [(4, 10, 0), (13, 13, 0), (1014, 1014, 0)])) (rg 7) (as4 p s []) [(6, iA 0), (43, bA false)] fun G => b0 (rF G false (by kernel_rfl) (wp_skip (r7 (b0 (wp_seq (l8 G i7 [] fun G => b0 (wp_ret ?_))))))); exact P7 0 G (rg 7) (b69 (by with_reducible assumption) (by with_reducible assumption))
     · have q9 := eq_of_beq h9; exact False.elim (by omega)
    · have q8 := eq_of_beq h8; exact False.elim (by omega)
   · have q7 : ¬ (anI (aj4 p s cx) (p.vars.getD s.target.toNat 0) = 0) := (fun hq => ne_of_beq_false hq) (Eq.mp (b99 _) h7); refine rT G _ h7 (wp_seq (m5 G i7 (rg 7) (as4 p s []) [(6, iA 1)] fun G => b0 (wp_ret (B7 (m8 ?_))))); exact P7 1 G (rg 7) (b70 (by with_reducible assumption) (by with_reducible assumption))
def A5 (p : f7) : Nat → Int → List b5 → List (b5 × Int)
 | 0, _, _ => []
 | d + 1, cx, ss => ss.flatMap fun s => (s, cx) :: (A5 p d (I5 p s cx) s.body ++ A5 p d (I5 p s cx) s.els)
theorem aN8 (p : f7) (d : Nat) (cx : Int) (s : b5) (r : List b5) : A5 p (d + 1) cx (s :: r) = (s, cx) :: (A5 p d (I5 p s cx) s.body ++ A5 p d (I5 p s cx) s.els) ++ A5 p (d + 1) cx r := by
 simp only [A5, List.flatMap_cons]
theorem bN0 (p : f7) (d : Nat) (cx : Int) : A5 p d cx [] = [] := by cases d <;> rfl
theorem bg5 (p : f7) (d : Nat) (cx : Int) (a b : List b5) : A5 p d cx (a ++ b) = A5 p d cx a ++ A5 p d cx b := by
 cases d with
 | zero => rfl
 | succ d => simp [A5]
theorem bE2 (p : f7) (d : Nat) (cx : Int) {ss : List b5} {k : Nat} (hk : k < ss.length) :
  A5 p (d + 1) cx (ss.take (k + 1)) = A5 p (d + 1) cx (ss.take k) ++ ((ss.getD k b81, cx) :: (A5 p d (I5 p (ss.getD k b81) cx) (ss.getD k b81).body ++ A5 p d (I5 p (ss.getD k b81) cx) (ss.getD k b81).els)) := by
 rw [n9 _ _ hk, bg5, p6 hk, aN8, bN0, List.append_nil]
theorem av8 (p : f7) : ∀ (d : Nat) (cx : Int) (ss : List b5), (A5 p d cx ss).length ≤ E9 ss
 | 0, _, _ => cb1 _
 | d + 1, cx, [] => by simp [A5]
 | d + 1, cx, s :: r => by
  rw [aN8, b83, b84, b83, E9, ak9]
  have h1 := av8 p d (I5 p s cx) s.body
  have h2 := av8 p d (I5 p s cx) s.els
  have h3 := av8 p (d + 1) cx r
  omega
def C6 (R : b5 × Int → Int) : Nat → List (b5 × Int) → Int × Nat
 | c, [] => (0, c)
 | c, x :: r => if R x = 0 then C6 R (c + 1) r else (R x, c)
theorem ad0 (R : b5 × Int → Int) : ∀ (a b : List (b5 × Int)) (c : Nat), C6 R c (a ++ b) = if (C6 R c a).1 = 0 then C6 R (C6 R c a).2 b else C6 R c a
 | [], b, c => by simp [C6]
 | x :: r, b, c => by
  simp only [List.cons_append, C6]
  by_cases h : R x = 0
  ·simp only [h, if_true]; exact ad0 R r b _
  ·simp [h]
theorem ag8 {R R' : b5 × Int → Int} : ∀ {l : List (b5 × Int)} {c : Nat}, (∀ x ∈ l, R x = R' x) → C6 R c l = C6 R' c l
 | [], c, _ => rfl
 | x :: r, c, h => by
  simp only [C6]
  rw [h x ca6, ag8 fun y hy => h y (ca9 _ hy)]
theorem aC1 {R : b5 × Int → Int} : ∀ {l : List (b5 × Int)} {c : Nat}, (C6 R c l).1 = 0 ↔ ∀ x ∈ l, R x = 0
 | [], c => by simp [C6]
 | x :: r, c => by
  simp only [C6, cb7, forall_eq_or_imp]
  by_cases h : R x = 0
  ·rw [if_pos h, aC1]; simp [h]
  ·rw [if_neg h]; simp [h]
theorem bI8 (p : f7) (strict : Bool) (d : Nat) (ih : ∀ (cx : Int) (c : Nat) (ss : List b5), t9 p strict d cx c ss = C6 (fun x => O7 p x.1 x.2 strict) c (A5 p d cx ss)) (cx : Int) (c : Nat) (s : b5) :
  stC p strict (d + 1) cx c s = C6 (fun x => O7 p x.1 x.2 strict) c ((s, cx) :: (A5 p d (I5 p s cx) s.body ++ A5 p d (I5 p s cx) s.els)) := by
 have h1 := ih (I5 p s cx) (c + 1) s.body
 unfold t9 at h1
 rw [stC, C6]
 simp only
 split
 ·rw [ad0, h1]
  split
  ·exact ih _ _ _
  ·rfl
 ·rfl
theorem aG1 (p : f7) (strict : Bool) : ∀ (d : Nat) (cx : Int) (c : Nat) (ss : List b5), t9 p strict d cx c ss = C6 (fun x => O7 p x.1 x.2 strict) c (A5 p d cx ss)
 | 0, cx, c, ss => by
  induction ss with
  | nil => rfl
  | cons s r ih => unfold t9 at ih ⊢; rw [D6]; simp only [stC, if_true]; exact ih
 | d + 1, cx, c, ss => by
  induction ss generalizing c with
  | nil => simp [D6, A5, C6]
  | cons s r ih =>
   unfold t9 at ih ⊢
   rw [D6, aN8, ad0, ← bI8 p strict d (aG1 p strict d)]
   split
   ·exact ih _
   ·rfl
def k8 (R : b5 × Int → Int) (σ : Int × Int × Nat) (x : b5 × Int) : Int × Int × Nat :=
 if σ.1 = 0 then (R x, if R x = 0 then σ.2.1 else (σ.2.2 : Int), σ.2.2 + 1) else (σ.1, σ.2.1, σ.2.2 + 1)
theorem ay1 (R : b5 × Int → Int) : ∀ (l : List (b5 × Int)) (σ : Int × Int × Nat), (l.foldl (k8 R) σ).2.2 = σ.2.2 + l.length
 | [], σ => rfl
 | x :: r, σ => by
  rw [List.foldl_cons, ay1 R r, b84]
  unfold k8
  split <;> simp only <;> omega
theorem aJ1 {R : b5 × Int → Int} : ∀ (l : List (b5 × Int)) {σ : Int × Int × Nat}, ¬ σ.1 = 0 → (l.foldl (k8 R) σ).1 = σ.1 ∧ (l.foldl (k8 R) σ).2.1 = σ.2.1
 | [], σ, h => ⟨rfl, rfl⟩
 | x :: r, σ, h => by
  rw [List.foldl_cons]
  have e : k8 R σ x = (σ.1, σ.2.1, σ.2.2 + 1) := by unfold k8; rw [if_neg h]
  rw [e]
  exact aJ1 r (σ := (σ.1, σ.2.1, σ.2.2 + 1)) h
theorem aj5 {R : b5 × Int → Int} : ∀ (l : List (b5 × Int)) (n : Nat), ((l.foldl (k8 R) (0, -1, n)).1, (l.foldl (k8 R) (0, -1, n)).2.1) = if (C6 R n l).1 = 0 then ((0 : Int), (-1 : Int)) else ((C6 R n l).1, ((C6 R n l).2 : Int))
 | [], n => rfl
 | x :: r, n => by
  rw [List.foldl_cons, C6]
  by_cases h : R x = 0
  ·have e : k8 R (0, -1, n) x = (0, -1, n + 1) := by unfold k8; simp [h]
   rw [e, if_pos h]; exact aj5 r (n + 1)
  ·have e : k8 R (0, -1, n) x = (R x, (n : Int), n + 1) := by unfold k8; simp [h]
   rw [e, if_neg h, if_neg h]
   obtain ⟨h1, h2⟩ := aJ1 (R := R) r (σ := (R x, (n : Int), n + 1)) h
   rw [h1, h2]
theorem aS3 {R : b5 × Int → Int} {p : f7} {d : Nat} {cx : Int} {ss : List b5} {k : Nat} (hk : k < ss.length) (σ : Int × Int × Nat) :
  (A5 p (d + 1) cx (ss.take (k + 1))).foldl (k8 R) σ =
   (A5 p d (I5 p (ss.getD k b81) cx) (ss.getD k b81).els).foldl (k8 R) ((A5 p d (I5 p (ss.getD k b81) cx) (ss.getD k b81).body).foldl (k8 R) (k8 R ((A5 p (d + 1) cx (ss.take k)).foldl (k8 R) σ) (ss.getD k b81, cx))) := by
 rw [bE2 p d cx hk, List.foldl_append, List.foldl_cons, List.foldl_append]
theorem bT0 : ∀ x : Fin 4, ∀ y : Fin 4, ∃ z : Fin 4, r8 x.val y.val = (z.val : Int) := by decide +kernel
theorem ak7 {x y : Int} (hx : i5 x = true) (hy : i5 y = true) : i5 (r8 x y) = true := by
 obtain ⟨a, rfl⟩ := G3 hx
 obtain ⟨b, rfl⟩ := G3 hy
 obtain ⟨c, h⟩ := bT0 a b
 rw [h]
 simp [i5]; omega
theorem a49 : ∀ x : Fin 4, ∀ y : Fin 4, r8 x.val y.val = r8 y.val x.val := by decide +kernel
theorem aX9 : ∀ x : Fin 4, ∀ y : Fin 4, ∀ z : Fin 4, r8 (r8 x.val y.val) z.val = r8 x.val (r8 y.val z.val) := by decide +kernel
theorem or_comm {x y : Int} (hx : i5 x = true) (hy : i5 y = true) : r8 x y = r8 y x := by
 obtain ⟨a, rfl⟩ := G3 hx
 obtain ⟨b, rfl⟩ := G3 hy
 exact a49 a b
theorem or_assoc {x y z : Int} (hx : i5 x = true) (hy : i5 y = true) (hz : i5 z = true) : r8 (r8 x y) z = r8 x (r8 y z) := by
 obtain ⟨a, rfl⟩ := G3 hx
 obtain ⟨b, rfl⟩ := G3 hy
 obtain ⟨c, rfl⟩ := G3 hz
 exact aX9 a b c
theorem ab8 {l : List Int} (h : l.all i5 = true) (i : Nat) : i5 (l.getD i 0) = true := by
 rcases ca8 i l.length with hi | hi
 ·rw [p6 hi]; exact b93.1 h _ (ca5 hi)
 ·rw [b90, cb3 hi]; rfl
theorem an5 {vs ars : List Int} (h1 : vs.all i5 = true) (h2 : ars.all i5 = true) : ∀ (d : Nat) (e : d7), i5 (n5 vs ars d e) = true
 | 0, _ => rfl
 | d + 1, e => by
  rw [n5]
  have key : ∀ (ks : List d7) (a : Int), i5 a = true → i5 (ks.foldl (fun a k => r8 a (n5 vs ars d k)) a) = true := by
   intro ks
   induction ks with
   | nil => intro a ha; exact ha
   | cons x r ih => intro a ha; rw [List.foldl_cons]; exact ih _ (ak7 ha (an5 h1 h2 d x))
  refine key _ _ ?_
  unfold ad9
  split
  ·exact ab8 h1 _
  ·split
   ·exact ab8 h2 _
   ·rfl
def au8 (p : f7) : Bool := p.vars.all i5 && p.arrays.all i5
theorem aq7 {p : f7} (h : n4 p = true) : au8 p = true := by
 unfold n4 B6 at h
 simp only [b85] at h
 unfold au8
 rw [h.1.1.1.1.1.1, h.1.1.1.1.1.2]; rfl
theorem aY8 {p : f7} (h : au8 p = true) (e : d7) : i5 (l5 p e) = true := by
 simp only [au8, b85] at h
 exact an5 h.1 h.2 5 e
theorem bn2 {p : f7} (h : au8 p = true) {cx : Int} (hc : i5 cx = true) (s : b5) : i5 (I5 p s cx) = true := by
 unfold I5
 split
 ·exact ak7 hc (aY8 h _)
 ·exact hc
theorem aF6 {p : f7} (hp : au8 p = true) : ∀ (d : Nat) (cx : Int) (ss : List b5), i5 cx = true → ss.all (i9 p.vars.length p.arrays.length d) = true → ∀ x ∈ A5 p d cx ss, D5 p.vars.length p.arrays.length x.1 = true ∧ i5 x.2 = true ∧ (x.1.kind = 4 → x.1.value.kind = 0 ∧ x.1.value.kids = [])
 | 0, cx, ss, _, _, x, hx => by simp [A5] at hx
 | d + 1, cx, ss, hc, hs, x, hx => by
  rw [A5] at hx
  obtain ⟨s, hss, hx⟩ := List.mem_flatMap.1 hx
  have h0 := b93.1 hs s hss
  have h1 := h0
  rw [O5, b85, b85] at h1
  rw [cb7, ca1] at hx
  rcases hx with rfl | hx | hx
  ·refine ⟨h1.1, hc, fun k4 => ?_⟩
   rw [i9, b85] at h0
   have h2 := h0.1
   unfold A7 at h2
   rw [if_pos (.inr k4), if_pos k4] at h2
   simp only [b85, decide_eq_true_eq, noneB] at h2
   exact ⟨h2.2.2.1.1, ca3 h2.2.2.2⟩
  ·exact aF6 hp d _ _ (bn2 hp hc s) h1.2.1 x hx
  ·exact aF6 hp d _ _ (bn2 hp hc s) h1.2.2 x hx
theorem bM7 {p : f7} (hp : au8 p = true) {s : b5} {cx : Int} (hc : i5 cx = true) : R7 p s cx = L0 p s cx := by
 have hv := aY8 hp s.value
 have hi := aY8 hp s.index
 simp only [au8, b85] at hp
 unfold R7 L0
 by_cases k1 : s.kind = 1
 ·rw [if_pos k1, if_pos k1]
  have hx := ak7 hv hc
  have hy := ab8 hp.1 s.target.toNat
  have := a67 hx hy
  unfold flB
  rw [hx, hy]
  by_cases h : anI (r8 (l5 p s.value) cx) (p.vars.getD s.target.toNat 0) = 0
  ·rw [if_pos h, if_pos]
   rw [beq_iff_eq.2 h] at this
   rw [← this]; rfl
  ·rw [if_neg h, if_neg]
   rw [beq_eq_false_iff_ne.2 h] at this
   rw [← this]; simp
 rw [if_neg k1, if_neg k1]
 by_cases k2 : s.kind = 2
 ·rw [if_pos k2, if_pos k2]
  have e : r8 (r8 (l5 p s.value) cx) (l5 p s.index) = r8 (r8 (l5 p s.value) (l5 p s.index)) cx := by
   rw [or_assoc hv hc hi, or_comm hc hi, ← or_assoc hv hi hc]
  rw [e]
  have hx := ak7 (ak7 hv hi) hc
  have hy := ab8 hp.2 s.target.toNat
  have := a67 hx hy
  unfold flB
  rw [hx, hy]
  by_cases h : anI (r8 (r8 (l5 p s.value) (l5 p s.index)) cx) (p.arrays.getD s.target.toNat 0) = 0
  ·rw [if_pos h, if_pos]
   rw [beq_iff_eq.2 h] at this
   rw [← this]; rfl
  ·rw [if_neg h, if_neg]
   rw [beq_eq_false_iff_ne.2 h] at this
   rw [← this]; simp
 rw [if_neg k2, if_neg k2]
 by_cases k5 : s.kind = 5
 ·rw [if_pos k5, if_pos k5]
  by_cases h : (i5 (l5 p s.value) && decide (l5 p s.value ≤ 1)) = true ∧ cx = 0
  ·rw [if_pos h, if_pos]
   rw [h.1, decide_eq_true h.2]; rfl
  ·rw [if_neg h, if_neg]
   rw [b85, decide_eq_true_eq]; exact h
 ·rw [if_neg k5, if_neg k5]
def aa1 (p : f7) (s : b5) : Int :=
 if s.kind = 3 ∧ aD0 (l5 p s.value) = true then 3
 else if (s.kind = 2 ∧ aD0 (l5 p s.index) = true) ∨ v7 p.vars p.arrays 5 s.value = true then 4 else 0
theorem bM6 {p : f7} {s : b5} (h : s.kind = 4 → s.value.kind = 0 ∧ s.value.kids = []) : aa1 p s = ab6 p s := by
 unfold aa1 ab6
 split
 ·rfl
 ·by_cases k4 : s.kind = 4
  ·obtain ⟨h1, h2⟩ := h k4
   have e : v7 p.vars p.arrays 5 s.value = false := by rw [v7, h2]; simp [h1]
   rw [e]
   simp [k4]
  ·simp only [ne_eq, k4, not_false_eq_true, true_and]
   by_cases a : s.kind = 2 ∧ aD0 (l5 p s.index) = true <;> by_cases b : v7 p.vars p.arrays 5 s.value = true <;> simp [a, b]
theorem bo9 {p : f7} (h : n4 p = true) : ((A5 p 5 0 p.body).foldl (k8 fun x => R7 p x.1 x.2) (0, -1, 0)).1 = (R0 p false).1 ∧ ((A5 p 5 0 p.body).foldl (k8 fun x => R7 p x.1 x.2) (0, -1, 0)).2.1 = (R0 p false).2 := by
 have h1 := aj5 (R := fun x => R7 p x.1 x.2) (A5 p 5 0 p.body) 0
 have hl := aq7 h
 have e : C6 (fun x => R7 p x.1 x.2) 0 (A5 p 5 0 p.body) = t9 p false 5 0 0 p.body := by
  rw [aG1]
  refine ag8 fun x hx => ?_
  have hm := aF6 hl 5 0 p.body rfl (M0 h).1 x hx
  rw [bM7 hl hm.2.1]
  unfold O7
  simp only [Bool.false_eq_true, if_false]
  split
  ·rename_i h; exact h
  ·rfl
 rw [e] at h1
 have h2 := Prod.mk.inj h1
 unfold R0
 rw [if_pos h]
 split
 ·rename_i h3
  rw [if_pos h3] at h1
  exact Prod.mk.inj h1
 ·rename_i h3
  rw [if_neg h3] at h1
  exact Prod.mk.inj h1
theorem bo8 {p : f7} (h : n4 p = true) (hf : (R0 p false).1 = 0) : ((A5 p 5 0 p.body).foldl (k8 fun x => aa1 p x.1) (0, -1, 0)).1 = (R0 p true).1 ∧ ((A5 p 5 0 p.body).foldl (k8 fun x => aa1 p x.1) (0, -1, 0)).2.1 = (R0 p true).2 := by
 have h1 := aj5 (R := fun x => aa1 p x.1) (A5 p 5 0 p.body) 0
 have hl := aq7 h
 have hf2 : (t9 p false 5 0 0 p.body).1 = 0 := by
  unfold R0 at hf
  rw [if_pos h] at hf
  split at hf
  ·assumption
  ·exact hf
 rw [aG1, aC1] at hf2
 have e : C6 (fun x => aa1 p x.1) 0 (A5 p 5 0 p.body) = t9 p true 5 0 0 p.body := by
  rw [aG1]
  refine ag8 fun x hx => ?_
  have hm := aF6 hl 5 0 p.body rfl (M0 h).1 x hx
  rw [bM6 hm.2.2]
  have h0 := hf2 x hx
  unfold O7 at h0 ⊢
  simp only [Bool.false_eq_true, if_false, if_true] at h0 ⊢
  split at h0
  ·rename_i h; rw [if_pos h]
  ·rename_i h; exact absurd h0 h
 rw [e] at h1
 unfold R0
 rw [if_pos h]
 split
 ·rename_i h3
  rw [if_pos h3] at h1
  exact Prod.mk.inj h1
 ·rename_i h3
  rw [if_neg h3] at h1
  exact Prod.mk.inj h1
abbrev L8 : Type := List Int × List Int
def bv (x : Int) : BitVec 64 := BitVec.ofInt 64 x
def ofb (b : BitVec 64) : Int := IntKind.i64.wrap (b.toNat : Int)
theorem bW6 (b : BitVec 64) : bv (ofb b) = b := by
 apply BitVec.eq_of_toNat_eq
 unfold bv ofb
 rw [BitVec.toNat_ofInt]
 have h := b.isLt
 unfold IntKind.wrap
 simp only [IntKind.bits, IntKind.signed, Bool.true_and, decide_eq_true_eq]
 split <;> omega
theorem bK7 (x y : Int) : r8 x y = ofb (bv x ||| bv y) := rfl
theorem bH3 (x y : Int) : bv (r8 x y) = bv x ||| bv y := by rw [bK7, bW6]
def leI (x y : Int) : Prop := bv x ||| bv y = bv y
theorem leI.refl (x : Int) : leI x x := BitVec.or_self
theorem leI.trans {x y z : Int} (h : leI x y) (k : leI y z) : leI x z := by
 unfold leI at *
 rw [← k, ← BitVec.or_assoc, h]
theorem aM3 (x y : Int) : leI x (r8 x y) := by unfold leI; rw [bH3, ← BitVec.or_assoc, BitVec.or_self]
theorem ag0 {x y a b : Int} (h : leI x a) (k : leI y b) : leI (r8 x y) (r8 a b) := by
 unfold leI at *
 rw [bH3, bH3, BitVec.or_assoc, ← BitVec.or_assoc (bv y), BitVec.or_comm (bv y) (bv a), BitVec.or_assoc (bv a), k, ← BitVec.or_assoc, h]
theorem bW7 : ∀ x : Fin 4, ∀ y : Fin 4, bv x.val = bv y.val → x = y := by decide +kernel
theorem bU2 : ∀ x : Fin 4, ∀ y : Fin 4, bv x.val ||| bv y.val = bv y.val → x.val ≤ y.val := by decide +kernel
theorem leI.anti {x y : Int} (h : leI x y) (k : leI y x) (hx : i5 x = true) (hy : i5 y = true) : x = y := by
 obtain ⟨a, rfl⟩ := G3 hx
 obtain ⟨b, rfl⟩ := G3 hy
 unfold leI at *
 rw [BitVec.or_comm, h] at k
 rw [bW7 b a k]
theorem leI.nat {x y : Int} (h : leI x y) (hx : i5 x = true) (hy : i5 y = true) : x.toNat ≤ y.toNat := by
 obtain ⟨a, rfl⟩ := G3 hx
 obtain ⟨b, rfl⟩ := G3 hy
 have := bU2 a b h
 omega
def leP (q r : L8) : Prop := (∀ i, leI (q.1.getD i 0) (r.1.getD i 0)) ∧ ∀ i, leI (q.2.getD i 0) (r.2.getD i 0)
def shP (q r : L8) : Prop := r.1.length = q.1.length ∧ r.2.length = q.2.length
def okP (q : L8) : Prop := q.1.all i5 = true ∧ q.2.all i5 = true
theorem leP.refl (q : L8) : leP q q := ⟨fun _ => leI.refl _, fun _ => leI.refl _⟩
theorem leP.trans {q r s : L8} (h : leP q r) (k : leP r s) : leP q s := ⟨fun i => (h.1 i).trans (k.1 i), fun i => (h.2 i).trans (k.2 i)⟩
theorem shP.refl (q : L8) : shP q q := ⟨rfl, rfl⟩
theorem shP.trans {q r s : L8} (h : shP q r) (k : shP r s) : shP q s := ⟨k.1.trans h.1, k.2.trans h.2⟩
theorem shP.symm {q r : L8} (h : shP q r) : shP r q := ⟨h.1.symm, h.2.symm⟩
theorem aT6 {a b : List Int} (hl : b.length = a.length) (h : ∀ i, leI (a.getD i 0) (b.getD i 0)) (k : ∀ i, leI (b.getD i 0) (a.getD i 0)) (ha : a.all i5 = true) (hb : b.all i5 = true) : a = b := by
 apply List.ext_getElem (by omega)
 intro i h1 h2
 have := (h i).anti (k i) (ab8 ha i) (ab8 hb i)
 rw [p6 h1, p6 h2] at this
 exact this
theorem leP.anti {q r : L8} (h : leP q r) (k : leP r q) (hs : shP q r) (hq : okP q) (hr : okP r) : q = r :=
 Prod.ext (aT6 hs.1 h.1 k.1 hq.1 hr.1) (aT6 hs.2 h.2 k.2 hq.2 hr.2)
theorem bA4 {q r : L8} (h : leP q r) (e : d7) : leI (ad9 q.1 q.2 e) (ad9 r.1 r.2 e) := by
 unfold ad9
 split
 ·exact h.1 _
 ·split
  ·exact h.2 _
  ·exact leI.refl _
theorem al4 {q r : L8} (h : leP q r) : ∀ (d : Nat) (e : d7), leI (n5 q.1 q.2 d e) (n5 r.1 r.2 d e)
 | 0, _ => leI.refl _
 | d + 1, e => by
  rw [n5, n5]
  have key : ∀ (ks : List d7) (a b : Int), leI a b → leI (ks.foldl (fun a k => r8 a (n5 q.1 q.2 d k)) a) (ks.foldl (fun a k => r8 a (n5 r.1 r.2 d k)) b) := by
   intro ks
   induction ks with
   | nil => intro a b hab; exact hab
   | cons x t ih => intro a b hab; rw [List.foldl_cons, List.foldl_cons]; exact ih _ _ (ag0 hab (al4 h d x))
  exact key _ _ _ (bA4 h e)
def J4 (q : L8) (s : b5) (cx : Int) : L8 :=
 if s.kind = 1 then (q.1.set s.target.toNat (r8 (r8 (q.1.getD s.target.toNat 0) (n5 q.1 q.2 5 s.value)) cx), q.2)
 else if s.kind = 2 then (q.1, q.2.set s.target.toNat (r8 (r8 (r8 (q.2.getD s.target.toNat 0) (n5 q.1 q.2 5 s.value)) (n5 q.1 q.2 5 s.index)) cx))
 else q
def ai3 (q : L8) (s : b5) (cx : Int) : Int := if s.kind = 3 then r8 cx (n5 q.1 q.2 5 s.value) else cx
def upS (b : Bool) : Nat → L8 → Int → b5 → L8
 | 0, q, _, _ => q
 | d + 1, q, cx, s => s.els.foldl (fun r t => upS b d r (ai3 (if b then s.body.foldl (fun r t => upS b d r (ai3 (J4 q s cx) s cx) t) (J4 q s cx) else J4 q s cx) s cx) t) (s.body.foldl (fun r t => upS b d r (ai3 (J4 q s cx) s cx) t) (J4 q s cx))
abbrev A4 (b : Bool) (d : Nat) (q : L8) (cx : Int) (ss : List b5) : L8 := ss.foldl (fun r t => upS b d r cx t) q
theorem aj2 (b : Bool) (d : Nat) (q : L8) (cx : Int) (s : b5) : upS b (d + 1) q cx s = A4 b d (A4 b d (J4 q s cx) (ai3 (J4 q s cx) s cx) s.body) (ai3 (if b then A4 b d (J4 q s cx) (ai3 (J4 q s cx) s cx) s.body else J4 q s cx) s cx) s.els := by rw [upS]
theorem aJ4 (l : List Int) (t i : Nat) (x : Int) : (l.set t x).getD i 0 = if t = i ∧ t < l.length then x else l.getD i 0 := by
 simp only [b90, List.getElem?_set]
 by_cases h : t = i
 ·subst h
  by_cases h2 : t < l.length
  ·simp [h2]
  ·simp [h2]
 ·simp [h]
theorem bl2 {l : List Int} {t : Nat} {x : Int} (h : l.all i5 = true) (hx : i5 x = true) : (l.set t x).all i5 = true := by
 rw [b93] at *
 intro y hy
 rcases List.mem_or_eq_of_mem_set hy with h1 | h1
 ·exact h y h1
 ·rw [h1]; exact hx
theorem be5 (q : L8) (s : b5) (cx : Int) : shP q (J4 q s cx) := by
 unfold J4
 split
 ·exact ⟨by simp, rfl⟩
 ·split
  ·exact ⟨rfl, by simp⟩
  ·exact shP.refl _
theorem a33 {l : List Int} {t : Nat} {x : Int} (h : leI (l.getD t 0) x) (i : Nat) : leI (l.getD i 0) ((l.set t x).getD i 0) := by
 rw [aJ4]
 split
 ·rename_i h1; rw [← h1.1]; exact h
 ·exact leI.refl _
theorem a32 {l m : List Int} {t : Nat} {x y : Int} (hl : m.length = l.length) (h : ∀ i, leI (l.getD i 0) (m.getD i 0)) (hx : leI x y) (i : Nat) : leI ((l.set t x).getD i 0) ((m.set t y).getD i 0) := by
 rw [aJ4, aJ4, hl]
 split
 ·exact hx
 ·exact h i
theorem bA6 (q : L8) (s : b5) (cx : Int) : leP q (J4 q s cx) := by
 unfold J4
 split
 ·exact ⟨a33 ((aM3 _ _).trans (aM3 _ _)), fun _ => leI.refl _⟩
 ·split
  ·exact ⟨fun _ => leI.refl _, a33 (((aM3 _ _).trans (aM3 _ _)).trans (aM3 _ _))⟩
  ·exact leP.refl _
theorem bA5 {q r : L8} (h : leP q r) (hs : shP q r) {cx cy : Int} (hc : leI cx cy) (s : b5) : leP (J4 q s cx) (J4 r s cy) := by
 unfold J4
 split
 ·exact ⟨a32 hs.1 h.1 (ag0 (ag0 (h.1 _) (al4 h 5 _)) hc), h.2⟩
 ·split
  ·exact ⟨h.1, a32 hs.2 h.2 (ag0 (ag0 (ag0 (h.2 _) (al4 h 5 _)) (al4 h 5 _)) hc)⟩
  ·exact h
theorem bT3 {q : L8} (h : okP q) {cx : Int} (hc : i5 cx = true) (s : b5) : okP (J4 q s cx) := by
 unfold J4
 split
 ·exact ⟨bl2 h.1 (ak7 (ak7 (ab8 h.1 _) (an5 h.1 h.2 5 _)) hc), h.2⟩
 ·split
  ·exact ⟨h.1, bl2 h.2 (ak7 (ak7 (ak7 (ab8 h.2 _) (an5 h.1 h.2 5 _)) (an5 h.1 h.2 5 _)) hc)⟩
  ·exact h
theorem a59 {q r : L8} (h : leP q r) {cx cy : Int} (hc : leI cx cy) (s : b5) : leI (ai3 q s cx) (ai3 r s cy) := by
 unfold ai3
 split
 ·exact ag0 hc (al4 h 5 _)
 ·exact hc
theorem bD3 {q : L8} (h : okP q) {cx : Int} (hc : i5 cx = true) (s : b5) : i5 (ai3 q s cx) = true := by
 unfold ai3
 split
 ·exact ak7 hc (an5 h.1 h.2 5 _)
 ·exact hc
theorem an9 {F : L8 → b5 → L8} (hF : ∀ q s, shP q (F q s)) : ∀ (ss : List b5) (q : L8), shP q (ss.foldl F q)
 | [], q => shP.refl q
 | s :: r, q => (hF q s).trans (an9 hF r _)
theorem ae5 {F : L8 → b5 → L8} (hF : ∀ q s, leP q (F q s)) : ∀ (ss : List b5) (q : L8), leP q (ss.foldl F q)
 | [], q => leP.refl q
 | s :: r, q => (hF q s).trans (ae5 hF r _)
theorem aF3 {F : L8 → b5 → L8} (hF : ∀ q s, okP q → okP (F q s)) : ∀ (ss : List b5) (q : L8), okP q → okP (ss.foldl F q)
 | [], _, h => h
 | s :: r, q, h => aF3 hF r _ (hF q s h)
theorem ao0 {F G : L8 → b5 → L8} (hF : ∀ q s, shP q (F q s)) (hG : ∀ q s, shP q (G q s)) (h : ∀ q r s, shP q r → leP q r → leP (F q s) (G r s)) : ∀ (ss : List b5) (q r : L8), shP q r → leP q r → leP (ss.foldl F q) (ss.foldl G r)
 | [], _, _, _, hl => hl
 | s :: t, q, r, hs, hl => ao0 hF hG h t _ _ (((hF q s).symm.trans hs).trans (hG r s)) (h q r s hs hl)
theorem aj1 (b : Bool) : ∀ (d : Nat) (cx : Int) (q : L8) (s : b5), shP q (upS b d q cx s)
 | 0, _, q, _ => shP.refl q
 | d + 1, cx, q, s => by
  rw [aj2]
  exact ((be5 q s cx).trans (an9 (fun q s => aj1 b d _ q s) _ _)).trans (an9 (fun q s => aj1 b d _ q s) _ _)
theorem aE5 (b : Bool) : ∀ (d : Nat) (cx : Int) (q : L8) (s : b5), leP q (upS b d q cx s)
 | 0, _, q, _ => leP.refl q
 | d + 1, cx, q, s => by
  rw [aj2]
  exact ((bA6 q s cx).trans (ae5 (fun q s => aE5 b d _ q s) _ _)).trans (ae5 (fun q s => aE5 b d _ q s) _ _)
theorem bw8 (b : Bool) : ∀ (d : Nat) (cx : Int) (q : L8) (s : b5), i5 cx = true → okP q → okP (upS b d q cx s)
 | 0, _, _, _, _, h => h
 | d + 1, cx, q, s, hc, h => by
  rw [aj2]
  have h1 := bT3 h hc s
  have h2 : okP (A4 b d (J4 q s cx) (ai3 (J4 q s cx) s cx) s.body) := aF3 (fun q t hq => bw8 b d _ q t (bD3 h1 hc s) hq) _ _ h1
  refine aF3 (fun q t hq => bw8 b d _ q t (bD3 ?_ hc s) hq) _ _ h2
  split
  ·exact h2
  ·exact h1
theorem aV4 {b b' : Bool} (hb : b = true → b' = true) : ∀ (d : Nat) (cx cy : Int) (q r : L8) (s : b5), leI cx cy → shP q r → leP q r → leP (upS b d q cx s) (upS b' d r cy s)
 | 0, _, _, _, _, _, _, _, h => h
 | d + 1, cx, cy, q, r, s, hc, hs, h => by
  rw [aj2, aj2]
  have h1 := bA5 h hs hc s
  have s1 : shP (J4 q s cx) (J4 r s cy) := ((be5 q s cx).symm.trans hs).trans (be5 r s cy)
  have hi := a59 h1 hc s
  have h2 : leP (A4 b d (J4 q s cx) (ai3 (J4 q s cx) s cx) s.body) (A4 b' d (J4 r s cy) (ai3 (J4 r s cy) s cy) s.body) := ao0 (fun q t => aj1 b d _ q t) (fun q t => aj1 b' d _ q t) (fun q r t hs hl => aV4 hb d _ _ q r t hi hs hl) _ _ _ s1 h1
  have s2 : shP (A4 b d (J4 q s cx) (ai3 (J4 q s cx) s cx) s.body) (A4 b' d (J4 r s cy) (ai3 (J4 r s cy) s cy) s.body) := ((an9 (fun q t => aj1 b d _ q t) _ _).symm.trans s1).trans (an9 (fun q t => aj1 b' d _ q t) _ _)
  refine ao0 (fun q t => aj1 b d _ q t) (fun q t => aj1 b' d _ q t) (fun q r t hs hl => aV4 hb d _ _ q r t ?_ hs hl) _ _ _ s2 h2
  refine a59 ?_ hc s
  cases b with
  | true =>
   have e := hb rfl
   subst e
   exact h2
  | false =>
   simp only [Bool.false_eq_true, if_false]
   split
   ·exact h1.trans (ae5 (fun q t => aE5 b' d _ q t) _ _)
   ·exact h1
section
variable {b : Bool} {d : Nat} {cx : Int} {q r : L8} {ss : List b5}
theorem aq2 : shP q (A4 b d q cx ss) := an9 (fun q t => aj1 b d _ q t) _ _
theorem aI1 : leP q (A4 b d q cx ss) := ae5 (fun q t => aE5 b d _ q t) _ _
theorem bw9 (hc : i5 cx = true) (h : okP q) : okP (A4 b d q cx ss) := aF3 (fun q t hq => bw8 b d _ q t hc hq) _ _ h
end
def aV7 (l : List Int) : Nat := (l.map Int.toNat).sum
def aP4 (q : L8) : Nat := aV7 q.1 + aV7 q.2
theorem aV6 : ∀ {a b : List Int}, b.length = a.length → a.all i5 = true → b.all i5 = true → (∀ i, leI (a.getD i 0) (b.getD i 0)) → aV7 a ≤ aV7 b ∧ (aV7 a = aV7 b → a = b)
 | [], b, hl, _, _, _ => by rw [ca3 hl]; exact ⟨b94 _, fun _ => rfl⟩
 | x :: r, [], hl, _, _, _ => by cases hl
 | x :: r, y :: t, hl, ha, hb, h => by
  simp only [List.all_cons, b85] at ha hb
  have h0 := h 0
  simp at h0
  obtain ⟨k1, k2⟩ := aV6 (a := r) (b := t) (by simpa using hl) ha.2 hb.2 fun i => by have := h (i + 1); simpa using this
  have k3 := h0.nat ha.1 hb.1
  simp only [aV7, cc2, List.sum_cons] at k1 k2 ⊢
  refine ⟨by omega, fun e => ?_⟩
  obtain ⟨a, rfl⟩ := G3 ha.1
  obtain ⟨b, rfl⟩ := G3 hb.1
  rw [k2 (by omega)]
  congr 1
  omega
theorem aI6 : ∀ {l : List Int}, l.all i5 = true → aV7 l ≤ 3 * l.length
 | [], _ => cb1 _
 | x :: r, h => by
  simp only [List.all_cons, b85] at h
  have h1 := aI6 h.2
  obtain ⟨a, rfl⟩ := G3 h.1
  simp only [aV7, cc2, List.sum_cons, b84] at h1 ⊢
  omega
theorem bk9 {q r : L8} (hs : shP q r) (hq : okP q) (hr : okP r) (h : leP q r) (hne : ¬ r = q) : aP4 q < aP4 r := by
 obtain ⟨a1, a2⟩ := aV6 hs.1 hq.1 hr.1 h.1
 obtain ⟨b1, b2⟩ := aV6 hs.2 hq.2 hr.2 h.2
 unfold aP4
 refine Nat.lt_of_not_le fun hle => hne (Prod.ext (a2 (by omega)).symm (b2 (by omega)).symm)
theorem a25 {q : L8} (hq : okP q) : aP4 q ≤ 3 * (q.1.length + q.2.length) := by
 have h1 := aI6 hq.1
 have h2 := aI6 hq.2
 unfold aP4; omega
def ai5 (b : List b5) (p q : L8) : Prop := shP p q ∧ okP q ∧ leP p q ∧ ∀ r, shP p r → okP r → leP p r → A4 true 5 r 0 b = r → leP q r
theorem ar1 {b : List b5} {p : L8} (h : okP p) : ai5 b p p := ⟨shP.refl _, h, leP.refl _, fun _ _ _ h _ => h⟩
theorem an7 {b : List b5} {p q : L8} {f : Bool} (h : ai5 b p q) : ai5 b p (A4 f 5 q 0 b) :=
 ⟨h.1.trans aq2, bw9 rfl h.2.1, h.2.2.1.trans aI1, fun r h1 h2 h3 h4 => by
  have h5 := h.2.2.2 r h1 h2 h3 h4
  have := ao0 (fun q t => aj1 f 5 0 q t) (fun q t => aj1 true 5 0 q t) (fun q r t hs hl => aV4 (b := f) (b' := true) (fun _ => rfl) 5 0 0 q r t (leI.refl _) hs hl) b q r (h.1.symm.trans h1) h5
  rw [show b.foldl (fun q t => upS true 5 q 0 t) r = r from h4] at this
  exact this⟩
theorem a60 {b : List b5} {p q r : L8} (hq : ai5 b p q) (hr : ai5 b p r) (fq : A4 true 5 q 0 b = q) (fr : A4 true 5 r 0 b = r) : q = r :=
 (hq.2.2.2 r hr.1 hr.2.1 hr.2.2.1 fr).anti (hr.2.2.2 q hq.1 hq.2.1 hq.2.2.1 fq) (hq.1.symm.trans hr.1) hq.2.1 hr.2.1
def aP8 (b : List b5) : Nat → L8 → L8
 | 0, q => q
 | n + 1, q => aP8 b n (A4 true 5 q 0 b)
def ay6 (p : f7) : L8 := aP8 p.body 64 (p.vars, p.arrays)
theorem a61 {b : List b5} {p : L8} : ∀ (n : Nat) (q : L8), ai5 b p q → ai5 b p (aP8 b n q)
 | 0, _, h => h
 | n + 1, q, h => a61 n _ (an7 h)
theorem a62 {b : List b5} : ∀ (n : Nat) {q : L8}, A4 true 5 q 0 b = q → aP8 b n q = q
 | 0, _, _ => rfl
 | n + 1, q, h => by rw [aP8, h]; exact a62 n h
theorem a63 {b : List b5} {p : L8} : ∀ (n : Nat) (q : L8), ai5 b p q → A4 true 5 (aP8 b n q) 0 b = aP8 b n q ∨ aP4 q + n ≤ aP4 (aP8 b n q)
 | 0, _, _ => .inr (b94 _)
 | n + 1, q, h => by
  rw [aP8]
  by_cases e : A4 true 5 q 0 b = q
  ·left
   rw [e, a62 n e, e]
  ·have h1 := bk9 aq2 h.2.1 (bw9 rfl h.2.1) aI1 e
   rcases a63 n _ (an7 (f := true) h) with h2 | h2
   ·exact .inl h2
   ·right; omega
theorem aY7 {p : f7} (h : n4 p = true) : okP (p.vars, p.arrays) := by
 have := aq7 h
 simp only [au8, b85] at this
 exact this
theorem aM6 {p : f7} (h : n4 p = true) : ai5 p.body (p.vars, p.arrays) (ay6 p) := a61 64 _ (ar1 (aY7 h))
theorem bD5 {p : f7} (h : n4 p = true) (hl : p.vars.length + p.arrays.length ≤ 14) : A4 true 5 (ay6 p) 0 p.body = ay6 p := by
 rcases a63 (b := p.body) 64 (p.vars, p.arrays) (ar1 (aY7 h)) with h1 | h1
 ·exact h1
 ·have h2 := aM6 h
  have h3 := a25 h2.2.1
  have h4 := h2.1
  have h5 : aP8 p.body 64 (p.vars, p.arrays) = ay6 p := rfl
  rw [h5] at h1
  rw [h4.1, h4.2] at h3
  simp only at h3
  omega
theorem bn5 {p : f7} {q : L8} (h : n4 p = true) (hl : p.vars.length + p.arrays.length ≤ 14) (hq : ai5 p.body (p.vars, p.arrays) q) (hf : A4 true 5 q 0 p.body = q) : ay6 p = q :=
 a60 (aM6 h) hq (bD5 h hl) hf
def cdF (F : b5 → Int) : List b5 → Int
 | [] => 0
 | s :: r => if F s = 0 then cdF F r else F s
def cdS (vs ars : List Int) (strict : Bool) : Nat → Int → b5 → Int
 | 0, _, _ => 0
 | d + 1, pc, s => if O7 ⟨vs, ars, []⟩ s pc strict = 0 then
   (if cdF (cdS vs ars strict d (I5 ⟨vs, ars, []⟩ s pc)) s.body = 0 then cdF (cdS vs ars strict d (I5 ⟨vs, ars, []⟩ s pc)) s.els else cdF (cdS vs ars strict d (I5 ⟨vs, ars, []⟩ s pc)) s.body)
  else O7 ⟨vs, ars, []⟩ s pc strict
theorem bh1 {F : b5 → Int} {G : Nat → b5 → Int × Nat} (h : ∀ c s, (G c s).1 = F s) : ∀ (ss : List b5) (c : Nat), (D6 G c ss).1 = cdF F ss
 | [], _ => rfl
 | s :: r, c => by
  rw [D6, cdF, h]
  split
  ·exact bh1 h r _
  ·exact h c s
theorem bF8 (p : f7) (strict : Bool) : ∀ (d : Nat) (pc : Int) (c : Nat) (s : b5), (stC p strict d pc c s).1 = cdS p.vars p.arrays strict d pc s
 | 0, _, _, _ => rfl
 | d + 1, pc, c, s => by
  have e1 : O7 p s pc strict = O7 ⟨p.vars, p.arrays, []⟩ s pc strict := rfl
  have e2 : I5 p s pc = I5 ⟨p.vars, p.arrays, []⟩ s pc := rfl
  have h1 := fun ss c => bh1 (bF8 p strict d (I5 p s pc)) ss c
  rw [stC, cdS, ← e1, ← e2]
  split
  ·rw [h1]
   split
   ·rw [h1]
   ·rw [h1]
  ·rfl
theorem bW0 (p : f7) (strict : Bool) (d : Nat) (pc : Int) (c : Nat) (ss : List b5) : (t9 p strict d pc c ss).1 = cdF (cdS p.vars p.arrays strict d pc) ss := bh1 (bF8 p strict d pc) ss c
theorem am0 {F : b5 → Int} : ∀ {ss : List b5}, cdF F ss = 0 ↔ ∀ s ∈ ss, F s = 0
 | [] => by simp [cdF]
 | s :: r => by
  rw [cdF]
  by_cases h : F s = 0
  ·rw [if_pos h, am0]
   simp [h]
  ·rw [if_neg h]
   simp [h]
theorem bF7 {vs ars : List Int} {strict : Bool} {d : Nat} {pc : Int} {s : b5} : cdS vs ars strict (d + 1) pc s = 0 ↔ O7 ⟨vs, ars, []⟩ s pc strict = 0 ∧ (∀ t ∈ s.body, cdS vs ars strict d (I5 ⟨vs, ars, []⟩ s pc) t = 0) ∧ ∀ t ∈ s.els, cdS vs ars strict d (I5 ⟨vs, ars, []⟩ s pc) t = 0 := by
 rw [cdS]
 by_cases h : O7 ⟨vs, ars, []⟩ s pc strict = 0
 ·rw [if_pos h]
  by_cases h2 : cdF (cdS vs ars strict d (I5 ⟨vs, ars, []⟩ s pc)) s.body = 0
  ·rw [if_pos h2, am0]
   exact ⟨fun h3 => ⟨h, am0.1 h2, h3⟩, fun h3 => h3.2.2⟩
  ·rw [if_neg h2]
   exact ⟨fun h3 => absurd h3 h2, fun h3 => absurd (am0.2 h3.2.1) h2⟩
 ·rw [if_neg h]
  exact ⟨fun h3 => absurd h3 h, fun h3 => h3.1⟩
theorem bO0 (p : f7) (strict : Bool) : (R0 p strict).1 = if n4 p = true then cdF (cdS p.vars p.arrays strict 5 0) p.body else 5 := by
 unfold R0
 rw [← bW0 p strict 5 0 0]
 split
 ·split
  ·rename_i h; exact h.symm
  ·rfl
 ·rfl
theorem a02 (p : f7) (strict : Bool) : (R0 p strict).1 = 0 ↔ n4 p = true ∧ ∀ s ∈ p.body, cdS p.vars p.arrays strict 5 0 s = 0 := by
 rw [bO0]
 split
 ·rename_i h; rw [am0]; exact ⟨fun h1 => ⟨h, h1⟩, fun h1 => h1.2⟩
 ·rename_i h; exact ⟨fun h1 => absurd h1 (by decide), fun h1 => absurd h1.1 h⟩
theorem bN6 (p : f7) : (ctR p).1 = 0 ↔ n4 p = true ∧ (∀ s ∈ p.body, cdS p.vars p.arrays false 5 0 s = 0) ∧ ∀ s ∈ p.body, cdS p.vars p.arrays true 5 0 s = 0 := by
 unfold ctR
 split
 ·rename_i h
  rw [a02]
  exact ⟨fun h1 => ⟨h1.1, ((a02 p false).1 h).2, h1.2⟩, fun h1 => ⟨h1.1, h1.2.2⟩⟩
 ·rename_i h
  exact ⟨fun h1 => absurd h1 h, fun h1 => absurd ((a02 p false).2 ⟨h1.1, h1.2.1⟩) h⟩
section
variable {vs ars : List Int} {l : Int} {s : b5} {pc pd : Int}
end
def aJ9 (c : i8) : List d9 → List Bool → List (List Bool)
 | [], _ => []
 | x :: t, r => r :: aJ9 c t (w6 c x r)
def A0 (c : i8) : List d9 → List Bool → List Bool
 | [], r => r
 | x :: t, r => A0 c t (w6 c x r)
def av6 (c : i8) : List d9 → List Bool → Prop
 | [], _ => True
 | x :: t, r => O8 c x r = 0 ∧ av6 c t (w6 c x r)
theorem L3 (c : i8) : ∀ (a b : List d9) (r : List Bool), A0 c (a ++ b) r = A0 c b (A0 c a r)
 | [], _, _ => rfl
 | x :: t, b, r => by simp only [List.cons_append, A0]; exact L3 c t b _
theorem ae6 (c : i8) : ∀ (a b : List d9) (r : List Bool), av6 c (a ++ b) r ↔ av6 c a r ∧ av6 c b (A0 c a r)
 | [], b, r => by simp [av6, A0]
 | x :: t, b, r => by simp only [List.cons_append, av6, A0, ae6 c t b]; exact and_assoc.symm
theorem ad8 (c : i8) : ∀ (a : List d9) (r : List Bool), (aJ9 c a r).length = a.length
 | [], _ => rfl
 | x :: t, r => by simp only [aJ9, b84, ad8 c t]
theorem al8 (c : i8) : ∀ (a : List d9) (r : List Bool), (A0 c a r).length = r.length
 | [], _ => rfl
 | x :: t, r => by rw [A0, al8 c t, P4]
theorem bc7 {a b : Int} (ha : i5 a = true) (hb : i5 b = true) : scB (r8 a b) = (scB a || scB b) ∧ i5 (r8 a b) = true := by
 unfold i5 at ha hb
 simp only [b85, decide_eq_true_eq] at ha hb
 have h1 : a = 0 ∨ a = 1 ∨ a = 2 ∨ a = 3 := by omega
 have h2 : b = 0 ∨ b = 1 ∨ b = 2 ∨ b = 3 := by omega
 rcases h1 with rfl | rfl | rfl | rfl <;> rcases h2 with rfl | rfl | rfl | rfl <;> decide +kernel
theorem bl3 (l : Int) : (i5 l && decide (l % 2 = 1)) = scB l := by
 unfold scB
 cases h : i5 l
 ·rfl
 ·unfold i5 at h
  simp only [b85, decide_eq_true_eq] at h
  have h1 : l = 0 ∨ l = 1 ∨ l = 2 ∨ l = 3 := by omega
  rcases h1 with rfl | rfl | rfl | rfl <;> rfl
theorem aN0 {f : d7 → Int} : ∀ (ks : List d7) (a : Int), i5 a = true → (∀ k ∈ ks, i5 (f k) = true) → scB (ks.foldl (fun a k => r8 a (f k)) a) = (scB a || ks.any fun k => scB (f k)) ∧ i5 (ks.foldl (fun a k => r8 a (f k)) a) = true
 | [], a, ha, _ => by simp [ha]
 | k :: t, a, ha, hk => by
  have h1 := bc7 ha (hk k ca6)
  have h2 := aN0 (f := f) t (r8 a (f k)) h1.2 fun q hq => hk q (ca9 _ hq)
  simp only [List.foldl_cons, List.any_cons]
  exact ⟨by rw [h2.1, h1.1, Bool.or_assoc], h2.2⟩
section
variable {vs ars : List Int} (hv : ∀ k : Nat, i5 (vs.getD k 0) = true) (ha : ∀ k : Nat, i5 (ars.getD k 0) = true)
include hv ha
theorem bl9 (e : d7) : i5 (ad9 vs ars e) = true := by
 unfold ad9
 split
 ·exact hv _
 ·split
  ·exact ha _
  ·decide
theorem an3 : ∀ (n : Nat) (e : d7), i5 (n5 vs ars n e) = true
 | 0, _ => rfl
 | n + 1, e => by
  rw [n5]
  exact (aN0 (f := n5 vs ars n) e.kids (ad9 vs ars e) (bl9 hv ha e) fun k _ => an3 n k).2
theorem bM0 (n : Nat) (e : d7) : scB (n5 vs ars (n + 1) e) = (scB (ad9 vs ars e) || e.kids.any fun k => scB (n5 vs ars n k)) := by
 rw [n5]
 exact (aN0 (f := n5 vs ars n) e.kids (ad9 vs ars e) (bl9 hv ha e) fun k _ => an3 hv ha n k).1
end
structure Eff (c : i8) (xs : List d9) (t : List Bool) (reg : Int) : Prop where
 fine : av6 c xs t
 keep : ∀ k : Nat, ((k : Int) < reg ∨ 9 ≤ k) → (A0 c xs t).getD k false = t.getD k false
 ops : ∀ x ∈ xs, x.op ≠ 8 ∧ x.op ≠ 9 ∧ x.op ≠ 10 ∧ x.op ≠ 13
theorem a09 (t : List Bool) (k : Nat) : bAt t (k : Int) = t.getD k false := by unfold bAt; rw [Int.toNat_natCast]
theorem aw0 {c : i8} {x : d9} {t : List Bool} {reg : Int} (h0 : 0 ≤ reg) (h9 : reg ≤ 8) (hx : x.a = reg) (ho : O8 c x t = 0) (hop : x.op ≠ 8 ∧ x.op ≠ 9 ∧ x.op ≠ 10 ∧ x.op ≠ 13) : Eff c [x] t reg := by
 refine ⟨⟨ho, b91⟩, fun k hk => ?_, fun y hy => by rw [ca4] at hy; subst hy; exact hop⟩
 simp only [A0]
 unfold w6
 split
 ·rw [hx, aa2, if_neg (by omega)]
 ·rfl
theorem av9 {c : i8} {x : d9} {t : List Bool} {b : Bool} (ht : t.length = 14) (h0 : 0 ≤ x.a) (h9 : x.a < 14) (h : E4 c x t = some b) : bAt (A0 c [x] t) x.a = b := by
 simp only [A0]
 unfold w6 bAt
 rw [h]
 simp only
 rw [aa2, if_pos ⟨rfl, by omega⟩]
theorem Eff.app {c : i8} {a b : List d9} {t : List Bool} {reg reg2 : Int} (h : Eff c a t reg) (k : Eff c b (A0 c a t) reg2) (hr : reg ≤ reg2) : Eff c (a ++ b) t reg := by
 refine ⟨(ae6 c a b t).2 ⟨h.fine, k.fine⟩, fun j hj => ?_, fun x hx => ?_⟩
 ·rw [L3, k.keep j (by omega), h.keep j hj]
 ·rcases ca1.1 hx with hx | hx
  ·exact h.ops x hx
  ·exact k.ops x hx
theorem aO2 {c : i8} {n : Nat} (ih : ∀ (e : d7) (reg : Int) (t : List Bool), m6 c.vars.length c.arrays.length n e = true → v7 c.vars c.arrays n e = false → 0 ≤ reg → reg + 2 * n ≤ 10 → t.length = 14 →
  Eff c (b6 e reg) t reg ∧ (bAt (A0 c (b6 e reg) t) reg = true → scB (n5 c.vars c.arrays n e) = true)) :
  ∀ (ks : List d7) (reg : Int) (t : List Bool), ks.all (m6 c.vars.length c.arrays.length n) = true → ks.any (v7 c.vars c.arrays n) = false → 0 ≤ reg → reg + ks.length + 2 * n ≤ 11 → t.length = 14 →
  Eff c (k6 ks reg) t reg ∧ ∀ j : Nat, j < ks.length → bAt (A0 c (k6 ks reg) t) (reg + j) = true → scB (n5 c.vars c.arrays n (ks.getD j b81)) = true
 | [], reg, t, _, _, _, _, _ => by
  rw [k6]
  exact ⟨⟨b91, fun _ _ => rfl, fun x hx => by cases hx⟩, fun j hj => by simp at hj⟩
 | e :: r, reg, t, h1, h2, h3, h4, h5 => by
  simp only [List.all_cons, b85] at h1
  simp only [List.any_cons, Bool.or_eq_false_iff] at h2
  simp only [b84] at h4
  rw [k6]
  obtain ⟨a1, a2⟩ := ih e reg t h1.1 h2.1 h3 (by omega) h5
  obtain ⟨b1, b2⟩ := aO2 ih r (reg + 1) (A0 c (b6 e reg) t) h1.2 h2.2 (by omega) (by omega) (by rw [al8]; exact h5)
  refine ⟨a1.app b1 (by omega), fun j hj hb => ?_⟩
  rw [L3] at hb
  cases j with
  | zero =>
   obtain ⟨m, rfl⟩ := Int.eq_ofNat_of_zero_le h3
   have e0 : (m : Int) + ((0 : Nat) : Int) = (m : Int) := by omega
   rw [e0, a09, b1.keep m (by omega), ← a09] at hb
   exact a2 hb
  | succ j =>
   have e0 : reg + ((j + 1 : Nat) : Int) = reg + 1 + (j : Int) := by omega
   rw [e0] at hb
   simp only [b84] at hj
   exact b2 j (by omega) hb
theorem bX0 {ks : List d7} {f : d7 → Bool} {j : Nat} (hj : j < ks.length) (h : f (ks.getD j b81) = true) : ks.any f = true := by
 rw [p6 hj] at h
 exact List.any_eq_true.2 ⟨_, ca5 hj, h⟩
theorem bZ4 : (1 : Int) ≠ 8 ∧ (1 : Int) ≠ 9 ∧ (1 : Int) ≠ 10 ∧ (1 : Int) ≠ 13 := by decide
theorem b56 : (2 : Int) ≠ 8 ∧ (2 : Int) ≠ 9 ∧ (2 : Int) ≠ 10 ∧ (2 : Int) ≠ 13 := by decide
theorem bZ2 : (3 : Int) ≠ 8 ∧ (3 : Int) ≠ 9 ∧ (3 : Int) ≠ 10 ∧ (3 : Int) ≠ 13 := by decide
theorem b55 : (4 : Int) ≠ 8 ∧ (4 : Int) ≠ 9 ∧ (4 : Int) ≠ 10 ∧ (4 : Int) ≠ 13 := by decide
theorem b54 : (5 : Int) ≠ 8 ∧ (5 : Int) ≠ 9 ∧ (5 : Int) ≠ 10 ∧ (5 : Int) ≠ 13 := by decide
theorem b53 : (6 : Int) ≠ 8 ∧ (6 : Int) ≠ 9 ∧ (6 : Int) ≠ 10 ∧ (6 : Int) ≠ 13 := by decide
theorem b52 : (7 : Int) ≠ 8 ∧ (7 : Int) ≠ 9 ∧ (7 : Int) ≠ 10 ∧ (7 : Int) ≠ 13 := by decide
theorem bZ3 : (11 : Int) ≠ 8 ∧ (11 : Int) ≠ 9 ∧ (11 : Int) ≠ 10 ∧ (11 : Int) ≠ 13 := by decide
theorem az6 {c : i8} (hv : ∀ k : Nat, i5 (c.vars.getD k 0) = true) (ha : ∀ k : Nat, i5 (c.arrays.getD k 0) = true) : ∀ (n : Nat) (e : d7) (reg : Int) (t : List Bool), m6 c.vars.length c.arrays.length n e = true → v7 c.vars c.arrays n e = false → 0 ≤ reg → reg + 2 * n ≤ 10 → t.length = 14 →
  Eff c (b6 e reg) t reg ∧ (bAt (A0 c (b6 e reg) t) reg = true → scB (n5 c.vars c.arrays n e) = true)
 | 0, e, _, _, h, _, _, _, _ => by simp [m6] at h
 | n + 1, ⟨k, v, ks⟩, reg, t, h1, h2, h3, h4, h5 => by
  obtain ⟨q1, q2, q3, q4⟩ := aj7 h1
  have hl := bM0 hv ha n ⟨k, v, ks⟩
  have hl : scB (n5 c.vars c.arrays (n + 1) ⟨k, v, ks⟩) = (scB (ad9 c.vars c.arrays ⟨k, v, ks⟩) || ks.any fun q => scB (n5 c.vars c.arrays n q)) := hl
  have hs : ((decide (k = 3) && (i5 (n5 c.vars c.arrays n (ks.getD 0 b81)) && decide (n5 c.vars c.arrays n (ks.getD 0 b81) % 2 = 1))) || ks.any (v7 c.vars c.arrays n)) = false := by rw [← h2]; rfl
  rw [Bool.or_eq_false_iff] at hs
  obtain ⟨s1, s2⟩ := hs
  rw [b6]
  split
  ·rename_i hk
   have hb : E4 c ⟨1, reg, v, 0, 0⟩ t = some false := rfl
   refine ⟨aw0 h3 (by omega) rfl rfl bZ4, fun hh => ?_⟩
   rw [av9 (x := ⟨1, reg, v, 0, 0⟩) h5 h3 (by show reg < 14; omega) hb] at hh; cases hh
  ·split
   ·rename_i hk
    subst hk
    have hb : E4 c ⟨2, reg, v, 0, 0⟩ t = some (scB (iAt c.vars v)) := rfl
    refine ⟨aw0 h3 (by omega) rfl rfl b56, fun hh => ?_⟩
    rw [av9 (x := ⟨2, reg, v, 0, 0⟩) h5 h3 (by show reg < 14; omega) hb] at hh
    rw [hl]
    have : ad9 c.vars c.arrays ⟨2, v, ks⟩ = iAt c.vars v := rfl
    rw [this, hh]; rfl
   ·rename_i k1 k2
    have hlen : ks.length ≤ 3 ∧ (3 ≤ k ∧ k ≤ 11) ∧ (k = 3 → ks.length = 1) ∧ (4 ≤ k ∧ k ≤ 10 → ks.length = 2) ∧ (k = 11 → ks.length = 3) := by
     simp only [o0] at q1
     rw [if_neg (by omega)] at q1
     split at q1
     ·omega
     ·split at q1
      ·omega
      ·split at q1 <;> omega
    obtain ⟨a1, a2⟩ := aO2 (az6 hv ha n) ks reg t q4 s2 h3 (by omega) h5
    have hlen2 : (A0 c (k6 ks reg) t).length = 14 := by rw [al8]; exact h5
    have hkid : ∀ j : Nat, j < ks.length → bAt (A0 c (k6 ks reg) t) (reg + j) = true → scB (n5 c.vars c.arrays (n + 1) ⟨k, v, ks⟩) = true := fun j hj hb => by
     rw [hl, bX0 (f := fun q => scB (n5 c.vars c.arrays n q)) hj (a2 j hj hb), Bool.or_true]
    have hz : reg + ((0 : Nat) : Int) = reg := by omega
    unfold al3
    split
    ·rename_i k3
     subst k3
     have hx : bAt (A0 c (k6 ks reg) t) reg = false := by
      cases hq : bAt (A0 c (k6 ks reg) t) reg
      ·rfl
      ·have := a2 0 (by omega) (by rw [hz]; exact hq)
       rw [bl3, this] at s1; simp at s1
     have ho : O8 c ⟨4, reg, v, reg, 0⟩ (A0 c (k6 ks reg) t) = 0 := by
      show (if (bAt (A0 c (k6 ks reg) t) reg) = true then (4 : Int) else 0) = 0
      rw [hx]; rfl
     have hb : E4 c ⟨4, reg, v, reg, 0⟩ (A0 c (k6 ks reg) t) = some (scB (iAt c.arrays v) || bAt (A0 c (k6 ks reg) t) reg) := rfl
     refine ⟨a1.app (aw0 h3 (by omega) rfl ho b55) (Int.le_refl _), fun hh => ?_⟩
     rw [L3, av9 (x := ⟨4, reg, v, reg, 0⟩) hlen2 h3 (by show reg < 14; omega) hb, hx, Bool.or_false] at hh
     rw [hl]
     have : ad9 c.vars c.arrays ⟨3, v, ks⟩ = iAt c.arrays v := rfl
     rw [this, hh]; rfl
    ·split
     ·rename_i k3 k11
      have hb : E4 c ⟨7, reg, reg, reg + 1, reg + 2⟩ (A0 c (k6 ks reg) t) = some (bAt (A0 c (k6 ks reg) t) reg || bAt (A0 c (k6 ks reg) t) (reg + 1) || bAt (A0 c (k6 ks reg) t) (reg + 2)) := rfl
      refine ⟨a1.app (aw0 h3 (by omega) rfl rfl b52) (Int.le_refl _), fun hh => ?_⟩
      rw [L3, av9 (x := ⟨7, reg, reg, reg + 1, reg + 2⟩) hlen2 h3 (by show reg < 14; omega) hb] at hh
      simp only [cc4] at hh
      rcases hh with (hh | hh) | hh
      ·exact hkid 0 (by omega) (by rw [hz]; exact hh)
      ·exact hkid 1 (by omega) hh
      ·exact hkid 2 (by omega) hh
     ·rename_i k3 k11
      have hb : E4 c ⟨6, reg, k, reg, reg + 1⟩ (A0 c (k6 ks reg) t) = some (bAt (A0 c (k6 ks reg) t) reg || bAt (A0 c (k6 ks reg) t) (reg + 1)) := rfl
      refine ⟨a1.app (aw0 h3 (by omega) rfl rfl b53) (Int.le_refl _), fun hh => ?_⟩
      rw [L3, av9 (x := ⟨6, reg, k, reg, reg + 1⟩) hlen2 h3 (by show reg < 14; omega) hb] at hh
      simp only [cc4] at hh
      rcases hh with hh | hh
      ·exact hkid 0 (by omega) (by rw [hz]; exact hh)
      ·exact hkid 1 (by omega) hh
end Go.Proofs.YthikdkjjdeehoaaGreat
