/- Part 6: functions on the way, plain laws. Conditions: as said. -/
import Derived.Test.YtgmhmijcnlfmfaaGreatK1
import Derived.Test.YtgmhmijcnlfmfaaGreatK2
import Derived.Test.YtgmhmijcnlfmfaaGreatK4
import Derived.Test.YtgmhmijcnlfmfaaGreatK5
set_option maxRecDepth 100000
set_option maxHeartbeats 16000000
set_option linter.unusedVariables false
set_option linter.unusedSimpArgs false
open Bool renaming and_eq_false_iff → bY6, and_eq_true → bW2, and_eq_true_iff → bY8, not_eq_false' → bW7, not_eq_true' → bW6
open Inhabited renaming default → bW1
open List renaming all_eq_true → bX0, eq_nil_of_length_eq_zero → bY4, getD_eq_getElem?_getD → bW3, getElem?_append_left → bX8, getElem?_append_right → b01, getElem?_eq_getElem → bW4, getElem?_eq_none → bY2, getElem?_eq_some_iff → bX1, getElem_mem → bX7, length_append → bX5, length_cons → bX2, length_nil → bY9, map_cons → bZ3, mem_append → bY3, mem_cons → bZ6, mem_cons_of_mem → bY7, mem_cons_self → bY0, mem_singleton → bZ0, range → bY1, replicate → bW8, take → bW9, take_of_length_le → bX3
open Nat renaming le_refl → bX4, le_trans → bX9, lt_or_ge → bZ4, zero_le → bZ5
open True renaming intro → bX6

namespace Go.Proofs.YtgmhmijcnlfmfaaGreat
open Go Go.RowKit
abbrev mtC (b : List UInt8) (p : b8) (j : Int) : d8 := ⟨31, [.ptr 0 0, pA 2], [.box [.ref 1, iA j], dY b] ++ pS p, [.box [.ref 1, iA (Q7 b p j).2], dY b] ++ pS p ++ oP (Q7 b p j).1, oA 5⟩
section
variable {b : List UInt8} {p : b8} {j : Int}
theorem bT9 (h : pk b j 60 = 0) (h1 : (p.vars.length : Int) > 0) : Q7 b p j = (⟨p.vars.set 0 (l1D b (j + 1)), p.arrays, p.body⟩, j + 1 + 2) := by
 rw [Q7, if_pos h, if_pos (by omega)]
theorem bU0 (h : pk b j 60 = 1) : Q7 b p j = (⟨p.vars ++ bW8 (13 - p.vars.length) 1, p.arrays, p.body⟩, j + 1) := by
 rw [Q7, if_neg (by omega), if_pos h]
theorem bU5 (h : pk b j 60 = 2) (h1 : (p.body.length : Int) > 0) : Q7 b p j = (⟨p.vars, p.arrays, p.body.set 0 (kdS (p.body.getD 0 bW1) (nm b (j + 1) m2L))⟩, j + 1 + 1) := by
 rw [Q7, if_neg (by omega), if_neg (by omega), if_pos h, if_pos (by omega)]
theorem bU4 (h : pk b j 60 = 3) (h1 : (p.body.length : Int) > 0) : Q7 b p j = (⟨p.vars, p.arrays, p.body.set ((p.body.length : Int) - 1).toNat (tgS (p.body.getD ((p.body.length : Int) - 1).toNat bW1) (nm b (j + 1) m3L))⟩, j + 1 + 1) := by
 rw [Q7, if_neg (by omega), if_neg (by omega), if_neg (by omega), if_pos h, if_pos (by omega)]
theorem bU3 (h : pk b j 60 = 4) (h1 : (p.body.length : Int) > 0) : Q7 b p j = (⟨p.vars, p.arrays, p.body.set 0 (vvS (p.body.getD 0 bW1) (nm b (j + 1) m4L))⟩, j + 1 + 1) := by
 rw [Q7, if_neg (by omega), if_neg (by omega), if_neg (by omega), if_neg (by omega), if_pos h, if_pos (by omega)]
theorem bU2 (h : pk b j 60 = 5) (h1 : (p.body.length : Int) > 0) : Q7 b p j = (⟨p.vars, p.arrays, p.body.set 0 (ctS (p.body.getD 0 bW1) (nm b (j + 1) m5L))⟩, j + 1 + 1) := by
 rw [Q7, if_neg (by omega), if_neg (by omega), if_neg (by omega), if_neg (by omega), if_neg (by omega), if_pos h, if_pos (by omega)]
theorem bU1 (h : pk b j 60 = 6) : Q7 b p j = (⟨[], [], []⟩, j + 1) := by
 rw [Q7, if_neg (by omega), if_neg (by omega), if_neg (by omega), if_neg (by omega), if_neg (by omega), if_neg (by omega), if_pos h]
theorem a83 (h : (pk b j 60 = 0 ∧ ¬ (p.vars.length : Int) > 0) ∨ ((pk b j 60 = 2 ∨ pk b j 60 = 3 ∨ pk b j 60 = 4 ∨ pk b j 60 = 5) ∧ ¬ (p.body.length : Int) > 0) ∨ (¬ pk b j 60 = 0 ∧ ¬ pk b j 60 = 1 ∧ ¬ pk b j 60 = 2 ∧ ¬ pk b j 60 = 3 ∧ ¬ pk b j 60 = 4 ∧ ¬ pk b j 60 = 5 ∧ ¬ pk b j 60 = 6)) : Q7 b p j = (p, j + 1) := by
 unfold Q7
 (repeat' split) <;> first | rfl | (exfalso; omega)
theorem bf7 {k : Nat} : p.vars ++ bW8 (k + 1) 1 = (p.vars ++ bW8 k 1) ++ [1] := by
 rw [List.replicate_succ', List.append_assoc]
theorem bK9 {k : Nat} (h : pk b j 60 = 1) (h1 : k ≤ 13 - p.vars.length) (h2 : ¬ (((p.vars ++ bW8 k (1 : Int)).length : Nat) : Int) ≤ 12) : Q7 b p j = (⟨p.vars ++ bW8 k 1, p.arrays, p.body⟩, j + 1) := by
 simp only [bX5, List.length_replicate] at h2
 rw [bU0 h, show 13 - p.vars.length = k by omega]
end
abbrev aB5 (p : b8) := p.body.getD ((p.body.length : Int) - 1).toNat bW1
abbrev z7 (b : List UInt8) (p : b8) (j : Int) : List It := [.box [.ref 1, iA (Q7 b p j).snd], dY b, dI p.vars, dI p.arrays, dT p.body, .row 3 (D.ints (Q7 b p j).fst.vars), .row 3 (D.ints (Q7 b p j).fst.arrays), .tree (D.stmts (Q7 b p j).fst.body)]
abbrev aL3 : It := .box [.v (.slice none 0 0), .v (.slice none 0 0), .v (.slice none 0 0)]
abbrev bw2 (b : List UInt8) (p : b8) (j : Int) : It := .tree (D.stmts (p.body.set 0 (b6.mk (p.body.getD 0 bW1).kind (p.body.getD 0 bW1).target (p.body.getD 0 bW1).index (b7.mk (p.body.getD 0 bW1).value.kind (nm b (j + 1) m4L) (p.body.getD 0 bW1).value.kids) (p.body.getD 0 bW1).count (p.body.getD 0 bW1).body (p.body.getD 0 bW1).els)))
abbrev X3 : It := .box [.ref 6, .ref 7, .tref 8]
abbrev bw1 (b : List UInt8) (p : b8) (j : Int) : It := .tree (D.stmts (p.body.set 0 (b6.mk (nm b (j + 1) m2L) (p.body.getD 0 bW1).target (p.body.getD 0 bW1).index (p.body.getD 0 bW1).value (p.body.getD 0 bW1).count (p.body.getD 0 bW1).body (p.body.getD 0 bW1).els)))
abbrev bw0 (b : List UInt8) (p : b8) (j : Int) : It := .tree (D.stmts (p.body.set 0 (b6.mk (p.body.getD 0 bW1).kind (p.body.getD 0 bW1).target (p.body.getD 0 bW1).index (p.body.getD 0 bW1).value (nm b (j + 1) m5L) (p.body.getD 0 bW1).body (p.body.getD 0 bW1).els)))
abbrev bv9 (b : List UInt8) (p : b8) (j : Int) : It := .tree (D.stmts (p.body.set ((p.body.length : Int) - 1).toNat (b6.mk (aB5 p).kind (nm b (j + 1) m3L) (aB5 p).index (aB5 p).value (aB5 p).count (aB5 p).body (aB5 p).els)))
abbrev ac2 (b : List UInt8) (p : b8) (r0 : List It) : List It := dY b :: dI p.vars :: dI p.arrays :: dT p.body :: X3 :: .row 3 (D.ints p.vars) :: .row 3 (D.ints p.arrays) :: r0
abbrev aA3 (p : b8) (r0 : List It) : List It := dI p.vars :: dI p.arrays :: dT p.body :: aL3 :: .row 3 (D.ints p.vars) :: .row 3 (D.ints p.arrays) :: r0
abbrev ag4 (p : b8) (r0 : List It) : List It := .row 3 (D.ints p.arrays) :: .tree (D.stmts p.body) :: r0
abbrev ar5 (b : List UInt8) (p : b8) (j : Int) (r0 : List It) : List It := .box [.ref 1, iA (j + 1)] :: dY b :: dI p.vars :: dI p.arrays :: dT p.body :: r0
abbrev aZ7 (b : List UInt8) (p : b8) (j : Int) (r0 : List (Nat × AV)) : List (Nat × AV) := (0, .ptr 0 0) :: (4, .ptr 5 0) :: (5, .ptr 9 0) :: (6, iA (p.body.length : Int)) :: (13, iA (pk b j 60)) :: r0
theorem aY8 (b : List UInt8) (p : b8) (j : Int) (hb : p.size ≤ 1000000) (r0 : 0 ≤ j) (r1 : j ≤ 100000000) : d8.ok Tryz.prog (mtC b p j) := by
  refine t8 87 Tryz.func31 [.box [.ref 1, iA j], dY b, dI p.vars, dI p.arrays, dT p.body] [(0, .ptr 0 0), (1, pA 2)] fun G => ?_
  have hb1 : p.vars.length ≤ 1048576 ∧ p.arrays.length ≤ 1048576 ∧ c9 p.body ≤ 1048576 := by unfold b8.size at hb; omega
  have hb2 : p.body.length ≤ 1048576 := bX9 (D8 _) hb1.2.2; refine wp_seq (e5 G c3 [0, 1, 2, 3, 4, 5, 13] [.box [.ref 1, iA j], dY b, dI p.vars, dI p.arrays, dT p.body, .box (pL 2), aL3] [(0, .ptr 0 0), (3, .ptr 5 0), (4, .ptr 6 0)] fun G => b5 (wp_seq (e5 G (n5 1 [2, 3, 4] (S9 p.vars p.arrays p.body (bX9 hb (by omega)))) [0, 1, 2, 3, 4, 6, 15, 16, 17, 23] (.box [.ref 1, iA j] :: dY b :: (aA3 p [.tree (D.stmts p.body), X3])) [(0, .ptr 0 0), (4, .ptr 5 0), (5, .ptr 9 0)] fun G => b5 (wp_seq (d9 G c3 [(6, iA (p.body.length : Int))] fun G => b5 (wp_seq (wp_seq (e5 G (n5 1 [0, 1] (B3 b j 60 (by assumption) (by omega))) (rg 10) (.box [.ref 1, iA (j + 1)] :: dY b :: (aA3 p [.tree (D.stmts p.body), X3])) (aZ7 b p j []) fun G => b5 (wp_block (wp_seq (d9 G c3 [(14, bA (pk b j 60 == 0))] fun G => b5 (I1 G (fun h0 q0 => ?_) fun h0 q0 => ?_))))))))))))
  ·
   refine wp_seq (w3 G c3 (aZ7 b p j [(25, bA (pk b j 60 == 1))]) fun G => b5 (I1 G (fun h1 q1 => ?_) fun h1 q1 => ?_))
   ·
    refine wp_seq (d9 G c3 [(36, bA (pk b j 60 == 2))] fun G => b5 (I1 G (fun h2 q2 => ?_) fun h2 q2 => ?_))
    ·
     refine wp_seq (d9 G c3 [(47, bA (pk b j 60 == 3))] fun G => b5 (I1 G (fun h3 q3 => ?_) fun h3 q3 => ?_))
     ·
      refine wp_seq (d9 G c3 [(60, bA (pk b j 60 == 4))] fun G => b5 (I1 G (fun h4 q4 => ?_) fun h4 q4 => ?_))
      ·
       refine wp_seq (d9 G c3 [(72, bA (pk b j 60 == 5))] fun G => b5 (I1 G (fun h5 q5 => ?_) fun h5 q5 => ?_))
       ·
        refine wp_seq (d9 G c3 [(83, bA (pk b j 60 == 6))] fun G => b5 (I1 G (fun h6 q6 => ?_) fun h6 q6 => ?_))
        · refine wp_skip (i9 (b5 (wp_seq (e5 G c3 (rg 9) (.box [.ref 1, iA (j + 1)] :: (ac2 b p [.tree (D.stmts p.body)])) [(4, .ptr 5 0)] fun G => b5 (wp_ret ?_))))); exact A3 G [0, 1, 2, 3, 4, 6, 7, 8] (by show _ = mR [0, 1, 2, 3, 4, 6, 7, 8] (z7 b p j); unfold z7; rw [a83 (by omega)] <;> rfl)
        · refine wp_seq (w3 G c3 [(4, .ptr 5 0), (5, .ptr 9 0)] fun G => b5 (wp_ret (m7 (c8 ?_)))); obtain ⟨ρ, G⟩ := G.nil 10 3 (.ints []) 1 (ar5 b p j (.box [.ref 10, .v (.slice none 0 0), .v (.slice none 0 0)] :: .row 3 (D.ints p.vars) :: (ag4 p [.box [.ref 6, .ref 7, .tref 8]]))) [(4, .ptr 5 0), (5, .ptr 9 0)]; obtain ⟨ρ, G⟩ := G.nil 11 3 (.ints []) 1 (ar5 b p j (.box [.ref 10, .ref 11, .v (.slice none 0 0)] :: .row 3 (D.ints p.vars) :: (ag4 p [.box [.ref 6, .ref 7, .tref 8], .row 3 (D.ints [])]))) [(4, .ptr 5 0), (5, .ptr 9 0)]; obtain ⟨ρ, G⟩ := G.nilT 12 (.stmts []) (ar5 b p j (.box [.ref 10, .ref 11, .tref 12] :: .row 3 (D.ints p.vars) :: (ag4 p [.box [.ref 6, .ref 7, .tref 8], .row 3 (D.ints []), .row 3 (D.ints [])]))) [(4, .ptr 5 0), (5, .ptr 9 0)]; exact A3 G [0, 1, 2, 3, 4, 10, 11, 12] (by show _ = mR [0, 1, 2, 3, 4, 10, 11, 12] (z7 b p j); unfold z7; rw [bU1 (by omega)] <;> rfl)
       ·
        refine wp_seq (d9 G c3 [(75, bA (decide ((p.body.length : Int) > 0)))] fun G => b5 (I2 G (fun h7 q7 => ?_) fun h7 q7 => ?_))
        · refine wp_skip (i9 (b5 (wp_seq (e5 G c3 (rg 9) (.box [.ref 1, iA (j + 1)] :: (ac2 b p [.tree (D.stmts p.body)])) [(4, .ptr 5 0)] fun G => b5 (wp_ret ?_))))); exact A3 G [0, 1, 2, 3, 4, 6, 7, 8] (by show _ = mR [0, 1, 2, 3, 4, 6, 7, 8] (z7 b p j); unfold z7; rw [a83 (by omega)] <;> rfl)
        · refine F0 G (n5 4 [0, 1, 34] (d8.lend (E8 b (j + 1) m5L (by simp [h0, h1, h2, h3, h4, h5, h7]) (by omega) (by omega)) [.no, .no, .row 3])) [0, 1, 0, 0, 12, 31, 63, 127] (rg 10) (.box [.ref 1, iA (j + 1 + 1)] :: dY b :: (aA3 p [bw0 b p j, X3])) [(4, .ptr 5 0), (5, .ptr 9 0)] (iX 0 0 p.body.length []) (iK (by omega) bX6) fun G => i9 (b5 (wp_seq (e5 G c3 (rg 9) (.box [.ref 1, iA (j + 1 + 1)] :: (ac2 b p [bw0 b p j])) [(4, .ptr 5 0)] fun G => b5 (wp_ret ?_)))); exact A3 G [0, 1, 2, 3, 4, 6, 7, 8] (by show _ = mR [0, 1, 2, 3, 4, 6, 7, 8] (z7 b p j); unfold z7; rw [bU2 (by omega) (by omega)] <;> rfl)
      ·
       refine wp_seq (d9 G c3 [(63, bA (decide ((p.body.length : Int) > 0)))] fun G => b5 (I2 G (fun h8 q8 => ?_) fun h8 q8 => ?_))
       · refine wp_skip (i9 (b5 (wp_seq (e5 G c3 (rg 9) (.box [.ref 1, iA (j + 1)] :: (ac2 b p [.tree (D.stmts p.body)])) [(4, .ptr 5 0)] fun G => b5 (wp_ret ?_))))); exact A3 G [0, 1, 2, 3, 4, 6, 7, 8] (by show _ = mR [0, 1, 2, 3, 4, 6, 7, 8] (z7 b p j); unfold z7; rw [a83 (by omega)] <;> rfl)
       · refine F0 G (n5 4 [0, 1, 34] (d8.lend (E8 b (j + 1) m4L (by simp [h0, h1, h2, h3, h4, h8]) (by omega) (by omega)) [.no, .no, .row 3])) [0, 1, 0, 0, 12, 31, 63, 127, 255] (rg 10) (.box [.ref 1, iA (j + 1 + 1)] :: dY b :: (aA3 p [bw2 b p j, X3])) [(4, .ptr 5 0), (5, .ptr 9 0)] (iX 0 0 p.body.length []) (iK (by omega) bX6) fun G => i9 (b5 (wp_seq (e5 G c3 (rg 9) (.box [.ref 1, iA (j + 1 + 1)] :: (ac2 b p [bw2 b p j])) [(4, .ptr 5 0)] fun G => b5 (wp_ret ?_)))); exact A3 G [0, 1, 2, 3, 4, 6, 7, 8] (by show _ = mR [0, 1, 2, 3, 4, 6, 7, 8] (z7 b p j); unfold z7; rw [bU3 (by omega) (by omega)] <;> rfl)
     ·
      refine wp_seq (d9 G c3 [(50, bA (decide ((p.body.length : Int) > 0)))] fun G => b5 (I2 G (fun h9 q9 => ?_) fun h9 q9 => ?_))
      · refine wp_skip (i9 (b5 (wp_seq (e5 G c3 (rg 9) (.box [.ref 1, iA (j + 1)] :: (ac2 b p [.tree (D.stmts p.body)])) [(4, .ptr 5 0)] fun G => b5 (wp_ret ?_))))); exact A3 G [0, 1, 2, 3, 4, 6, 7, 8] (by show _ = mR [0, 1, 2, 3, 4, 6, 7, 8] (z7 b p j); unfold z7; rw [a83 (by omega)] <;> rfl)
      · refine F0 G (n5 6 [0, 1, 50] (d8.lend (E8 b (j + 1) m3L (by simp [h0, h1, h2, h3, h9]) (by omega) (by omega)) [.no, .no, .row 3])) [0, 1, 0, 4, 0, 0, 48, 127, 255, 511] (rg 10) (.box [.ref 1, iA (j + 1 + 1)] :: dY b :: (aA3 p [bv9 b p j, X3])) [(4, .ptr 5 0), (5, .ptr 9 0)] ((wO ((p.body.length : Int) - 1)) :: (iX ((p.body.length : Int) - 1) (((p.body.length : Int) - 1).toNat) p.body.length [])) ⟨oW (by omega), (iK (by omega) bX6)⟩ fun G => i9 (b5 (wp_seq (e5 G c3 (rg 9) (.box [.ref 1, iA (j + 1 + 1)] :: (ac2 b p [bv9 b p j])) [(4, .ptr 5 0)] fun G => b5 (wp_ret ?_)))); exact A3 G [0, 1, 2, 3, 4, 6, 7, 8] (by show _ = mR [0, 1, 2, 3, 4, 6, 7, 8] (z7 b p j); unfold z7; rw [bU4 (by omega) (by omega)] <;> rfl)
    ·
     refine wp_seq (d9 G c3 [(39, bA (decide ((p.body.length : Int) > 0)))] fun G => b5 (I2 G (fun h10 q10 => ?_) fun h10 q10 => ?_))
     · refine wp_skip (i9 (b5 (wp_seq (e5 G c3 (rg 9) (.box [.ref 1, iA (j + 1)] :: (ac2 b p [.tree (D.stmts p.body)])) [(4, .ptr 5 0)] fun G => b5 (wp_ret ?_))))); exact A3 G [0, 1, 2, 3, 4, 6, 7, 8] (by show _ = mR [0, 1, 2, 3, 4, 6, 7, 8] (z7 b p j); unfold z7; rw [a83 (by omega)] <;> rfl)
     · refine F0 G (n5 4 [0, 1, 34] (d8.lend (E8 b (j + 1) m2L (by simp [h0, h1, h2, h10]) (by omega) (by omega)) [.no, .no, .row 3])) [0, 1, 0, 0, 12, 31, 63, 127] (rg 10) (.box [.ref 1, iA (j + 1 + 1)] :: dY b :: (aA3 p [bw1 b p j, X3])) [(4, .ptr 5 0), (5, .ptr 9 0)] (iX 0 0 p.body.length []) (iK (by omega) bX6) fun G => i9 (b5 (wp_seq (e5 G c3 (rg 9) (.box [.ref 1, iA (j + 1 + 1)] :: (ac2 b p [bw1 b p j])) [(4, .ptr 5 0)] fun G => b5 (wp_ret ?_)))); exact A3 G [0, 1, 2, 3, 4, 6, 7, 8] (by show _ = mR [0, 1, 2, 3, 4, 6, 7, 8] (z7 b p j); unfold z7; rw [bU5 (by omega) (by omega)] <;> rfl)
   ·
    refine wp_block ?_; replace G := G.as (ar5 b p j (.box [.v (.slice none 0 0), .v (.slice none 0 0), .v (.slice none 0 0)] :: .row 3 (D.ints (p.vars ++ bW8 0 1)) :: (ag4 p [.box [.ref 6, .ref 7, .tref 8]]))) (aZ7 b p j [(25, bA (pk b j 60 == 1))]) (by have e1 : (p.vars ++ bW8 0 1 : List Int) = (p.vars) := (by simp [h0, h1]); (first | rw [e1] | simp only [e1]) <;> rfl) (by kernel_rfl); refine k8 (κ := Nat) (fun k => k ≤ 13 - p.vars.length) (fun k => 13 - p.vars.length - k) (fun k => [.box [.ref 1, iA (j + 1)], dY b, dI p.vars, dI p.arrays, dT p.body, .box [.v (.slice none 0 0), .v (.slice none 0 0), .v (.slice none 0 0)], .row 3 (.ints (p.vars ++ bW8 k 1)), .row 3 (D.ints p.arrays), .tree (D.stmts p.body), .box [.ref 6, .ref 7, .tref 8]]) (fun k => [(0, .ptr 0 0), (4, .ptr 5 0), (5, .ptr 9 0), (6, iA (p.body.length : Int)), (13, iA (pk b j 60)), (25, bA (pk b j 60 == 1))]) 0 (by omega) (l7.at G _ _) ?_; clear G; intro k ρ a w hp G; replace G := l7.at G (ar5 b p j (aL3 :: .row 3 (D.ints (p.vars ++ bW8 k 1)) :: (ag4 p [X3]))) (aZ7 b p j [(25, bA (pk b j 60 == 1))]); refine wp_seq (wp_seq (d9 G c3 [(30, bA (decide (((p.vars ++ bW8 k 1).length : Int) ≤ 12)))] fun G => b5 (I2 G (fun h12 q12 => ?_) fun h12 q12 => ?_)))
    · refine wp_exit (j9 (j9 (j7 (i9 (b5 (wp_seq (e5 G c3 (rg 9) (ar5 b p j (X3 :: .row 3 (D.ints (p.vars ++ bW8 k 1)) :: (ag4 p []))) [(4, .ptr 5 0)] fun G => b5 (wp_ret ?_)))))))); exact A3 G [0, 1, 2, 3, 4, 6, 7, 8] (by show _ = mR [0, 1, 2, 3, 4, 6, 7, 8] (z7 b p j); unfold z7; rw [bK9 (k := k) (by omega) (by omega) (by omega)] <;> rfl)
    · refine wp_skip (b5 (wp_block (L6 G c3 [0, 1, 2, 3, 4, 5, 7, 8, 9, 34] (ar5 b p j (aL3 :: (ag4 p [.box [.ref 9, .ref 6, .tref 7], .row 3 (D.ints (p.vars ++ bW8 k 1 ++ ([1] ++ [])))]))) [(0, .ptr 0 0), (4, .ptr 5 0), (5, .ptr 8 0), (6, iA (p.body.length : Int)), (13, iA (pk b j 60)), (25, bA (pk b j 60 == 1))] (aP ((p.vars ++ bW8 k (1 : Int)).length + ([(1 : Int)] ++ []).length) 8 []) (aK (by simp only [bX5, List.length_replicate, bX2, bY9] at *; omega) bX6) fun G => i9 (b5 ?_)))); exact H3 G (k + 1) (by simp only [bX5, List.length_replicate, bX2, bY9] at *; omega) (by simp only [bX5, List.length_replicate, bX2, bY9] at *; omega) [0, 1, 2, 3, 4, 5, 9, 6, 7, 8] (by have e1 : (p.vars ++ bW8 (k + 1) 1 : List Int) = (p.vars ++ bW8 k 1 ++ ([1] ++ [])) := bf7; (first | rw [e1] | simp only [e1]) <;> rfl)
  ·
   refine wp_seq (d9 G c3 [(19, bA (decide ((p.vars.length : Int) > 0)))] fun G => b5 (I2 G (fun h11 q11 => ?_) fun h11 q11 => ?_))
   · refine wp_skip (i9 (b5 (wp_seq (e5 G c3 (rg 9) (.box [.ref 1, iA (j + 1)] :: (ac2 b p [.tree (D.stmts p.body)])) [(4, .ptr 5 0)] fun G => b5 (wp_ret ?_))))); exact A3 G [0, 1, 2, 3, 4, 6, 7, 8] (by show _ = mR [0, 1, 2, 3, 4, 6, 7, 8] (z7 b p j); unfold z7; rw [a83 (by omega)] <;> rfl)
   · refine F0 G (n5 3 [0, 1] (bm4 b (j + 1) (by omega) (by omega))) [0, 1, 0, 4, 15, 31] (rg 10) (.box [.ref 1, iA (j + 1 + 2)] :: dY b :: dI p.vars :: dI p.arrays :: dT p.body :: aL3 :: .row 3 (D.ints (p.vars.set 0 (l1D b (j + 1)))) :: (ag4 p [X3])) [(4, .ptr 5 0), (5, .ptr 9 0)] (iX 0 0 p.vars.length []) (iK (by omega) bX6) fun G => i9 (b5 (wp_seq (e5 G c3 (rg 9) (.box [.ref 1, iA (j + 1 + 2)] :: dY b :: dI p.vars :: dI p.arrays :: dT p.body :: X3 :: .row 3 (D.ints (p.vars.set 0 (l1D b (j + 1)))) :: (ag4 p [])) [(4, .ptr 5 0)] fun G => b5 (wp_ret ?_)))); exact A3 G [0, 1, 2, 3, 4, 6, 7, 8] (by show _ = mR [0, 1, 2, 3, 4, 6, 7, 8] (z7 b p j); unfold z7; rw [bT9 (by omega) (by omega)] <;> rfl)
section
variable {P : Program} {ι κ : Type} {φ ψ : Nat → Prop} {w0 w : World} {F : ι → Rs} {ρ ρ0 : Nat → Value} {N m n : Nat} {S : List It} {tm : List (Nat × AV)} {a : Act}
theorem e7.shrink {L L' : κ → Rs} (M : e7 φ ψ w0 w L) (h : ∀ k, L' k = L k ∨ ((∀ b, (L' k).blk b → (L k).blk b) ∧ ∀ φ', (∀ b, O7 φ L b → φ' b) → (∀ b, (L k).blk b → ¬ (L' k).blk b → φ' b) → (L' k).holds w φ')) : e7 φ ψ w0 w L' := by
 have old : ∀ k b, (L' k).blk b → (L k).blk b := fun k b hb => by
  rcases h k with e | ⟨h1, _⟩
  ·rw [e] at hb; exact hb
  ·exact h1 b hb
 have hfr : ∀ b, O7 φ L b → O7 φ L' b := fun b hb => ⟨hb.1, fun k hk => hb.2 k (old k b hk)⟩
 refine ⟨M.kept, M.fresh, fun k => ?_, fun i j g hij h1 h2 => M.dis i j g hij (old i g h1) (old j g h2), fun i b hb => M.ge i b (old i b hb), fun i b hb => M.ph i b (old i b hb)⟩
 rcases h k with e | ⟨h1, h2⟩
 ·rw [e]; exact Rs.keep (M.holds k) (W8.mono fun b _ hf => hfr b hf) fun _ _ => rfl
 ·refine h2 _ hfr fun b hb hn => ⟨M.ph k b hb, fun j hj => ?_⟩
  by_cases e : j = k
  ·subst e; exact hn hj
  ·exact M.dis j k b e (old j b hj) hb
def D4 (n : Nat) : List Ln := bW8 n .no ++ [.tree]
theorem Y7 (n i : Nat) : o9 (D4 n) i = if i = n then .tree else .no := by
 unfold o9 D4
 rw [bW3]
 rcases Nat.lt_trichotomy i n with h | h | h
 ·rw [bX8 (by simpa using h), if_neg (by omega)]
  simp [List.getElem?_replicate, h]
 ·subst h; simp
 ·rw [bY2 (by simp; omega), if_neg (by omega)]; rfl
theorem d8.datPost {f : FuncId} {args : List AV} {S0 S : List It} {d : D} {res : AV} (hc : d8.ok P ⟨f, args, S0, S ++ [.tree d], res⟩) (res1 : AV) (hr : res = res1.tr (D4 S.length) := by kernel_rfl) (hk : (decide (S0.length ≤ S.length) && (res1.trOk (D4 S.length) && S.all fun x => x.ids.isEmpty)) = true := by kernel_rfl) : d8.ok P ⟨f, args, S0, S ++ [.dat d], res1⟩ := by
 simp only [bW2, decide_eq_true_eq] at hk
 obtain ⟨hl0, hk⟩ := hk
 subst hr
 intro ι φ ψ w0 w F ρ M
 refine (hc ι φ ψ w0 w F ρ M).mono ?_
 rintro x w' ⟨ρ', h1, rfl, M2⟩
 let ρ1 : Nat → Value := fun i => if (o9 (D4 S.length) i).isT then t5 (ρ' i) else ρ' i
 have hρ1 : ∀ i, ρ1 i = if (o9 (D4 S.length) i).isT then t5 (ρ' i) else ρ' i := fun _ => rfl
 have hne : ∀ i, i ≠ S.length → ρ1 i = ρ' i := fun i hi => by rw [hρ1, Y7, if_neg hi]; rfl
 have heq : ρ1 S.length = t5 (ρ' S.length) := by rw [hρ1, Y7, if_pos rfl]; rfl
 refine ⟨ρ1, fun i hi => by rw [hne i (by simp only at hi; omega)]; exact h1 i hi, by rw [AV.val_tr hρ1 res1 hk.1], ?_⟩
 refine M2.release fun k => ?_
 cases k with
 | inl i => exact .inl rfl
 | inr j =>
  simp only [j1]
  rcases Nat.lt_trichotomy j S.length with hj | hj | hj
  ·have e1 : j0 (S ++ [.dat d]) j = j0 S j := by simp [j0, bW3, bX8 hj]
   have e2 : j0 (S ++ [.tree d]) j = j0 S j := by simp [j0, bW3, bX8 hj]
   rw [e1, e2]
   left
   have h2 : (j0 S j).ids = [] := by
    have h3 := bX0.1 hk.2 _ (bX7 hj)
    rw [Y9 hj]
    simpa using h3
   exact It.res_congr _ (fun i hi => by rw [h2] at hi; cases hi) (.inr (.inr (hne j (by omega))))
  ·subst hj
   have e1 : j0 (S ++ [.dat d]) S.length = .dat d := by simp [j0, bW3]
   have e2 : j0 (S ++ [.tree d]) S.length = .tree d := by simp [j0, bW3]
   rw [e1, e2]
   refine .inr ⟨fun b hb => hb, fun φ' hf hown => ⟨RD.nice _ _, ?_⟩⟩
   have hh := M2.holds (.inr S.length)
   simp only [j1] at hh
   rw [e2] at hh
   rw [heq]
   exact w6.read hh.2.1 fun b hb => hown b (by rw [show (It.tree d).res ρ' S.length = Rs.own (v6 (ρ' S.length)) _ from rfl]; exact hb)
  ·rw [l6 (by simp; omega), l6 (by simp; omega)]; exact .inl rfl
def aH1 : D → Bool
 | .rows _ => true
 | d => natEq d.len 0
theorem E3.rw {w : World} {S φ : Nat → Prop} {d : D} {xs : List Value} (hd : aH1 d = true) (h : E3 w d S xs) (hs : ∀ b, S b → φ b) : RW w φ d xs := by
 cases d with
 | rows l =>
  obtain ⟨k1, k2⟩ := A0.at h
  intro i hi j x hx
  obtain ⟨u, a, b, c⟩ := k2 i hi
  cases j with
  | zero =>
   simp only [D.elem, List.getElem?_cons_zero, Option.some.injEq] at hx
   subst hx
   refine ⟨u, by simpa [D.sz] using a, ?_⟩
   have e : l.getD i [] = l[i]'hi := by rw [bW3, bW4 hi]; rfl
   show r9 w φ u (l.getD i []).length 1 (ints (l.getD i []))
   rw [e]
   exact s7 b fun g hg => hs g (c g hg)
  | succ j => simp [D.elem] at hx
 | _ => exact RW.nil (by simpa [aH1, natEq] using hd) _
def bJ2 (i m : Nat) (e : TypeId) (d : D) (S1 : List It) (tm1 : List (Nat × AV)) : Bool :=
 decide (m ≤ i) && decide (i < S1.length) && aH1 d && ae4 d e && (bY1 S1.length).all (fun j => match j0 S1 j with
  | .box cs => AV.trOkL (D4 i) cs
  | .hole _ _ _ => false
  | _ => true) && (match j0 S1 i with | .row _ _ => true | _ => false) && tm1.all fun p => p.2.trOk (D4 i)
theorem l7.treeRow (G : l7 φ ψ w0 F N m ρ0 ρ S tm a w) (i : Nat) (e : TypeId) (d : D) (S1 : List It) (tm1 : List (Nat × AV)) (hb : bJ2 i m e d S1 tm1 = true := by kernel_rfl) (hi : j0 S1 i = .row e d := by kernel_rfl) (hS : S = (B9 (D4 i) S1).set i (.tree d) := by kernel_rfl) (ht : tm = tm1.map (fun p => (p.1, p.2.tr (D4 i))) := by kernel_rfl) :
  ∃ ρ', l7 φ ψ w0 F N m ρ0 ρ' S1 tm1 a w := by
 subst hS
 subst ht
 simp only [bJ2, bW2, decide_eq_true_eq] at hb
 obtain ⟨⟨⟨⟨⟨⟨hm, hil⟩, hd0⟩, hte⟩, hall⟩, -⟩, htm⟩ := hb
 have hte := G9 hte
 have hlen : ((B9 (D4 i) S1).set i (.tree d)).length = S1.length := by simp [B9]
 have hlen0 : (B9 (D4 i) S1).length = S1.length := by simp [B9]
 have hat : ∀ j, j0 ((B9 (D4 i) S1).set i (.tree d)) j = if j = i then .tree d else o6 (D4 i) .no (j0 S1 j) := fun j => by
  by_cases e : j = i
  ·subst e
   rw [if_pos rfl]
   simp [j0, bW3, hlen0, hil]
  ·rw [if_neg e]
   have h1 : j0 ((B9 (D4 i) S1).set i (.tree d)) j = j0 (B9 (D4 i) S1) j := by
    simp only [j0, bW3]
    rw [List.getElem?_set_ne (fun h => e h.symm)]
   rw [h1, J1, Y7, if_neg e]
 have hbox : ∀ j cs, j0 S1 j = .box cs → AV.trOkL (D4 i) cs = true := fun j cs h => by
  rcases bZ4 j S1.length with hj | hj
  ·have h2 := bX0.1 hall j (List.mem_range.2 hj)
   rw [h] at h2; exact h2
  ·rw [l6 hj] at h; cases h
 have hhole : ∀ j k q ls, j0 S1 j = .hole k q ls → False := fun j k q ls h => by
  rcases bZ4 j S1.length with hj | hj
  ·have h2 := bX0.1 hall j (List.mem_range.2 hj)
   rw [h] at h2; cases h2
  ·rw [l6 hj] at h; cases h
 let ρ1 : Nat → Value := fun j => if (o9 (D4 i) j).isT then t5 (ρ j) else ρ j
 have hρ1 : ∀ j, ρ1 j = if (o9 (D4 i) j).isT then t5 (ρ j) else ρ j := fun _ => rfl
 have hne : ∀ j, j ≠ i → ρ1 j = ρ j := fun j hj => by rw [hρ1, Y7, if_neg hj]; rfl
 have heq : ρ1 i = t5 (ρ i) := by rw [hρ1, Y7, if_pos rfl]; rfl
 refine ⟨ρ1, G.size, G.defs, fun t x hx => ?_, fun t x hx j hj => ?_, fun j => ⟨fun q hq => ?_, fun hj => l6 hj⟩, ?_, ?_, fun j hj => ?_⟩
 ·obtain ⟨h1, p, h2, h3⟩ := ai1 (M := D4 i) hx
  rw [G.tmv t _ h1, AV.val_tr hρ1 x (by rw [← h3]; exact bX0.1 htm p h2)]
 ·obtain ⟨h1, _⟩ := ai1 (M := D4 i) hx
  have := G.tmi t _ h1 j (by rw [AV.ids_tr]; exact hj)
  rw [hlen] at this; exact this
 ·by_cases e : j = i
  ·subst e; rw [hi] at hq; cases hq
  ·have h1 := (G.bd j).1 q
   rw [hat, if_neg e, hlen] at h1
   rcases It.ids_lend (D4 i) .no (j0 S1 j) with h | h
   ·rw [h] at hq; cases hq
   ·exact h1 (by rw [h]; exact hq)
 ·refine G.mem.shrink fun k => ?_
  cases k with
  | inl q => exact .inl rfl
  | inr j =>
   simp only [j1]
   rw [hat]
   by_cases e1 : j = i
   ·subst e1
    rw [if_pos rfl, hi]
    have hh := G.mem.holds (.inr j)
    simp only [j1] at hh
    rw [hat, if_pos rfl] at hh
    obtain ⟨_, ⟨e', xs, S', h0, h1, h2, h3, h4⟩, _⟩ := hh
    rw [hte] at h0; cases h0
    refine .inr ⟨fun b hb => ?_, fun φ' _ hfree => ?_⟩
    ·simp only [It.res, Rs.blk] at hb ⊢
     rw [heq] at hb
     exact (h2 b hb).1
    ·simp only [It.res, Rs.blk] at hfree ⊢
     rw [heq] at hfree ⊢
     exact ⟨fun xs => RW.nice d xs, xs, h1, h4.rw hd0 fun b hb => hfree b (h3 b hb) fun he => (h2 b he).2 hb⟩
   ·rw [if_neg e1]
    left
    cases hx : j0 S1 j with
    | box cs =>
     simp only [o6, It.res]
     rw [hne j e1, AV.vals_tr hρ1 cs (hbox j cs hx)]
    | none => rfl
    | dead => rfl
    | dat d => simp only [o6, It.res]; rw [hne j e1]
    | row e' d => simp only [o6, It.res]; rw [hne j e1]
    | tree d => simp only [o6, It.res]; rw [hne j e1]
    | kept e' d => cases e' <;> (simp only [o6, It.res]; rw [hne j e1])
    | hole k q ls => exact (hhole j k q ls hx).elim
 ·have := G.le; rw [hlen] at this; exact this
 ·rw [hne j (by omega)]; exact G.old j hj
theorem It.res_ren' {σ : Nat → Nat} {i j : Nat} {ρ : Nat → Value} (x : It) (h : σ i = j) : (x.ren σ).res ρ j = x.res (fun i => ρ (σ i)) i := by
 subst h; exact It.res_ren x
def mv (i n j : Nat) : Nat := if natEq j i then n else j
theorem av3 {f : AV → AV} {t : Nat} {y : AV} : ∀ {tm : List (Nat × AV)}, s0 (tm.map fun p => (p.1, f p.2)) t = some y → ∃ x, s0 tm t = some x ∧ y = f x
 | [], h => by cases h
 | (k, z) :: r, h => by
  simp only [s0, bZ3] at h ⊢
  split at h
  ·rename_i hk; cases h; exact ⟨z, by rw [if_pos hk], rfl⟩
  ·rename_i hk
   obtain ⟨x, h1, h2⟩ := av3 h
   exact ⟨x, by rw [if_neg hk]; exact h1, h2⟩
theorem bD5 {i n : Nat} {x : AV} : ∀ j ∈ (x.ren (mv i n)).ids, (∃ k ∈ x.ids, mv i n k = j) := by
 have key : (∀ x : AV, ∀ j ∈ (x.ren (mv i n)).ids, ∃ k ∈ x.ids, mv i n k = j) ∧ (∀ l : List AV, ∀ j ∈ AV.idsL (AV.renL (mv i n) l), ∃ k ∈ AV.idsL l, mv i n k = j) := by
  have hL : ∀ (l : List AV), (∀ x ∈ l, ∀ j ∈ (x.ren (mv i n)).ids, ∃ k ∈ x.ids, mv i n k = j) → ∀ j ∈ AV.idsL (AV.renL (mv i n) l), ∃ k ∈ AV.idsL l, mv i n k = j := by
   intro l
   induction l with
   | nil => intro _ j hj; cases hj
   | cons y r ih =>
    intro h j hj
    simp only [AV.renL, AV.idsL, bY3] at hj ⊢
    rcases hj with hj | hj
    ·obtain ⟨k, h1, h2⟩ := h y bY0 j hj
     exact ⟨k, .inl h1, h2⟩
    ·obtain ⟨k, h1, h2⟩ := ih (fun x hx => h x (bY7 _ hx)) j hj
     exact ⟨k, .inr h1, h2⟩
  have hx : ∀ x : AV, ∀ j ∈ (x.ren (mv i n)).ids, ∃ k ∈ x.ids, mv i n k = j := fun x => goX hL x
  exact ⟨hx, fun l => hL l fun x _ => hx x⟩
 exact key.1 x
where
 goX {i n : Nat} (hL : ∀ (l : List AV), (∀ x ∈ l, ∀ j ∈ (x.ren (mv i n)).ids, ∃ k ∈ x.ids, mv i n k = j) → ∀ j ∈ AV.idsL (AV.renL (mv i n) l), ∃ k ∈ AV.idsL l, mv i n k = j) : ∀ x : AV, ∀ j ∈ (x.ren (mv i n)).ids, ∃ k ∈ x.ids, mv i n k = j
  | .v _, j, hj => by cases hj
  | .ptr a b, j, hj => ⟨a, bZ0.2 rfl, (bZ0.1 hj).symm⟩
  | .ea a b c d, j, hj => ⟨a, bZ0.2 rfl, (bZ0.1 hj).symm⟩
  | .ref a, j, hj => ⟨a, bZ0.2 rfl, (bZ0.1 hj).symm⟩
  | .tref a, j, hj => ⟨a, bZ0.2 rfl, (bZ0.1 hj).symm⟩
  | .agg l, j, hj => hL l (fun x _ => goX hL x) j hj
  | .tup l, j, hj => hL l (fun x _ => goX hL x) j hj
  | .fn _ l, j, hj => hL l (fun x _ => goX hL x) j hj
  | .bm _ l, j, hj => hL l (fun x _ => goX hL x) j hj
theorem l7.shift (G : l7 φ ψ w0 F N m ρ0 ρ S tm a w) (i n : Nat) (S1 : List It) (tm1 : List (Nat × AV)) (hn : (natEq S.length n && decide (i < n)) = true := by kernel_rfl) (hS : S1 = (S.map (It.ren (mv i n))).set i .dead ++ [(j0 S i).ren (mv i n)] := by kernel_rfl) (ht : tm1 = tm.map (fun p => (p.1, p.2.ren (mv i n))) := by kernel_rfl) :
  ∃ ρ', l7 φ ψ w0 F N m ρ0 ρ' S1 tm1 a w := by
 subst hS
 subst ht
 simp only [bW2, natEq, beq_iff_eq, decide_eq_true_eq] at hn
 obtain ⟨hn, hin⟩ := hn
 have hlen : ((S.map (It.ren (mv i n))).set i .dead ++ [(j0 S i).ren (mv i n)]).length = n + 1 := by simp [hn]
 have hat : ∀ j, j0 ((S.map (It.ren (mv i n))).set i .dead ++ [(j0 S i).ren (mv i n)]) j = if j = n then (j0 S i).ren (mv i n) else if j = i then .dead else (j0 S j).ren (mv i n) := fun j => by
  by_cases e : j = n
  ·subst e
   rw [if_pos rfl]
   simp only [j0, bW3]
   rw [b01 (by simp [hn])]
   simp [hn]
  ·rw [if_neg e]
   by_cases e2 : j = i
   ·subst e2
    rw [if_pos rfl]
    simp only [j0, bW3]
    rw [bX8 (by simp; omega)]
    simp [show j < S.length by omega]
   ·rw [if_neg e2]
    simp only [j0, bW3]
    rcases bZ4 j n with h | h
    ·rw [bX8 (by simp; omega), List.getElem?_set_ne (fun h => e2 h.symm), List.getElem?_map, bW4 (by omega)]
     rfl
    ·rw [bY2 (by simp; omega), bY2 (by omega)]; rfl
 have hbd : ∀ x : AV, (∀ j ∈ x.ids, j < n) → ∀ j ∈ (x.ren (mv i n)).ids, j < n + 1 := fun x h j hj => by
  obtain ⟨k, h1, h2⟩ := bD5 j hj
  have := h k h1
  rw [← h2]; unfold mv
  split <;> omega
 let ρ1 : Nat → Value := fun j => if j = n then ρ i else ρ j
 have hmv : ∀ j, j < n → ρ1 (mv i n j) = ρ j := fun j hj => by
  show (if mv i n j = n then ρ i else ρ (mv i n j)) = ρ j
  by_cases e : j = i
  ·subst e; simp [mv, natEq]
  ·have h : mv i n j = j := by simp [mv, natEq, e]
   rw [h, if_neg (by omega)]
 have hval : ∀ x : AV, (∀ j ∈ x.ids, j < n) → (x.ren (mv i n)).val ρ1 = x.val ρ := fun x h => by
  rw [AV.val_ren]
  exact AV.val_congr x fun j hj => hmv j (h j hj)
 have hids : ∀ j, ∀ q ∈ (j0 S j).ids, q < n := fun j q hq => by have := (G.bd j).1 q hq; omega
 have hitem : ∀ j, ∀ q ∈ ((j0 S j).ren (mv i n)).ids, q < n + 1 := fun j q hq => by
  cases hx : j0 S j with
  | box cs =>
   rw [hx] at hq
   have h1 := hids j
   rw [hx] at h1
   exact hbd (.agg cs) h1 q hq
  | hole k d ls =>
   rw [hx] at hq
   have h1 := hids j
   rw [hx] at h1
   exact hbd (.ref k) h1 q hq
  | _ => rw [hx] at hq; cases hq
 refine ⟨ρ1, G.size, G.defs, fun t y hy => ?_, fun t y hy j hj => ?_, fun j => ⟨fun q hq => ?_, fun hj => l6 hj⟩, ?_, ?_, fun j hj => ?_⟩
 ·obtain ⟨x, h1, rfl⟩ := av3 hy
  rw [G.tmv t x h1, hval x fun j hj => by have := G.tmi t x h1 j hj; omega]
 ·obtain ⟨x, h1, rfl⟩ := av3 hy
  rw [hlen]
  exact hbd x (fun j hj => by have := G.tmi t x h1 j hj; omega) j hj
 ·rw [hlen]
  rw [hat] at hq
  split at hq
  ·exact hitem i q hq
  ·split at hq
   ·cases hq
   ·exact hitem j q hq
 ·refine G.mem.map (fun k : ι ⊕ Nat => (match k with | .inl q => some (.inl q) | .inr j => if j = n then some (.inr i) else if j = i then none else some (.inr j) : Option (ι ⊕ Nat))) ?_ ?_
  ·intro k k' x h1 h2
   match k, k' with
   | .inl q, .inl q' => simp at h1 h2; rw [← h1] at h2; simpa using h2.symm
   | .inl q, .inr j => simp at h1; subst h1; simp at h2; split at h2 <;> simp at h2
   | .inr j, .inl q => simp at h2; subst h2; simp at h1; split at h1 <;> simp at h1
   | .inr j, .inr j' =>
    simp only at h1 h2
    by_cases e1 : j = n <;> by_cases e2 : j' = n
    ·rw [e1, e2]
    ·rw [if_pos e1] at h1
     rw [if_neg e2] at h2
     by_cases e3 : j' = i
     ·rw [if_pos e3] at h2; cases h2
     ·rw [if_neg e3] at h2
      simp at h1 h2
      rw [← h1] at h2
      exact absurd (Sum.inr.inj h2) e3
    ·rw [if_pos e2] at h2
     rw [if_neg e1] at h1
     by_cases e3 : j = i
     ·rw [if_pos e3] at h1; cases h1
     ·rw [if_neg e3] at h1
      simp at h1 h2
      rw [← h2] at h1
      exact absurd (Sum.inr.inj h1) e3
    ·rw [if_neg e1] at h1
     rw [if_neg e2] at h2
     by_cases e3 : j = i
     ·rw [if_pos e3] at h1; cases h1
     ·by_cases e4 : j' = i
      ·rw [if_pos e4] at h2; cases h2
      ·rw [if_neg e3] at h1
       rw [if_neg e4] at h2
       simp at h1 h2
       rw [← h1] at h2
       rw [Sum.inr.inj h2]
  ·intro k
   match k with
   | .inl q => exact .inl ⟨_, rfl, rfl⟩
   | .inr j =>
    by_cases e : j = n
    ·refine .inl ⟨.inr i, by simp [e], ?_⟩
     simp only [j1]
     rw [hat, if_pos e]
     subst e
     have h1 : mv i j i = j := by simp [mv, natEq]
     rw [It.res_ren' (j0 S i) h1]
     exact It.res_congr _ (fun q hq => hmv q (hids i q hq)) (.inr (.inr (hmv i hin)))
    ·by_cases e2 : j = i
     ·refine .inr ?_
      simp only [j1]
      rw [hat, if_neg e, if_pos e2]
      rfl
     ·refine .inl ⟨.inr j, by simp [e, e2], ?_⟩
      simp only [j1]
      rw [hat, if_neg e, if_neg e2]
      rcases bZ4 j n with hj | hj
      ·have h1 : mv i n j = j := by simp [mv, natEq, e2]
       rw [It.res_ren' (j0 S j) h1]
       exact It.res_congr _ (fun q hq => hmv q (hids j q hq)) (.inr (.inr (hmv j hj)))
      ·rw [l6 (by omega)]; rfl
 ·have := G.le; rw [hlen]; omega
 ·have := G.le
  show (if j = n then ρ i else ρ j) = ρ0 j
  rw [if_neg (by omega)]; exact G.old j hj
end
theorem a17 (ks : List b7) (k : Nat) : j3 (ks.take k) ≤ j3 ks ∧ (k < ks.length → j3 (ks.take k) + 1 + s5 (ks.getD k bW1) ≤ j3 ks) ∧ (ks.take k).length ≤ j3 (ks.take k) := by
 refine ⟨?_, fun h => ?_, at3 _⟩
 ·have := E4 (ks.take k) (ks.drop k)
  rw [List.take_append_drop] at this
  omega
 ·have h1 := E4 (ks.take (k + 1)) (ks.drop (k + 1))
  rw [List.take_append_drop, l0 _ _ h, E4, ← f8 (d := bW1) h] at h1
  simp only [j3] at h1
  omega
section
variable {e : b7} {l : List R2} {fr : List Int} {n reg : Int} {k : Nat}
end
theorem aE2 (b : List UInt8) (j : Int) (r0 : 0 ≤ j) (r1 : j ≤ 900000000) : d8.ok Tryz.prog ⟨33, [.ptr 0 0], [.box [.ref 1, iA j], dY b], [.box [.ref 1, iA (j + 1)], dY b], iA (nm b j vaL)⟩ := by
 refine t8 6 Tryz.func33 [.box [.ref 1, iA j], dY b] [(0, .ptr 0 0)] fun G => ?_; refine wp_seq (d9 G c3 [(2, iA 0)] fun G => b5 (wp_seq (e5 G (n5 2 [0, 1, 10] (d8.lend (E8 b j ([0] ++ ([1] ++ ([2] ++ ([3] ++ ([255] ++ ([128] ++ ([7] ++ ([4] ++ ([100] ++ []))))))))) (List.cons_ne_nil _ _) (by assumption) (by omega)) [.no, .no, .row 3])) [0, 1] [.box [.ref 1, iA (j + 1)], dY b] [(2, iA (nm b j ([0] ++ ([1] ++ ([2] ++ ([3] ++ ([255] ++ ([128] ++ ([7] ++ ([4] ++ ([100] ++ [])))))))))))] fun G => b5 (wp_ret ?_)))); exact A3 G [0, 1]
section
variable {b : List UInt8} {j i at0 n X : Int} {nv na : Nat} {ks : List UInt8} {k : Nat} {x : UInt8}
theorem bS8 {v : Int} (hk : k < 4) (h : ptD b (j + k) nv na at0 n (ks.getD k 0) = v) : psD b j nv na at0 n ks (k + 1) = (psD b j nv na at0 n ks k).set k v := by rw [bg1 b j nv na at0 n ks hk, h]
def RnR (b : List UInt8) (j at0 n : Int) (nv na : Nat) (R : Int → Nat → List Int) : Prop := ∀ X k, R X k = psD b (j + 1) nv na at0 n (al7 X) k
variable {R : Int → Nat → List Int}
theorem RnR.len (h : RnR b j at0 n nv na R) (X : Int) (k : Nat) : (R X k).length = 4 := by rw [h X k, a30]
theorem RnR.start (h : RnR b j at0 n nv na R) (X : Int) : R X 0 = [0, 0, 0, 0] := h X 0
theorem RnR.next (h : RnR b j at0 n nv na R) {X v : Int} (hk : k < 4) (hp : ptD b (j + 1 + k) nv na at0 n ((al7 X).getD k 0) = v) : R X (k + 1) = (R X k).set k v := by rw [h X (k + 1), h X k]; exact bS8 hk hp
end
abbrev mA (r : Nat) : AV := .agg [.ref r, .ref (r + 1)]
abbrev mT (r : Nat) : AV := .agg [.ref r, .tref (r + 1)]
abbrev mS (m : s4) : List It := [dI m.vals, dR m.arrs]
theorem ax9 (l : List Int) : d8.ok Tryz.prog (C9 40 [.ref 0] [dI l] (bA (C1 l))) := by
  refine t8 22 Tryz.func40 [dI l] [(0, .ref 0)] fun G => ?_; have hl : l.length ≤ 9223372036854775807 := G.len 0 (d := .ints l) (by kernel_rfl); refine wp_seq (w3 G c3 [(0, .ref 0), (2, bA false)] fun G => b5 (wp_seq (wp_seq (w3 G c3 [(0, .ref 0), (2, bA false), (3, iA 0)] fun G => b5 (wp_block ?_))))); refine k8 (κ := Nat) (fun k => k ≤ l.length ∧ (l.take k).all (fun n => decide (0 ≤ n) && decide (n ≤ 255)) = true) (fun k => l.length - k) (fun k => [dI l]) (fun k => [(0, .ref 0), (2, bA false), (3, iA k)]) 0 (⟨bZ5 _, rfl⟩) (l7.at G _ _) ?_; clear G; intro k ρ a w hp G; refine wp_seq (wp_seq (d9 G c3 [(7, bA (decide ((k : Int) < l.length)))] fun G => b5 (I2 G (fun h0 q0 => ?_) fun h0 q0 => ?_)))
  · refine wp_exit (j9 (j9 (j7 (b5 (wp_seq (d9 G c3 [(2, bA true)] fun G => b5 (wp_ret ?_))))))); exact m5 true G [0] (bo6 hp.2 (by omega))
  ·
   refine wp_skip (b5 (wp_seq (wp_block (wp_seq ?_)))); cases h1 : (decide (l.getD k (0 : Int) < 0))
   ·
    have q1 := O4 h1; refine z5 G (z4 (fc h1 fz) (us [(6, 10, 0), (1011, 1011, 0)])) [(21, bA (decide (l.getD k 0 > 255)))] (iX k k l.length (iX k k l.length [])) (iK (by omega) (iK (by omega) bX6)) fun G => b5 (I2 G (fun h2 q2 => ?_) fun h2 q2 => ?_)
    · refine wp_skip (i9 (b5 (z5 G c3 [(3, iA ((k : Int) + 1))] [wO ((k : Int) + 1)] (o1 (by omega)) fun G => b5 ?_))); exact H3 G (k + 1) (⟨by omega, bc5 hp.2 (by omega) (by omega) (by omega)⟩) (by omega) [0]
    · refine wp_seq (d9 G c3 [] fun G => b5 (wp_ret (m7 (c8 (c8 (m7 (c8 ?_))))))); exact m5 false G [0] (bc4 (k := k) (by omega) (by omega))
   · have q1 := O3 h1; refine z5 G (z4 (fc h1 fz) (us [(6, 10, 0), (1011, 1011, 0)])) [(21, bA true)] (iX k k l.length []) (iK (by omega) bX6) fun G => b5 (rT G true (by kernel_rfl) (wp_seq (d9 G c3 [] fun G => b5 (wp_ret (m7 (c8 (c8 (m7 (c8 ?_))))))))); exact m5 false G [0] (bc4 (k := k) (by omega) (by omega))
theorem bm1 (vs ars : List Int) (bd : List b6) (xs : List Int) (rs : List (List Int)) : d8.ok Tryz.prog (C9 23 [pA 0, mA 3] [dI vs, dI ars, dT bd, dI xs, dR rs] (bA (L7 vs.length ars.length ⟨xs, rs⟩))) := by
  refine t8 51 Tryz.func23 [dI vs, dI ars, dT bd, dI xs, dR rs] [(0, pA 0), (1, .agg [.ref 3, .ref 4])] fun G => ?_; have hl : rs.length ≤ 9223372036854775807 := G.len 4 (d := .rows rs) (by kernel_rfl); refine wp_seq (e5 G c3 [0, 1, 2, 3, 4, 5, 13] [dI vs, dI ars, dT bd, dI xs, dR rs, .box (pL 0), .box [.ref 3, .ref 4]] [(2, .ptr 5 0), (3, .ptr 6 0), (4, bA false)] fun G => b5 (wp_seq (wp_seq ?_))); cases h0 : ((xs.length : Int) != (vs.length : Int))
  ·
   have q0 := bne_eq_false_iff_eq.1 h0; cases h1 : ((rs.length : Int) != (ars.length : Int))
   ·
    have q1 := bne_eq_false_iff_eq.1 h1; refine e5 G (l9 (f6 19 [3] (ax9 xs) l8) (fc h0 (fc h1 fz)) (us [(8, 14, 0), (1015, 1015, 0), (17, 20, 1), (1021, 1021, 1)])) [0, 1, 2, 3, 4, 6] [dI vs, dI ars, dT bd, dI xs, dR rs, .box [.ref 3, .ref 4]] [(3, .ptr 5 0), (4, bA false), (27, .v (.bool !C1 xs))] fun G => b5 ?_; cases h2 : (!C1 xs)
    ·
     have q2 : (C1 xs) = true := (Eq.mp (bW7 _) h2); refine rF G _ h2 (wp_skip (b5 (wp_seq (wp_seq (w3 G c3 [(3, .ptr 5 0), (4, bA false), (5, iA 0)] fun G => b5 (wp_block ?_)))))); refine k8 (κ := Nat) (fun k => k ≤ rs.length ∧ (rs.take k).all Z6 = true) (fun k => rs.length - k) (fun k => [dI vs, dI ars, dT bd, dI xs, dR rs, .box [.ref 3, .ref 4]]) (fun k => [(3, .ptr 5 0), (4, bA false), (5, iA k)]) 0 (by simp [h0, h1, h2, q2]) (l7.at G _ _) ?_; clear G; intro k ρ a w hp G; refine wp_seq (wp_seq (d9 G c3 [(32, bA (decide ((k : Int) < rs.length)))] fun G => b5 (I2 G (fun h3 q3 => ?_) fun h3 q3 => ?_)))
     · refine wp_exit (j9 (j9 (j7 (b5 (wp_seq (e5 G c3 (rg 5) [dI vs, dI ars, dT bd, dI xs, dR rs] [(4, bA true)] fun G => b5 (wp_ret ?_))))))); exact m5 true G (rg 5) (bN6 (by dsimp only; omega) (by dsimp only; omega) (by with_reducible assumption) (bv5 (l := rs) hp.2 (by omega)))
     ·
      refine wp_skip (b5 (wp_seq (wp_block (wp_seq ?_)))); cases h4 : (((rs.getD k []).length : Int) != 4)
      ·
       have q4 := bne_eq_false_iff_eq.1 h4; refine z5 G (l9 (f6 13 [102] (ax9 (rs.getD k [])) l8) (fc h4 fz) (us [(8, 14, 0), (1015, 1015, 0)])) [(50, .v (.bool !C1 (rs.getD k [])))] (iX k k rs.length (iX k k rs.length [])) (iK (by omega) (iK (by omega) bX6)) fun G => b5 ?_; cases h5 : (!C1 (rs.getD k []))
       · have q5 : (C1 (rs.getD k [])) = true := (Eq.mp (bW7 _) h5); refine rF G _ h5 (wp_skip (i9 (b5 (z5 G c3 [(5, iA ((k : Int) + 1))] [wO ((k : Int) + 1)] (o1 (by omega)) fun G => b5 ?_)))); exact H3 G (k + 1) (⟨by omega, bn6 hp.2 (by omega) (by omega) (by with_reducible assumption)⟩) (by omega) (rg 6)
       · have q5 : (C1 (rs.getD k [])) = false := (Eq.mp (bW6 _) h5); refine rT G _ h5 (wp_seq (d9 G c3 [] fun G => b5 (wp_ret (m7 (c8 (c8 (m7 (c8 ?_)))))))); exact m5 false G (rg 5) (by5 (bn5 (l := rs) (k := k) (by omega) (.inr (by with_reducible assumption))))
      · have q4 := bne_iff_ne.1 h4; refine z5 G (z4 (fc h4 fz) (us [(8, 14, 0), (1015, 1015, 0)])) [(50, bA true)] (iX k k rs.length []) (iK (by omega) bX6) fun G => b5 (rT G true (by kernel_rfl) (wp_seq (d9 G c3 [] fun G => b5 (wp_ret (m7 (c8 (c8 (m7 (c8 ?_))))))))); exact m5 false G (rg 5) (by5 (bn5 (l := rs) (k := k) (by omega) (.inl (by omega))))
    · have q2 : (C1 xs) = false := (Eq.mp (bW6 _) h2); refine rT G _ h2 (wp_seq (d9 G c3 [] fun G => b5 (wp_ret (c8 ?_)))); exact m5 false G (rg 5) (by6 (by with_reducible assumption))
   · have q1 := bne_iff_ne.1 h1; refine e5 G (z4 (fc h0 (fc h1 fz)) (us [(8, 14, 0), (1015, 1015, 0), (17, 20, 1), (1021, 1021, 1)])) [0, 1, 2, 3, 4, 6] [dI vs, dI ars, dT bd, dI xs, dR rs, .box [.ref 3, .ref 4]] [(3, .ptr 5 0), (4, bA false), (27, bA true)] fun G => b5 (rT G true (by kernel_rfl) (wp_seq (d9 G c3 [] fun G => b5 (wp_ret (c8 ?_))))); exact m5 false G (rg 5) (by7 (by dsimp only; omega))
  · have q0 := bne_iff_ne.1 h0; refine e5 G (z4 (fc h0 (fc (b := true) rfl fz)) (us [(8, 14, 0), (1015, 1015, 0), (17, 20, 1), (1021, 1021, 1)])) [0, 1, 2, 3, 4, 6] [dI vs, dI ars, dT bd, dI xs, dR rs, .box [.ref 3, .ref 4]] [(3, .ptr 5 0), (4, bA false), (27, bA true)] fun G => b5 (rT G true (by kernel_rfl) (wp_seq (d9 G c3 [] fun G => b5 (wp_ret (c8 ?_))))); exact m5 false G (rg 5) (by8 (by dsimp only; omega))
theorem bo8 {l : List (List Int)} {k : Nat} (h : k < l.length) : l.take (k + 1) = l.take k ++ [l.getD k []] := by
 rw [l0 _ _ h, f8 h]
theorem aL8 {l : List (List Int)} {k : Nat} (h : l.length ≤ k) : l.take k = l := bX3 h
abbrev a05 : It := .box [.v (.slice none 0 0), .v (.slice none 0 0)]
theorem aR6 (xs : List Int) (rs : List (List Int)) (hx : xs.length ≤ 1048576) (hr : rs.length ≤ 1048576) (hi : ∀ a ∈ rs, a.length ≤ 1048576) : d8.ok Tryz.prog ⟨24, [mA 0], [dI xs, dR rs], [dI xs, dR rs, .row 3 (.ints xs), .tree (.rows rs)], mT 2⟩ := by
 refine t8 30 Tryz.func24 [dI xs, dR rs] [(0, .agg [.ref 0, .ref 1])] fun G => ?_; refine wp_seq (e5 G c3 [0, 1, 2, 10] [dI xs, dR rs, .box [.ref 0, .ref 1], a05] [(1, .ptr 2 0), (2, .ptr 3 0)] fun G => b5 (wp_seq (L6 G c3 [0, 1, 2, 3, 28, 44] [dI xs, dR rs, .box [.ref 0, .ref 1], a05, .row 3 (D.ints ([] ++ xs)), .box [.ref 4, .v (.slice none 0 0)]] [(1, .ptr 2 0), (2, .ptr 3 0), (3, .ptr 5 0)] (aP ((0 : Nat) + xs.length) 8 []) (aK (by omega) bX6) fun G => b5 (wp_seq (wp_seq (w3 G c3 [(1, .ptr 2 0), (2, .ptr 3 0), (3, .ptr 5 0), (4, iA 0)] fun G => b5 (wp_block ?_))))))); obtain ⟨ρ, G⟩ := G.nilT 6 (.rows []) [dI xs, dR rs, .box [.ref 0, .ref 1], .box [.v (.slice none 0 0), .v (.slice none 0 0)], .row 3 (D.ints ([] ++ xs)), .box [.ref 4, .tref 6]] [(1, .ptr 2 0), (2, .ptr 3 0), (3, .ptr 5 0), (4, iA 0)]; refine k8 (κ := Nat) (fun k => k ≤ rs.length) (fun k => rs.length - k) (fun k => [dI xs, dR rs, .box [.ref 0, .ref 1], .box [.v (.slice none 0 0), .v (.slice none 0 0)], .row 3 (D.ints ([] ++ xs)), .box [.ref 4, .tref 6], .tree (.rows (rs.take k))]) (fun k => [(1, .ptr 2 0), (2, .ptr 3 0), (3, .ptr 5 0), (4, iA k)]) 0 (by omega) (l7.at G _ _) ?_; clear G; intro k ρ a w hp G; replace G := l7.at G [dI xs, dR rs, .box [.ref 0, .ref 1], a05, .row 3 (D.ints ([] ++ xs)), .box [.ref 4, .tref 6], .tree (D.rows (bW9 k rs))] [(1, .ptr 2 0), (2, .ptr 3 0), (3, .ptr 5 0), (4, iA k)]; refine wp_seq (wp_seq (d9 G c3 [(14, bA (decide ((k : Int) < rs.length)))] fun G => b5 (I2 G (fun h0 q0 => ?_) fun h0 q0 => ?_)))
 ·refine wp_exit (j9 (j9 (j7 (b5 (wp_seq (e5 G c3 [0, 1, 3, 4, 6] [dI xs, dR rs, .box [.ref 3, .tref 4], .row 3 (D.ints ([] ++ xs)), .tree (D.rows (bW9 k rs))] [(2, .ptr 2 0)] fun G => b5 (wp_ret ?_))))))); exact A3 G [0, 1, 3, 4] (by show _ = mR [0, 1, 3, 4] [dI xs, dR rs, .row 3 (D.ints xs), .tree (D.rows rs)]; have e1 : (bW9 k rs : List (List Int)) = (rs) := (aL8 (by omega)); (first | rw [e1] | simp only [e1]) <;> rfl)
 ·refine wp_skip (b5 (wp_seq (wp_block (F0 G c3 [0, 1, 0, 0, 8, 0, 56, 120, 252, 508, 1023, 2047, 4095] [0, 1, 2, 3, 4, 5, 87] [dI xs, dR rs, .box [.ref 0, .ref 1], a05, .row 3 (D.ints ([] ++ xs)), .box [.ref 4, .tref 6], .tree (D.rows (bW9 k rs ++ [[] ++ rs.getD k []]))] [(1, .ptr 2 0), (2, .ptr 3 0), (3, .ptr 5 0), (4, iA k)] (iX k k rs.length (aP ((0 : Nat) + (rs.getD k []).length) 8 (aP ((bW9 k rs).length + [[] ++ rs.getD k []].length) 24 []))) (iK (by omega) (aK (by have h9 := hi (rs.getD k []) (by rw [f8 (by omega)]; exact bX7 _); omega) (aK (by simp; omega) bX6))) fun G => i9 (b5 (z5 G c3 [(4, iA ((k : Int) + 1))] [wO ((k : Int) + 1)] (o1 (by omega)) fun G => b5 ?_)))))); exact H3 G (k + 1) (by omega) (by omega) (rg 7) (by have e1 : (bW9 (k + 1) rs : List (List Int)) = (bW9 k rs ++ [[] ++ rs.getD k []]) := (bo8 (by omega)); (first | rw [e1] | simp only [e1]) <;> rfl)
abbrev ac6 : It := .box [.v (.slice none 0 0), .v (.slice none 0 0)]
abbrev F3 (r0 : List (Nat × AV)) : List (Nat × AV) := (0, .ptr 0 0) :: (3, .ptr 5 0) :: (4, .ptr 6 0) :: (5, .ptr 7 0) :: r0
abbrev aK5 (b : List UInt8) (j : Int) (vs : List Int) (i : Nat) (r0 : List It) : List It := .box [.ref 8, .tref 9] :: .row 3 (D.ints (vlD b j vs.length)) :: .tree (D.rows (arD b (j + (vs.length : Int)) i)) :: r0
abbrev aK4 (r0 : List It) : List It := .box (pL 2) :: .box [.v (.slice none 0 0), .v (.slice none 0 0)] :: r0
theorem aY4 (b : List UInt8) (j : Int) (vs ars : List Int) (bd : List b6) (h1 : vs.length ≤ 1000000) (h2 : ars.length ≤ 1000000) (r0 : 0 ≤ j) (r1 : j ≤ 100000000) : d8.ok Tryz.prog ⟨18, [.ptr 0 0, pA 2], [.box [.ref 1, iA j], dY b, dI vs, dI ars, dT bd], [.box [.ref 1, iA (j + vs.length + 4 * ars.length)], dY b, dI vs, dI ars, dT bd] ++ mS (mmD b j vs.length ars.length), mA 5⟩ := by
  refine t8 49 Tryz.func18 [.box [.ref 1, iA j], dY b, dI vs, dI ars, dT bd] [(0, .ptr 0 0), (1, pA 2)] fun G => ?_; refine wp_seq (e5 G c3 [0, 1, 2, 3, 4, 5, 13] [.box [.ref 1, iA j], dY b, dI vs, dI ars, dT bd, .box (pL 2), ac6] [(0, .ptr 0 0), (3, .ptr 5 0), (4, .ptr 6 0)] fun G => b5 (wp_seq (e5 G c3 [0, 1, 2, 3, 4, 5, 6, 15] [.box [.ref 1, iA j], dY b, dI vs, dI ars, dT bd, .box (pL 2), ac6, ac6] (F3 []) fun G => b5 (wp_seq (wp_seq (w3 G c3 (F3 [(6, iA 0)]) fun G => b5 (wp_block ?_))))))); obtain ⟨ρ, G⟩ := G.nil 8 3 (.ints []) 1 (.box [.ref 1, iA j] :: dY b :: dI vs :: dI ars :: dT bd :: (aK4 [.box [.ref 8, .v (.slice none 0 0)]])) (F3 [(6, iA 0)]); replace G := G.as (.box [.ref 1, iA (j + 0)] :: dY b :: dI vs :: dI ars :: dT bd :: (aK4 [.box [.ref 8, .v (.slice none 0 0)], .row 3 (D.ints (vlD b j 0))])) (F3 [(6, iA 0)]) (by have e1 : (j + 0 : Int) = (j) := (by omega); (first | rw [e1] | simp only [e1]) <;> rfl) (by kernel_rfl); refine k8 (κ := Nat) (fun k => k ≤ vs.length) (fun k => vs.length - k) (fun k => [.box [.ref 1, iA (j + k)], dY b, dI vs, dI ars, dT bd, .box (pL 2), .box [.v (.slice none 0 0), .v (.slice none 0 0)], .box [.ref 8, .v (.slice none 0 0)], .row 3 (.ints (vlD b j k))]) (fun k => [(0, .ptr 0 0), (3, .ptr 5 0), (4, .ptr 6 0), (5, .ptr 7 0), (6, iA k)]) 0 (by omega) (l7.at G _ _) ?_; clear G; intro k ρ a w hp G; replace G := l7.at G [.box [.ref 1, iA (j + (k : Int))], dY b, dI vs, dI ars, dT bd, .box (pL 2), ac6, .box [.ref 8, .v (.slice none 0 0)], .row 3 (D.ints (vlD b j k))] (F3 [(6, iA k)]); have hvl := as7 b j k; refine wp_seq (wp_seq (w3 G c3 (F3 [(6, iA k), (15, bA (decide ((k : Int) < vs.length)))]) fun G => b5 ?_)); cases h0 : (decide ((k : Int) < vs.length))
  ·
   have q0 := O4 h0
   obtain rfl : k = vs.length := by omega
   refine rF G (decide ((vs.length : Int) < vs.length)) (by assumption) (wp_exit (j9 (j9 (j7 (b5 (wp_seq (wp_seq (w3 G c3 (F3 [(7, iA 0)]) fun G => b5 (wp_block ?_))))))))); obtain ⟨ρ, G⟩ := G.nilT 9 (.rows []) (.box [.ref 1, iA (j + (vs.length : Int))] :: dY b :: dI vs :: dI ars :: dT bd :: (aK4 [.box [.ref 8, .tref 9], .row 3 (D.ints (vlD b j vs.length))])) (F3 [(7, iA 0)]); replace G := G.as (.box [.ref 1, iA (j + (vs.length : Int) + 4 * (0 : Int))] :: dY b :: dI vs :: dI ars :: dT bd :: (aK4 [.box [.ref 8, .tref 9], .row 3 (D.ints (vlD b j vs.length)), .tree (D.rows (arD b (j + (vs.length : Int)) 0))])) (F3 [(7, iA 0)]) (by have e1 : (j + (vs.length : Int) + 4 * (0 : Int) : Int) = (j + (vs.length : Int)) := (by omega); (first | rw [e1] | simp only [e1]) <;> rfl) (by kernel_rfl); refine k8 (κ := Nat) (fun i => i ≤ ars.length) (fun i => ars.length - i) (fun i => [.box [.ref 1, iA (j + vs.length + 4 * i)], dY b, dI vs, dI ars, dT bd, .box (pL 2), .box [.v (.slice none 0 0), .v (.slice none 0 0)], .box [.ref 8, .tref 9], .row 3 (D.ints (vlD b j vs.length)), .tree (.rows (arD b (j + vs.length) i))]) (fun i => [(0, .ptr 0 0), (3, .ptr 5 0), (4, .ptr 6 0), (5, .ptr 7 0), (7, iA i)]) 0 (by omega) (l7.at G _ _) ?_; clear G; intro i ρ a w hp G; replace G := l7.at G (.box [.ref 1, iA (j + (vs.length : Int) + 4 * (i : Int))] :: dY b :: dI vs :: dI ars :: dT bd :: .box (pL 2) :: ac6 :: (aK5 b j vs i [])) (F3 [(7, iA i)]); have hal := aZ5 b (j + vs.length) i; refine wp_seq (wp_seq (w3 G c3 (F3 [(7, iA i), (29, bA (decide ((i : Int) < ars.length)))]) fun G => b5 ?_)); cases h1 : (decide ((i : Int) < ars.length))
   ·
    have q1 := O4 h1
    obtain rfl : i = ars.length := by omega
    refine rF G (decide ((ars.length : Int) < ars.length)) (by assumption) (wp_exit (j9 (j9 (j7 (b5 (wp_seq (e5 G c3 [0, 1, 2, 3, 4, 6, 8, 9] [.box [.ref 1, iA (j + (vs.length : Int) + 4 * (ars.length : Int))], dY b, dI vs, dI ars, dT bd, .box [.ref 6, .tref 7], .row 3 (D.ints (vlD b j vs.length)), .tree (D.rows (arD b (j + (vs.length : Int)) ars.length))] [(4, .ptr 5 0)] fun G => b5 (wp_ret ?_)))))))); obtain ⟨ρ, G⟩ := G.frz [.no, .no, .no, .no, .no, .no, .row 3, .tree] [.box [.ref 1, iA (j + (vs.length : Int) + 4 * (ars.length : Int))], dY b, dI vs, dI ars, dT bd, .box [.ref 6, .ref 7], dI (vlD b j vs.length), dR (arD b (j + (vs.length : Int)) ars.length)] [(4, .ptr 5 0)]; exact A3 G [0, 1, 2, 3, 4, 6, 7]
   ·
    have q1 := O3 h1; refine rT G _ h1 (wp_skip (b5 (wp_seq (wp_block (wp_seq (e5 G c3 (rg 11) (.box [.ref 1, iA (j + (vs.length : Int) + 4 * (i : Int))] :: dY b :: dI vs :: dI ars :: dT bd :: .box (pL 2) :: ac6 :: (aK5 b j vs i [.row 3 (D.ints [])])) (F3 [(7, iA i), (8, .ref 10)]) fun G => b5 (wp_seq (wp_seq (w3 G c3 (F3 [(7, iA i), (8, .ref 10), (9, iA 0)]) fun G => b5 (wp_block ?_)))))))))); replace G := G.as (.box [.ref 1, iA (j + (vs.length : Int) + 4 * (i : Int) + 0)] :: dY b :: dI vs :: dI ars :: dT bd :: (aK4 (aK5 b j vs i [.row 3 (D.ints (vlD b (j + (vs.length : Int) + 4 * (i : Int)) 0))]))) (F3 [(7, iA i), (8, .ref 10), (9, iA 0)]) (by have e1 : (j + (vs.length : Int) + 4 * (i : Int) + 0 : Int) = (j + (vs.length : Int) + 4 * (i : Int)) := (by omega); (first | rw [e1] | simp only [e1]) <;> rfl) (by kernel_rfl); refine k8 (κ := Nat) (fun k2 => k2 ≤ 4) (fun k2 => 4 - k2) (fun k2 => [.box [.ref 1, iA (j + vs.length + 4 * i + k2)], dY b, dI vs, dI ars, dT bd, .box (pL 2), .box [.v (.slice none 0 0), .v (.slice none 0 0)], .box [.ref 8, .tref 9], .row 3 (D.ints (vlD b j vs.length)), .tree (D.rows (arD b (j + (vs.length : Int)) i)), .row 3 (.ints (vlD b (j + vs.length + 4 * i) k2))]) (fun k2 => [(0, .ptr 0 0), (3, .ptr 5 0), (4, .ptr 6 0), (5, .ptr 7 0), (7, iA i), (8, .ref 10), (9, iA k2)]) 0 (by omega) (l7.at G _ _) ?_; clear G; intro k2 ρ a w hp G; replace G := l7.at G (.box [.ref 1, iA (j + (vs.length : Int) + 4 * (i : Int) + (k2 : Int))] :: dY b :: dI vs :: dI ars :: dT bd :: .box (pL 2) :: ac6 :: (aK5 b j vs i [.row 3 (D.ints (vlD b (j + (vs.length : Int) + 4 * (i : Int)) k2))])) (F3 [(7, iA i), (8, .ref 10), (9, iA k2)]); have hvl2 := as7 b (j + vs.length + 4 * i) k2; refine wp_seq (wp_seq (w3 G c3 (F3 [(7, iA i), (8, .ref 10), (9, iA k2), (34, bA (decide ((k2 : Int) < 4)))]) fun G => b5 ?_)); cases h2 : (decide ((k2 : Int) < 4))
    ·
     have q2 := O4 h2
     obtain rfl : k2 = 4 := by omega
     refine rF G false (by kernel_rfl) (wp_exit (j9 (j9 (j7 (b5 (L6 G c3 [0, 1, 2, 3, 4, 5, 6, 7, 8, 43] [.box [.ref 1, iA (j + (vs.length : Int) + 4 * (i : Int) + 4)], dY b, dI vs, dI ars, dT bd, .box (pL 2), ac6, .box [.ref 8, .tref 9], .row 3 (D.ints (vlD b j vs.length)), .tree (D.rows (arD b (j + (vs.length : Int)) i ++ [vlD b (j + (vs.length : Int) + 4 * (i : Int)) 4]))] (F3 [(7, iA i)]) (aP ((arD b (j + (vs.length : Int)) i).length + [vlD b (j + (vs.length : Int) + 4 * (i : Int)) (4 : Nat)].length) 24 []) (aK (by simp; omega) bX6) fun G => i9 (b5 (z5 G c3 [(7, iA ((i : Int) + 1))] [wO ((i : Int) + 1)] (o1 (by omega)) fun G => b5 ?_)))))))); exact H3 G (i + 1) (by omega) (by omega) (rg 10) (by have e1 : (j + (vs.length : Int) + 4 * (↑(i + 1) : Int) : Int) = (j + (vs.length : Int) + 4 * (i : Int) + 4) := (by omega); have e2 : (arD b (j + (vs.length : Int)) (i + 1) : List (List Int)) = (arD b (j + (vs.length : Int)) i ++ [vlD b (j + (vs.length : Int) + 4 * (i : Int)) 4]) := (bv6 _ _ _); (first | rw [e1, e2] | simp only [e1, e2]) <;> rfl)
    · have q2 := O3 h2; refine rT G _ h2 (wp_skip (b5 (wp_seq (wp_block (L6 G (n5 2 [0, 1] (aE2 b (j + (vs.length : Int) + 4 * (i : Int) + (k2 : Int)) (by omega) (by omega))) [0, 1, 2, 3, 4, 5, 6, 7, 8, 9, 43] (.box [.ref 1, iA (j + (vs.length : Int) + 4 * (i : Int) + (k2 : Int) + 1)] :: dY b :: dI vs :: dI ars :: dT bd :: .box (pL 2) :: ac6 :: (aK5 b j vs i [.row 3 (D.ints (vlD b (j + (vs.length : Int) + 4 * (i : Int)) k2 ++ ([nm b (j + (vs.length : Int) + 4 * (i : Int) + (k2 : Int)) vaL] ++ [])))])) (F3 [(7, iA i), (8, .ref 10), (9, iA k2)]) (aP ((vlD b (j + (vs.length : Int) + 4 * (i : Int)) k2).length + ([nm b (j + (vs.length : Int) + 4 * (i : Int) + (k2 : Int)) vaL] ++ []).length) 8 []) (aK (by simp; omega) bX6) fun G => i9 (b5 (z5 G c3 [(9, iA ((k2 : Int) + 1))] [wO ((k2 : Int) + 1)] (o1 (by omega)) fun G => b5 ?_))))))); exact H3 G (k2 + 1) (by omega) (by omega) (rg 11) (by have e1 : (j + (vs.length : Int) + 4 * (i : Int) + (↑(k2 + 1) : Int) : Int) = (j + (vs.length : Int) + 4 * (i : Int) + (k2 : Int) + 1) := (by omega); have e2 : (vlD b (j + (vs.length : Int) + 4 * (i : Int)) (k2 + 1) : List Int) = (vlD b (j + (vs.length : Int) + 4 * (i : Int)) k2 ++ ([nm b (j + (vs.length : Int) + 4 * (i : Int) + (k2 : Int)) vaL] ++ [])) := (a15 _ _ _); (first | rw [e1, e2] | simp only [e1, e2]) <;> rfl)
  · have q0 := O3 h0; refine rT G _ h0 (wp_skip (b5 (wp_seq (wp_block (F0 G (n5 3 [0, 1] (aE2 b (j + (k : Int)) (by omega) (by omega))) [0, 1, 0, 4, 12, 31, 63, 127] [0, 1, 2, 3, 4, 5, 6, 7, 49] [.box [.ref 1, iA (j + (k : Int) + 1)], dY b, dI vs, dI ars, dT bd, .box (pL 2), ac6, .box [.ref 8, .v (.slice none 0 0)], .row 3 (D.ints (vlD b j k ++ ([nm b (j + (k : Int)) vaL] ++ [])))] (F3 [(6, iA k)]) (aP ((vlD b j k).length + ([nm b (j + (k : Int)) vaL] ++ []).length) 8 []) (aK (by simp; omega) bX6) fun G => i9 (b5 (z5 G c3 [(6, iA ((k : Int) + 1))] [wO ((k : Int) + 1)] (o1 (by omega)) fun G => b5 ?_))))))); exact H3 G (k + 1) (by omega) (by omega) (rg 9) (by have e1 : (j + (↑(k + 1) : Int) : Int) = (j + (k : Int) + 1) := (by omega); have e2 : (vlD b j (k + 1) : List Int) = (vlD b j k ++ ([nm b (j + (k : Int)) vaL] ++ [])) := (a15 _ _ _); (first | rw [e1, e2] | simp only [e1, e2]) <;> rfl)
theorem T0 (xs ys : List Int) : d8.ok Tryz.prog (C9 25 [.ref 0, .ref 1] [dI xs, dI ys] (bA (decide (xs = ys)))) := by
  refine t8 26 Tryz.func25 [dI xs, dI ys] [(0, .ref 0), (1, .ref 1)] fun G => ?_; have hl : xs.length ≤ 9223372036854775807 := G.len 0 (d := .ints xs) (by kernel_rfl); refine wp_seq (w3 G c3 [(0, .ref 0), (1, .ref 1), (4, bA false)] fun G => b5 (wp_seq (wp_seq (d9 G c3 [(10, bA ((xs.length : Int) != (ys.length : Int)))] fun G => b5 (rcN G (fun h0 q0 => ?_) fun h0 q0 => ?_)))))
  ·
   refine wp_skip (b5 (wp_seq (wp_seq (w3 G c3 [(0, .ref 0), (1, .ref 1), (4, bA false), (12, iA (xs.length : Int)), (13, iA 0)] fun G => b5 (wp_block ?_))))); refine k8 (κ := Nat) (fun k => k ≤ xs.length ∧ xs.take k = ys.take k) (fun k => xs.length - k) (fun k => [dI xs, dI ys]) (fun k => [(0, .ref 0), (1, .ref 1), (4, bA false), (12, iA (xs.length : Int)), (13, iA k)]) 0 (by simp [h0]) (l7.at G _ _) ?_; clear G; intro k ρ a w hp G; refine wp_seq (d9 G c3 [(14, bA (decide ((k : Int) < xs.length)))] fun G => b5 (wp_seq (I2 G (fun h1 q1 => ?_) fun h1 q1 => ?_)))
   · refine wp_exit (j9 (j9 (j7 (b5 (wp_seq (d9 G c3 [(4, bA true)] fun G => b5 (wp_ret ?_))))))); exact m5 true G [0, 1] (decide_eq_true (X7 hp.2 (by omega) (by omega)))
   ·
    refine wp_skip (b5 (wp_seq (wp_block (wp_seq (d9 G c3 [(5, iA k)] fun G => b5 (wp_seq (T9 G c3 [0, 0, 3, 7, 0, 0, 48, 112, 255] [(24, bA (xs.getD k 0 != ys.getD k 0))] (iX k k xs.length (iX k k ys.length [])) (iK (by omega) (iK (by omega) bX6)) fun G => b5 (rcN G (fun h2 q2 => ?_) fun h2 q2 => ?_))))))))
    · refine wp_skip (i9 (b5 (z5 G c3 [(13, iA ((k : Int) + 1))] [wO ((k : Int) + 1)] (o1 (by omega)) fun G => b5 ?_))); exact H3 G (k + 1) (⟨by omega, R7 hp.2 (by omega) (by omega) (by omega)⟩) (by omega) [0, 1]
    · refine wp_seq (d9 G c3 [] fun G => b5 (wp_ret (m7 (c8 (c8 (m7 (c8 ?_))))))); exact m5 false G [0, 1] (by exact decide_eq_false fun e => by subst e; omega)
  · refine wp_seq (d9 G c3 [] fun G => b5 (wp_ret (c8 ?_))); exact m5 false G [0, 1] (by exact decide_eq_false fun e => by subst e; omega)
def cdF (F : b6 → Int) : List b6 → Int
 | [] => 0
 | s :: r => if F s = 0 then cdF F r else F s
def cdS (vs ars : List Int) (strict : Bool) : Nat → Int → b6 → Int
 | 0, _, _ => 0
 | d + 1, pc, s => if O5 ⟨vs, ars, []⟩ s pc strict = 0 then
   (if cdF (cdS vs ars strict d (Z1 ⟨vs, ars, []⟩ s pc)) s.body = 0 then cdF (cdS vs ars strict d (Z1 ⟨vs, ars, []⟩ s pc)) s.els else cdF (cdS vs ars strict d (Z1 ⟨vs, ars, []⟩ s pc)) s.body)
  else O5 ⟨vs, ars, []⟩ s pc strict
theorem aX7 {F : b6 → Int} {G : Nat → b6 → Int × Nat} (h : ∀ c s, (G c s).1 = F s) : ∀ (ss : List b6) (c : Nat), (x3 G c ss).1 = cdF F ss
 | [], _ => rfl
 | s :: r, c => by
  rw [x3, cdF, h]
  split
  ·exact aX7 h r _
  ·exact h c s
theorem bl6 (p : b8) (strict : Bool) : ∀ (d : Nat) (pc : Int) (c : Nat) (s : b6), (stC p strict d pc c s).1 = cdS p.vars p.arrays strict d pc s
 | 0, _, _, _ => rfl
 | d + 1, pc, c, s => by
  have e1 : O5 p s pc strict = O5 ⟨p.vars, p.arrays, []⟩ s pc strict := rfl
  have e2 : Z1 p s pc = Z1 ⟨p.vars, p.arrays, []⟩ s pc := rfl
  have h1 := fun ss c => aX7 (bl6 p strict d (Z1 p s pc)) ss c
  rw [stC, cdS, ← e1, ← e2]
  split
  ·rw [h1]
   split
   ·rw [h1]
   ·rw [h1]
  ·rfl
theorem bE8 (p : b8) (strict : Bool) (d : Nat) (pc : Int) (c : Nat) (ss : List b6) : (m8 p strict d pc c ss).1 = cdF (cdS p.vars p.arrays strict d pc) ss := aX7 (bl6 p strict d pc) ss c
theorem aQ9 {F : b6 → Int} : ∀ {ss : List b6}, cdF F ss = 0 ↔ ∀ s ∈ ss, F s = 0
 | [] => by simp [cdF]
 | s :: r => by
  rw [cdF]
  by_cases h : F s = 0
  ·rw [if_pos h, aQ9]
   simp [h]
  ·rw [if_neg h]
   simp [h]
theorem bu1 (p : b8) (strict : Bool) : (J2 p strict).1 = if e6 p = true then cdF (cdS p.vars p.arrays strict 5 0) p.body else 5 := by
 unfold J2
 rw [← bE8 p strict 5 0 0]
 split
 ·split
  ·rename_i h; exact h.symm
  ·rfl
 ·rfl
theorem bu0 (p : b8) (strict : Bool) : (J2 p strict).1 = 0 ↔ e6 p = true ∧ ∀ s ∈ p.body, cdS p.vars p.arrays strict 5 0 s = 0 := by
 rw [bu1]
 split
 ·rename_i h; rw [aQ9]; exact ⟨fun h1 => ⟨h, h1⟩, fun h1 => h1.2⟩
 ·rename_i h; exact ⟨fun h1 => absurd h1 (by decide), fun h1 => absurd h1.1 h⟩
section
variable {vs ars : List Int} {l : Int} {s : b6} {pc pd : Int}
end
theorem aC9 {p : b8} (h : e6 p = true) : p.vars.all c5 = true ∧ p.arrays.all c5 = true ∧ 1 ≤ p.vars.length ∧ p.body.all (d7 p.vars.length p.arrays.length 5) = true := by
 unfold e6 x7 at h
 simp only [bW2, decide_eq_true_eq] at h
 exact ⟨h.1.1.1.1.1.1, h.1.1.1.1.1.2, h.1.1.1.1.2, h.1.2⟩
section
variable (vs ars : List Int) (bd : List b6)
theorem ba5 : d8.ok Tryz.prog (C9 27 [pA 0] [dI vs, dI ars, dT bd] (bA (e6 ⟨vs, ars, bd⟩))) := n7 ⟨vs, ars, bd⟩
end
abbrev nvB (n : Int) : Bool := !(decide (0 ≤ n) && decide (n ≤ 255))
theorem bu8 (n : Int) : d8.ok Tryz.prog (C9 49 [iA n] [] (bA (nvB n))) := by
 refine t8 6 Tryz.func49 [] [(0, iA n)] fun G => ?_; refine wp_seq (d9 G c3 [(2, bA false)] fun G => b5 (wp_seq (d9 G (n5 1 [] (p6 n 0 255)) [(2, .v (.bool !(decide (0 ≤ n) && decide (n ≤ 255))))] fun G => b5 (wp_ret ?_)))); exact A3 G []
theorem bP3 (l : List Int) : d8.ok Tryz.prog (C9 72 [.ref 0, .fn 49 []] [dI l] (iA (V9 nvB l))) := by
  refine t8 19 Tryz.func72 [dI l] [(0, .ref 0), (1, .fn 49 [])] fun G => ?_; have hl : l.length ≤ 9223372036854775807 := G.len 0 (d := .ints l) (by kernel_rfl); refine wp_seq (w3 G c3 [(0, .ref 0), (1, .fn 49 []), (4, iA 0)] fun G => b5 (wp_seq (wp_seq (w3 G c3 [(0, .ref 0), (1, .fn 49 []), (4, iA 0), (7, iA (l.length : Int)), (8, iA 0)] fun G => b5 (wp_block ?_))))); refine k8 (κ := Nat) (fun k => k ≤ l.length ∧ (l.take k).any nvB = false) (fun k => l.length - k) (fun k => [dI l]) (fun k => [(0, .ref 0), (1, .fn 49 []), (4, iA 0), (7, iA (l.length : Int)), (8, iA k)]) 0 (⟨bZ5 _, rfl⟩) (l7.at G _ _) ?_; clear G; intro k ρ a w hp G; refine wp_seq (d9 G c3 [(9, bA (decide ((k : Int) < l.length)))] fun G => b5 (wp_seq (I2 G (fun h0 q0 => ?_) fun h0 q0 => ?_)))
  · refine wp_exit (j9 (j9 (j7 (b5 (wp_seq (d9 G c3 [(4, iA (-1))] fun G => b5 (wp_ret ?_))))))); exact J9 (-1) G [0] (ax3 (aj9 hp.2 (by omega)))
  ·
   refine wp_skip (b5 (wp_seq (wp_block (wp_seq (d9 G c3 [(5, iA k)] fun G => b5 (wp_seq (z5 G (n5 5 [] (bu8 (l.getD k 0))) [(16, bA (nvB (l.getD k 0)))] (iX k k l.length []) (iK (by omega) bX6) fun G => b5 (rcB G (fun h1 => ?_) fun h1 => ?_))))))))
   · refine wp_skip (i9 (b5 (z5 G c3 [(8, iA ((k : Int) + 1))] [wO ((k : Int) + 1)] (o1 (by omega)) fun G => b5 ?_))); exact H3 G (k + 1) (⟨by omega, aj8 (z := 0) hp.2 (by omega) (by assumption)⟩) (by omega) [0]
   · refine wp_seq (d9 G c3 [(4, iA k)] fun G => b5 (wp_ret (m7 (c8 (c8 (m7 (c8 ?_))))))); exact J9 ((k : Int)) G [0] (aD6 (z := 0) (by omega) hp.2 (by assumption))
theorem bP5 (l : List Int) : d8.ok Tryz.prog (C9 48 [.ref 0, .fn 49 []] [dI l] (bA (l.any nvB))) := by
 refine t8 9 Tryz.func48 [dI l] [(0, .ref 0), (1, .fn 49 [])] fun G => ?_; refine wp_seq (d9 G c3 [(4, bA false)] fun G => b5 (wp_seq (d9 G (n5 2 [0] (bP3 l)) [(4, bA (decide (V9 nvB l ≥ 0)))] fun G => b5 (wp_ret ?_)))); exact m5 (decide (V9 nvB l ≥ 0)) G [0] ((aD7 _ _).symm)
theorem bc6 (l : List Int) : (!l.any nvB) = C1 l := by
 unfold C1
 rw [List.all_eq_not_any_not]
theorem ao3 (l : List Int) : d8.ok Tryz.prog (C9 34 [.ref 0] [dI l] (bA (C1 l))) := by
 refine t8 6 Tryz.func34 [dI l] [(0, .ref 0)] fun G => ?_; refine wp_seq (d9 G c3 [(2, bA false)] fun G => b5 (wp_seq (d9 G (n5 1 [0] (bP5 l)) [(2, .v (.bool !l.any nvB))] fun G => b5 (wp_ret ?_)))); exact M0 (.v (.bool !l.any nvB)) G [0] (by have e1 : (C1 l : Bool) = (!l.any nvB) := ((bc6 l).symm); (first | rw [e1] | simp only [e1]) <;> rfl)
abbrev naB (a : List Int) : Bool := !(Z6 a)
theorem bT7 {a : List Int} (h : ¬ (a.length : Int) = 4) : naB a = true := by unfold naB Z6; rw [decide_eq_false (p := a.length = 4) (by omega)]; rfl
theorem bT6 {a : List Int} (h : (a.length : Int) = 4) : naB a = !(C1 a) := by unfold naB Z6; rw [decide_eq_true (p := a.length = 4) (by omega)]; rfl
theorem bE9 (l : List Int) : d8.ok Tryz.prog (C9 36 [.ref 0] [dI l] (bA (naB l))) := by
 refine t8 11 Tryz.func36 [dI l] [(0, .ref 0)] fun G => ?_; refine wp_seq (d9 G c3 [(2, bA false)] fun G => b5 (wp_seq ?_)); cases h0 : ((l.length : Int) != 4)
 ·have q0 := bne_eq_false_iff_eq.1 h0; refine d9 G (l9 (f6 5 [0] (ao3 l) l8) (fc h0 fz) [(4, 0), (5, 0), (6, 0), (1007, 0)]) [(2, .v (.bool !C1 l))] fun G => b5 (wp_ret ?_); exact M0 (.v (.bool !C1 l)) G [0] (by have e1 : (naB l : Bool) = (!C1 l) := (bT6 (by omega)); (first | rw [e1] | simp only [e1]) <;> rfl)
 ·have q0 := bne_iff_ne.1 h0; refine d9 G (z4 (fc h0 fz) [(4, 0), (5, 0), (6, 0), (1007, 0)]) [(2, bA true)] fun G => b5 (wp_ret ?_); exact m5 true G [0] (bT7 (by omega))
theorem bP4 (l : List (List Int)) : d8.ok Tryz.prog (C9 51 [.ref 0, .fn 36 []] [dR l] (iA (V9 naB l))) := by
  refine t8 19 Tryz.func51 [dR l] [(0, .ref 0), (1, .fn 36 [])] fun G => ?_; have hl : l.length ≤ 9223372036854775807 := G.len 0 (d := .rows l) (by kernel_rfl); refine wp_seq (w3 G c3 [(0, .ref 0), (1, .fn 36 []), (4, iA 0)] fun G => b5 (wp_seq (wp_seq (w3 G c3 [(0, .ref 0), (1, .fn 36 []), (4, iA 0), (7, iA (l.length : Int)), (8, iA 0)] fun G => b5 (wp_block ?_))))); refine k8 (κ := Nat) (fun k => k ≤ l.length ∧ (l.take k).any naB = false) (fun k => l.length - k) (fun k => [dR l]) (fun k => [(0, .ref 0), (1, .fn 36 []), (4, iA 0), (7, iA (l.length : Int)), (8, iA k)]) 0 (⟨bZ5 _, rfl⟩) (l7.at G _ _) ?_; clear G; intro k ρ a w hp G; refine wp_seq (d9 G c3 [(9, bA (decide ((k : Int) < l.length)))] fun G => b5 (wp_seq (I2 G (fun h0 q0 => ?_) fun h0 q0 => ?_)))
  · refine wp_exit (j9 (j9 (j7 (b5 (wp_seq (d9 G c3 [(4, iA (-1))] fun G => b5 (wp_ret ?_))))))); exact J9 (-1) G [0] (ax3 (aj9 hp.2 (by omega)))
  ·
   refine wp_skip (b5 (wp_seq (wp_block (wp_seq (d9 G c3 [(5, iA k)] fun G => b5 (wp_seq (z5 G (n5 5 [33] (bE9 (l.getD k []))) [(16, bA (naB (l.getD k [])))] (iX k k l.length []) (iK (by omega) bX6) fun G => b5 (rcB G (fun h1 => ?_) fun h1 => ?_))))))))
   · refine wp_skip (i9 (b5 (z5 G c3 [(8, iA ((k : Int) + 1))] [wO ((k : Int) + 1)] (o1 (by omega)) fun G => b5 ?_))); exact H3 G (k + 1) (⟨by omega, aj8 (z := []) hp.2 (by omega) (by assumption)⟩) (by omega) [0]
   · refine wp_seq (d9 G c3 [(4, iA k)] fun G => b5 (wp_ret (m7 (c8 (c8 (m7 (c8 ?_))))))); exact J9 ((k : Int)) G [0] (aD6 (z := []) (by omega) hp.2 (by assumption))
theorem bP6 (l : List (List Int)) : d8.ok Tryz.prog (C9 35 [.ref 0, .fn 36 []] [dR l] (bA (l.any naB))) := by
 refine t8 9 Tryz.func35 [dR l] [(0, .ref 0), (1, .fn 36 [])] fun G => ?_; refine wp_seq (d9 G c3 [(4, bA false)] fun G => b5 (wp_seq (d9 G (n5 2 [0] (bP4 l)) [(4, bA (decide (V9 naB l ≥ 0)))] fun G => b5 (wp_ret ?_)))); exact m5 (decide (V9 naB l ≥ 0)) G [0] ((aD7 _ _).symm)
theorem bv4 (l : List (List Int)) : (!l.any naB) = l.all Z6 := by
 rw [List.all_eq_not_any_not]
theorem bN4 {nv na : Nat} {m : s4} (h1 : (m.vals.length : Int) = nv) (h2 : (m.arrs.length : Int) = na) (h3 : C1 m.vals = true) : (!m.arrs.any naB) = L7 nv na m := by
 rw [bN5 h1 h2 h3]; exact bv4 _
theorem af8 (vs ars xs : List Int) (rs : List (List Int)) : d8.ok Tryz.prog (C9 19 [.ref 0, .ref 1, mA 2] [dI vs, dI ars, dI xs, dR rs] (bA (L7 vs.length ars.length ⟨xs, rs⟩))) := by
  refine t8 31 Tryz.func19 [dI vs, dI ars, dI xs, dR rs] [(0, .ref 0), (1, .ref 1), (2, .agg [.ref 2, .ref 3])] fun G => ?_; refine wp_seq (e5 G c3 (rg 5) [dI vs, dI ars, dI xs, dR rs, .box [.ref 2, .ref 3]] [(0, .ref 0), (1, .ref 1), (5, .ptr 4 0), (6, bA false)] fun G => b5 (wp_seq (wp_seq ?_))); cases h0 : ((xs.length : Int) != (vs.length : Int))
  ·
   have q0 := bne_eq_false_iff_eq.1 h0; cases h1 : ((rs.length : Int) != (ars.length : Int))
   ·
    have q1 := bne_eq_false_iff_eq.1 h1; refine d9 G (l9 (f6 17 [2] (ao3 xs) l8) (fc h0 (fc h1 fz)) (us [(7, 12, 0), (1013, 1013, 0), (15, 18, 1), (1019, 1019, 1)])) [(26, .v (.bool !C1 xs))] fun G => b5 ?_; cases h2 : (!C1 xs)
    · have q2 : (C1 xs) = true := (Eq.mp (bW7 _) h2); refine rF G _ h2 (wp_skip (b5 (wp_seq (e5 G (n5 2 [3] (bP6 rs)) (rg 4) [dI vs, dI ars, dI xs, dR rs] [(6, .v (.bool !rs.any naB))] fun G => b5 (wp_ret ?_))))); exact M0 (.v (.bool !rs.any naB)) G (rg 4) (by have e1 : (L7 vs.length ars.length (s4.mk xs rs) : Bool) = (!rs.any naB) := ((bN4 (m := ⟨xs, rs⟩) (by dsimp only; omega) (by dsimp only; omega) (by with_reducible assumption)).symm); (first | rw [e1] | simp only [e1]) <;> rfl)
    · have q2 : (C1 xs) = false := (Eq.mp (bW6 _) h2); refine rT G _ h2 (wp_seq (d9 G c3 [] fun G => b5 (wp_ret (c8 ?_)))); exact m5 false G (rg 4) (by6 (by with_reducible assumption))
   · have q1 := bne_iff_ne.1 h1; refine d9 G (z4 (fc h0 (fc h1 fz)) (us [(7, 12, 0), (1013, 1013, 0), (15, 18, 1), (1019, 1019, 1)])) [(26, bA true)] fun G => b5 (rT G true (by kernel_rfl) (wp_seq (d9 G c3 [] fun G => b5 (wp_ret (c8 ?_))))); exact m5 false G (rg 4) (by7 (by dsimp only; omega))
  · have q0 := bne_iff_ne.1 h0; refine d9 G (z4 (fc h0 (fc (b := true) rfl fz)) (us [(7, 12, 0), (1013, 1013, 0), (15, 18, 1), (1019, 1019, 1)])) [(26, bA true)] fun G => b5 (rT G true (by kernel_rfl) (wp_seq (d9 G c3 [] fun G => b5 (wp_ret (c8 ?_))))); exact m5 false G (rg 4) (by8 (by dsimp only; omega))
theorem ay2 (vs ars : List Int) (bd : List b6) (xs : List Int) (rs : List (List Int)) : d8.ok Tryz.prog (C9 9 [pA 0, mA 3] [dI vs, dI ars, dT bd, dI xs, dR rs] (bA (e6 ⟨vs, ars, bd⟩ && L7 vs.length ars.length ⟨xs, rs⟩))) := by
 have hv := ba5 (vs := vs) (ars := ars) (bd := bd); refine t8 15 Tryz.func9 [dI vs, dI ars, dT bd, dI xs, dR rs] [(0, pA 0), (1, .agg [.ref 3, .ref 4])] fun G => ?_; refine wp_seq (e5 G c3 [0, 1, 2, 3, 4, 5, 13] [dI vs, dI ars, dT bd, dI xs, dR rs, .box (pL 0), .box [.ref 3, .ref 4]] [(2, .ptr 5 0), (3, .ptr 6 0), (4, bA false)] fun G => b5 (wp_seq ?_)); cases h0 : (e6 (b8.mk vs ars bd))
 ·refine e5 G (l9 (f6 1 [0, 1, 2] hv l8) (fc h0 fz) (us [(3, 8, 0), (1009, 1009, 0)])) (rg 5) [dI vs, dI ars, dT bd, dI xs, dR rs] [(4, bA false)] fun G => b5 (wp_ret ?_); exact A3 G (rg 5)
 ·refine e5 G (l9 (f6 1 [0, 1, 2] hv (f6 8 [0, 1, 3, 4] (af8 vs ars xs rs) l8)) (fc h0 fz) (us [(3, 8, 0), (1009, 1009, 0)])) (rg 5) [dI vs, dI ars, dT bd, dI xs, dR rs] [(4, bA (L7 vs.length ars.length (s4.mk xs rs)))] fun G => b5 (wp_ret ?_); exact A3 G (rg 5)
theorem bm5 (xs ys : List (List Int)) : d8.ok Tryz.prog (C9 26 [.ref 0, .ref 1, .fn 25 []] [dR xs, dR ys] (bA (decide (xs = ys)))) := by
  refine t8 32 Tryz.func26 [dR xs, dR ys] [(0, .ref 0), (1, .ref 1), (2, .fn 25 [])] fun G => ?_; have hl : xs.length ≤ 9223372036854775807 := G.len 0 (d := .rows xs) (by kernel_rfl); refine wp_seq (w3 G c3 [(0, .ref 0), (1, .ref 1), (2, .fn 25 []), (6, bA false)] fun G => b5 (wp_seq (wp_seq (d9 G c3 [(14, bA ((xs.length : Int) != (ys.length : Int)))] fun G => b5 (rcN G (fun h0 q0 => ?_) fun h0 q0 => ?_)))))
  ·
   refine wp_skip (b5 (wp_seq (wp_seq (w3 G c3 [(1, .ref 1), (2, .fn 25 []), (6, bA false), (15, .ref 0), (16, iA (xs.length : Int)), (17, iA 0)] fun G => b5 (wp_block ?_))))); refine k8 (κ := Nat) (fun k => k ≤ xs.length ∧ xs.take k = ys.take k) (fun k => xs.length - k) (fun k => [dR xs, dR ys]) (fun k => [(1, .ref 1), (2, .fn 25 []), (6, bA false), (15, .ref 0), (16, iA (xs.length : Int)), (17, iA k)]) 0 (by simp [h0]) (l7.at G _ _) ?_; clear G; intro k ρ a w hp G; refine wp_seq (d9 G c3 [(18, bA (decide ((k : Int) < xs.length)))] fun G => b5 (wp_seq (I2 G (fun h1 q1 => ?_) fun h1 q1 => ?_)))
   · refine wp_exit (j9 (j9 (j7 (b5 (wp_seq (d9 G c3 [(6, bA true)] fun G => b5 (wp_ret ?_))))))); exact m5 true G [0, 1] (decide_eq_true (X7 hp.2 (by omega) (by omega)))
   ·
    refine wp_skip (b5 (wp_seq (wp_block (wp_seq (L6 G c3 [0, 1, 18] [dR xs, dR ys, dI (xs.getD k [])] [(1, .ref 1), (2, .fn 25 []), (6, bA false), (7, iA k), (8, .ref 2), (15, .ref 0), (16, iA (xs.length : Int)), (17, iA k)] (iX k k xs.length []) (iK (by omega) bX6) fun G => b5 (wp_seq (L6 G c3 [0, 1, 2, 27] [dR xs, dR ys, dI (xs.getD k []), dI (ys.getD k [])] [(1, .ref 1), (2, .fn 25 []), (6, bA false), (8, .ref 2), (9, .ref 3), (15, .ref 0), (16, iA (xs.length : Int)), (17, iA k)] (iX k k ys.length []) (iK (by omega) bX6) fun G => b5 (wp_seq (e5 G (n5 3 [2, 3] (T0 (xs.getD k []) (ys.getD k []))) [0, 1] [dR xs, dR ys] [(1, .ref 1), (2, .fn 25 []), (6, bA false), (15, .ref 0), (16, iA (xs.length : Int)), (17, iA k), (30, .v (.bool !decide (xs.getD k [] = ys.getD k [])))] fun G => b5 ?_))))))))); cases h2 : (!decide (xs.getD k [] = ys.getD k []))
    · have q2 : xs.getD k [] = ys.getD k [] := (fun hq => of_decide_eq_true hq) (Eq.mp (bW7 _) h2); refine rF G _ h2 (wp_skip (i9 (b5 (z5 G c3 [(17, iA ((k : Int) + 1))] [wO ((k : Int) + 1)] (o1 (by omega)) fun G => b5 ?_)))); exact H3 G (k + 1) (⟨by omega, R7 (z := []) hp.2 (by omega) (by omega) (by with_reducible assumption)⟩) (by omega) [0, 1]
    · have q2 : ¬ (xs.getD k [] = ys.getD k []) := (fun hq => of_decide_eq_false hq) (Eq.mp (bW6 _) h2); refine rT G _ h2 (wp_seq (d9 G c3 [] fun G => b5 (wp_ret (m7 (c8 (c8 (m7 (c8 ?_)))))))); exact m5 false G [0, 1] (by exact decide_eq_false fun e => by subst e; simp at *)
  · refine wp_seq (d9 G c3 [] fun G => b5 (wp_ret (c8 ?_))); exact m5 false G [0, 1] (by exact decide_eq_false fun e => by subst e; simp at *)
theorem R0 (xs ys : List Int) (rs ts : List (List Int)) : d8.ok Tryz.prog (C9 8 [mA 0, mA 2] [dI xs, dR rs, dI ys, dR ts] (bA (decide (xs = ys) && decide (rs = ts)))) := by
 refine t8 17 Tryz.func8 [dI xs, dR rs, dI ys, dR ts] [(0, .agg [.ref 0, .ref 1]), (1, .agg [.ref 2, .ref 3])] fun G => ?_; refine wp_seq (e5 G c3 [0, 1, 2, 3, 4, 12] [dI xs, dR rs, dI ys, dR ts, .box [.ref 0, .ref 1], .box [.ref 2, .ref 3]] [(2, .ptr 4 0), (3, .ptr 5 0), (4, bA false)] fun G => b5 (wp_seq ?_)); cases h0 : (decide (xs = ys))
 ·have q0 := O4 h0; refine e5 G (l9 (f6 4 [0, 2] (T0 xs ys) l8) (fc h0 fz) (us [(6, 10, 0), (1011, 1011, 0)])) (rg 4) [dI xs, dR rs, dI ys, dR ts] [(4, bA false)] fun G => b5 (wp_ret ?_); exact A3 G (rg 4)
 ·have q0 := O3 h0; refine e5 G (l9 (f6 4 [0, 2] (T0 xs ys) (f6 10 [1, 3] (bm5 rs ts) l8)) (fc h0 fz) (us [(6, 10, 0), (1011, 1011, 0)])) (rg 4) [dI xs, dR rs, dI ys, dR ts] [(4, bA (decide (rs = ts)))] fun G => b5 (wp_ret ?_); exact A3 G (rg 4)
abbrev nnE : b7 := ⟨0, 0, []⟩
abbrev cnE (n : Int) : b7 := ⟨1, n, []⟩
abbrev vrE (v : Int) : b7 := ⟨2, v, []⟩
abbrev rdE (a : Int) (i : b7) : b7 := ⟨3, a, [i]⟩
abbrev W5 (i : b7) (k : Int) : b7 := ⟨9, 0, [⟨7, 0, [i, cnE 3]⟩, cnE k]⟩
abbrev seE (a b c : b7) : b7 := ⟨11, 0, [a, b, c]⟩
abbrev K1 (v : Int) (e : b7) : b6 := ⟨1, v, nnE, e, 0, [], []⟩
def t3 (m : Int) (e f : b7) : b7 := if m < 0 then e else seE (vrE m) e f
def rdL (v a : Int) (i : b7) : Nat → List b6
 | 0 => [K1 v (rdE a (cnE 0))]
 | k + 1 => rdL v a i k ++ [K1 v (seE (W5 i ((k : Int) + 1)) (rdE a (cnE ((k : Int) + 1))) (vrE v))]
def stL (v t : Int) (i : b7) (m : Int) : Nat → List b6
 | 0 => []
 | k + 1 => stL v t i m k ++ [⟨2, t, cnE (k : Int), seE (t3 m (W5 i (k : Int)) (cnE 0)) (vrE v) (rdE t (cnE (k : Int))), 0, [], []⟩]
abbrev V5 : Type := List Int × List b6
mutual
def b9 (ars : List Int) (pc : Int) : b7 → V5 → V5 × b7
 | ⟨k, v, ks⟩, s =>
  if k = 3 ∧ Q5 (c6 (n9 ars pc ks s).1.1 ars 5 (ks.getD 0 bW1)) = true then
   (((n9 ars pc ks s).1.1 ++ [f9 (c6 (n9 ars pc ks s).1.1 ars 5 ⟨k, v, ks⟩) pc], (n9 ars pc ks s).1.2 ++ rdL ((n9 ars pc ks s).1.1.length : Int) v (ks.getD 0 bW1) 3), vrE ((n9 ars pc ks s).1.1.length : Int))
  else ((n9 ars pc ks s).1, ⟨k, v, (n9 ars pc ks s).2⟩)
def n9 (ars : List Int) (pc : Int) : List b7 → V5 → V5 × List b7
 | [], s => (s, [])
 | e :: t, s => ((n9 ars pc t (b9 ars pc e s).1).1, (b9 ars pc e s).2 :: (n9 ars pc t (b9 ars pc e s).1).2)
end
theorem av7 (ars : List Int) (pc : Int) (e : b7) (s : V5) : b9 ars pc e s =
  if e.kind = 3 ∧ Q5 (c6 (n9 ars pc e.kids s).1.1 ars 5 (e.kids.getD 0 bW1)) = true then
   (((n9 ars pc e.kids s).1.1 ++ [f9 (c6 (n9 ars pc e.kids s).1.1 ars 5 e) pc], (n9 ars pc e.kids s).1.2 ++ rdL ((n9 ars pc e.kids s).1.1.length : Int) e.value (e.kids.getD 0 bW1) 3), vrE ((n9 ars pc e.kids s).1.1.length : Int))
  else ((n9 ars pc e.kids s).1, ⟨e.kind, e.value, (n9 ars pc e.kids s).2⟩) := by
 cases e; rw [b9]; rfl
theorem ai2 (ars : List Int) (pc : Int) : ∀ (a b : List b7) (s : V5), n9 ars pc (a ++ b) s = ((n9 ars pc b (n9 ars pc a s).1).1, (n9 ars pc a s).2 ++ (n9 ars pc b (n9 ars pc a s).1).2)
 | [], b, s => by simp [n9]
 | e :: t, b, s => by
  simp only [List.cons_append, n9]
  rw [ai2 ars pc t b]
theorem af0 {ars : List Int} {pc : Int} {ks : List b7} {k : Nat} {s : V5} (hk : k < ks.length) : n9 ars pc (ks.take (k + 1)) s = ((b9 ars pc (ks.getD k bW1) (n9 ars pc (ks.take k) s).1).1, (n9 ars pc (ks.take k) s).2 ++ [(b9 ars pc (ks.getD k bW1) (n9 ars pc (ks.take k) s).1).2]) := by
 rw [l0 _ _ hk, ai2, f8 hk]
 simp [n9]
abbrev ifM (x : V5 × b7) (m l : Int) : V5 := (x.1.1 ++ [l] ++ [l], x.1.2 ++ [K1 (x.1.1.length : Int) (t3 m x.2 (cnE 0))] ++ [K1 ((x.1.1 ++ [l]).length : Int) (t3 m ⟨9, 0, [vrE (x.1.1.length : Int), cnE 0]⟩ (cnE 0))])
mutual
def z6 (ars : List Int) : b6 → Int → Int → V5 → V5
 | ⟨k, t, i, v, c, b, e⟩, m, pc, s =>
  if k = 4 then ((i6 ars b m pc (s.1, [])).1, s.2 ++ [⟨4, 0, nnE, nnE, c, (i6 ars b m pc (s.1, [])).2, []⟩])
  else if k = 3 then
   (if Q5 (c6 s.1 ars 5 v) = true then
    i6 ars e (((b9 ars pc v s).1.1 ++ [f9 pc (c6 s.1 ars 5 v)]).length : Int) (f9 pc (c6 s.1 ars 5 v)) (i6 ars b ((b9 ars pc v s).1.1.length : Int) (f9 pc (c6 s.1 ars 5 v)) (ifM (b9 ars pc v s) m (f9 pc (c6 s.1 ars 5 v))))
   else ((i6 ars e m (f9 pc (c6 s.1 ars 5 v)) ((i6 ars b m (f9 pc (c6 s.1 ars 5 v)) ((b9 ars pc v s).1.1, [])).1, [])).1,
    (b9 ars pc v s).1.2 ++ [⟨3, 0, nnE, (b9 ars pc v s).2, 0, (i6 ars b m (f9 pc (c6 s.1 ars 5 v)) ((b9 ars pc v s).1.1, [])).2, (i6 ars e m (f9 pc (c6 s.1 ars 5 v)) ((i6 ars b m (f9 pc (c6 s.1 ars 5 v)) ((b9 ars pc v s).1.1, [])).1, [])).2⟩]))
  else if k = 5 then ((b9 ars pc v s).1.1, (b9 ars pc v s).1.2 ++ [⟨5, t, nnE, (b9 ars pc v s).2, 0, [], []⟩])
  else if k = 1 then ((b9 ars pc v s).1.1, (b9 ars pc v s).1.2 ++ [K1 t (t3 m (b9 ars pc v s).2 (vrE t))])
  else if Q5 (c6 (b9 ars pc v s).1.1 ars 5 i) = true then
   ((b9 ars pc v s).1.1 ++ [f9 (c6 (b9 ars pc v s).1.1 ars 5 (b9 ars pc v s).2) pc], (b9 ars pc v s).1.2 ++ [K1 ((b9 ars pc v s).1.1.length : Int) (b9 ars pc v s).2] ++ stL ((b9 ars pc v s).1.1.length : Int) t i m 4)
  else ((b9 ars pc v s).1.1, (b9 ars pc v s).1.2 ++ [⟨2, t, i, t3 m (b9 ars pc v s).2 (rdE t i), 0, [], []⟩])
def i6 (ars : List Int) : List b6 → Int → Int → V5 → V5
 | [], _, _, s => s
 | x :: r, m, pc, s => i6 ars r m pc (z6 ars x m pc s)
end
theorem aO7 (ars : List Int) (a b : List b6) (m pc : Int) (s : V5) : i6 ars (a ++ b) m pc s = i6 ars b m pc (i6 ars a m pc s) := by
 induction a generalizing s with
 | nil => rfl
 | cons x r ih => simp only [List.cons_append, i6]; exact ih _
theorem a87 {ars : List Int} {ss : List b6} {k : Nat} {m pc : Int} {s : V5} (hk : k < ss.length) : i6 ars (ss.take (k + 1)) m pc s = z6 ars (ss.getD k bW1) m pc (i6 ars (ss.take k) m pc s) := by
 rw [l0 _ _ hk, aO7, f8 hk]
 simp [i6]
section
variable {ars : List Int} {s : b6} {m pc : Int} {x : V5}
theorem ln4 (k : s.kind = 4) : z6 ars s m pc x = ((i6 ars s.body m pc (x.1, [])).1, x.2 ++ [⟨4, 0, nnE, nnE, s.count, (i6 ars s.body m pc (x.1, [])).2, []⟩]) := by
 obtain ⟨kd, tg, ix, vl, ct, bd, el⟩ := s
 have k : kd = 4 := k
 rw [z6, if_pos k]; rfl
theorem bL4 (k : s.kind = 3) (h : Q5 (c6 x.1 ars 5 s.value) = true) : z6 ars s m pc x = i6 ars s.els (((b9 ars pc s.value x).1.1 ++ [f9 pc (c6 x.1 ars 5 s.value)]).length : Int) (f9 pc (c6 x.1 ars 5 s.value)) (i6 ars s.body ((b9 ars pc s.value x).1.1.length : Int) (f9 pc (c6 x.1 ars 5 s.value)) (ifM (b9 ars pc s.value x) m (f9 pc (c6 x.1 ars 5 s.value)))) := by
 obtain ⟨kd, tg, ix, vl, ct, bd, el⟩ := s
 have k : kd = 3 := k
 have h : Q5 (c6 x.1 ars 5 vl) = true := h
 rw [z6, if_neg (by omega), if_pos k, if_pos h]; rfl
theorem bL5 (k : s.kind = 3) (h : Q5 (c6 x.1 ars 5 s.value) = false) : z6 ars s m pc x = ((i6 ars s.els m (f9 pc (c6 x.1 ars 5 s.value)) ((i6 ars s.body m (f9 pc (c6 x.1 ars 5 s.value)) ((b9 ars pc s.value x).1.1, [])).1, [])).1,
  (b9 ars pc s.value x).1.2 ++ [⟨3, 0, nnE, (b9 ars pc s.value x).2, 0, (i6 ars s.body m (f9 pc (c6 x.1 ars 5 s.value)) ((b9 ars pc s.value x).1.1, [])).2, (i6 ars s.els m (f9 pc (c6 x.1 ars 5 s.value)) ((i6 ars s.body m (f9 pc (c6 x.1 ars 5 s.value)) ((b9 ars pc s.value x).1.1, [])).1, [])).2⟩]) := by
 obtain ⟨kd, tg, ix, vl, ct, bd, el⟩ := s
 have k : kd = 3 := k
 have h : Q5 (c6 x.1 ars 5 vl) = false := h
 rw [z6, if_neg (by omega), if_pos k, if_neg (by rw [h]; decide)]; rfl
theorem ln5 (k : s.kind = 5) : z6 ars s m pc x = ((b9 ars pc s.value x).1.1, (b9 ars pc s.value x).1.2 ++ [⟨5, s.target, nnE, (b9 ars pc s.value x).2, 0, [], []⟩]) := by
 obtain ⟨kd, tg, ix, vl, ct, bd, el⟩ := s
 have k : kd = 5 := k
 rw [z6, if_neg (by omega), if_neg (by omega), if_pos k]; rfl
theorem ln1 (k : s.kind = 1) : z6 ars s m pc x = ((b9 ars pc s.value x).1.1, (b9 ars pc s.value x).1.2 ++ [K1 s.target (t3 m (b9 ars pc s.value x).2 (vrE s.target))]) := by
 obtain ⟨kd, tg, ix, vl, ct, bd, el⟩ := s
 have k : kd = 1 := k
 rw [z6, if_neg (by omega), if_neg (by omega), if_neg (by omega), if_pos k]; rfl
theorem bL6 (k : s.kind = 2) (h : Q5 (c6 (b9 ars pc s.value x).1.1 ars 5 s.index) = true) : z6 ars s m pc x = ((b9 ars pc s.value x).1.1 ++ [f9 (c6 (b9 ars pc s.value x).1.1 ars 5 (b9 ars pc s.value x).2) pc], (b9 ars pc s.value x).1.2 ++ [K1 ((b9 ars pc s.value x).1.1.length : Int) (b9 ars pc s.value x).2] ++ stL ((b9 ars pc s.value x).1.1.length : Int) s.target s.index m 4) := by
 obtain ⟨kd, tg, ix, vl, ct, bd, el⟩ := s
 have k : kd = 2 := k
 have h : Q5 (c6 (b9 ars pc vl x).1.1 ars 5 ix) = true := h
 rw [z6, if_neg (by omega), if_neg (by omega), if_neg (by omega), if_neg (by omega), if_pos h]; rfl
theorem bL7 (k : s.kind = 2) (h : Q5 (c6 (b9 ars pc s.value x).1.1 ars 5 s.index) = false) : z6 ars s m pc x = ((b9 ars pc s.value x).1.1, (b9 ars pc s.value x).1.2 ++ [⟨2, s.target, s.index, t3 m (b9 ars pc s.value x).2 (rdE s.target s.index), 0, [], []⟩]) := by
 obtain ⟨kd, tg, ix, vl, ct, bd, el⟩ := s
 have k : kd = 2 := k
 have h : Q5 (c6 (b9 ars pc vl x).1.1 ars 5 ix) = false := h
 rw [z6, if_neg (by omega), if_neg (by omega), if_neg (by omega), if_neg (by omega), if_neg (by rw [h]; decide)]; rfl
end
theorem x6 {nv nw na : Nat} (h : nv ≤ nw) : ∀ (d : Nat) (e : b7), c4 nv na d e = true → c4 nw na d e = true
 | 0, _, hs => by simp [c4] at hs
 | d + 1, e, hs => by
  simp only [c4, bW2, bX0] at hs ⊢
  refine ⟨⟨?_, fun x hx => x6 h d x (hs.1.2 x hx)⟩, hs.2⟩
  have h1 := hs.1.1
  simp only [s6, bW2, decide_eq_true_eq] at h1 ⊢
  refine ⟨h1.1, Int.lt_of_lt_of_le h1.2 ?_⟩
  unfold z3
  (repeat' split) <;> omega
theorem at8 {nv na : Nat} : ∀ (d : Nat) (e : b7), c4 nv na d e = true → c4 nv na (d + 1) e = true
 | 0, _, hs => by simp [c4] at hs
 | d + 1, e, hs => by
  rw [c4] at hs ⊢
  simp only [bW2, bX0] at hs ⊢
  exact ⟨⟨hs.1.1, fun x hx => at8 d x (hs.1.2 x hx)⟩, hs.2⟩
theorem aM5 {nv na c d : Nat} {e : b7} (h : c ≤ d) (hs : c4 nv na c e = true) : c4 nv na d e = true := by
 induction d with
 | zero => rwa [show c = 0 by omega] at hs
 | succ d ih =>
  rcases bZ4 c (d + 1) with hl | hl
  ·exact at8 d e (ih (by omega))
  ·rwa [show c = d + 1 by omega] at hs
theorem ay8 {ars : List Int} {pc : Int} {nv na d : Nat} {e : b7} {s : V5} (ha : atomB e = true) (hs : c4 nv na d e = true) : b9 ars pc e s = (s, e) ∧ e.kids = [] := by
 obtain ⟨k, v, ks⟩ := e
 cases d with
 | zero => simp [c4] at hs
 | succ d =>
  have hk : k = 1 ∨ k = 2 := by
   have h := ha
   simp only [atomB, Bool.or_eq_true, decide_eq_true_eq] at h
   exact h
  have hn : ks = [] := by
   simp only [c4, s6, bW2, decide_eq_true_eq] at hs
   have h1 := hs.1.1.1.1
   have h2 : j2 k = 0 := by unfold j2; rw [if_pos hk]
   have h3 : (ks.length : Int) = 0 := h1.trans h2
   exact bY4 (by omega)
  subst hn
  refine ⟨?_, rfl⟩
  rw [b9, if_neg (by omega)]
  rfl
theorem aN7 {nv na d : Nat} {e : b7} (k : e.kind = 3) (hs : c4 nv na (d + 1) e = true) : ∃ a, e.kids = [a] ∧ atomB a = true ∧ c4 nv na d a = true ∧ a.kids = [] := by
 obtain ⟨kd, v, ks⟩ := e
 have k : kd = 3 := k
 subst k
 simp only [c4, s6, bW2, decide_eq_true_eq] at hs
 have h1 : (ks.length : Int) = 1 := hs.1.1.1.1
 match ks, h1, hs with
 | [a], _, hs =>
  have h2 : atomB a = true := by
   have h := hs.2
   unfold I8 at h
   have h : (decide ((3 : Int) ≠ 3) || atomB a) = true := h
   simpa using h
  have h3 : c4 nv na d a = true := bX0.1 hs.1.2 a (bZ0.2 rfl)
  exact ⟨a, rfl, h2, h3, (ay8 (ars := []) (pc := 0) (s := ([], [])) h2 h3).2⟩
theorem aN6 {ars : List Int} {pc : Int} {nv na d : Nat} {e : b7} {s : V5} (k : e.kind = 3) (hs : c4 nv na (d + 1) e = true) : n9 ars pc e.kids s = (s, e.kids) := by
 obtain ⟨a, h1, h2, h3, -⟩ := aN7 k hs
 rw [h1]
 have := ay8 (ars := ars) (pc := pc) (s := s) h2 h3
 simp only [n9, this.1]
structure Grw (nv na d : Nat) (sz : Nat) (s : V5) (r : V5) : Prop where
 lo : s.1.length ≤ r.1.length
 hi : r.1.length ≤ s.1.length + sz
 st : c9 r.2 ≤ c9 s.2 + 40 * sz
 len : s.2.length ≤ r.2.length
theorem bf8 (v a : Int) (i : b7) (hi : i.kids = []) : ∀ n : Nat, c9 (rdL v a i n) = 2 + 9 * n
 | 0 => rfl
 | n + 1 => by
  have h0 : s5 i = 0 := by cases i; simp only [b7.kids] at hi; subst hi; rfl
  rw [rdL, r6, bf8 v a i hi n]
  simp [c9, B6, s5, j3, h0]; omega
theorem aH3 (v a : Int) (i : b7) : ∀ n : Nat, (rdL v a i n).length = n + 1
 | 0 => rfl
 | n + 1 => by rw [rdL, bX5, aH3 v a i n]; rfl
theorem a22 (v t : Int) (i : b7) (m : Int) : ∀ n : Nat, (stL v t i m n).length = n
 | 0 => rfl
 | n + 1 => by rw [stL, bX5, a22 v t i m n]; rfl
theorem U3 (m : Int) (e f : b7) : s5 (t3 m e f) ≤ 3 + s5 e + s5 f := by
 unfold t3; split
 ·omega
 ·simp [s5, j3]; omega
theorem bd7 (v t : Int) (i : b7) (m : Int) (hi : i.kids = []) : ∀ n : Nat, c9 (stL v t i m n) ≤ 20 * n
 | 0 => bX4 _
 | n + 1 => by
  have h0 : s5 i = 0 := by cases i; simp only [b7.kids] at hi; subst hi; rfl
  have h1 := bd7 v t i m hi n
  have h2 := U3 m (W5 i (n : Int)) (cnE 0)
  have h3 : s5 (W5 i (n : Int)) = 4 := by simp [s5, j3, h0]
  have h4 : s5 (cnE 0) = 0 := rfl
  rw [stL, r6]
  simp only [c9, B6, s5, j3]
  omega
theorem a69 {nv na d : Nat} {v : Nat} (h : v < nv) : c4 nv na (d + 1) (vrE (v : Int)) = true := by
 simp [c4, s6, I8, j2, z3, b7.kids, b7.kind, b7.value, h]
theorem a39 {ars : List Int} {pc : Int} {na d : Nat} (hg : ∀ (e : b7) (s : V5), c4 s.1.length na d e = true → Grw s.1.length na d (1 + s5 e) s (b9 ars pc e s).1 ∧ c4 (b9 ars pc e s).1.1.length na d (b9 ars pc e s).2 = true ∧ s5 (b9 ars pc e s).2 ≤ s5 e) :
  ∀ (ks : List b7) (s : V5), (∀ x ∈ ks, c4 s.1.length na d x = true) → Grw s.1.length na d (j3 ks) s (n9 ars pc ks s).1 ∧ (∀ x ∈ (n9 ars pc ks s).2, c4 (n9 ars pc ks s).1.1.length na d x = true) ∧ j3 (n9 ars pc ks s).2 ≤ j3 ks ∧ (n9 ars pc ks s).2.length = ks.length := by
 intro ks
 induction ks with
 | nil => intro s _; exact ⟨⟨bX4 _, bX4 _, bX4 _, bX4 _⟩, fun x hx => (by cases hx), bX4 _, rfl⟩
 | cons x r ih =>
  intro s h
  obtain ⟨g1, g2, g3⟩ := hg x s (h x bY0)
  obtain ⟨k1, k2, k3, k4⟩ := ih (b9 ars pc x s).1 fun y hy => x6 g1.lo d y (h y (bY7 _ hy))
  simp only [n9, j3]
  refine ⟨⟨bX9 g1.lo k1.lo, ?_, ?_, bX9 g1.len k1.len⟩, ?_, ?_, ?_⟩
  ·have := g1.hi; have := k1.hi; omega
  ·have := g1.st; have := k1.st; omega
  ·intro y hy
   rcases bZ6.1 hy with rfl | hy
   ·exact x6 k1.lo d _ g2
   ·exact k2 y hy
  ·omega
  ·simp [k4]
theorem aa6 (ars : List Int) (pc : Int) (na : Nat) : ∀ (d : Nat) (e : b7) (s : V5), c4 s.1.length na d e = true →
  Grw s.1.length na d (1 + s5 e) s (b9 ars pc e s).1 ∧ c4 (b9 ars pc e s).1.1.length na d (b9 ars pc e s).2 = true ∧ s5 (b9 ars pc e s).2 ≤ s5 e
 | 0, _, _, hs => by simp [c4] at hs
 | d + 1, e, s, hs => by
  have key := a39 (ars := ars) (pc := pc) (na := na) (d := d) fun e s h => aa6 ars pc na d e s h
  have hs0 := hs
  rw [c4] at hs
  simp only [bW2, bX0] at hs
  obtain ⟨g1, g2, g3, g4⟩ := key e.kids s hs.1.2
  rw [av7]
  split
  ·rename_i h
   obtain ⟨a, h1, h2, h3, h4⟩ := aN7 h.1 hs0
   have hz : s5 e = 1 := by
    rw [t6, h1]
    have : s5 a = 0 := by rw [t6, h4]; rfl
    simp [j3, this]
   have hr := aN6 (ars := ars) (pc := pc) (s := s) h.1 hs0
   have e0 : e.kids.getD 0 bW1 = a := by rw [h1]; rfl
   rw [hr, e0]
   refine ⟨⟨?_, ?_, ?_, ?_⟩, ?_, ?_⟩
   ·simp
   ·simp
   ·simp only [r6, bf8 _ _ a h4]; omega
   ·simp
   ·have : c4 (s.1.length + 1) na (d + 1) (vrE (s.1.length : Int)) = true := a69 (by omega)
    simpa using this
   ·exact bZ5 _
  ·rename_i h
   refine ⟨⟨g1.lo, ?_, ?_, g1.len⟩, ?_, ?_⟩
   ·have := g1.hi; rw [t6]; show (n9 ars pc e.kids s).1.1.length ≤ _; omega
   ·have := g1.st; rw [t6]; show c9 (n9 ars pc e.kids s).1.2 ≤ _; omega
   ·rw [c4]
    simp only [bW2, bX0]
    refine ⟨⟨?_, g2⟩, ?_⟩
    ·have h1 := hs.1.1
     simp only [s6, bW2, decide_eq_true_eq] at h1 ⊢
     refine ⟨⟨?_, h1.1.2⟩, Int.lt_of_lt_of_le h1.2 ?_⟩
     ·show (((n9 ars pc e.kids s).2.length : Nat) : Int) = j2 e.kind
      rw [g4]; exact h1.1.1
     ·show z3 s.1.length na e.kind ≤ z3 (n9 ars pc e.kids s).1.1.length na e.kind
      have := g1.lo
      unfold z3
      (repeat' split) <;> omega
    ·by_cases k : e.kind = 3
     ·rw [aN6 (ars := ars) (pc := pc) (s := s) k hs0]
      show I8 ⟨e.kind, e.value, e.kids⟩ = true
      rw [b7.eta]; exact hs.2
     ·unfold I8; rw [Bool.or_eq_true]; exact .inl (decide_eq_true k)
   ·rw [t6 e]; exact g3
section
variable {p : b8} {l k : Int} (h : e6 p = true) (hl : c5 l = true)
include h hl
end
section
variable {p : b8} {l : Int}
end
def W9 (p q : b8) : Bool := e6 p && (e6 q && (decide (p.vars.length ≤ q.vars.length) && (decide (p.vars = q.vars.take p.vars.length) && decide (p.arrays = q.arrays))))
def rmD (p q : b8) (m : s4) : s4 := if W9 p q = true ∧ L7 q.vars.length q.arrays.length m = true then ⟨(m.vals.take p.vars.length).drop 0, m.arrs⟩ else ⟨[], []⟩
def rmB (p q : b8) (m : s4) : Bool := W9 p q && L7 q.vars.length q.arrays.length m
def y6 (p q : b8) (m : s4) : s4 := if W9 p q = true ∧ L7 p.vars.length p.arrays.length m = true then ⟨m.vals ++ bW8 (q.vars.length - m.vals.length) 0, m.arrs⟩ else ⟨[], []⟩
def emB (p q : b8) (m : s4) : Bool := W9 p q && L7 p.vars.length p.arrays.length m
section
variable {p q : b8} {m : s4}
theorem bx4 (h : W9 p q = false) : rmD p q m = ⟨[], []⟩ ∧ rmB p q m = false := by unfold rmD rmB; rw [h]; exact ⟨if_neg (by simp), rfl⟩
theorem bx3 (h : L7 q.vars.length q.arrays.length m = false) : rmD p q m = ⟨[], []⟩ ∧ rmB p q m = false := by unfold rmD rmB; rw [h]; exact ⟨if_neg (by simp), by simp⟩
theorem bq8 (h : W9 p q = true) (h2 : L7 q.vars.length q.arrays.length m = true) : rmD p q m = ⟨(m.vals.take p.vars.length).drop 0, m.arrs⟩ ∧ rmB p q m = true := by unfold rmD rmB; exact ⟨if_pos ⟨h, h2⟩, by rw [h, h2]; rfl⟩
theorem a55 (h : W9 p q = false) : y6 p q m = ⟨[], []⟩ ∧ emB p q m = false := by unfold y6 emB; rw [h]; exact ⟨if_neg (by simp), rfl⟩
theorem a54 (h : L7 p.vars.length p.arrays.length m = false) : y6 p q m = ⟨[], []⟩ ∧ emB p q m = false := by unfold y6 emB; rw [h]; exact ⟨if_neg (by simp), by simp⟩
theorem a91 (h : W9 p q = true) (h2 : L7 p.vars.length p.arrays.length m = true) : y6 p q m = ⟨m.vals ++ bW8 (q.vars.length - m.vals.length) 0, m.arrs⟩ ∧ emB p q m = true := by unfold y6 emB; exact ⟨if_pos ⟨h, h2⟩, by rw [h, h2]; rfl⟩
theorem aq2 (h : W9 p q = true) : e6 p = true ∧ e6 q = true ∧ p.vars.length ≤ q.vars.length ∧ p.arrays = q.arrays := by
 unfold W9 at h
 simp only [bW2, decide_eq_true_eq] at h
 exact ⟨h.1, h.2.1, h.2.2.1, h.2.2.2.2⟩
theorem bo5 {l : List Int} {n : Nat} (h : C1 l = true) : C1 (l ++ bW8 n 0) = true := by
 unfold C1 at h ⊢
 rw [List.all_append, h, List.all_replicate]
 simp
theorem al9 (h : emB p q m = true) : W9 p q = true ∧ e6 q = true ∧ L7 q.vars.length q.arrays.length (y6 p q m) = true ∧ rmB p q (y6 p q m) = true ∧ rmD p q (y6 p q m) = m := by
 unfold emB at h
 rw [bW2] at h
 obtain ⟨h1, h2⟩ := h
 obtain ⟨a, b, c, d⟩ := aq2 h1
 obtain ⟨f1, f2, f3, f4⟩ := ax1 h2
 have hf : L7 q.vars.length q.arrays.length (y6 p q m) = true := by
  rw [(a91 h1 h2).1]
  unfold L7
  rw [bo5 f3, f4, ← d]
  simp [f1, f2, c]
 refine ⟨h1, b, hf, (bq8 h1 hf).2, ?_⟩
 rw [(bq8 h1 hf).1, (a91 h1 h2).1]
 obtain ⟨vs, rs⟩ := m
 simp only at f1
 simp [← f1]
end
theorem d8.rowPost {P : Program} {f : FuncId} {args : List AV} {S0 S : List It} {e : TypeId} {d : D} {res : AV} (hc : d8.ok P ⟨f, args, S0, S ++ [.row e d], res⟩) : d8.ok P ⟨f, args, S0, S ++ [.dat d], res⟩ := by
 intro ι φ ψ w0 w F ρ M
 refine (hc ι φ ψ w0 w F ρ M).mono ?_
 rintro x w' ⟨ρ', h1, h2, M2⟩
 refine ⟨ρ', h1, h2, M2.release fun k => ?_⟩
 cases k with
 | inl i => exact .inl rfl
 | inr j =>
  simp only [j1]
  rcases Nat.lt_trichotomy j S.length with hj | hj | hj
  ·have e1 : j0 (S ++ [.dat d]) j = j0 S j := by simp [j0, bW3, bX8 hj]
   have e2 : j0 (S ++ [.row e d]) j = j0 S j := by simp [j0, bW3, bX8 hj]
   rw [e1, e2]; exact .inl rfl
  ·subst hj
   have e1 : j0 (S ++ [.dat d]) S.length = .dat d := by simp [j0, bW3]
   have e2 : j0 (S ++ [.row e d]) S.length = .row e d := by simp [j0, bW3]
   rw [e1, e2]
   refine .inr ⟨fun b hb => hb, fun φ' hf hown => ⟨RD.nice _ _, ?_⟩⟩
   have hh := M2.holds (.inr S.length)
   simp only [j1] at hh
   rw [e2] at hh
   obtain ⟨_, xs, o1, o2⟩ := hh
   exact RD.make (s7 o1 fun g hg => hown g hg) (RW.nice _ _ _ _ _ _ (W8.mono fun b _ hb => hf b hb) o2)
  ·rw [l6 (by simp; omega), l6 (by simp; omega)]; exact .inl rfl
theorem aj5 (l : List Int) (hb : l.length ≤ 1000000000000) : d8.ok Tryz.prog ⟨21, [.ref 0], [.dat (.ints l)], [.dat (.ints l)] ++ [.dat (.ints l)], .ref 1⟩ := d8.rowPost (S := [.dat (.ints l)]) (ao2 l hb)
theorem aX5 (v : Value) (n : Nat) (t : List Value) (w : World) (h : O1 w v n 1 t) (h1 : ∀ u ∈ t, u.oneCell' = true) (hb : n ≤ 1000000000000) :
  Calls Tryz.prog 37 #[v] w fun e w' => ∃ u, e = .returned u ∧ V3 w' w.heap.size w'.heap.size 23 1 u n t ∧ Below w.heap.size w w' := by
 obtain ⟨a, cap, rfl, hc1, hc2, hc3, -⟩ := h.open
 have hnil := fun w => Lib.run_eql_slice_nil (P := Tryz.prog) w 27 23 a n cap 0 0 Tryz.underlying27
 rcases a with _ | a
 ·have hn : n = 0 := by
   rcases Nat.eq_zero_or_pos n with h0 | h0
   ·exact h0
   ·obtain ⟨_, a, c, he, _, _, hx⟩ := h
    cases he
    obtain ⟨_, _, he, _⟩ := hx h0
    cases he
  subst hn
  have ht : t = [] := bY4 (by have := h.1; omega)
  subst ht
  simp only [Option.isNone_none] at hnil
  go_enter Tryz.func37, Tryz.ntmps37
  go_wp2_with fail
  go_ret
  exact ⟨_, rfl, ⟨World.ownsRow_nil _ _ _ _, fun g hg => by cases hg⟩, Below.refl _ _⟩
 ·go_enter Tryz.func37, Tryz.ntmps37
  simp only [Option.isNone_some] at hnil
  have ba := (Below.refl w.heap.size w).alloc (bX4 _) (.cells #[] 23)
  go_wp2_with (at_builtin; refine as5 rfl _ _ rfl Tryz.underlying27 bs6 rfl (by omega) rfl (S5 w #[] 0 1 _ rfl rfl (by omega)).1 rfl (h.below ba) h1 (by omega) (by omega) (by simp) ?_; rintro a4 q4 w4 o4 b4 - -)
  go_ret
  refine ⟨_, rfl, V3.mk' (by simpa using o4), ba.trans b4⟩
theorem bf5 {w : World} {φ : Nat → Prop} {l : List (List Int)} {vs : List Value} (hl : vs.length = l.length) (h : ∀ i (_ : i < l.length), ∃ u, vs[i]? = some u ∧ r9 w φ u l[i].length 1 (ints l[i])) : ∀ u ∈ vs, u.oneCell' = true := by
 intro u hu
 obtain ⟨i, hi, rfl⟩ := List.mem_iff_getElem.1 hu
 obtain ⟨u', a, b⟩ := h i (by omega)
 rw [bW4 hi] at a
 have e := Option.some.inj a
 rw [e]
 obtain ⟨_, c, cap, rfl, _⟩ := b
 rfl
theorem aS0 (l : List (List Int)) (hb : l.length ≤ 1000000000000) : d8.ok Tryz.prog ⟨37, [.ref 0], [.dat (.rows l)], [.dat (.rows l), .row 23 (.rows l)], .ref 1⟩ := by
 intro ι φ ψ w0 w F ρ M
 obtain ⟨vs, h1, h2⟩ := M.datAt (id := 0) (d := .rows l) rfl
 have hl : vs.length = l.length := by have := h1.1; omega
 refine (aX5 (ρ 0) l.length vs w (r9.row h1) (bf5 hl h2) hb).mono ?_
 rintro e w' ⟨u, rfl, ⟨ho, hg⟩, hbl⟩
 refine ⟨fun i => if i = 1 then u else ρ i, fun i hi => if_neg (show ¬ i = 1 by have : i < 1 := hi; omega), by simp [AV.val], ?_⟩
 have hnew : ∀ k b, (j1 F (fun i => if i = 1 then u else ρ i) (j0 [.dat (.rows l), .row 23 (.rows l)]) k).blk b → (j1 F ρ (j0 [.dat (.rows l)]) k).blk b ∨ w.heap.size ≤ b := fun k b hb => by
  cases k with
  | inl i => exact .inl hb
  | inr j =>
   match j with
   | 0 => exact .inl hb
   | 1 => exact .inr (World.ownsRow.lt ho b hb).1
   | j + 2 => exact .inl hb
 refine M.grow hbl (fun k => k = .inr 1) (fun k hk => ?_) ?_ ?_ ?_
 ·cases k with
  | inl i => rfl
  | inr j =>
   match j, hk with
   | 0, _ => rfl
   | 1, h => exact absurd rfl h
   | j + 2, _ => rfl
 ·rintro k rfl b hb; exact (World.ownsRow.lt ho b hb).1
 ·rintro j k b hjk rfl rfl; exact absurd rfl hjk
 ·rintro k rfl
  refine ⟨fun xs => RW.nice (.rows l) xs, vs, M4 ho (bZ5 _), fun i hi j x hx => ?_⟩
  cases j with
  | succ j => simp [D.elem] at hx
  | zero =>
   simp only [D.elem, List.getElem?_cons_zero, Option.some.injEq] at hx
   subst hx
   obtain ⟨u', a, b⟩ := h2 i hi
   refine ⟨u', by simpa [D.sz] using a, ?_⟩
   have e : l.getD i [] = l[i]'hi := by rw [bW3, bW4 hi]; rfl
   show r9 w' _ u' (l.getD i []).length 1 (ints (l.getD i []))
   rw [e]
   refine r9.nice _ _ _ _ _ _ _ _ ⟨hbl.size, fun c hc hf => ⟨⟨hf.1, fun k hk => ?_⟩, hbl.block c hc⟩⟩ b
   rcases hnew k c hk with h | h
   ·exact hf.2 k h
   ·omega
theorem bO3 {p q : b8} (h : e6 p = false) : W9 p q = false := by unfold W9; rw [h]; rfl
theorem bO2 {p q : b8} (h : e6 q = false) : W9 p q = false := by unfold W9; rw [h]; simp
theorem bO1 {p q : b8} (h : ¬ (p.vars.length : Int) ≤ (q.vars.length : Int)) : W9 p q = false := by
 unfold W9
 rw [decide_eq_false (p := p.vars.length ≤ q.vars.length) (by omega)]
 simp
theorem bV4 {p q : b8} (h1 : e6 p = true) (h2 : e6 q = true) (h : (p.vars.length : Int) ≤ (q.vars.length : Int)) : W9 p q = (decide (p.vars = (q.vars.take p.vars.length).drop 0) && decide (p.arrays = q.arrays)) := by
 unfold W9
 rw [h1, h2, decide_eq_true (p := p.vars.length ≤ q.vars.length) (by omega), List.drop_zero]
 simp
theorem bO0 {p q : b8} (h : ¬ p.vars = (q.vars.take p.vars.length).drop 0) : W9 p q = false := by
 unfold W9
 rw [List.drop_zero] at h
 rw [decide_eq_false h]
 simp
theorem bN9 {p q : b8} (h1 : e6 p = true) (h2 : e6 q = true) (h : (p.vars.length : Int) ≤ (q.vars.length : Int)) (h3 : p.vars = (q.vars.take p.vars.length).drop 0) : W9 p q = decide (p.arrays = q.arrays) := by
 rw [bV4 h1 h2 h, decide_eq_true h3]; rfl
abbrev ad4 (p : b8) (q : b8) (r0 : List It) : List It := dI p.vars :: dI p.arrays :: dT p.body :: dI q.vars :: dI q.arrays :: dT q.body :: r0
theorem N9 (p q : b8) : d8.ok Tryz.prog (C9 14 [pA 0, pA 3] (pS p ++ pS q) (bA (W9 p q))) := by
  refine t8 38 Tryz.func14 (ad4 p q []) [(0, pA 0), (1, pA 3)] fun G => ?_; refine wp_seq (e5 G c3 [0, 1, 2, 3, 4, 5, 6, 14] (ad4 p q [.box (pL 0), .box (pL 3)]) [(2, .ptr 6 0), (3, .ptr 7 0), (4, bA false)] fun G => b5 (wp_seq ?_)); cases h0 : (e6 p)
  · refine F6 G (l9 (f6 1 [0, 1, 2] (n7 p) l8) (fc h0 (fc (b := false) rfl fz)) (us [(3, 4, 0), (1005, 1005, 0), (7, 13, 1), (1014, 1014, 1), (16, 24, 1), (1025, 1025, 1), (27, 31, 1), (1032, 1032, 1)])) [0, 1, 3, 7, 15, 31, 63, 127, 255, 511, 127, 1151, 3199, 8191, 16383, 32767, 65535, 131071, 65535, 327679, 65535, 1114111, 3211263, 8191999, 16777215, 33554431, 67108863, 134217727, 268435455, 134217727, 671088639, 2147483647, 4294967295, 8589934591] (rg 6) (ad4 p q []) [(4, bA false)] fun G => b5 (wp_ret ?_); exact m5 false G (rg 6) (bO3 (by assumption))
  ·
   cases h1 : (e6 q)
   · refine F6 G (l9 (f6 1 [0, 1, 2] (n7 p) (f6 4 [3, 4, 5] (n7 q) l8)) (fc h0 (fc h1 (fc (b := false) rfl fz))) (us [(3, 4, 0), (1005, 1005, 0), (7, 13, 1), (1014, 1014, 1), (16, 24, 2), (1025, 1025, 2), (27, 31, 2), (1032, 1032, 2)])) [0, 1, 3, 7, 15, 31, 63, 127, 255, 511, 127, 1151, 3199, 8191, 16383, 32767, 65535, 131071, 65535, 327679, 65535, 1114111, 3211263, 8191999, 16777215, 33554431, 67108863, 134217727, 268435455, 134217727, 671088639, 2147483647, 4294967295, 8589934591] (rg 6) (ad4 p q []) [(4, bA false)] fun G => b5 (wp_ret ?_); exact m5 false G (rg 6) (bO2 (by assumption))
   ·
    cases h2 : (decide ((p.vars.length : Int) ≤ q.vars.length))
    · have q2 := O4 h2; refine F6 G (l9 (f6 1 [0, 1, 2] (n7 p) (f6 4 [3, 4, 5] (n7 q) l8)) (fc h0 (fc h1 (fc h2 (fc (b := false) rfl fz)))) (us [(3, 4, 0), (1005, 1005, 0), (7, 13, 1), (1014, 1014, 1), (16, 24, 2), (1025, 1025, 2), (27, 31, 3), (1032, 1032, 3)])) [0, 1, 3, 7, 15, 31, 63, 127, 255, 511, 127, 1151, 3199, 8191, 16383, 32767, 65535, 131071, 65535, 327679, 65535, 1114111, 3211263, 8191999, 16777215, 33554431, 67108863, 134217727, 268435455, 134217727, 671088639, 2147483647, 4294967295, 8589934591] (rg 6) (ad4 p q []) [(4, bA false)] fun G => b5 (wp_ret ?_); exact m5 false G (rg 6) (bO1 (by assumption))
    ·
     have q2 := O3 h2; cases h3 : (decide (p.vars = List.drop (0 : Nat) (bW9 p.vars.length q.vars)))
     · have q3 := O4 h3; refine F0 G (l9 (f6 1 [0, 1, 2] (n7 p) (f6 4 [3, 4, 5] (n7 q) (f6 24 [0, 192] (T0 p.vars (List.drop 0 (bW9 p.vars.length q.vars))) l8))) (fc h0 (fc h1 (fc h2 (fc h3 fz)))) (us [(3, 4, 0), (1005, 1005, 0), (7, 13, 1), (1014, 1014, 1), (16, 24, 2), (1025, 1025, 2), (27, 31, 3), (1032, 1032, 3)])) [0, 1, 3, 7, 15, 31, 63, 127, 255, 511, 127, 1151, 3199, 8191, 16383, 32767, 65535, 131071, 65535, 327679, 65535, 1114111, 3211263, 8191999, 16777215, 33554431, 67108863, 134217727, 268435455, 134217727, 671088639, 2147483647, 4294967295, 8589934591] (rg 6) (ad4 p q []) [(4, bA false)] [(0 : Int) ≤ p.vars.length, (p.vars.length : Int) ≤ q.vars.length] ⟨(by omega), (by assumption), bX6⟩ fun G => b5 (wp_ret ?_); exact m5 false G (rg 6) (bO0 (by assumption))
     · have q3 := O3 h3; refine F0 G (l9 (f6 1 [0, 1, 2] (n7 p) (f6 4 [3, 4, 5] (n7 q) (f6 24 [0, 192] (T0 p.vars (List.drop 0 (bW9 p.vars.length q.vars))) (f6 31 [1, 4] (T0 p.arrays q.arrays) l8)))) (fc h0 (fc h1 (fc h2 (fc h3 fz)))) (us [(3, 4, 0), (1005, 1005, 0), (7, 13, 1), (1014, 1014, 1), (16, 24, 2), (1025, 1025, 2), (27, 31, 3), (1032, 1032, 3)])) [0, 1, 3, 7, 15, 31, 63, 127, 255, 511, 127, 1151, 3199, 8191, 16383, 32767, 65535, 131071, 65535, 327679, 65535, 1114111, 3211263, 8191999, 16777215, 33554431, 67108863, 134217727, 268435455, 134217727, 671088639, 2147483647, 4294967295, 8589934591] (rg 6) (ad4 p q []) [(4, bA (decide (p.arrays = q.arrays)))] [(0 : Int) ≤ p.vars.length, (p.vars.length : Int) ≤ q.vars.length] ⟨(by omega), (by assumption), bX6⟩ fun G => b5 (wp_ret ?_); exact m5 (decide (p.arrays = q.arrays)) G (rg 6) (bN9 (by assumption) (by assumption) (by assumption) (by assumption))
abbrev ad3 (p : b8) (q : b8) (r0 : List It) : List It := dI p.vars :: dI p.arrays :: dT p.body :: dI q.vars :: dI q.arrays :: dT q.body :: r0
theorem ax7 (p q : b8) (hb : c9 p.body ≤ 1048576) (hq : c9 q.body ≤ 1048576) : d8.ok Tryz.prog (C9 22 [pA 0, pA 3] (pS p ++ pS q) (bA (W9 p q))) := by
  refine t8 38 Tryz.func22 (ad3 p q []) [(0, pA 0), (1, pA 3)] fun G => ?_; refine wp_seq (e5 G c3 [0, 1, 2, 3, 4, 5, 6, 14] (ad3 p q [.box (pL 0), .box (pL 3)]) [(2, .ptr 6 0), (3, .ptr 7 0), (4, bA false)] fun G => b5 (wp_seq ?_)); cases h0 : (e6 (b8.mk p.vars p.arrays p.body))
  · refine F6 G (l9 (f6 1 [0, 1, 2] (m0 p.vars p.arrays p.body (by assumption)) l8) (fc h0 (fc (b := false) rfl fz)) (us [(3, 4, 0), (1005, 1005, 0), (7, 13, 1), (1014, 1014, 1), (16, 24, 1), (1025, 1025, 1), (27, 31, 1), (1032, 1032, 1)])) [0, 1, 3, 7, 15, 31, 63, 127, 255, 511, 127, 1151, 3199, 8191, 16383, 32767, 65535, 131071, 65535, 327679, 65535, 1114111, 3211263, 8191999, 16777215, 33554431, 67108863, 134217727, 268435455, 134217727, 671088639, 2147483647, 4294967295, 8589934591] (rg 6) (ad3 p q []) [(4, bA false)] fun G => b5 (wp_ret ?_); exact m5 false G (rg 6) (bO3 (by assumption))
  ·
   cases h1 : (e6 (b8.mk q.vars q.arrays q.body))
   · refine F6 G (l9 (f6 1 [0, 1, 2] (m0 p.vars p.arrays p.body (by assumption)) (f6 4 [3, 4, 5] (m0 q.vars q.arrays q.body (by assumption)) l8)) (fc h0 (fc h1 (fc (b := false) rfl fz))) (us [(3, 4, 0), (1005, 1005, 0), (7, 13, 1), (1014, 1014, 1), (16, 24, 2), (1025, 1025, 2), (27, 31, 2), (1032, 1032, 2)])) [0, 1, 3, 7, 15, 31, 63, 127, 255, 511, 127, 1151, 3199, 8191, 16383, 32767, 65535, 131071, 65535, 327679, 65535, 1114111, 3211263, 8191999, 16777215, 33554431, 67108863, 134217727, 268435455, 134217727, 671088639, 2147483647, 4294967295, 8589934591] (rg 6) (ad3 p q []) [(4, bA false)] fun G => b5 (wp_ret ?_); exact m5 false G (rg 6) (bO2 (by assumption))
   ·
    cases h2 : (decide ((p.vars.length : Int) ≤ q.vars.length))
    · have q2 := O4 h2; refine F6 G (l9 (f6 1 [0, 1, 2] (m0 p.vars p.arrays p.body (by assumption)) (f6 4 [3, 4, 5] (m0 q.vars q.arrays q.body (by assumption)) l8)) (fc h0 (fc h1 (fc h2 (fc (b := false) rfl fz)))) (us [(3, 4, 0), (1005, 1005, 0), (7, 13, 1), (1014, 1014, 1), (16, 24, 2), (1025, 1025, 2), (27, 31, 3), (1032, 1032, 3)])) [0, 1, 3, 7, 15, 31, 63, 127, 255, 511, 127, 1151, 3199, 8191, 16383, 32767, 65535, 131071, 65535, 327679, 65535, 1114111, 3211263, 8191999, 16777215, 33554431, 67108863, 134217727, 268435455, 134217727, 671088639, 2147483647, 4294967295, 8589934591] (rg 6) (ad3 p q []) [(4, bA false)] fun G => b5 (wp_ret ?_); exact m5 false G (rg 6) (bO1 (by assumption))
    ·
     have q2 := O3 h2; cases h3 : (decide (p.vars = List.drop (0 : Nat) (bW9 p.vars.length q.vars)))
     · have q3 := O4 h3; refine F0 G (l9 (f6 1 [0, 1, 2] (m0 p.vars p.arrays p.body (by assumption)) (f6 4 [3, 4, 5] (m0 q.vars q.arrays q.body (by assumption)) (f6 24 [0, 192] (J3 p.vars (List.drop 0 (bW9 p.vars.length q.vars))) l8))) (fc h0 (fc h1 (fc h2 (fc h3 fz)))) (us [(3, 4, 0), (1005, 1005, 0), (7, 13, 1), (1014, 1014, 1), (16, 24, 2), (1025, 1025, 2), (27, 31, 3), (1032, 1032, 3)])) [0, 1, 3, 7, 15, 31, 63, 127, 255, 511, 127, 1151, 3199, 8191, 16383, 32767, 65535, 131071, 65535, 327679, 65535, 1114111, 3211263, 8191999, 16777215, 33554431, 67108863, 134217727, 268435455, 134217727, 671088639, 2147483647, 4294967295, 8589934591] (rg 6) (ad3 p q []) [(4, bA false)] [(0 : Int) ≤ p.vars.length, (p.vars.length : Int) ≤ q.vars.length] ⟨(by omega), (by assumption), bX6⟩ fun G => b5 (wp_ret ?_); exact m5 false G (rg 6) (bO0 (by assumption))
     · have q3 := O3 h3; refine F0 G (l9 (f6 1 [0, 1, 2] (m0 p.vars p.arrays p.body (by assumption)) (f6 4 [3, 4, 5] (m0 q.vars q.arrays q.body (by assumption)) (f6 24 [0, 192] (J3 p.vars (List.drop 0 (bW9 p.vars.length q.vars))) (f6 31 [1, 4] (J3 p.arrays q.arrays) l8)))) (fc h0 (fc h1 (fc h2 (fc h3 fz)))) (us [(3, 4, 0), (1005, 1005, 0), (7, 13, 1), (1014, 1014, 1), (16, 24, 2), (1025, 1025, 2), (27, 31, 3), (1032, 1032, 3)])) [0, 1, 3, 7, 15, 31, 63, 127, 255, 511, 127, 1151, 3199, 8191, 16383, 32767, 65535, 131071, 65535, 327679, 65535, 1114111, 3211263, 8191999, 16777215, 33554431, 67108863, 134217727, 268435455, 134217727, 671088639, 2147483647, 4294967295, 8589934591] (rg 6) (ad3 p q []) [(4, bA (decide (p.arrays = q.arrays)))] [(0 : Int) ≤ p.vars.length, (p.vars.length : Int) ≤ q.vars.length] ⟨(by omega), (by assumption), bX6⟩ fun G => b5 (wp_ret ?_); exact m5 (decide (p.arrays = q.arrays)) G (rg 6) (bN9 (by assumption) (by assumption) (by assumption) (by assumption))
section
variable {b : List UInt8} {j : Int} {m : s4}
theorem bn2 (h : pk b j 60 = 0) : beD b j m = (⟨m.vals ++ [0], m.arrs⟩, j + 1) := by unfold beD; rw [if_pos h]
theorem bn1 (h : pk b j 60 = 1) (h2 : 0 < m.vals.length) : beD b j m = (⟨m.vals.set 0 (nm b (j + 1) bnL), m.arrs⟩, j + 2) := by unfold beD; rw [if_neg (by omega), if_pos h, if_pos h2]
theorem aZ4 (h : pk b j 60 = 1) (h2 : ¬ 0 < m.vals.length) : beD b j m = (m, j + 1) := by unfold beD; rw [if_neg (by omega), if_pos h, if_neg h2]
theorem bn0 (h : pk b j 60 = 2) (h2 : 0 < m.arrs.length) : beD b j m = (⟨m.vals, m.arrs.set 0 (((m.arrs.getD 0 []).take 3).drop 0)⟩, j + 1) := by unfold beD; rw [if_neg (by omega), if_neg (by omega), if_pos h, if_pos h2]
theorem aZ3 (h : pk b j 60 = 2) (h2 : ¬ 0 < m.arrs.length) : beD b j m = (m, j + 1) := by unfold beD; rw [if_neg (by omega), if_neg (by omega), if_pos h, if_neg h2]
theorem bm9 (h : pk b j 60 = 3) : beD b j m = (⟨[], []⟩, j + 1) := by unfold beD; rw [if_neg (by omega), if_neg (by omega), if_neg (by omega), if_pos h]
theorem bm8 (h0 : ¬ pk b j 60 = 0) (h1 : ¬ pk b j 60 = 1) (h2 : ¬ pk b j 60 = 2) (h3 : ¬ pk b j 60 = 3) : beD b j m = (m, j + 1) := by unfold beD; rw [if_neg h0, if_neg h1, if_neg h2, if_neg h3]
end
abbrev beC (b : List UInt8) (j : Int) (vs : List Int) (rs : List (List Int)) (m' : s4) (j' : Int) : d8 := ⟨17, [.ptr 0 0, mA 2], [.box [.ref 1, iA j], dY b, dI vs, dR rs], [.box [.ref 1, iA j'], dY b, dI vs, dR rs] ++ mS m', mA 4⟩
abbrev P1 (b : List UInt8) (vs : List Int) (rs : List (List Int)) (m' : s4) (j' : Int) : List It := [.box [.ref 1, iA j'], dY b, dI vs, dR rs, dI m'.vals, dR m'.arrs]
abbrev aB3 : It := .box [.v (.slice none 0 0), .v (.slice none 0 0)]
abbrev K5 (b : List UInt8) (j : Int) (vs : List Int) (rs : List (List Int)) (r0 : List It) : List It := .box [.ref 1, iA (j + 1)] :: dY b :: dI vs :: dR rs :: r0
theorem be6 (b : List UInt8) (j : Int) (vs : List Int) (rs : List (List Int)) (m' : s4) (j' : Int) (hm : beD b j ⟨vs, rs⟩ = (m', j')) (hx : vs.length ≤ 1000000) (hr : rs.length ≤ 1000000) (hi : ∀ l ∈ rs, l.length ≤ 4) (h3 : 0 < rs.length → 3 ≤ (rs.getD 0 []).length) (r0 : 0 ≤ j) (r1 : j ≤ 100000000) : d8.ok Tryz.prog (beC b j vs rs m' j') := by
  refine t8 47 Tryz.func17 [.box [.ref 1, iA j], dY b, dI vs, dR rs] [(0, .ptr 0 0), (1, .agg [.ref 2, .ref 3])] fun G => ?_; refine wp_seq (e5 G c3 [0, 1, 2, 3, 4, 12] [.box [.ref 1, iA j], dY b, dI vs, dR rs, .box [.ref 2, .ref 3], aB3] [(0, .ptr 0 0), (3, .ptr 4 0), (4, .ptr 5 0)] fun G => b5 (wp_seq (e5 G (n5 1 [2, 3] (aR6 vs rs (by omega) (by omega) (fun l hl => bX9 (hi l hl) (by decide)))) [0, 1, 2, 3, 5, 14, 15, 22] [.box [.ref 1, iA j], dY b, dI vs, dR rs, aB3, .row 3 (D.ints vs), .tree (D.rows rs), .box [.ref 5, .tref 6]] [(0, .ptr 0 0), (4, .ptr 4 0), (5, .ptr 7 0)] fun G => b5 (wp_seq (wp_seq ?_))))); obtain ⟨ρ, G⟩ := G.treeRow 6 23 (D.rows rs) [.box [.ref 1, iA j], dY b, dI vs, dR rs, .box [.v (.slice none 0 0), .v (.slice none 0 0)], .row 3 (D.ints vs), .row 23 (D.rows rs), .box [.ref 5, .ref 6]] [(0, .ptr 0 0), (4, .ptr 4 0), (5, .ptr 7 0)]; refine e5 G (n5 1 [0, 1] (B3 b j 60 (by assumption) (by omega))) (rg 8) (K5 b j vs rs [aB3, .row 3 (D.ints vs), .row 23 (D.rows rs), .box [.ref 5, .ref 6]]) [(0, .ptr 0 0), (4, .ptr 4 0), (5, .ptr 7 0), (9, iA (pk b j 60))] fun G => b5 (wp_block (wp_seq (d9 G c3 [(10, bA (pk b j 60 == 0))] fun G => b5 (I1 G (fun h0 q0 => ?_) fun h0 q0 => ?_))))
  ·
   refine wp_seq (d9 G c3 [(17, bA (pk b j 60 == 1))] fun G => b5 (I1 G (fun h1 q1 => ?_) fun h1 q1 => ?_))
   ·
    refine wp_seq (d9 G c3 [(29, bA (pk b j 60 == 2))] fun G => b5 (I1 G (fun h2 q2 => ?_) fun h2 q2 => ?_))
    ·
     refine wp_seq (d9 G c3 [(43, bA (pk b j 60 == 3))] fun G => b5 (I1 G (fun h3 q3 => ?_) fun h3 q3 => ?_))
     · refine wp_skip (i9 (b5 (wp_seq (e5 G c3 (rg 7) (K5 b j vs rs [.box [.ref 5, .ref 6], .row 3 (D.ints vs), .row 23 (D.rows rs)]) [(4, .ptr 4 0)] fun G => b5 (wp_ret ?_))))); obtain ⟨ρ, G⟩ := G.frz [.no, .no, .no, .no, .no, .row 3, .row 23] (K5 b j vs rs [.box [.ref 5, .ref 6], dI vs, dR rs]) [(4, .ptr 4 0)]; exact A3 G [0, 1, 2, 3, 5, 6] (by show _ = mR [0, 1, 2, 3, 5, 6] (P1 b vs rs m' j'); unfold P1; have e1 : (j' : Int) = (j + 1) := (by rw [bm8 (by omega) (by omega) (by omega) (by omega)] at hm; cases hm; rfl); have e2 : (m'.vals : List Int) = (vs) := (by rw [bm8 (by omega) (by omega) (by omega) (by omega)] at hm; cases hm; rfl); have e3 : (m'.arrs : List (List Int)) = (rs) := (by rw [bm8 (by omega) (by omega) (by omega) (by omega)] at hm; cases hm; rfl); (first | rw [e1, e2, e3] | simp only [e1, e2, e3]) <;> rfl)
     · refine wp_seq (w3 G c3 [(4, .ptr 4 0), (5, .ptr 7 0)] fun G => b5 (wp_ret (m7 (c8 ?_)))); obtain ⟨ρ, G⟩ := G.nil 8 0 (.ints []) 1 (K5 b j vs rs [.box [.ref 8, .v (.slice none 0 0)], .row 3 (D.ints vs), .row 23 (D.rows rs), .box [.ref 5, .ref 6]]) [(4, .ptr 4 0), (5, .ptr 7 0)]; obtain ⟨ρ, G⟩ := G.nil 9 0 (.rows []) 7 (K5 b j vs rs [.box [.ref 8, .ref 9], .row 3 (D.ints vs), .row 23 (D.rows rs), .box [.ref 5, .ref 6], .row 0 (D.ints [])]) [(4, .ptr 4 0), (5, .ptr 7 0)]; obtain ⟨ρ, G⟩ := G.frz [.no, .no, .no, .no, .no, .no, .no, .no, .row 0, .row 0] (K5 b j vs rs [.box [.ref 8, .ref 9], .row 3 (D.ints vs), .row 23 (D.rows rs), .box [.ref 5, .ref 6], dI [], dR []]) [(4, .ptr 4 0), (5, .ptr 7 0)]; exact A3 G [0, 1, 2, 3, 8, 9] (by show _ = mR [0, 1, 2, 3, 8, 9] (P1 b vs rs m' j'); unfold P1; have e1 : (j' : Int) = (j + 1) := (by rw [bm9 (by omega)] at hm; cases hm; rfl); have e2 : (m'.vals : List Int) = ([]) := (by rw [bm9 (by omega)] at hm; cases hm; rfl); have e3 : (m'.arrs : List (List Int)) = ([]) := (by rw [bm9 (by omega)] at hm; cases hm; rfl); (first | rw [e1, e2, e3] | simp only [e1, e2, e3]) <;> rfl)
    ·
     refine wp_seq (d9 G c3 [(34, bA (decide ((rs.length : Int) > 0)))] fun G => b5 (I2 G (fun h4 q4 => ?_) fun h4 q4 => ?_))
     · refine wp_skip (i9 (b5 (wp_seq (e5 G c3 (rg 7) (K5 b j vs rs [.box [.ref 5, .ref 6], .row 3 (D.ints vs), .row 23 (D.rows rs)]) [(4, .ptr 4 0)] fun G => b5 (wp_ret ?_))))); obtain ⟨ρ, G⟩ := G.frz [.no, .no, .no, .no, .no, .row 3, .row 23] (K5 b j vs rs [.box [.ref 5, .ref 6], dI vs, dR rs]) [(4, .ptr 4 0)]; exact A3 G [0, 1, 2, 3, 5, 6] (by show _ = mR [0, 1, 2, 3, 5, 6] (P1 b vs rs m' j'); unfold P1; have e1 : (j' : Int) = (j + 1) := (by rw [aZ3 (by omega) (by dsimp only; omega)] at hm; cases hm; rfl); have e2 : (m'.vals : List Int) = (vs) := (by rw [aZ3 (by omega) (by dsimp only; omega)] at hm; cases hm; rfl); have e3 : (m'.arrs : List (List Int)) = (rs) := (by rw [aZ3 (by omega) (by dsimp only; omega)] at hm; cases hm; rfl); (first | rw [e1, e2, e3] | simp only [e1, e2, e3]) <;> rfl)
     · refine F0 G c3 [0, 1, 0, 4, 12, 28, 60, 127, 255] (rg 8) (K5 b j vs rs [aB3, .row 3 (D.ints vs), .row 23 (D.rows (rs.set 0 (List.drop 0 (bW9 (Int.toNat 3) (rs.getD 0 []))))), .box [.ref 5, .ref 6]]) [(4, .ptr 4 0), (5, .ptr 7 0)] (iX 0 0 rs.length (((0 : Int) ≤ 3) :: (((3 : Int) ≤ ((rs.getD (0 : Nat) []).length : Int)) :: (iX 0 0 rs.length [])))) (iK (by omega) ⟨(by omega), ⟨(by omega), (iK (by omega) bX6)⟩⟩) fun G => i9 (b5 (wp_seq (e5 G c3 (rg 7) (K5 b j vs rs [.box [.ref 5, .ref 6], .row 3 (D.ints vs), .row 23 (D.rows (rs.set 0 (List.drop 0 (bW9 (Int.toNat 3) (rs.getD 0 [])))))]) [(4, .ptr 4 0)] fun G => b5 (wp_ret ?_)))); obtain ⟨ρ, G⟩ := G.frz [.no, .no, .no, .no, .no, .row 3, .row 23] (K5 b j vs rs [.box [.ref 5, .ref 6], dI vs, dR (rs.set 0 (List.drop 0 (bW9 (Int.toNat 3) (rs.getD 0 []))))]) [(4, .ptr 4 0)]; exact A3 G [0, 1, 2, 3, 5, 6] (by show _ = mR [0, 1, 2, 3, 5, 6] (P1 b vs rs m' j'); unfold P1; have e1 : (j' : Int) = (j + 1) := (by rw [bn0 (by omega) (by dsimp only; omega)] at hm; cases hm; rfl); have e2 : (m'.vals : List Int) = (vs) := (by rw [bn0 (by omega) (by dsimp only; omega)] at hm; cases hm; rfl); have e3 : (m'.arrs : List (List Int)) = (rs.set 0 (List.drop 0 (bW9 (Int.toNat 3) (rs.getD 0 [])))) := (by rw [bn0 (by omega) (by dsimp only; omega)] at hm; cases hm; rfl); (first | rw [e1, e2, e3] | simp only [e1, e2, e3]) <;> rfl)
   ·
    refine wp_seq (d9 G c3 [(22, bA (decide ((vs.length : Int) > 0)))] fun G => b5 (I2 G (fun h5 q5 => ?_) fun h5 q5 => ?_))
    · refine wp_skip (i9 (b5 (wp_seq (e5 G c3 (rg 7) (K5 b j vs rs [.box [.ref 5, .ref 6], .row 3 (D.ints vs), .row 23 (D.rows rs)]) [(4, .ptr 4 0)] fun G => b5 (wp_ret ?_))))); obtain ⟨ρ, G⟩ := G.frz [.no, .no, .no, .no, .no, .row 3, .row 23] (K5 b j vs rs [.box [.ref 5, .ref 6], dI vs, dR rs]) [(4, .ptr 4 0)]; exact A3 G [0, 1, 2, 3, 5, 6] (by show _ = mR [0, 1, 2, 3, 5, 6] (P1 b vs rs m' j'); unfold P1; have e1 : (j' : Int) = (j + 1) := (by rw [aZ4 (by omega) (by dsimp only; omega)] at hm; cases hm; rfl); have e2 : (m'.vals : List Int) = (vs) := (by rw [aZ4 (by omega) (by dsimp only; omega)] at hm; cases hm; rfl); have e3 : (m'.arrs : List (List Int)) = (rs) := (by rw [aZ4 (by omega) (by dsimp only; omega)] at hm; cases hm; rfl); (first | rw [e1, e2, e3] | simp only [e1, e2, e3]) <;> rfl)
    · refine F0 G (n5 4 [0, 1, 32] (d8.lend (E8 b (j + 1) ([-1] ++ ([256] ++ ([9223372036854775807] ++ []))) (by simp [h0, h1, h5]) (by omega) (by omega)) [.no, .no, .row 3])) [0, 1, 0, 0, 12, 31, 63] (rg 8) [.box [.ref 1, iA (j + 1 + 1)], dY b, dI vs, dR rs, aB3, .row 3 (D.ints (vs.set 0 (nm b (j + 1) ([-1] ++ ([256] ++ ([9223372036854775807] ++ [])))))), .row 23 (D.rows rs), .box [.ref 5, .ref 6]] [(4, .ptr 4 0), (5, .ptr 7 0)] (iX 0 0 vs.length []) (iK (by omega) bX6) fun G => i9 (b5 (wp_seq (e5 G c3 (rg 7) [.box [.ref 1, iA (j + 1 + 1)], dY b, dI vs, dR rs, .box [.ref 5, .ref 6], .row 3 (D.ints (vs.set 0 (nm b (j + 1) ([-1] ++ ([256] ++ ([9223372036854775807] ++ [])))))), .row 23 (D.rows rs)] [(4, .ptr 4 0)] fun G => b5 (wp_ret ?_)))); obtain ⟨ρ, G⟩ := G.frz [.no, .no, .no, .no, .no, .row 3, .row 23] [.box [.ref 1, iA (j + 1 + 1)], dY b, dI vs, dR rs, .box [.ref 5, .ref 6], dI (vs.set 0 (nm b (j + 1) ([-1] ++ ([256] ++ ([9223372036854775807] ++ []))))), dR rs] [(4, .ptr 4 0)]; exact A3 G [0, 1, 2, 3, 5, 6] (by show _ = mR [0, 1, 2, 3, 5, 6] (P1 b vs rs m' j'); unfold P1; have e1 : (j' : Int) = (j + 1 + 1) := (by rw [bn1 (by omega) (by dsimp only; omega)] at hm; cases hm; omega); have e2 : (m'.vals : List Int) = (vs.set 0 (nm b (j + 1) ([-1] ++ ([256] ++ ([9223372036854775807] ++ []))))) := (by rw [bn1 (by omega) (by dsimp only; omega)] at hm; cases hm; rfl); have e3 : (m'.arrs : List (List Int)) = (rs) := (by rw [bn1 (by omega) (by dsimp only; omega)] at hm; cases hm; rfl); (first | rw [e1, e2, e3] | simp only [e1, e2, e3]) <;> rfl)
  · refine L6 G c3 [0, 1, 2, 3, 4, 6, 7, 32] (K5 b j vs rs [aB3, .row 23 (D.rows rs), .box [.ref 7, .ref 5], .row 3 (D.ints (vs ++ ([0] ++ [])))]) [(4, .ptr 4 0), (5, .ptr 6 0)] (aP (vs.length + ([(0 : Int)] ++ []).length) 8 []) (aK (by simp; omega) bX6) fun G => i9 (b5 (wp_seq (e5 G c3 [0, 1, 2, 3, 4, 5, 7] (K5 b j vs rs [.box [.ref 6, .ref 5], .row 23 (D.rows rs), .row 3 (D.ints (vs ++ ([0] ++ [])))]) [(4, .ptr 4 0)] fun G => b5 (wp_ret ?_)))); obtain ⟨ρ, G⟩ := G.frz [.no, .no, .no, .no, .no, .row 23, .row 3] (K5 b j vs rs [.box [.ref 6, .ref 5], dR rs, dI (vs ++ ([0] ++ []))]) [(4, .ptr 4 0)]; exact A3 G [0, 1, 2, 3, 6, 5] (by show _ = mR [0, 1, 2, 3, 6, 5] (P1 b vs rs m' j'); unfold P1; have e1 : (j' : Int) = (j + 1) := (by rw [bn2 (by omega)] at hm; cases hm; rfl); have e2 : (m'.vals : List Int) = (vs ++ ([0] ++ [])) := (by rw [bn2 (by omega)] at hm; cases hm; rfl); have e3 : (m'.arrs : List (List Int)) = (rs) := (by rw [bn2 (by omega)] at hm; cases hm; rfl); (first | rw [e1, e2, e3] | simp only [e1, e2, e3]) <;> rfl)
structure GrS (sz : Nat) (x r : V5) : Prop where
 lo : x.1.length ≤ r.1.length
 hi : r.1.length ≤ x.1.length + 4 * sz
 st : c9 r.2 ≤ c9 x.2 + 130 * sz
 len : x.2.length ≤ r.2.length
theorem GrS.refl (x : V5) (n : Nat) : GrS n x x := ⟨bX4 _, by omega, by omega, bX4 _⟩
theorem aw2 {nv na : Nat} {s : b6} (h : s9 nv na s = true) (k : s.kind = 2) : s.index.kids = [] ∧ atomB s.index = true ∧ c4 nv na 5 s.index = true := by
 rw [C7 k] at h
 simp only [bW2] at h
 have hs := Y4 h.2.1
 exact ⟨(ay8 (ars := []) (pc := 0) (s := ([], [])) h.2.2.1 hs).2, h.2.2.1, hs⟩
theorem aq0 {e : b7} (h : e.kids = []) : s5 e = 0 := by rw [t6, h]; rfl
theorem aI5 {ars : List Int} {na nv d : Nat} (ih : ∀ (s : b6) (m pc : Int) (x : V5), d7 nv na d s = true → nv ≤ x.1.length → GrS (1 + B6 s) x (z6 ars s m pc x)) :
  ∀ (ss : List b6) (m pc : Int) (x : V5), ss.all (d7 nv na d) = true → nv ≤ x.1.length → GrS (c9 ss) x (i6 ars ss m pc x)
 | [], _, _, x, _, _ => GrS.refl x _
 | s :: r, m, pc, x, h, hx => by
  simp only [List.all_cons, bW2] at h
  have h1 := ih s m pc x h.1 hx
  have h2 := aI5 ih r m pc (z6 ars s m pc x) h.2 (bX9 hx h1.lo)
  rw [i6, c9]
  exact ⟨bX9 h1.lo h2.lo, by have := h1.hi; have := h2.hi; omega, by have := h1.st; have := h2.st; omega, bX9 h1.len h2.len⟩
theorem a40 (ars : List Int) (na nv : Nat) : ∀ (d : Nat) (s : b6) (m pc : Int) (x : V5), d7 nv na d s = true → nv ≤ x.1.length → GrS (1 + B6 s) x (z6 ars s m pc x)
 | 0, _, _, _, _, h, _ => by simp [d7] at h
 | d + 1, s, m, pc, x, h, hx => by
  have blk := fun (ss : List b6) (m pc : Int) (x : V5) => aI5 (ars := ars) (na := na) (nv := nv) (d := d) (fun s m pc x => a40 ars na nv d s m pc x) ss m pc x
  rw [H1, bW2, bW2] at h
  obtain ⟨hh, hb, he⟩ := h
  have hsz : B6 s = s5 s.index + s5 s.value + c9 s.body + c9 s.els := by cases s; rfl
  by_cases k4 : s.kind = 4
  ·rw [ln4 k4]
   have h1 := blk s.body m pc (x.1, []) hb hx
   have a := h1.lo; have b := h1.hi; have c := h1.st
   simp only [c9] at a b c
   have e0 : s5 nnE = 0 := rfl
   refine ⟨a, ?_, ?_, ?_⟩
   ·simp only; omega
   ·simp only [r6, c9, B6, e0]; omega
   ·simp
  have hv : c4 x.1.length na 5 s.value = true := x6 hx 5 _ (r8 hh k4)
  obtain ⟨g1, g2, g3⟩ := aa6 ars pc na 5 s.value x hv
  have a0 := g1.lo; have b0 := g1.hi; have c0 := g1.st; have d0 := g1.len
  have e0 : s5 nnE = 0 := rfl
  have e1 : s5 (cnE 0) = 0 := rfl
  by_cases k3 : s.kind = 3
  ·cases hs : Q5 (c6 x.1 ars 5 s.value)
   ·rw [bL5 k3 hs]
    have h1 := blk s.body m (f9 pc (c6 x.1 ars 5 s.value)) ((b9 ars pc s.value x).1.1, []) hb (bX9 hx a0)
    have h2 := blk s.els m (f9 pc (c6 x.1 ars 5 s.value)) ((i6 ars s.body m (f9 pc (c6 x.1 ars 5 s.value)) ((b9 ars pc s.value x).1.1, [])).1, []) he (bX9 hx (bX9 a0 h1.lo))
    have a := h1.lo; have b := h1.hi; have c := h1.st
    have a2 := h2.lo; have b2 := h2.hi; have c2 := h2.st
    simp only [c9] at a b c a2 b2 c2
    refine ⟨?_, ?_, ?_, ?_⟩
    ·simp only; omega
    ·simp only; omega
    ·simp only [r6, c9, B6, e0]; omega
    ·simp; omega
   ·rw [bL4 k3 hs]
    generalize hl : f9 pc (c6 x.1 ars 5 s.value) = l
    generalize hy : ifM (b9 ars pc s.value x) m l = y
    have y1 : y.1.length = (b9 ars pc s.value x).1.1.length + 2 := by rw [← hy]; simp
    have y2 : c9 y.2 ≤ c9 (b9 ars pc s.value x).1.2 + 20 + s5 (b9 ars pc s.value x).2 := by
     have m1 := U3 m (b9 ars pc s.value x).2 (cnE 0)
     have m2 := U3 m ⟨9, 0, [vrE ((b9 ars pc s.value x).1.1.length : Int), cnE 0]⟩ (cnE 0)
     have m3 : s5 ⟨9, 0, [vrE ((b9 ars pc s.value x).1.1.length : Int), cnE 0]⟩ = 2 := rfl
     rw [← hy]
     simp only [ifM, r6, c9, B6, e0]; omega
    have y3 : (b9 ars pc s.value x).1.2.length ≤ y.2.length := by rw [← hy]; simp
    have h1 := blk s.body ((b9 ars pc s.value x).1.1.length : Int) l y hb (by omega)
    have h2 := blk s.els (((b9 ars pc s.value x).1.1 ++ [l]).length : Int) l (i6 ars s.body ((b9 ars pc s.value x).1.1.length : Int) l y) he (by have := h1.lo; omega)
    have a := h1.lo; have b := h1.hi; have c := h1.st; have d1 := h1.len
    have a2 := h2.lo; have b2 := h2.hi; have c2 := h2.st; have d2 := h2.len
    exact ⟨by omega, by omega, by omega, by omega⟩
  by_cases k5 : s.kind = 5
  ·rw [ln5 k5]
   refine ⟨a0, ?_, ?_, ?_⟩
   ·simp only; omega
   ·simp only [r6, c9, B6, e0]; omega
   ·simp; omega
  by_cases k1 : s.kind = 1
  ·rw [ln1 k1]
   have m1 := U3 m (b9 ars pc s.value x).2 (vrE s.target)
   have m2 : s5 (vrE s.target) = 0 := rfl
   refine ⟨a0, ?_, ?_, ?_⟩
   ·simp only; omega
   ·simp only [r6, c9, B6, e0]; omega
   ·simp; omega
  by_cases k2 : s.kind = 2
  ·obtain ⟨q1, -, -⟩ := aw2 hh k2
   cases hs : Q5 (c6 (b9 ars pc s.value x).1.1 ars 5 s.index)
   ·rw [bL7 k2 hs]
    have m1 := U3 m (b9 ars pc s.value x).2 (rdE s.target s.index)
    have m2 : s5 (rdE s.target s.index) = 1 := by simp [s5, j3, aq0 q1]
    have m3 := aq0 q1
    refine ⟨a0, ?_, ?_, ?_⟩
    ·simp only; omega
    ·simp only [r6, c9, B6]; omega
    ·simp; omega
   ·rw [bL6 k2 hs]
    have m1 := bd7 ((b9 ars pc s.value x).1.1.length : Int) s.target s.index m q1 4
    refine ⟨?_, ?_, ?_, ?_⟩
    ·simp; omega
    ·simp; omega
    ·simp only [r6, c9, B6, e0]; omega
    ·simp; omega
  ·rw [aD5 ⟨k1, k2, k3, k4, k5⟩] at hh; cases hh
theorem aI6 (ars : List Int) {na nv d : Nat} (ss : List b6) (m pc : Int) (x : V5) (h : ss.all (d7 nv na d) = true) (hx : nv ≤ x.1.length) : GrS (c9 ss) x (i6 ars ss m pc x) := aI5 (a40 ars na nv d) ss m pc x h hx
theorem ah6 {nv na : Nat} {e : b7} (h : f7 nv na e = true) : s5 e ≤ 14 := by
 unfold f7 at h; simp only [bW2, decide_eq_true_eq] at h; omega
theorem ap8 {e : b7} (h : noneB e = true) : s5 e = 0 := by
 unfold noneB at h; simp only [bW2, decide_eq_true_eq] at h
 exact aq0 (bY4 h.2)
theorem a19 {nv na d : Nat} (ih : ∀ s : b6, d7 nv na d s = true → 1 + B6 s ≤ 29 * nS s) : ∀ ss : List b6, ss.all (d7 nv na d) = true → c9 ss ≤ 29 * M5 ss
 | [], _ => bX4 _
 | s :: r, h => by
  simp only [List.all_cons, bW2] at h
  have h1 := ih s h.1
  have h2 := a19 ih r h.2
  rw [c9, M5]; omega
theorem bd1 {nv na : Nat} : ∀ (d : Nat) (s : b6), d7 nv na d s = true → 1 + B6 s ≤ 29 * nS s
 | 0, _, h => by simp [d7] at h
 | d + 1, s, h => by
  rw [H1, bW2, bW2] at h
  obtain ⟨hh, hb, he⟩ := h
  have h1 := a19 (fun s => bd1 d s) s.body hb
  have h2 := a19 (fun s => bd1 d s) s.els he
  have hsz : B6 s = s5 s.index + s5 s.value + c9 s.body + c9 s.els := by cases s; rfl
  have hn := al5 s
  have key : s5 s.index + s5 s.value ≤ 28 := by
   by_cases k4 : s.kind = 4
   ·rw [N5 k4] at hh; simp only [bW2] at hh
    have := ap8 hh.2.1; have := ap8 hh.2.2; omega
   by_cases k3 : s.kind = 3
   ·rw [P7 k3] at hh; simp only [bW2] at hh
    have := ap8 hh.2.1; have := ah6 hh.2.2; omega
   by_cases k15 : s.kind = 1 ∨ s.kind = 5
   ·rw [t0 k15] at hh; simp only [bW2] at hh
    have := ap8 hh.2.1; have := ah6 hh.2.2; omega
   by_cases k2 : s.kind = 2
   ·rw [C7 k2] at hh; simp only [bW2] at hh
    have := ah6 hh.2.1; have := ah6 hh.2.2.2; omega
   ·rw [aD5 (by omega)] at hh; cases hh
  omega
def av6 (p : b8) : V5 := i6 p.arrays p.body (-1) 0 (p.vars, [])
def a86 (p : b8) : b8 := ⟨(av6 p).1, p.arrays, (av6 p).2⟩
theorem ag8 {p : b8} (h : e6 p = true) : p.vars.length ≤ 12 ∧ p.arrays.length ≤ 2 ∧ c9 p.body ≤ 1740 := by
 unfold e6 x7 V2 at h
 simp only [bW2, decide_eq_true_eq] at h
 have := a19 (bd1 5) p.body h.1.2
 omega
theorem a41 {p : b8} (h : e6 p = true) : p.vars.length ≤ (av6 p).1.length ∧ (av6 p).1.length ≤ 7000 ∧ c9 (av6 p).2 ≤ 230000 := by
 have hz := ag8 h
 have hb : p.body.all (d7 p.vars.length p.arrays.length 5) = true := (aC9 h).2.2.2
 have g := aI6 p.arrays p.body (-1) 0 (p.vars, []) hb (bX4 _)
 have a := g.lo; have b := g.hi; have c := g.st
 simp only [c9] at a b c
 unfold av6
 omega
theorem bs2 {p : b8} (h : e6 p = true) : (a86 p).size ≤ 240000 := by
 have h1 := a41 h
 have h2 := ag8 h
 show (av6 p).1.length + p.arrays.length + c9 (av6 p).2 ≤ _
 omega
def okL (p : b8) : Bool := decide ((J2 p false).1 = 0) && e6 (a86 p)
def T5 (p : b8) : b8 := if okL p = true then a86 p else ⟨[], [], []⟩
theorem U7 {p : b8} (h : (J2 p false).1 = 0) : e6 p = true := ((bu0 p false).1 h).1
theorem bK3 {p : b8} (h : ¬ (J2 p false).1 = 0) : okL p = false := by unfold okL; rw [decide_eq_false h, Bool.false_and]
theorem bx7 {p : b8} (h : e6 (a86 p) = false) : okL p = false := by unfold okL; rw [h, Bool.and_false]
theorem bx6 {p : b8} (h : (J2 p false).1 = 0) (h2 : e6 (a86 p) = true) : okL p = true := by unfold okL; rw [decide_eq_true h, h2]; rfl
theorem bh9 {p : b8} (h : okL p = false) : T5 p = ⟨[], [], []⟩ := by unfold T5; rw [h]; rfl
theorem bx8 {p : b8} (h : okL p = true) : T5 p = a86 p := by unfold T5; rw [h]; rfl
theorem bC7 (p : b8) : (T5 p).size ≤ 240000 := by
 cases h : okL p
 ·rw [bh9 h]; simp [b8.size, c9]
 ·rw [bx8 h]
  unfold okL at h
  simp only [bW2, decide_eq_true_eq] at h
  exact bs2 (U7 h.1)
theorem ax0 {nv na d k : Nat} {ss : List b6} (hs : ss.all (d7 nv na (d + 1)) = true) (hk : k < ss.length) : s9 nv na (ss.getD k bW1) = true ∧ (ss.getD k bW1).body.all (d7 nv na d) = true ∧ (ss.getD k bW1).els.all (d7 nv na d) = true := by
 have h := bX0.1 hs _ (bX7 hk)
 rw [H1, bW2, bW2] at h
 rw [f8 hk]; exact h
section
variable {l : List R2} {fr : List Int} {at0 d : Int} {s : b6}
end
section
variable {ss : List b6} {k : Nat} {d : Int} {l : List R2} {fr : List Int} {at0 : Int}
end
theorem bF4 (b : List UInt8) {j : Int} (hj : 0 ≤ j) (hj2 : j ≤ 10000000) : j + 2 ≤ (T2 b j).2 ∧ (T2 b j).2 ≤ j + 150000 := by
 have h1 := a63 b hj hj2
 have h2 := a44 b hj hj2
 omega
def F9 (b : List UInt8) : Nat → Int → b8 × Int
 | 0, j => (J7 b j, (T2 b j).2 + 1)
 | n + 1, j => if (J2 (J7 b j) false).1 = 0 ∧ 0 < (J7 b j).body.length then (J7 b j, (T2 b j).2 + 1) else F9 b n ((T2 b j).2 + 1)
theorem bE0 (b : List UInt8) : ∀ (n : Nat) (j : Int), n ≤ 3 → 0 ≤ j → j + n * 150001 ≤ 10000000 → j ≤ (F9 b n j).2 ∧ (F9 b n j).2 ≤ j + (n + 1) * 150001 ∧ (F9 b n j).1.size ≤ 160000
 | 0, j, _, hj, hj2 => by
  have h := bF4 b hj (by omega)
  have h2 := aT6 b hj (by omega)
  refine ⟨?_, ?_, h2⟩ <;> (show _ ≤ _; simp only [F9]; omega)
 | n + 1, j, hn, hj, hj2 => by
  have h := bF4 b hj (by omega)
  have h2 := aT6 b hj (by omega)
  have ih := bE0 b n ((T2 b j).2 + 1) (by omega) (by omega) (by omega)
  rw [F9]
  split
  ·exact ⟨by show j ≤ (T2 b j).2 + 1; omega, by show (T2 b j).2 + 1 ≤ _; omega, h2⟩
  ·exact ⟨by omega, by omega, ih.2.2⟩
def E2 (b : List UInt8) (j : Int) : Nat → Int
 | 0 => j
 | i + 1 => (T2 b (E2 b j i)).2 + 1
theorem bN3 (b : List UInt8) {j : Int} (hj : 0 ≤ j) (hj2 : j ≤ 9000000) : ∀ i : Nat, i ≤ 3 → j ≤ E2 b j i ∧ E2 b j i ≤ j + i * 150001
 | 0, _ => ⟨Int.le_refl _, by simp [E2]⟩
 | i + 1, hi => by
  have ih := bN3 b hj hj2 i (by omega)
  have h := bF4 b (j := E2 b j i) (by omega) (by omega)
  rw [E2]
  omega
theorem bN8 {b : List UInt8} {j : Int} {i : Nat} (hi : i < 3) (h : F9 b 3 j = F9 b (3 - i) (E2 b j i)) (hn : ¬ ((J2 (J7 b (E2 b j i)) false).1 = 0 ∧ 0 < (J7 b (E2 b j i)).body.length)) : F9 b 3 j = F9 b (3 - (i + 1)) (E2 b j (i + 1)) := by
 rw [h, show 3 - i = (3 - (i + 1)) + 1 by omega, F9, if_neg hn]; rfl
theorem bD8 {b : List UInt8} {j : Int} {i : Nat} (hi : i < 3) (h : F9 b 3 j = F9 b (3 - i) (E2 b j i)) (hn : (J2 (J7 b (E2 b j i)) false).1 = 0 ∧ 0 < (J7 b (E2 b j i)).body.length) : F9 b 3 j = (J7 b (E2 b j i), (T2 b (E2 b j i)).2 + 1) := by
 rw [h, show 3 - i = (3 - (i + 1)) + 1 by omega, F9, if_pos hn]
theorem bt1 {b : List UInt8} {j : Int} {i : Nat} (hi : 3 ≤ i) (hi2 : i ≤ 3) (h : F9 b 3 j = F9 b (3 - i) (E2 b j i)) : F9 b 3 j = (J7 b (E2 b j i), (T2 b (E2 b j i)).2 + 1) := by
 rw [h, show 3 - i = 0 by omega, F9]
abbrev m2D (b : List UInt8) (p : b8) (k : Int) : b8 × Int := Q7 b (Q7 b p k).1 (Q7 b p k).2
def prD (b : List UInt8) (j : Int) : b8 × b8 × Int :=
 if okL (F9 b 3 j).1 = true then
  if pk b (F9 b 3 j).2 8 = 0 then ((F9 b 3 j).1, m2D b (F9 b 3 j).1 ((F9 b 3 j).2 + 1)) else ((F9 b 3 j).1, T5 (F9 b 3 j).1, (F9 b 3 j).2 + 1)
 else ((F9 b 3 j).1, m2D b (F9 b 3 j).1 (F9 b 3 j).2)
theorem bL3 (b : List UInt8) (p : b8) (k : Int) : (m2D b p k).1.size ≤ p.size + 26 ∧ k ≤ (m2D b p k).2 ∧ (m2D b p k).2 ≤ k + 6 := by
 have h1 := aI0 b p k
 have h2 := aI0 b (Q7 b p k).1 (Q7 b p k).2
 unfold m2D
 omega
theorem bJ5 (b : List UInt8) {j : Int} (h0 : 0 ≤ j) (h1 : j ≤ 1000000) : (prD b j).1.size ≤ 160000 ∧ (prD b j).2.1.size ≤ 240000 ∧ j ≤ (prD b j).2.2 ∧ (prD b j).2.2 ≤ j + 700000 := by
 have hf := bE0 b 3 j (bX4 _) h0 (by omega)
 have hm := bL3 b (F9 b 3 j).1 ((F9 b 3 j).2 + 1)
 have hn := bL3 b (F9 b 3 j).1 (F9 b 3 j).2
 have hl := bC7 (F9 b 3 j).1
 unfold prD
 split
 ·split
  ·dsimp only; omega
  ·dsimp only; omega
 ·dsimp only; omega
abbrev tyC (b : List UInt8) (j : Int) : d8 := ⟨43, [.ptr 0 0], [.box [.ref 1, iA j], dY b], [.box [.ref 1, iA ((T2 b j).2 + 1)], dY b] ++ oP (J7 b j), oA 2⟩
section
variable {b : List UInt8} {j : Int}
theorem bQ9 (h : pk b (T2 b j).2 4 = 0) : J7 b j = pgD b j := if_pos h
theorem bQ8 (h : ¬ pk b (T2 b j).2 4 = 0) (h2 : okI (pgD b j) = true) : J7 b j = W4 (pgD b j) := by rw [J7, if_neg h, if_pos h2]
theorem bQ7 (h : ¬ pk b (T2 b j).2 4 = 0) (h2 : okI (pgD b j) = false) : J7 b j = pgD b j := by rw [J7, if_neg h, if_neg (by rw [h2]; decide)]
end
abbrev aB4 (b : List UInt8) (j : Int) : List It := [.box [.ref 1, iA ((T2 b j).snd + 1)], dY b, .row 3 (D.ints (J7 b j).vars), .row 3 (D.ints (J7 b j).arrays), .tree (D.stmts (J7 b j).body)]
abbrev a07 : It := .box [.v (.slice none 0 0), .v (.slice none 0 0), .v (.slice none 0 0)]
abbrev as1 : It := .box [.ref 3, .ref 4, .tref 5]
abbrev aA2 (b : List UInt8) (j : Int) (r0 : List It) : List It := .row 3 (D.ints (pgD b j).vars) :: .row 3 (D.ints (pgD b j).arrays) :: .tree (D.stmts (pgD b j).body) :: r0
theorem aE1 (b : List UInt8) (j : Int) (r0 : 0 ≤ j) (r1 : j ≤ 10000000) : d8.ok Tryz.prog (tyC b j) := by
  refine t8 20 Tryz.func43 [.box [.ref 1, iA j], dY b] [(0, .ptr 0 0)] fun G => ?_; have hk2 := a44 b r0 r1; have hbd := a63 b r0 r1; have hsz := bg3 b r0 r1; refine wp_seq (e5 G c3 [0, 1, 2] [.box [.ref 1, iA j], dY b, a07] [(0, .ptr 0 0), (2, .ptr 2 0)] fun G => b5 (wp_seq (e5 G (n5 1 [0, 1] (aR7 b j (by assumption) (by assumption))) [0, 1, 2, 11, 12, 13, 19] (.box [.ref 1, iA (T2 b j).snd] :: dY b :: a07 :: (aA2 b j [as1])) [(0, .ptr 0 0), (2, .ptr 2 0), (3, .ptr 6 0)] fun G => b5 (wp_seq (wp_seq (e5 G (n5 1 [0, 1] (B3 b ((T2 b j).snd) 4 (by omega) (by omega))) (rg 7) (.box [.ref 1, iA ((T2 b j).snd + 1)] :: dY b :: a07 :: (aA2 b j [as1])) [(2, .ptr 2 0), (3, .ptr 6 0), (10, bA (pk b (T2 b j).snd 4 == 0))] fun G => b5 (I1 G (fun h0 q0 => ?_) fun h0 q0 => ?_)))))))
  ·
   refine wp_skip (b5 (wp_seq (e5 G (n5 1 [3, 4, 5] (d8.lend (az9 (pgD b j) (by omega)) [.row 3, .row 3, .tree])) [0, 1, 2, 3, 4, 5, 6, 15, 16, 17, 47] (.box [.ref 1, iA ((T2 b j).snd + 1)] :: dY b :: a07 :: (aA2 b j [as1, .row 3 (D.ints (W4 (pgD b j)).vars), .row 3 (D.ints (W4 (pgD b j)).arrays), .tree (D.stmts (W4 (pgD b j)).body), .box [.ref 7, .ref 8, .tref 9]])) [(2, .ptr 2 0), (3, .ptr 6 0), (4, .ptr 10 0), (5, bA (okI (pgD b j)))] fun G => b5 (wp_seq (wp_seq (d9 G c3 [(17, bA (okI (pgD b j)))] fun G => b5 (rcB G (fun h1 => ?_) fun h1 => ?_)))))))
   · refine wp_skip (b5 (wp_seq (e5 G c3 (rg 6) (.box [.ref 1, iA ((T2 b j).snd + 1)] :: dY b :: as1 :: (aA2 b j [])) [(2, .ptr 2 0)] fun G => b5 (wp_ret ?_)))); exact A3 G [0, 1, 3, 4, 5] (by show _ = mR [0, 1, 3, 4, 5] (aB4 b j); unfold aB4; rw [bQ7 (by omega) (by with_reducible assumption)] <;> rfl)
   · refine wp_seq (e5 G c3 (rg 10) (.box [.ref 1, iA ((T2 b j).snd + 1)] :: dY b :: .box [.ref 7, .ref 8, .tref 9] :: (aA2 b j [as1, .row 3 (D.ints (W4 (pgD b j)).vars), .row 3 (D.ints (W4 (pgD b j)).arrays), .tree (D.stmts (W4 (pgD b j)).body)])) [(2, .ptr 2 0), (3, .ptr 6 0)] fun G => b5 (wp_ret (c8 ?_))); exact A3 G [0, 1, 7, 8, 9] (by show _ = mR [0, 1, 7, 8, 9] (aB4 b j); unfold aB4; rw [bQ8 (by omega) (by with_reducible assumption)] <;> rfl)
  · refine wp_seq (e5 G c3 (rg 7) (.box [.ref 1, iA ((T2 b j).snd + 1)] :: dY b :: as1 :: (aA2 b j [as1])) [(2, .ptr 2 0), (3, .ptr 6 0)] fun G => b5 (wp_ret (c8 ?_))); exact A3 G [0, 1, 3, 4, 5] (by show _ = mR [0, 1, 3, 4, 5] (aB4 b j); unfold aB4; rw [bQ9 (by omega)] <;> rfl)
abbrev fpC (b : List UInt8) (j : Int) : d8 := ⟨28, [.ptr 0 0], [.box [.ref 1, iA j], dY b], [.box [.ref 1, iA (F9 b 3 j).2], dY b] ++ oP (F9 b 3 j).1, oA 2⟩
theorem bD9 {b : List UInt8} {j : Int} {i : Nat} (hi : i < 3) (h : F9 b 3 j = F9 b (3 - i) (E2 b j i)) (hn : ¬ ((J2 ⟨(J7 b (E2 b j i)).vars, (J7 b (E2 b j i)).arrays, (J7 b (E2 b j i)).body⟩ false).1 = 0 ∧ 0 < (J7 b (E2 b j i)).body.length)) : i + 1 ≤ 3 ∧ F9 b 3 j = F9 b (3 - (i + 1)) (E2 b j (i + 1)) := ⟨hi, bN8 hi h hn⟩
theorem bt3 {b : List UInt8} {j : Int} {i : Nat} (hi : i < 3) (h : F9 b 3 j = F9 b (3 - i) (E2 b j i)) (hn : (J2 ⟨(J7 b (E2 b j i)).vars, (J7 b (E2 b j i)).arrays, (J7 b (E2 b j i)).body⟩ false).1 = 0 ∧ 0 < (J7 b (E2 b j i)).body.length) : F9 b 3 j = (J7 b (E2 b j i), (T2 b (E2 b j i)).2 + 1) := bD8 hi h hn
theorem bk3 {b : List UInt8} {j : Int} {i : Nat} (hi : i < 3) (h : F9 b 3 j = F9 b (3 - i) (E2 b j i)) (hn : ¬ ((J2 (J7 b (E2 b j i)) false).1 = 0 ∧ 0 < (J7 b (E2 b j i)).body.length)) : i + 1 ≤ 3 ∧ F9 b 3 j = F9 b (3 - (i + 1)) (E2 b j (i + 1)) := bD9 hi h hn
theorem bt2 {b : List UInt8} {j : Int} {i : Nat} (hi : i < 3) (h : F9 b 3 j = F9 b (3 - i) (E2 b j i)) (hn : (J2 (J7 b (E2 b j i)) false).1 = 0 ∧ 0 < (J7 b (E2 b j i)).body.length) : F9 b 3 j = (J7 b (E2 b j i), (T2 b (E2 b j i)).2 + 1) := bt3 hi h hn
theorem tyb (b : List UInt8) {j : Int} (h : 0 ≤ j) (h2 : j ≤ 10000000) : c9 (J7 b j).body ≤ 1048576 ∧ (J7 b j).body.length ≤ 1048576 := by
 have h1 := aT6 b h h2
 have h3 := D8 (J7 b j).body
 unfold b8.size at h1; omega
abbrev a06 (b : List UInt8) (j : Int) : List It := [.box [.ref 1, iA (F9 b 3 j).snd], dY b, .row 3 (D.ints (F9 b 3 j).fst.vars), .row 3 (D.ints (F9 b 3 j).fst.arrays), .tree (D.stmts (F9 b 3 j).fst.body)]
abbrev aL2 : It := .box [.v (.slice none 0 0), .v (.slice none 0 0), .v (.slice none 0 0)]
theorem aR2 (b : List UInt8) (j : Int) (r0 : 0 ≤ j) (r1 : j ≤ 9000000) : d8.ok Tryz.prog (fpC b j) := by
  refine t8 29 Tryz.func28 [.box [.ref 1, iA j], dY b] [(0, .ptr 0 0)] fun G => ?_; refine wp_seq (e5 G c3 [0, 1, 2] [.box [.ref 1, iA j], dY b, aL2] [(0, .ptr 0 0), (2, .ptr 2 0)] fun G => b5 (wp_seq (wp_seq (w3 G c3 [(0, .ptr 0 0), (2, .ptr 2 0), (3, iA 0)] fun G => b5 (wp_block ?_))))); refine k8 (κ := Nat) (fun i => i ≤ 3 ∧ F9 b 3 j = F9 b (3 - i) (E2 b j i)) (fun i => 3 - i) (fun i => [.box [.ref 1, iA (E2 b j i)], dY b, aL2]) (fun i => [(0, .ptr 0 0), (2, .ptr 2 0), (3, iA i)]) 0 (⟨bZ5 _, rfl⟩) (l7.at G _ _) ?_; clear G; intro i ρ a w hp G; have hp := hp; have hfj := bN3 b r0 r1 i hp.1; have htb := tyb b (j := E2 b j i) (by omega) (by omega); refine wp_seq (wp_seq (d9 G c3 [(8, bA (decide ((i : Int) < 3)))] fun G => b5 (I2 G (fun h0 q0 => ?_) fun h0 q0 => ?_)))
  · refine wp_exit (j9 (j9 (j7 (b5 (wp_seq (e5 G (n5 1 [0, 1] (aE1 b (E2 b j i) (by omega) (by omega))) [0, 1, 2, 11, 12, 13] [.box [.ref 1, iA ((T2 b (E2 b j i)).snd + 1)], dY b, .box [.ref 3, .ref 4, .tref 5], .row 3 (D.ints (J7 b (E2 b j i)).vars), .row 3 (D.ints (J7 b (E2 b j i)).arrays), .tree (D.stmts (J7 b (E2 b j i)).body)] [(2, .ptr 2 0)] fun G => b5 (wp_ret ?_))))))); exact A3 G [0, 1, 3, 4, 5] (by show _ = mR [0, 1, 3, 4, 5] (a06 b j); unfold a06; rw [bt1 (b := b) (j := j) (i := i) (by omega) (by omega) hp.2] <;> rfl)
  ·
   refine wp_skip (b5 (wp_seq (wp_block (wp_seq (e5 G (n5 1 [0, 1] (aE1 b (E2 b j i) (by omega) (by omega))) [0, 1, 2, 11, 12, 13, 19] [.box [.ref 1, iA ((T2 b (E2 b j i)).snd + 1)], dY b, aL2, .row 3 (D.ints (J7 b (E2 b j i)).vars), .row 3 (D.ints (J7 b (E2 b j i)).arrays), .tree (D.stmts (J7 b (E2 b j i)).body), .box [.ref 3, .ref 4, .tref 5]] [(0, .ptr 0 0), (2, .ptr 2 0), (3, iA i), (4, .ptr 6 0)] fun G => b5 (wp_seq (d9 G (n5 1 [3, 4, 5] (d8.lend (P8 (J7 b (E2 b j i)) (by omega)) [.row 3, .row 3, .tree])) [(5, iA (J2 (J7 b (E2 b j i)) false).fst)] fun G => b5 (wp_seq ?_)))))))); cases h1 : ((J2 (J7 b (E2 b j i)) false).fst == 0)
   · have q1 := ne_of_beq_false h1; refine d9 G (z4 (fc h1 fz) (us [(3, 6, 0), (1007, 1007, 0)])) [(25, bA false)] fun G => b5 (rF G false (by kernel_rfl) (wp_skip (i9 (b5 (L6 G c3 [0, 1, 2] [.box [.ref 1, iA ((T2 b (E2 b j i)).snd + 1)], dY b, aL2] [(0, .ptr 0 0), (2, .ptr 2 0), (3, iA ((i : Int) + 1))] [wO ((i : Int) + 1)] (o1 (by omega)) fun G => b5 ?_))))); exact H3 G (i + 1) (bk3 (by omega) hp.2 (by omega)) (by omega) [0, 1, 2]
   ·
    have q1 := eq_of_beq h1; refine d9 G (z4 (fc h1 fz) (us [(3, 6, 0), (1007, 1007, 0)])) [(25, bA (decide (((J7 b (E2 b j i)).body.length : Int) > 0)))] fun G => b5 (I2 G (fun h2 q2 => ?_) fun h2 q2 => ?_)
    · refine wp_skip (i9 (b5 (L6 G c3 [0, 1, 2] [.box [.ref 1, iA ((T2 b (E2 b j i)).snd + 1)], dY b, aL2] [(0, .ptr 0 0), (2, .ptr 2 0), (3, iA ((i : Int) + 1))] [wO ((i : Int) + 1)] (o1 (by omega)) fun G => b5 ?_))); exact H3 G (i + 1) (bk3 (by omega) hp.2 (by omega)) (by omega) [0, 1, 2]
    · refine wp_seq (e5 G c3 (rg 6) [.box [.ref 1, iA ((T2 b (E2 b j i)).snd + 1)], dY b, .box [.ref 3, .ref 4, .tref 5], .row 3 (D.ints (J7 b (E2 b j i)).vars), .row 3 (D.ints (J7 b (E2 b j i)).arrays), .tree (D.stmts (J7 b (E2 b j i)).body)] [(0, .ptr 0 0), (2, .ptr 2 0), (3, iA i)] fun G => b5 (wp_ret (m7 (c8 (c8 (m7 (c8 ?_))))))); exact A3 G [0, 1, 3, 4, 5] (by show _ = mR [0, 1, 3, 4, 5] (a06 b j); unfold a06; rw [bt2 (b := b) (j := j) (i := i) (by omega) hp.2 (by omega)] <;> rfl)
theorem d8.dupPost {P : Program} {f : FuncId} {args : List AV} {pre S : List It} {d : D} {res res' : AV} {i : Nat} (hc : d8.ok P ⟨f, args, pre, S, res⟩) (hi : S[i]? = some (.dat d)) (hl : pre.length ≤ S.length)
  (hS : S.all (fun x => J0 S.length x.ids) = true) (hr : ∀ ρ : Nat → Value, ρ S.length = ρ i → res'.val ρ = res.val ρ) (hg : J0 S.length res.ids = true) : d8.ok P ⟨f, args, pre, S ++ [.dat d], res'⟩ := by
 intro ι φ ψ w0 w F ρ M
 refine (hc ι φ ψ w0 w F ρ M).mono ?_
 rintro x w' ⟨ρ1, h1, rfl, M1⟩
 have hi' : j0 S i = .dat d := by simp [j0, hi]
 have hlt : i < S.length := (bX1.1 hi).1
 have hinv : Inv (j0 S) ρ1 [S.length] := fun ρ' h j => by
  by_cases hj : j < S.length
  ·refine It.res_congr _ (fun k hk => h k ?_) (.inr (.inr (h j (by simp; omega))))
   have h1 := t4 (bX0.1 hS (S[j]) (bX7 hj)) k (by simpa [j0, bW3, bW4 hj] using hk)
   simp; omega
  ·rw [show j0 S j = .none by simp only [j0, bW3, bY2 (Nat.le_of_not_lt hj)]; rfl]; rfl
 obtain ⟨ρ2, h3, M2, h4⟩ := M1.newDat (id := S.length) (by simp [j0]) hinv (M1.datAt hi')
 have e : i8 (j0 S) [(S.length, .dat d)] = j0 (S ++ [.dat d]) := by
  funext j
  simp only [i8, j0, bW3]
  by_cases hj : j = S.length
  ·subst hj; simp
  ·rw [if_neg hj]
   by_cases hj2 : j < S.length
   ·rw [bX8 hj2]
   ·rw [bY2 (by omega), bY2 (by simp; omega)]
 rw [e] at M2
 have hρ : ρ2 i = ρ1 i := h3 i (by simp; omega)
 refine ⟨ρ2, fun k hk => by
  have hk : k < pre.length := hk
  rw [h3 k (by simp; omega)]; exact h1 k hk, ?_, M2⟩
 rw [hr ρ2 (by rw [← h4, hρ])]
 exact congrArg _ (AV.val_congr res fun k hk => by
  have := t4 hg k hk
  exact h3 k (by simp; omega)).symm
abbrev nlA : AV := .v (.slice none 0 0)
abbrev qT (l : List b6) : It := .row 75 (.stmts l)
abbrev qI (l : List Int) : It := .row 3 (.ints l)
theorem aU9 (vs ars : List Int) (d : Nat) (ih : ∀ (e : b7), c4 vs.length ars.length d e = true → d8.ok Tryz.prog (C9 68 [.agg [.ref 0, .ref 1, nlA], eA e 2] ([dI vs, dI ars] ++ eS e) (iA (c6 vs ars d e))))
    (e : b7) (he : c4 vs.length ars.length (d + 1) e = true) : d8.ok Tryz.prog (C9 68 [.agg [.ref 0, .ref 1, nlA], eA e 2] ([dI vs, dI ars] ++ eS e) (iA (c6 vs ars (d + 1) e))) := by
  refine t8 42 Tryz.func68 [dI vs, dI ars, dE e.kids] [(0, .agg [.ref 0, .ref 1, .v (.slice none 0 0)]), (1, eA e 2)] fun G => ?_; refine wp_seq (e5 G c3 [0, 1, 2, 3, 11] [dI vs, dI ars, dE e.kids, .box [.ref 0, .ref 1, .v (.slice none 0 0)], .box (eL e 2)] [(2, .ptr 3 0), (3, .ptr 4 0), (4, iA 0)] fun G => b5 (wp_seq (d9 G c3 [(5, iA 0)] fun G => b5 (wp_seq (wp_seq (d9 G c3 [(8, iA e.kind)] fun G => b5 (wp_block (wp_seq (d9 G c3 [(9, bA (e.kind == 2))] fun G => b5 (I1 G (fun h0 q0 => ?_) fun h0 q0 => ?_))))))))))
  ·
   refine wp_seq (d9 G c3 [(17, bA (e.kind == 3))] fun G => b5 (I1 G (fun h1 q1 => ?_) fun h1 q1 => ?_))
   ·
    refine wp_skip (i9 (b5 (wp_seq (wp_seq (w3 G c3 [(2, .ptr 3 0), (3, .ptr 4 0), (4, iA 0), (5, iA 0), (6, iA 0)] fun G => b5 (wp_block ?_)))))); refine k8 (κ := Nat) (fun k => k ≤ e.kids.length) (fun k => e.kids.length - k) (fun k => [dI vs, dI ars, dE e.kids, .box [.ref 0, .ref 1, .v (.slice none 0 0)], .box (eL e 2)]) (fun k => [(2, .ptr 3 0), (3, .ptr 4 0), (4, iA 0), (5, iA (w5 vs ars d 0 e.kids k)), (6, iA k)]) 0 (by omega) (l7.at G _ _) ?_; clear G; intro k ρ a w hp G; have hlen : e.kids.length ≤ 9223372036854775807 := G.len 2 (d := .exprs e.kids) (by kernel_rfl); refine wp_seq (wp_seq (w3 G c3 [(2, .ptr 3 0), (3, .ptr 4 0), (4, iA 0), (5, iA (w5 vs ars d 0 e.kids k)), (6, iA k), (29, bA (decide ((k : Int) < e.kids.length)))] fun G => b5 (I2 G (fun h2 q2 => ?_) fun h2 q2 => ?_)))
    · refine wp_exit (j9 (j9 (j7 (b5 (wp_seq (e5 G c3 [0, 1, 2] [dI vs, dI ars, dE e.kids] [(4, iA (w5 vs ars d 0 e.kids k))] fun G => b5 (wp_ret ?_))))))); exact J9 (w5 vs ars d 0 e.kids k) G [0, 1, 2] (S6 (by omega) (by simp [ao6, h0, q0, h1, q1, h2, q2]; done))
    · refine wp_skip (b5 (wp_seq (wp_block (T9 G (n5 7 [0, 1, 53] (ih (e.kids.getD k bW1) (M9 he (by omega)))) [0, 0, 0, 4, 0, 28, 60, 126, 255, 511] [(5, iA (f9 (w5 vs ars d 0 e.kids k) (c6 vs ars d (e.kids.getD k bW1))))] (iX k k e.kids.length []) (iK (by omega) bX6) fun G => i9 (b5 (z5 G c3 [(6, iA ((k : Int) + 1))] [wO ((k : Int) + 1)] (o1 (by omega)) fun G => b5 ?_)))))); exact H3 G (k + 1) (by omega) (by omega) (rg 5) (ht := by have e1 : (w5 vs ars d 0 e.kids (k + 1) : Int) = (f9 (w5 vs ars d 0 e.kids k) (c6 vs ars d (e.kids.getD k bW1))) := (M6 (by omega)); (first | rw [e1] | simp only [e1]) <;> rfl)
   ·
    refine z5 G c3 [(5, iA (ars.getD e.value.toNat 0))] [(0 : Int) ≤ e.value, e.value < (ars.length : Int), e.value.toNat < ars.length] ⟨((al2 he (by assumption)).1), ((al2 he (by assumption)).2.1), ((al2 he (by assumption)).2.2), bX6⟩ fun G => i9 (b5 (wp_seq (wp_seq (w3 G c3 [(2, .ptr 3 0), (3, .ptr 4 0), (4, iA 0), (5, iA (ars.getD e.value.toNat 0)), (6, iA 0)] fun G => b5 (wp_block ?_))))); refine k8 (κ := Nat) (fun k => k ≤ e.kids.length) (fun k => e.kids.length - k) (fun k => [dI vs, dI ars, dE e.kids, .box [.ref 0, .ref 1, .v (.slice none 0 0)], .box (eL e 2)]) (fun k => [(2, .ptr 3 0), (3, .ptr 4 0), (4, iA 0), (5, iA (w5 vs ars d (ars.getD e.value.toNat 0) e.kids k)), (6, iA k)]) 0 (by omega) (l7.at G _ _) ?_; clear G; intro k ρ a w hp G; have hlen : e.kids.length ≤ 9223372036854775807 := G.len 2 (d := .exprs e.kids) (by kernel_rfl); refine wp_seq (wp_seq (w3 G c3 [(2, .ptr 3 0), (3, .ptr 4 0), (4, iA 0), (5, iA (w5 vs ars d (ars.getD e.value.toNat 0) e.kids k)), (6, iA k), (29, bA (decide ((k : Int) < e.kids.length)))] fun G => b5 (I2 G (fun h3 q3 => ?_) fun h3 q3 => ?_)))
    · refine wp_exit (j9 (j9 (j7 (b5 (wp_seq (e5 G c3 [0, 1, 2] [dI vs, dI ars, dE e.kids] [(4, iA (w5 vs ars d (ars.getD e.value.toNat 0) e.kids k))] fun G => b5 (wp_ret ?_))))))); exact J9 (w5 vs ars d (ars.getD e.value.toNat 0) e.kids k) G [0, 1, 2] (S6 (by omega) (by simp [ao6, h0, q0, h1, q1, h3, q3]; done))
    · refine wp_skip (b5 (wp_seq (wp_block (T9 G (n5 7 [0, 1, 53] (ih (e.kids.getD k bW1) (M9 he (by omega)))) [0, 0, 0, 4, 0, 28, 60, 126, 255, 511] [(5, iA (f9 (w5 vs ars d (ars.getD e.value.toNat 0) e.kids k) (c6 vs ars d (e.kids.getD k bW1))))] (iX k k e.kids.length []) (iK (by omega) bX6) fun G => i9 (b5 (z5 G c3 [(6, iA ((k : Int) + 1))] [wO ((k : Int) + 1)] (o1 (by omega)) fun G => b5 ?_)))))); exact H3 G (k + 1) (by omega) (by omega) (rg 5) (ht := by have e1 : (w5 vs ars d (ars.getD e.value.toNat 0) e.kids (k + 1) : Int) = (f9 (w5 vs ars d (ars.getD e.value.toNat 0) e.kids k) (c6 vs ars d (e.kids.getD k bW1))) := (M6 (by omega)); (first | rw [e1] | simp only [e1]) <;> rfl)
  ·
   refine z5 G c3 [(5, iA (vs.getD e.value.toNat 0))] [(0 : Int) ≤ e.value, e.value < (vs.length : Int), e.value.toNat < vs.length] ⟨((al1 he (by assumption)).1), ((al1 he (by assumption)).2.1), ((al1 he (by assumption)).2.2), bX6⟩ fun G => i9 (b5 (wp_seq (wp_seq (w3 G c3 [(2, .ptr 3 0), (3, .ptr 4 0), (4, iA 0), (5, iA (vs.getD e.value.toNat 0)), (6, iA 0)] fun G => b5 (wp_block ?_))))); refine k8 (κ := Nat) (fun k => k ≤ e.kids.length) (fun k => e.kids.length - k) (fun k => [dI vs, dI ars, dE e.kids, .box [.ref 0, .ref 1, .v (.slice none 0 0)], .box (eL e 2)]) (fun k => [(2, .ptr 3 0), (3, .ptr 4 0), (4, iA 0), (5, iA (w5 vs ars d (vs.getD e.value.toNat 0) e.kids k)), (6, iA k)]) 0 (by omega) (l7.at G _ _) ?_; clear G; intro k ρ a w hp G; have hlen : e.kids.length ≤ 9223372036854775807 := G.len 2 (d := .exprs e.kids) (by kernel_rfl); refine wp_seq (wp_seq (w3 G c3 [(2, .ptr 3 0), (3, .ptr 4 0), (4, iA 0), (5, iA (w5 vs ars d (vs.getD e.value.toNat 0) e.kids k)), (6, iA k), (29, bA (decide ((k : Int) < e.kids.length)))] fun G => b5 (I2 G (fun h4 q4 => ?_) fun h4 q4 => ?_)))
   · refine wp_exit (j9 (j9 (j7 (b5 (wp_seq (e5 G c3 [0, 1, 2] [dI vs, dI ars, dE e.kids] [(4, iA (w5 vs ars d (vs.getD e.value.toNat 0) e.kids k))] fun G => b5 (wp_ret ?_))))))); exact J9 (w5 vs ars d (vs.getD e.value.toNat 0) e.kids k) G [0, 1, 2] (S6 (by omega) (by simp [ao6, h0, q0, h4, q4]; done))
   · refine wp_skip (b5 (wp_seq (wp_block (T9 G (n5 7 [0, 1, 53] (ih (e.kids.getD k bW1) (M9 he (by omega)))) [0, 0, 0, 4, 0, 28, 60, 126, 255, 511] [(5, iA (f9 (w5 vs ars d (vs.getD e.value.toNat 0) e.kids k) (c6 vs ars d (e.kids.getD k bW1))))] (iX k k e.kids.length []) (iK (by omega) bX6) fun G => i9 (b5 (z5 G c3 [(6, iA ((k : Int) + 1))] [wO ((k : Int) + 1)] (o1 (by omega)) fun G => b5 ?_)))))); exact H3 G (k + 1) (by omega) (by omega) (rg 5) (ht := by have e1 : (w5 vs ars d (vs.getD e.value.toNat 0) e.kids (k + 1) : Int) = (f9 (w5 vs ars d (vs.getD e.value.toNat 0) e.kids k) (c6 vs ars d (e.kids.getD k bW1))) := (M6 (by omega)); (first | rw [e1] | simp only [e1]) <;> rfl)
theorem aD4 (vs ars : List Int) : ∀ (d : Nat) (e : b7), c4 vs.length ars.length d e = true → d8.ok Tryz.prog (C9 68 [.agg [.ref 0, .ref 1, nlA], eA e 2] ([dI vs, dI ars] ++ eS e) (iA (c6 vs ars d e)))
 | 0, _, h => by simp [c4] at h
 | d + 1, e, h => aU9 vs ars d (aD4 vs ars d) e h
theorem N8 (vs ars : List Int) (ky vy : Int) (ks : List b7) (h : c4 vs.length ars.length 5 ⟨ky, vy, ks⟩ = true) : d8.ok Tryz.prog (C9 68 [.agg [.ref 0, .ref 1, nlA], .agg [iA ky, iA vy, .ref 2]] [dI vs, dI ars, dE ks] (iA (c6 vs ars 5 ⟨ky, vy, ks⟩))) := aD4 vs ars 5 ⟨ky, vy, ks⟩ h
theorem A7 (n : Int) : d8.ok Tryz.prog ⟨85, [iA n], [], [dE []], .agg [iA 1, iA n, .ref 0]⟩ := by
 refine t8 5 Tryz.func85 [] [(0, iA n)] fun G => ?_; refine wp_seq (e5 G c3 [0] [.box [iA 0, iA 0, .v (.slice none 0 0)]] [(0, iA n), (2, .ptr 0 0)] fun G => b5 (wp_seq (e5 G c3 [0] [.box [iA 1, iA n, .v (.slice none 0 0)]] [(2, .ptr 0 0)] fun G => b5 (wp_ret ?_)))); obtain ⟨ρ, G⟩ := G.nil 1 0 (.exprs []) 9 [.box [iA 1, iA n, .ref 1]] [(2, .ptr 0 0)]; obtain ⟨ρ, G⟩ := G.frz [.no, .row 0] [.box [iA 1, iA n, .ref 1], dE []] [(2, .ptr 0 0)]; exact A3 G [1]
theorem ab4 (n : Int) : d8.ok Tryz.prog ⟨66, [iA n], [], [dE []], .agg [iA 2, iA n, .ref 0]⟩ := by
 refine t8 5 Tryz.func66 [] [(0, iA n)] fun G => ?_; refine wp_seq (e5 G c3 [0] [.box [iA 0, iA 0, .v (.slice none 0 0)]] [(0, iA n), (2, .ptr 0 0)] fun G => b5 (wp_seq (e5 G c3 [0] [.box [iA 2, iA n, .v (.slice none 0 0)]] [(2, .ptr 0 0)] fun G => b5 (wp_ret ?_)))); obtain ⟨ρ, G⟩ := G.nil 1 0 (.exprs []) 9 [.box [iA 2, iA n, .ref 1]] [(2, .ptr 0 0)]; obtain ⟨ρ, G⟩ := G.frz [.no, .row 0] [.box [iA 2, iA n, .ref 1], dE []] [(2, .ptr 0 0)]; exact A3 G [1]
theorem S8 (k : Int) (ks : List b7) : d8.ok Tryz.prog ⟨86, [iA k, .ref 0], [.row 73 (.exprs ks)], [dE ks], .agg [iA k, iA 0, .ref 0]⟩ := by
 refine t8 8 Tryz.func86 [.row 73 (D.exprs ks)] [(0, iA k), (1, .ref 0)] fun G => ?_; refine wp_seq (e5 G c3 [0, 1] [.row 73 (D.exprs ks), .box [iA 0, iA 0, .v (.slice none 0 0)]] [(0, iA k), (1, .ref 0), (4, .ptr 1 0)] fun G => b5 (wp_seq (e5 G c3 [0, 1] [.row 73 (D.exprs ks), .box [iA k, iA 0, .ref 0]] [(4, .ptr 1 0)] fun G => b5 (wp_ret ?_)))); obtain ⟨ρ, G⟩ := G.frz [.row 73] [dE ks, .box [iA k, iA 0, .ref 0]] [(4, .ptr 1 0)]; exact A3 G [0]
theorem aj3 (n ky vy : Int) (ks : List b7) : d8.ok Tryz.prog ⟨71, [iA n, .agg [iA ky, iA vy, .ref 0]], [dE ks], [dE ks, dE [⟨ky, vy, ks⟩]], .agg [iA 3, iA n, .ref 1]⟩ := by
 refine t8 9 Tryz.func71 [dE ks] [(0, iA n), (1, .agg [iA ky, iA vy, .ref 0])] fun G => ?_; refine wp_seq (e5 G c3 [0, 1, 9] [dE ks, .box [iA ky, iA vy, .ref 0], .box [iA 0, iA 0, .v (.slice none 0 0)]] [(0, iA n), (3, .ptr 1 0), (4, .ptr 2 0)] fun G => b5 (wp_seq (e5 G c3 [0, 2, 19] [dE ks, .box [iA 3, iA n, .ref 2], .row 73 (D.exprs ([b7.mk ky vy ks] ++ []))] [(4, .ptr 1 0)] fun G => b5 (wp_ret ?_)))); obtain ⟨ρ, G⟩ := G.frz [.no, .no, .row 73] [dE ks, .box [iA 3, iA n, .ref 2], dE ([b7.mk ky vy ks] ++ [])] [(4, .ptr 1 0)]; exact A3 G [0, 2]
theorem a61 (ky vy : Int) (ks : List b7) (k : Int) : d8.ok Tryz.prog ⟨87, [.agg [iA ky, iA vy, .ref 0], iA k], [dE ks], [dE ks, dE (W5 ⟨ky, vy, ks⟩ k).kids], .agg [iA 9, iA 0, .ref 1]⟩ := by
 refine t8 13 Tryz.func87 [dE ks] [(0, .agg [iA ky, iA vy, .ref 0]), (1, iA k)] fun G => ?_; refine wp_seq (e5 G c3 [0, 1, 9] [dE ks, .box [iA ky, iA vy, .ref 0], .box [iA 0, iA 0, .v (.slice none 0 0)]] [(1, iA k), (2, .ptr 1 0), (4, .ptr 2 0)] fun G => b5 (wp_seq (F6 G (l9 (f6 1 [] (A7 3) (f6 3 [19] (S8 7 ([b7.mk ky vy ks] ++ ([b7.mk 1 3 []] ++ []))) (f6 5 [] (A7 k) (f6 7 [51] (S8 9 ([b7.mk 7 0 ([b7.mk ky vy ks] ++ ([b7.mk 1 3 []] ++ []))] ++ ([b7.mk 1 k []] ++ []))) l8)))) fz []) [0, 0, 3, 7, 0, 31, 63, 127, 255] [0, 2, 51] [dE ks, .box [iA 9, iA 0, .ref 2], dE ([b7.mk 7 0 ([b7.mk ky vy ks] ++ ([b7.mk 1 3 []] ++ []))] ++ ([b7.mk 1 k []] ++ []))] [(4, .ptr 1 0)] fun G => b5 (wp_ret ?_)))); exact A3 G [0, 2]
theorem bL1 {m : Int} {e f : b7} (h : m < 0) : t3 m e f = e := if_pos h
theorem bL0 {m : Int} {e f : b7} (h : ¬ m < 0) : t3 m e f = seE (vrE m) e f := if_neg h
theorem a73 (m k1 v1 k2 v2 : Int) (s1 s2 : List b7) (hm : m < 0) : d8.ok Tryz.prog ⟨65, [iA m, .agg [iA k1, iA v1, .ref 0], .agg [iA k2, iA v2, .ref 1]], [dE s1, dE s2], [dE s1, dE s2], .agg [iA k1, iA v1, .ref 0]⟩ := by
 refine t8 16 Tryz.func65 [dE s1, dE s2] [(0, iA m), (1, .agg [iA k1, iA v1, .ref 0]), (2, .agg [iA k2, iA v2, .ref 1])] fun G => ?_; refine wp_seq (e5 G c3 [0, 1, 2, 10, 18] [dE s1, dE s2, .box [iA k1, iA v1, .ref 0], .box [iA k2, iA v2, .ref 1], .box [iA 0, iA 0, .v (.slice none 0 0)]] [(0, iA m), (4, .ptr 2 0), (5, .ptr 3 0), (6, .ptr 4 0)] fun G => b5 (wp_seq (wp_seq (w3 G c3 [(0, iA m), (4, .ptr 2 0), (5, .ptr 3 0), (6, .ptr 4 0), (8, bA (decide (m < 0)))] fun G => b5 ?_)))); cases h0 : (decide (m < 0))
 ·have q0 := O4 h0; exact False.elim (by omega)
 ·have q0 := O3 h0; refine rT G _ h0 (wp_seq (e5 G c3 (rg 5) [dE s1, dE s2, .box [iA k1, iA v1, .ref 0], .box [iA k2, iA v2, .ref 1], .box [iA k1, iA v1, .ref 0]] [(0, iA m), (4, .ptr 2 0), (5, .ptr 3 0), (6, .ptr 4 0)] fun G => b5 (wp_ret (c8 ?_)))); exact A3 G [0, 1]
theorem a72 (m k1 v1 k2 v2 : Int) (s1 s2 : List b7) (hm : ¬ m < 0) : d8.ok Tryz.prog ⟨65, [iA m, .agg [iA k1, iA v1, .ref 0], .agg [iA k2, iA v2, .ref 1]], [dE s1, dE s2], [dE s1, dE s2, dE (seE (vrE m) ⟨k1, v1, s1⟩ ⟨k2, v2, s2⟩).kids], .agg [iA 11, iA 0, .ref 2]⟩ := by
 refine t8 16 Tryz.func65 [dE s1, dE s2] [(0, iA m), (1, .agg [iA k1, iA v1, .ref 0]), (2, .agg [iA k2, iA v2, .ref 1])] fun G => ?_; refine wp_seq (e5 G c3 [0, 1, 2, 10, 18] [dE s1, dE s2, .box [iA k1, iA v1, .ref 0], .box [iA k2, iA v2, .ref 1], .box [iA 0, iA 0, .v (.slice none 0 0)]] [(0, iA m), (4, .ptr 2 0), (5, .ptr 3 0), (6, .ptr 4 0)] fun G => b5 (wp_seq (wp_seq (w3 G c3 [(0, iA m), (4, .ptr 2 0), (5, .ptr 3 0), (6, .ptr 4 0), (8, bA (decide (m < 0)))] fun G => b5 ?_)))); cases h0 : (decide (m < 0))
 ·have q0 := O4 h0; refine rF G _ h0 (wp_skip (b5 (wp_seq (F6 G (l9 (f6 1 [] (ab4 m) (f6 5 [37] (S8 11 ([b7.mk 2 m []] ++ ([b7.mk k1 v1 s1] ++ ([b7.mk k2 v2 s2] ++ [])))) l8)) fz []) [0, 1, 0, 0, 15, 31, 63] [0, 1, 4, 37] [dE s1, dE s2, .box [iA 11, iA 0, .ref 3], dE ([b7.mk 2 m []] ++ ([b7.mk k1 v1 s1] ++ ([b7.mk k2 v2 s2] ++ [])))] [(6, .ptr 2 0)] fun G => b5 (wp_ret ?_))))); exact A3 G [0, 1, 3]
 ·have q0 := O3 h0; exact False.elim (by omega)
theorem Z2 (m k1 v1 k2 v2 : Int) (s1 s2 : List b7) : d8.ok Tryz.prog ⟨65, [iA m, .agg [iA k1, iA v1, .ref 0], .agg [iA k2, iA v2, .ref 1]], [dE s1, dE s2], [dE s1, dE s2, dE (t3 m ⟨k1, v1, s1⟩ ⟨k2, v2, s2⟩).kids], .agg [iA (t3 m ⟨k1, v1, s1⟩ ⟨k2, v2, s2⟩).kind, iA (t3 m ⟨k1, v1, s1⟩ ⟨k2, v2, s2⟩).value, .ref 2]⟩ := by
 by_cases hm : m < 0
 ·rw [bL1 hm]
  exact d8.dupPost (S := [dE s1, dE s2]) (d := .exprs s1) (i := 0) (a73 m k1 v1 k2 v2 s1 s2 hm) rfl (bX4 _) rfl (fun ρ h => by
   have h : ρ 2 = ρ 0 := h
   simp only [AV.val, AV.vals, h]; rfl) rfl
 ·rw [bL0 hm]
  exact a72 m k1 v1 k2 v2 s1 s2 hm
theorem ab5 (vs ars : List Int) (bd : List b6) (l : Int) (hl : vs.length ≤ 8000000) : d8.ok Tryz.prog ⟨84, [.agg [.ref 0, .ref 1, nlA, .ref 2], iA l], [qI vs, dI ars, qT bd], [qI vs, dI ars, qT bd, qI (vs ++ [l])], .tup [.agg [.ref 3, .ref 1, nlA, .ref 2], iA (vs.length : Int)]⟩ := by
 refine t8 22 Tryz.func84 [.row 3 (D.ints vs), dI ars, .row 75 (D.stmts bd)] [(0, .agg [.ref 0, .ref 1, .v (.slice none 0 0), .ref 2]), (1, iA l)] fun G => ?_; refine wp_seq (e5 G c3 [0, 1, 2, 3, 11] [.row 3 (D.ints vs), dI ars, .row 75 (D.stmts bd), .box [.ref 0, .ref 1, .v (.slice none 0 0), .ref 2], .box [.v (.slice none 0 0), .v (.slice none 0 0), .v (.slice none 0 0), .v (.slice none 0 0)]] [(1, iA l), (2, .ptr 3 0), (4, .ptr 4 0), (5, iA 0)] fun G => b5 (wp_seq (L6 G c3 [0, 1, 2, 3, 4, 61] [.row 3 (D.ints vs), dI ars, .row 75 (D.stmts bd), .box [.ref 5, .ref 1, .v (.slice none 0 0), .ref 2], .box [.v (.slice none 0 0), .v (.slice none 0 0), .v (.slice none 0 0), .v (.slice none 0 0)], .row 3 (D.ints ([] ++ vs ++ ([l] ++ [])))] [(2, .ptr 3 0), (4, .ptr 4 0), (5, iA 0)] (aP ((0 : Nat) + vs.length) 8 (aP (([] ++ vs).length + 1) 8 [])) (aK (by omega) (aK (by simp only [bX5, bX2, bY9]; omega) bX6)) fun G => b5 (wp_seq (F0 G c3 [0, 0, 2, 6, 14, 30, 1, 127] [0, 1, 2, 4, 5] [.row 3 (D.ints vs), dI ars, .row 75 (D.stmts bd), .box [.ref 4, .ref 1, .v (.slice none 0 0), .ref 2], .row 3 (D.ints ([] ++ vs ++ ([l] ++ [])))] [(4, .ptr 3 0), (5, iA ((([] ++ vs ++ ([l] ++ [])).length : Int) - 1))] [wO ((([] ++ vs ++ ([l] ++ [])).length : Int) - 1)] ⟨(w64 (by simp only [bX5, bX2, bY9]; omega) (by simp only [bX5, bX2, bY9]; omega)), bX6⟩ fun G => b5 (wp_ret ?_)))))); exact M0 (.tup [.agg [.ref 4, .ref 1, .v (.slice none 0 0), .ref 2], iA ((([] ++ vs ++ ([l] ++ [])).length : Int) - 1)]) G [0, 1, 2, 4] (by have e1 : ((vs.length : Int) : Int) = ((([] ++ vs ++ ([l] ++ [])).length : Int) - 1) := (by simp only [bX5, bX2, bY9]; omega); (first | rw [e1] | simp only [e1]) <;> rfl)
theorem H7 (vs ars : List Int) (bd : List b6) (v ky vy : Int) (ks : List b7) (hl : bd.length ≤ 800000) : d8.ok Tryz.prog ⟨64, [.agg [.ref 0, .ref 1, nlA, .ref 2], iA v, .agg [iA ky, iA vy, .ref 3]], [qI vs, dI ars, qT bd, dE ks], [qI vs, dI ars, .dead, dE ks, qT (bd ++ [K1 v ⟨ky, vy, ks⟩])], .agg [.ref 0, .ref 1, nlA, .ref 4]⟩ := by
 refine t8 16 Tryz.func64 [.row 3 (D.ints vs), dI ars, .row 75 (D.stmts bd), dE ks] [(0, .agg [.ref 0, .ref 1, .v (.slice none 0 0), .ref 2]), (1, iA v), (2, .agg [iA ky, iA vy, .ref 3])] fun G => ?_; refine wp_seq (e5 G c3 [0, 1, 2, 3, 4, 12, 20] [.row 3 (D.ints vs), dI ars, .row 75 (D.stmts bd), dE ks, .box [.ref 0, .ref 1, .v (.slice none 0 0), .ref 2], .box [iA ky, iA vy, .ref 3], .box [.v (.slice none 0 0), .v (.slice none 0 0), .v (.slice none 0 0), .v (.slice none 0 0)]] [(1, iA v), (3, .ptr 4 0), (5, .ptr 5 0), (6, .ptr 6 0)] fun G => b5 (wp_seq (L6 G c3 [0, 1, 2, 3, 4, 6, 55] [.row 3 (D.ints vs), dI ars, .dead, dE ks, .box [.ref 0, .ref 1, .v (.slice none 0 0), .ref 6], .box [.v (.slice none 0 0), .v (.slice none 0 0), .v (.slice none 0 0), .v (.slice none 0 0)], .row 75 (D.stmts (bd ++ ([b6.mk 1 v (b7.mk 0 0 []) (b7.mk ky vy ks) 0 [] []] ++ [])))] [(3, .ptr 4 0), (6, .ptr 5 0)] (aP (bd.length + 1) 152 []) (aK (by omega) bX6) fun G => b5 (wp_seq (e5 G c3 [0, 1, 2, 3, 5, 6] [.row 3 (D.ints vs), dI ars, .dead, dE ks, .box [.ref 0, .ref 1, .v (.slice none 0 0), .ref 5], .row 75 (D.stmts (bd ++ ([b6.mk 1 v (b7.mk 0 0 []) (b7.mk ky vy ks) 0 [] []] ++ [])))] [(6, .ptr 4 0)] fun G => b5 (wp_ret ?_)))))); exact A3 G [0, 1, 2, 3, 5]
abbrev leC (ars : List Int) (pc : Int) (vs : List Int) (bd : List b6) (e : b7) : d8 := ⟨63, [.agg [.ref 0, .ref 1, nlA, .ref 2], eA e 3, iA pc], [qI vs, dI ars, qT bd, dE e.kids], [.dead, dI ars, .dead, dE e.kids, qI (b9 ars pc e (vs, bd)).1.1, qT (b9 ars pc e (vs, bd)).1.2, dE (b9 ars pc e (vs, bd)).2.kids], .tup [.agg [.ref 4, .ref 1, nlA, .ref 5], .agg [iA (b9 ars pc e (vs, bd)).2.kind, iA (b9 ars pc e (vs, bd)).2.value, .ref 6]]⟩
abbrev xE (ars : List Int) (pc : Int) (vs : List Int) (bd : List b6) (e : b7) (k : Nat) : V5 × List b7 := n9 ars pc (e.kids.take k) (vs, bd)
section
variable {ars vs : List Int} {pc : Int} {bd : List b6} {e : b7} {d k : Nat}
theorem ak6 (he : c4 vs.length ars.length (d + 1) e = true) (k : Nat) : Grw vs.length ars.length d (j3 (e.kids.take k)) (vs, bd) (xE ars pc vs bd e k).1 := by
 rw [c4] at he
 simp only [bW2, bX0] at he
 exact (a39 (ars := ars) (pc := pc) (na := ars.length) (d := d) (fun e s h => aa6 ars pc ars.length d e s h) (e.kids.take k) (vs, bd) fun x hx => he.1.2 x (List.mem_of_mem_take hx)).1
theorem bA0 (he : c4 vs.length ars.length (d + 1) e = true) (r1 : vs.length + (1 + s5 e) ≤ 100000) (r2 : c9 bd + 40 * (1 + s5 e) ≤ 700000) (k : Nat) : (xE ars pc vs bd e k).1.1.length + 1 ≤ 100000 ∧ (xE ars pc vs bd e k).1.2.length + 40 ≤ 700000 ∧ vs.length ≤ (xE ars pc vs bd e k).1.1.length := by
 have h := ak6 (ars := ars) (pc := pc) (bd := bd) he k
 have h1 := ah0 e.kids k
 have h2 := t6 e
 have h3 := D8 (xE ars pc vs bd e k).1.2
 have a := h.lo; have b := h.hi; have c := h.st
 simp only at a b c
 omega
theorem bz9 (he : c4 vs.length ars.length (d + 1) e = true) (hk : k < e.kids.length) : c4 (xE ars pc vs bd e k).1.1.length ars.length d (e.kids.getD k bW1) = true :=
 x6 (ak6 (pc := pc) (bd := bd) he k).lo d _ (M9 he hk)
theorem bG2 (he : c4 vs.length ars.length (d + 1) e = true) (r1 : vs.length + (1 + s5 e) ≤ 100000) (hk : k < e.kids.length) : (xE ars pc vs bd e k).1.1.length + (1 + s5 (e.kids.getD k bW1)) ≤ 100000 := by
 have h := (ak6 (pc := pc) (bd := bd) he k).hi
 have h1 := (a17 e.kids k).2.1 hk
 have h2 := t6 e
 simp only at h
 omega
theorem bG1 (he : c4 vs.length ars.length (d + 1) e = true) (r2 : c9 bd + 40 * (1 + s5 e) ≤ 700000) (hk : k < e.kids.length) : c9 (xE ars pc vs bd e k).1.2 + 40 * (1 + s5 (e.kids.getD k bW1)) ≤ 700000 := by
 have h := (ak6 (pc := pc) (bd := bd) he k).st
 have h1 := (a17 e.kids k).2.1 hk
 have h2 := t6 e
 simp only at h
 omega
theorem bF8 (hk : k < e.kids.length) : (xE ars pc vs bd e (k + 1)).1.1 = (b9 ars pc (e.kids.getD k bW1) ((xE ars pc vs bd e k).1.1, (xE ars pc vs bd e k).1.2)).1.1 := by unfold xE; rw [af0 hk]
theorem bF7 (hk : k < e.kids.length) : (xE ars pc vs bd e (k + 1)).1.2 = (b9 ars pc (e.kids.getD k bW1) ((xE ars pc vs bd e k).1.1, (xE ars pc vs bd e k).1.2)).1.2 := by unfold xE; rw [af0 hk]
theorem bF6 (hk : k < e.kids.length) : (xE ars pc vs bd e (k + 1)).2 = (xE ars pc vs bd e k).2 ++ [⟨(b9 ars pc (e.kids.getD k bW1) ((xE ars pc vs bd e k).1.1, (xE ars pc vs bd e k).1.2)).2.kind, (b9 ars pc (e.kids.getD k bW1) ((xE ars pc vs bd e k).1.1, (xE ars pc vs bd e k).1.2)).2.value, (b9 ars pc (e.kids.getD k bW1) ((xE ars pc vs bd e k).1.1, (xE ars pc vs bd e k).1.2)).2.kids⟩] := by unfold xE; rw [af0 hk, b7.eta]
theorem bz8 (k : Nat) : (xE ars pc vs bd e k).2.length ≤ e.kids.length := by
 have h : ∀ (ks : List b7) (s : V5), (n9 ars pc ks s).2.length = ks.length := by
  intro ks
  induction ks with
  | nil => intro s; rfl
  | cons x r ih => intro s; rw [n9, bX2, ih, bX2]
 unfold xE; rw [h, List.length_take]; exact Nat.min_le_right _ _
theorem bc0 (hk : e.kids.length ≤ k) (hn : ¬ (e.kind = 3 ∧ Q5 (c6 (xE ars pc vs bd e k).1.1 ars 5 (e.kids.getD 0 bW1)) = true)) : b9 ars pc e (vs, bd) = ((xE ars pc vs bd e k).1, ⟨e.kind, e.value, (xE ars pc vs bd e k).2⟩) := by
 unfold xE at hn ⊢
 rw [bX3 hk] at hn ⊢
 rw [av7, if_neg hn]
theorem bz7 (hk : e.kids.length ≤ k) (h3 : e.kind = 3) (hs : Q5 (c6 (xE ars pc vs bd e k).1.1 ars 5 (e.kids.getD 0 bW1)) = true) : b9 ars pc e (vs, bd) = (((xE ars pc vs bd e k).1.1 ++ [f9 (c6 (xE ars pc vs bd e k).1.1 ars 5 e) pc], (xE ars pc vs bd e k).1.2 ++ rdL ((xE ars pc vs bd e k).1.1.length : Int) e.value (e.kids.getD 0 bW1) 3), vrE ((xE ars pc vs bd e k).1.1.length : Int)) := by
 unfold xE at hs ⊢
 rw [bX3 hk] at hs ⊢
 rw [av7, if_pos ⟨h3, hs⟩]
abbrev kE (e : b7) : b7 := ⟨(e.kids.getD 0 bW1).kind, (e.kids.getD 0 bW1).value, (e.kids.getD 0 bW1).kids⟩
theorem bj0 (e : b7) : kE e = e.kids.getD 0 bW1 := b7.eta _
theorem bF9 (he : c4 vs.length ars.length (d + 1) e = true) (hd : d + 1 ≤ 5) (h3 : e.kind = 3) : c4 (xE ars pc vs bd e k).1.1.length ars.length 5 (kE e) = true := by
 rw [bj0]
 have := at9 he h3
 exact aM5 (by omega) (x6 (ak6 (pc := pc) (bd := bd) he k).lo d _ (M9 he this))
theorem bG0 (he : c4 vs.length ars.length (d + 1) e = true) (hd : d + 1 ≤ 5) : c4 (xE ars pc vs bd e k).1.1.length ars.length 5 ⟨e.kind, e.value, e.kids⟩ = true := by
 rw [b7.eta]
 exact aM5 hd (x6 (ak6 (pc := pc) (bd := bd) he k).lo (d + 1) _ he)
theorem aF6 (hk : e.kids.length ≤ k) (hn : ¬ e.kind = 3) : b9 ars pc e (vs, bd) = ((xE ars pc vs bd e k).1, ⟨e.kind, e.value, (xE ars pc vs bd e k).2⟩) := bc0 hk fun h => hn h.1
theorem aF5 (hk : e.kids.length ≤ k) (hs : (!(c5 (c6 (xE ars pc vs bd e k).1.1 ars 5 (kE e)) && decide (c6 (xE ars pc vs bd e k).1.1 ars 5 (kE e) % 2 = 1))) = true) : b9 ars pc e (vs, bd) = ((xE ars pc vs bd e k).1, ⟨e.kind, e.value, (xE ars pc vs bd e k).2⟩) := by
 rw [bj0, bW6] at hs
 exact bc0 hk fun h => by
  have h5 := h.2
  unfold Q5 at h5
  rw [hs] at h5; cases h5
theorem ap3 (hk : e.kids.length ≤ k) (h3 : e.kind = 3) (hs : (!(c5 (c6 (xE ars pc vs bd e k).1.1 ars 5 (kE e)) && decide (c6 (xE ars pc vs bd e k).1.1 ars 5 (kE e) % 2 = 1))) = false) : b9 ars pc e (vs, bd) = (((xE ars pc vs bd e k).1.1 ++ [f9 (c6 (xE ars pc vs bd e k).1.1 ars 5 ⟨e.kind, e.value, e.kids⟩) pc], (xE ars pc vs bd e k).1.2 ++ rdL ((xE ars pc vs bd e k).1.1.length : Int) e.value (kE e) 3), vrE ((xE ars pc vs bd e k).1.1.length : Int)) := by
 rw [bj0] at hs ⊢
 rw [b7.eta]
 rw [bW7] at hs
 exact bz7 hk h3 hs
theorem bo4 {j : Nat} (hj : j = 3) (hk : e.kids.length ≤ k) (h3 : e.kind = 3) (hs : (!(c5 (c6 (xE ars pc vs bd e k).1.1 ars 5 (kE e)) && decide (c6 (xE ars pc vs bd e k).1.1 ars 5 (kE e) % 2 = 1))) = false) : (b9 ars pc e (vs, bd)).1.2 = (xE ars pc vs bd e k).1.2 ++ rdL ((xE ars pc vs bd e k).1.1.length : Int) e.value (kE e) j := by
 rw [hj, ap3 hk h3 hs]
theorem bS0 {v a : Int} {i : b7} {j : Nat} : bd ++ rdL v a i (j + 1) = bd ++ rdL v a i j ++ [K1 v ⟨11, 0, [⟨9, 0, (W5 i ((j : Int) + 1)).kids⟩, ⟨3, a, [⟨1, (j : Int) + 1, []⟩]⟩, ⟨2, v, []⟩]⟩] := by
 rw [rdL, List.append_assoc]; rfl
end
abbrev ak5 (e : b7) := n4 (e.kids.getD 0 bW1)
abbrev aF2 (e : b7) (ars : List Int) (pc : Int) (vs : List Int) (bd : List b6) (k : Nat) := c6 (xE ars pc vs bd e k).fst.fst ars 5 (n4 e)
abbrev ae1 (e : b7) (ars : List Int) (pc : Int) (vs : List Int) (bd : List b6) (k : Nat) := b9 ars pc (e.kids.getD k bW1) (xE ars pc vs bd e k).fst
abbrev ak4 (e : b7) (ars : List Int) (pc : Int) (vs : List Int) (bd : List b6) : List It := [.dead, dI ars, .dead, dE e.kids, .row 3 (D.ints (b9 ars pc e (vs, bd)).fst.fst), .row 75 (D.stmts (b9 ars pc e (vs, bd)).fst.snd), dE (b9 ars pc e (vs, bd)).snd.kids]
abbrev M7 : It := .box [.v (.slice none 0 0), .v (.slice none 0 0), .v (.slice none 0 0), .v (.slice none 0 0)]
abbrev J5 : It := .box [iA 0, iA 0, .v (.slice none 0 0)]
abbrev as0 (e : b7) (ars : List Int) (pc : Int) (vs : List Int) (bd : List b6) (k : Nat) : It := .row 3 (D.ints ((xE ars pc vs bd e k).fst.fst ++ [f9 (aF2 e ars pc vs bd k) pc]))
abbrev X2 : It := .box [.ref 8, .ref 1, .v (.slice none 0 0), .ref 9]
abbrev y7 (r0 : List (Nat × AV)) : List (Nat × AV) := (3, .ptr 4 0) :: (4, .ptr 5 0) :: (6, .ptr 6 0) :: (7, .ptr 7 0) :: r0
abbrev ad8 (e : b7) (ars : List Int) (pc : Int) (vs : List Int) (bd : List b6) (k : Nat) (r0 : List It) : List It := .row 3 (D.ints (xE ars pc vs bd e k).fst.fst) :: .row 75 (D.stmts (xE ars pc vs bd e k).fst.snd) :: r0
abbrev ar2 (e : b7) (ars : List Int) (r0 : List It) : List It := .dead :: dI ars :: .dead :: dE e.kids :: .box [.ref 9, .ref 1, .v (.slice none 0 0), .ref 10] :: .box (eL e 3) :: r0
abbrev aT1 (r0 : List It) : List It := .box [.v (.slice none 0 0), .v (.slice none 0 0), .v (.slice none 0 0), .v (.slice none 0 0)] :: .box [iA 0, iA 0, .v (.slice none 0 0)] :: r0
theorem be5 (e : b7) (ars : List Int) (pc : Int) (d : Nat) (hd : d + 1 ≤ 5) (ih : ∀ (u : b7), u ∈ e.kids → ∀ (vs : List Int) (bd : List b6), c4 vs.length ars.length d u = true → vs.length + (1 + s5 u) ≤ 100000 → c9 bd + 40 * (1 + s5 u) ≤ 700000 → d8.ok Tryz.prog (leC ars pc vs bd u))
    (vs : List Int) (bd : List b6) (he : c4 vs.length ars.length (d + 1) e = true) (r1 : vs.length + (1 + s5 e) ≤ 100000) (r2 : c9 bd + 40 * (1 + s5 e) ≤ 700000) : d8.ok Tryz.prog (leC ars pc vs bd e) := by
  refine t8 102 Tryz.func63 [.row 3 (D.ints vs), dI ars, .row 75 (D.stmts bd), dE e.kids] [(0, .agg [.ref 0, .ref 1, .v (.slice none 0 0), .ref 2]), (1, eA e 3), (2, iA pc)] fun G => ?_
  have hlen : e.kids.length ≤ s5 e := by cases e; exact at3 _
  have hb := bA0 (ars := ars) (pc := pc) (bd := bd) he r1 r2; refine wp_seq (e5 G c3 [0, 1, 2, 3, 4, 12, 20, 28] [.row 3 (D.ints vs), dI ars, .row 75 (D.stmts bd), dE e.kids, .box [.ref 0, .ref 1, .v (.slice none 0 0), .ref 2], .box (eL e 3), M7, J5] ((2, iA pc) :: (y7 [])) fun G => b5 (wp_seq (e5 G c3 [0, 1, 2, 3, 4, 5, 6, 7, 48] [.row 3 (D.ints vs), dI ars, .row 75 (D.stmts bd), dE e.kids, .box [.ref 0, .ref 1, .v (.slice none 0 0), .ref 2], .box (eL e 3), M7, J5, .box [iA e.kind, iA e.value, .v (.slice none 0 0)]] ((2, iA pc) :: (y7 [(8, .ptr 8 0)])) fun G => b5 (wp_seq (wp_seq (w3 G c3 ((2, iA pc) :: (y7 [(8, .ptr 8 0), (9, iA 0)])) fun G => b5 (wp_block ?_))))))); obtain ⟨ρ, G⟩ := G.shift 0 9 (.dead :: dI ars :: .row 75 (D.stmts bd) :: dE e.kids :: .box [.ref 9, .ref 1, .v (.slice none 0 0), .ref 2] :: .box (eL e 3) :: (aT1 [.box [iA e.kind, iA e.value, .v (.slice none 0 0)], .row 3 (D.ints vs)])) ((2, iA pc) :: (y7 [(8, .ptr 8 0), (9, iA 0)])); obtain ⟨ρ, G⟩ := G.shift 2 10 (ar2 e ars (aT1 [.box [iA e.kind, iA e.value, .v (.slice none 0 0)], .row 3 (D.ints vs), .row 75 (D.stmts bd)])) ((2, iA pc) :: (y7 [(8, .ptr 8 0), (9, iA 0)])); obtain ⟨ρ, G⟩ := G.nil 11 73 (.exprs []) 9 (ar2 e ars (aT1 [.box (eL e 11), .row 3 (D.ints vs), .row 75 (D.stmts bd)])) ((2, iA pc) :: (y7 [(8, .ptr 8 0), (9, iA 0)])); refine k8 (κ := Nat) (fun k => k ≤ e.kids.length) (fun k => e.kids.length - k) (fun k => [.dead, dI ars, .dead, dE e.kids, .box [.ref 9, .ref 1, .v (.slice none 0 0), .ref 10], .box (eL e 3), .box [.v (.slice none 0 0), .v (.slice none 0 0), .v (.slice none 0 0), .v (.slice none 0 0)], .box [iA 0, iA 0, .v (.slice none 0 0)], .box (eL e 11), .row 3 (.ints (xE ars pc vs bd e k).1.1), .row 75 (.stmts (xE ars pc vs bd e k).1.2), .row 73 (.exprs (xE ars pc vs bd e k).2)]) (fun k => [(2, iA pc), (3, .ptr 4 0), (4, .ptr 5 0), (6, .ptr 6 0), (7, .ptr 7 0), (8, .ptr 8 0), (9, iA k)]) 0 (by omega) (l7.at G _ _) ?_; clear G; intro k ρ a w hp G; replace G := l7.at G (ar2 e ars (M7 :: J5 :: .box (eL e 11) :: (ad8 e ars pc vs bd k [.row 73 (D.exprs (xE ars pc vs bd e k).snd)]))) ((2, iA pc) :: (y7 [(8, .ptr 8 0), (9, iA k)])); have hbk := hb k; have hxl := bz8 (ars := ars) (pc := pc) (vs := vs) (bd := bd) (e := e) k; refine wp_seq (wp_seq (d9 G c3 [(22, bA (decide ((k : Int) < e.kids.length)))] fun G => b5 (I2 G (fun h0 q0 => ?_) fun h0 q0 => ?_)))
  ·
   refine wp_exit (j9 (j9 (j7 (b5 (wp_seq (wp_seq ?_)))))); cases h1 : (e.kind != 3)
   ·
    have q1 := bne_eq_false_iff_eq.1 h1; refine T9 G (l9 (f6 10 [9, 1, 84] (d8.lend (N8 ((xE ars pc vs bd e k).fst.fst) ars ((e.kids.getD 0 bW1).kind) ((e.kids.getD 0 bW1).value) ((e.kids.getD 0 bW1).kids) (bF9 he hd (by omega))) [.row 3]) (f6 11 [] (A9 (c6 (xE ars pc vs bd e k).fst.fst ars 5 (ak5 e))) l8)) (fc h1 fz) (us [(4, 12, 0), (1013, 1013, 0)])) [0, 1, 3, 7, 15, 31, 15, 79, 207, 463, 1023, 2047, 4095, 8191] [(56, .v (.bool !(c5 (c6 (xE ars pc vs bd e k).fst.fst ars 5 (ak5 e)) && decide (c6 (xE ars pc vs bd e k).fst.fst ars 5 (ak5 e) % 2 = 1))))] (iX 0 0 e.kids.length []) (iK (by have := at9 he (by omega); omega) bX6) fun G => b5 ?_; cases h2 : (!(c5 (c6 (xE ars pc vs bd e k).fst.fst ars (5 : Nat) (n4 (e.kids.getD (0 : Nat) bW1))) && decide (c6 (xE ars pc vs bd e k).fst.fst ars (5 : Nat) (n4 (e.kids.getD (0 : Nat) bW1)) % (2 : Int) = 1)))
    ·
     have q2 : ((c5 (c6 (xE ars pc vs bd e k).fst.fst ars 5 (n4 (e.kids.getD 0 bW1)))) = true) ∧ (c6 (xE ars pc vs bd e k).fst.fst ars 5 (n4 (e.kids.getD 0 bW1)) % 2 = 1) := (fun hq => And.imp (fun hq => (hq)) (fun hq => of_decide_eq_true hq) (bY8.1 hq)) (Eq.mp (bW7 _) h2); refine rF G _ h2 (wp_skip (b5 (wp_seq (e5 G c3 [0, 1, 2, 3, 4, 5, 6, 7, 9, 10] (.dead :: dI ars :: .dead :: dE e.kids :: X2 :: .box (eL e 3) :: M7 :: J5 :: (ad8 e ars pc vs bd k [])) ((2, iA pc) :: (y7 [(11, iA 0)])) fun G => b5 (wp_seq (F6 G (l9 (f6 4 [8, 1, 3] (d8.lend (N8 ((xE ars pc vs bd e k).fst.fst) ars e.kind e.value e.kids (bG0 he hd)) [.row 3]) (f6 7 [8, 1, 9] (ab5 ((xE ars pc vs bd e k).fst.fst) ars ((xE ars pc vs bd e k).fst.snd) (f9 (aF2 e ars pc vs bd k) pc) (by omega)) l8)) fz []) [0, 0, 2, 0, 14, 0, 62, 127, 255, 511, 511, 1023, 4095] [0, 1, 2, 3, 4, 5, 6, 7, 9, 66] [.dead, dI ars, .dead, dE e.kids, .box [.ref 9, .ref 1, .v (.slice none 0 0), .ref 8], .box (eL e 3), M7, J5, .row 75 (D.stmts (xE ars pc vs bd e k).fst.snd), as0 e ars pc vs bd k] (y7 [(11, iA ((xE ars pc vs bd e k).fst.fst.length : Int))]) fun G => b5 (wp_seq (F6 G (l9 (f6 4 [] (A7 0) (f6 5 [42] (aj3 e.value 1 0 ([])) (f6 6 [9, 1, 8, 50] (H7 ((xE ars pc vs bd e k).fst.fst ++ [f9 (aF2 e ars pc vs bd k) pc]) ars ((xE ars pc vs bd e k).fst.snd) (((xE ars pc vs bd e k).fst.fst.length : Int)) 3 e.value ([b7.mk 1 0 []]) (by omega)) l8))) fz []) [0, 0, 0, 4, 0, 28, 63, 127] [0, 1, 2, 3, 4, 5, 6, 7, 9, 58] [.dead, dI ars, .dead, dE e.kids, X2, .box (eL e 3), M7, J5, as0 e ars pc vs bd k, .row 75 (D.stmts ((xE ars pc vs bd e k).fst.snd ++ [K1 ((xE ars pc vs bd e k).fst.fst.length : Int) (b7.mk 3 e.value [b7.mk 1 0 []])]))] (y7 [(11, iA ((xE ars pc vs bd e k).fst.fst.length : Int))]) fun G => b5 (wp_seq (wp_seq (w3 G c3 (y7 [(11, iA ((xE ars pc vs bd e k).fst.fst.length : Int)), (12, iA 1)]) fun G => b5 (wp_block ?_)))))))))))); refine k8 (κ := Nat) (fun j => j ≤ 3) (fun j => 3 - j) (fun j => [.dead, dI ars, .dead, dE e.kids, .box [.ref 8, .ref 1, .v (.slice none 0 0), .ref 9], .box (eL e 3), .box [.v (.slice none 0 0), .v (.slice none 0 0), .v (.slice none 0 0), .v (.slice none 0 0)], .box [iA 0, iA 0, .v (.slice none 0 0)], .row 3 (D.ints ((xE ars pc vs bd e k).fst.fst ++ [f9 (c6 (xE ars pc vs bd e k).fst.fst ars 5 (n4 e)) pc])), .row 75 (.stmts ((xE ars pc vs bd e k).1.2 ++ rdL ((xE ars pc vs bd e k).1.1.length : Int) e.value (kE e) j))]) (fun j => [(3, .ptr 4 0), (4, .ptr 5 0), (6, .ptr 6 0), (7, .ptr 7 0), (11, iA ((xE ars pc vs bd e k).fst.fst.length : Int)), (12, iA ((j : Int) + 1))]) 0 (by omega) (l7.at G _ _) ?_
     clear G; intro j ρ a w hp G; replace G := l7.at G [.dead, dI ars, .dead, dE e.kids, X2, .box (eL e 3), M7, J5, as0 e ars pc vs bd k, .row 75 (D.stmts ((xE ars pc vs bd e k).fst.snd ++ rdL ((xE ars pc vs bd e k).fst.fst.length : Int) e.value (kE e) j))] (y7 [(11, iA ((xE ars pc vs bd e k).fst.fst.length : Int)), (12, iA ((j : Int) + 1))]); refine wp_seq (wp_seq (d9 G c3 [(78, bA (decide ((j : Int) + 1 < 4)))] fun G => b5 (I2 G (fun h3 q3 => ?_) fun h3 q3 => ?_)))
     · refine wp_exit (j9 (j9 (j7 (b5 (wp_seq (F6 G (n5 2 [] (ab4 (((xE ars pc vs bd e k).fst.fst.length : Int)))) [0, 0, 2, 7, 15] [0, 1, 2, 3, 6, 7, 8, 9, 26] [.dead, dI ars, .dead, dE e.kids, .box [.ref 6, .ref 1, .v (.slice none 0 0), .ref 7], .box [iA 2, iA ((xE ars pc vs bd e k).fst.fst.length : Int), .ref 8], as0 e ars pc vs bd k, .row 75 (D.stmts ((xE ars pc vs bd e k).fst.snd ++ rdL ((xE ars pc vs bd e k).fst.fst.length : Int) e.value (kE e) j)), dE []] [(6, .ptr 4 0), (7, .ptr 5 0)] fun G => b5 (wp_ret ?_))))))); exact M0 (.tup [.agg [.ref 6, .ref 1, .v (.slice none 0 0), .ref 7], .agg [iA 2, iA ((xE ars pc vs bd e k).fst.fst.length : Int), .ref 8]]) G [0, 1, 2, 3, 6, 7, 8] (by have e1 : ((b9 ars pc e (vs, bd)).snd.kind : Int) = (2) := (by rw [ap3 (ars := ars) (pc := pc) (vs := vs) (bd := bd) (e := e) (k := k) (by omega) (by omega) (by with_reducible assumption)]; rfl); have e2 : ((b9 ars pc e (vs, bd)).snd.value : Int) = (((xE ars pc vs bd e k).fst.fst.length : Int)) := (by rw [ap3 (ars := ars) (pc := pc) (vs := vs) (bd := bd) (e := e) (k := k) (by omega) (by omega) (by with_reducible assumption)]; rfl); (first | rw [e1, e2] | simp only [e1, e2]) <;> rfl) (by show _ = mR [0, 1, 2, 3, 6, 7, 8] (ak4 e ars pc vs bd); unfold ak4; have e2 : ((b9 ars pc e (vs, bd)).fst.snd : List b6) = ((xE ars pc vs bd e k).fst.snd ++ rdL ((xE ars pc vs bd e k).fst.fst.length : Int) e.value (kE e) j) := (bo4 (k := k) (show j = 3 by omega) (by omega) (by omega) (by with_reducible assumption)); rw [e2, ap3 (ars := ars) (pc := pc) (vs := vs) (bd := bd) (e := e) (k := k) (by omega) (by omega) (by with_reducible assumption)] <;> rfl)
     · refine wp_skip (b5 (wp_seq (wp_block (F0 G (l9 (f6 7 [50] (a61 ((e.kids.getD 0 bW1).kind) ((e.kids.getD 0 bW1).value) ((e.kids.getD 0 bW1).kids) ((j : Int) + 1)) (f6 11 [] (A7 ((j : Int) + 1)) (f6 12 [98] (aj3 e.value 1 ((j : Int) + 1) ([])) (f6 14 [] (ab4 (((xE ars pc vs bd e k).fst.fst.length : Int))) (f6 16 [130] (S8 11 ([b7.mk 9 0 (W5 (ak5 e) ((j : Int) + 1)).kids] ++ ([b7.mk 3 e.value [b7.mk 1 ((j : Int) + 1) []]] ++ ([b7.mk 2 ((xE ars pc vs bd e k).fst.fst.length : Int) []] ++ [])))) (f6 17 [8, 1, 9, 130] (H7 ((xE ars pc vs bd e k).fst.fst ++ [f9 (aF2 e ars pc vs bd k) pc]) ars ((xE ars pc vs bd e k).fst.snd ++ rdL ((xE ars pc vs bd e k).fst.fst.length : Int) e.value (kE e) j) (((xE ars pc vs bd e k).fst.fst.length : Int)) 11 0 ([b7.mk 9 0 (W5 (ak5 e) ((j : Int) + 1)).kids] ++ ([b7.mk 3 e.value [b7.mk 1 ((j : Int) + 1) []]] ++ ([b7.mk 2 ((xE ars pc vs bd e k).fst.fst.length : Int) []] ++ []))) (by simp only [bX5, bX2, bY9, aH3]; omega)) l8)))))) fz []) [0, 0, 0, 4, 12, 28, 0, 124, 0, 256, 0, 1276, 4092, 0, 16380, 32764, 65532, 131071, 262143] [0, 1, 2, 3, 4, 5, 6, 7, 8, 146] [.dead, dI ars, .dead, dE e.kids, X2, .box (eL e 3), M7, J5, as0 e ars pc vs bd k, .row 75 (D.stmts ((xE ars pc vs bd e k).fst.snd ++ rdL ((xE ars pc vs bd e k).fst.fst.length : Int) e.value (kE e) j ++ [K1 ((xE ars pc vs bd e k).fst.fst.length : Int) (b7.mk 11 0 ([b7.mk 9 0 (W5 (ak5 e) ((j : Int) + 1)).kids] ++ ([b7.mk 3 e.value [b7.mk 1 ((j : Int) + 1) []]] ++ ([b7.mk 2 ((xE ars pc vs bd e k).fst.fst.length : Int) []] ++ []))))]))] (y7 [(11, iA ((xE ars pc vs bd e k).fst.fst.length : Int)), (12, iA ((j : Int) + 1))]) (iX 0 0 e.kids.length []) (iK (by have := at9 he (by omega); omega) bX6) fun G => i9 (b5 (z5 G c3 [(12, iA ((j : Int) + 1 + 1))] [wO ((j : Int) + 1 + 1)] (o1 (by omega)) fun G => b5 ?_)))))); exact H3 G (j + 1) (by omega) (by omega) (rg 10) (by have e1 : ((xE ars pc vs bd e k).fst.snd ++ rdL ((xE ars pc vs bd e k).fst.fst.length : Int) e.value (kE e) (j + 1) : List b6) = ((xE ars pc vs bd e k).fst.snd ++ rdL ((xE ars pc vs bd e k).fst.fst.length : Int) e.value (kE e) j ++ [K1 ((xE ars pc vs bd e k).fst.fst.length : Int) (b7.mk 11 0 ([b7.mk 9 0 (W5 (n4 (e.kids.getD 0 bW1)) ((j : Int) + 1)).kids] ++ ([b7.mk 3 e.value [b7.mk 1 ((j : Int) + 1) []]] ++ ([b7.mk 2 ((xE ars pc vs bd e k).fst.fst.length : Int) []] ++ []))))]) := bS0; (first | rw [e1] | simp only [e1]) <;> rfl)
    · have q2 : ((c5 (c6 (xE ars pc vs bd e k).fst.fst ars 5 (n4 (e.kids.getD 0 bW1)))) = false) ∨ (¬ (c6 (xE ars pc vs bd e k).fst.fst ars 5 (n4 (e.kids.getD 0 bW1)) % 2 = 1)) := (fun hq => Or.imp (fun hq => (hq)) (fun hq => of_decide_eq_false hq) (bY6.1 hq)) (Eq.mp (bW6 _) h2); refine rT G _ h2 (wp_seq (F6 G c3 [0, 0, 1, 7] [0, 1, 2, 3, 4, 5, 6, 7, 9, 10, 11] (.dead :: dI ars :: .dead :: dE e.kids :: X2 :: .box (eL e 3) :: X2 :: .box (eL e 10) :: (ad8 e ars pc vs bd k [.row 73 (D.exprs (xE ars pc vs bd e k).snd)])) ((2, iA pc) :: (y7 [])) fun G => b5 (wp_ret (c8 ?_)))); obtain ⟨ρ, G⟩ := G.frz [.no, .no, .no, .no, .no, .no, .no, .no, .no, .no, .row 73] (.dead :: dI ars :: .dead :: dE e.kids :: .box [.ref 8, .ref 1, .v (.slice none 0 0), .ref 9] :: .box (eL e 3) :: .box [.ref 8, .ref 1, .v (.slice none 0 0), .ref 9] :: .box (eL e 10) :: (ad8 e ars pc vs bd k [dE (xE ars pc vs bd e k).snd])) ((2, iA pc) :: (y7 [])); exact M0 (.tup [.agg [.ref 8, .ref 1, .v (.slice none 0 0), .ref 9], eA e 10]) G [0, 1, 2, 3, 8, 9, 10] (by have e1 : ((b9 ars pc e (vs, bd)).snd.kind : Int) = (e.kind) := (by rw [aF5 (ars := ars) (pc := pc) (vs := vs) (bd := bd) (e := e) (k := k) (by omega) (by with_reducible assumption)]; rfl); have e2 : ((b9 ars pc e (vs, bd)).snd.value : Int) = (e.value) := (by rw [aF5 (ars := ars) (pc := pc) (vs := vs) (bd := bd) (e := e) (k := k) (by omega) (by with_reducible assumption)]; rfl); (first | rw [e1, e2] | simp only [e1, e2]) <;> rfl) (by show _ = mR [0, 1, 2, 3, 8, 9, 10] (ak4 e ars pc vs bd); unfold ak4; rw [aF5 (ars := ars) (pc := pc) (vs := vs) (bd := bd) (e := e) (k := k) (by omega) (by with_reducible assumption)] <;> rfl)
   · have q1 := bne_iff_ne.1 h1; refine a79 G (z4 (fc h1 fz) (us [(4, 12, 0), (1013, 1013, 0)])) [0, 1, 3, 7, 15, 31, 15, 79, 207, 463, 1023, 2047, 4095, 8191] [(56, bA true)] fun G => b5 (rT G true (by kernel_rfl) (wp_seq (F6 G c3 [0, 0, 1, 7] [0, 1, 2, 3, 4, 5, 6, 7, 9, 10, 11] (.dead :: dI ars :: .dead :: dE e.kids :: X2 :: .box (eL e 3) :: X2 :: .box (eL e 10) :: (ad8 e ars pc vs bd k [.row 73 (D.exprs (xE ars pc vs bd e k).snd)])) ((2, iA pc) :: (y7 [])) fun G => b5 (wp_ret (c8 ?_))))); obtain ⟨ρ, G⟩ := G.frz [.no, .no, .no, .no, .no, .no, .no, .no, .no, .no, .row 73] (.dead :: dI ars :: .dead :: dE e.kids :: .box [.ref 8, .ref 1, .v (.slice none 0 0), .ref 9] :: .box (eL e 3) :: .box [.ref 8, .ref 1, .v (.slice none 0 0), .ref 9] :: .box (eL e 10) :: (ad8 e ars pc vs bd k [dE (xE ars pc vs bd e k).snd])) ((2, iA pc) :: (y7 [])); exact M0 (.tup [.agg [.ref 8, .ref 1, .v (.slice none 0 0), .ref 9], eA e 10]) G [0, 1, 2, 3, 8, 9, 10] (by have e1 : ((b9 ars pc e (vs, bd)).snd.kind : Int) = (e.kind) := (by rw [aF6 (ars := ars) (pc := pc) (vs := vs) (bd := bd) (e := e) (k := k) (by omega) (by omega)]; rfl); have e2 : ((b9 ars pc e (vs, bd)).snd.value : Int) = (e.value) := (by rw [aF6 (ars := ars) (pc := pc) (vs := vs) (bd := bd) (e := e) (k := k) (by omega) (by omega)]; rfl); (first | rw [e1, e2] | simp only [e1, e2]) <;> rfl) (by show _ = mR [0, 1, 2, 3, 8, 9, 10] (ak4 e ars pc vs bd); unfold ak4; rw [aF6 (ars := ars) (pc := pc) (vs := vs) (bd := bd) (e := e) (k := k) (by omega) (by omega)] <;> rfl)
  · refine wp_skip (b5 (wp_seq (wp_block (wp_seq (e5 G c3 [0, 1, 2, 3, 4, 5, 6, 7, 8, 9, 10, 11, 20] (ar2 e ars (M7 :: J5 :: .box (eL e 11) :: (ad8 e ars pc vs bd k [.row 73 (D.exprs (xE ars pc vs bd e k).snd), J5]))) ((2, iA pc) :: (y7 [(8, .ptr 8 0), (9, iA k), (10, .ptr 12 0)])) fun G => b5 (wp_seq (F0 G (n5 7 [9, 1, 10, 53] (ih (e.kids.getD k bW1) (aw6 (by omega)) ((xE ars pc vs bd e k).fst.fst) ((xE ars pc vs bd e k).fst.snd) (bz9 he (by omega)) (bG2 he r1 (by omega)) (bG1 he r2 (by omega)))) [0, 0, 2, 0, 14, 30, 0, 127, 255, 511, 511, 1023, 4095] [0, 1, 2, 3, 4, 5, 6, 7, 8, 11, 12, 69, 70, 71] [.dead, dI ars, .dead, dE e.kids, .box [.ref 11, .ref 1, .v (.slice none 0 0), .ref 12], .box (eL e 3), M7, J5, .box (eL e 9), .row 73 (D.exprs (xE ars pc vs bd e k).snd), .box (eL (ae1 e ars pc vs bd k).snd 13), .row 3 (D.ints (ae1 e ars pc vs bd k).fst.fst), .row 75 (D.stmts (ae1 e ars pc vs bd k).fst.snd), dE (ae1 e ars pc vs bd k).snd.kids] ((2, iA pc) :: (y7 [(8, .ptr 8 0), (9, iA k), (10, .ptr 10 0)])) (iX k k e.kids.length []) (iK (by omega) bX6) fun G => b5 (L6 G c3 [0, 1, 2, 3, 4, 5, 6, 7, 8, 11, 12, 46] (ar2 e ars [M7, J5, .box (eL e 11), .row 3 (D.ints (ae1 e ars pc vs bd k).fst.fst), .row 75 (D.stmts (ae1 e ars pc vs bd k).fst.snd), .row 73 (D.exprs ((xE ars pc vs bd e k).snd ++ ([n4 (ae1 e ars pc vs bd k).snd] ++ [])))]) ((2, iA pc) :: (y7 [(8, .ptr 8 0), (9, iA k)])) (aP ((xE ars pc vs bd e k).snd.length + ([n4 (b9 ars pc (e.kids.getD k bW1) (xE ars pc vs bd e k).fst).snd] ++ []).length) 40 []) (aK (by simp only [bX5, bX2, bY9, aH3]; omega) bX6) fun G => i9 (b5 (z5 G c3 [(9, iA ((k : Int) + 1))] [wO ((k : Int) + 1)] (o1 (by omega)) fun G => b5 ?_)))))))))); exact H3 G (k + 1) (by omega) (by omega) (rg 12) (by have e1 : ((xE ars pc vs bd e (k + 1)).fst.fst : List Int) = ((b9 ars pc (e.kids.getD k bW1) (xE ars pc vs bd e k).fst).fst.fst) := (bF8 (by omega)); have e2 : ((xE ars pc vs bd e (k + 1)).fst.snd : List b6) = ((b9 ars pc (e.kids.getD k bW1) (xE ars pc vs bd e k).fst).fst.snd) := (bF7 (by omega)); have e3 : ((xE ars pc vs bd e (k + 1)).snd : List b7) = ((xE ars pc vs bd e k).snd ++ ([n4 (b9 ars pc (e.kids.getD k bW1) (xE ars pc vs bd e k).fst).snd] ++ [])) := (bF6 (by omega)); (first | rw [e1, e2, e3] | simp only [e1, e2, e3]) <;> rfl)
theorem a42 (ars : List Int) (pc : Int) : ∀ (d : Nat), d ≤ 5 → ∀ (e : b7) (vs : List Int) (bd : List b6), c4 vs.length ars.length d e = true → vs.length + (1 + s5 e) ≤ 100000 → c9 bd + 40 * (1 + s5 e) ≤ 700000 → d8.ok Tryz.prog (leC ars pc vs bd e)
 | 0, _, _, _, _, h, _, _ => by simp [c4] at h
 | d + 1, hd, e, vs, bd, h, r1, r2 => be5 e ars pc d hd (fun u _ vs bd h r1 r2 => a42 ars pc d (by omega) u vs bd h r1 r2) vs bd h r1 r2
theorem aR3 (ars : List Int) (pc : Int) (e : b7) (vs : List Int) (bd : List b6) (h : c4 vs.length ars.length 5 e = true) (r1 : vs.length + (1 + s5 e) ≤ 100000) (r2 : c9 bd + 40 * (1 + s5 e) ≤ 700000) : d8.ok Tryz.prog (leC ars pc vs bd e) := a42 ars pc 5 (bX4 _) e vs bd h r1 r2
theorem bt8 (e : b7) (hb : s5 e ≤ 1048576) : d8.ok Tryz.prog ⟨70, [eA e 0], eS e, eS e ++ [dE e.kids], .agg [iA e.kind, iA e.value, .ref 1]⟩ :=
 d8.datPost (S := eS e) (d := .exprs e.kids) (aJ7 e hb) (.agg [iA e.kind, iA e.value, .ref 1])
theorem bR1 {bd : List b6} {v t m : Int} {i : b7} {k : Nat} : bd ++ stL v t i m (k + 1) = bd ++ stL v t i m k ++ [⟨2, t, ⟨1, (k : Int), []⟩, ⟨11, 0, [⟨(t3 m (W5 i (k : Int)) (cnE 0)).kind, (t3 m (W5 i (k : Int)) (cnE 0)).value, (t3 m (W5 i (k : Int)) (cnE 0)).kids⟩, ⟨2, v, []⟩, ⟨3, t, [⟨1, (k : Int), []⟩]⟩]⟩, 0, [], []⟩] := by
 rw [b7.eta, stL, List.append_assoc]
theorem bR0 {bd : List b6} {v t m : Int} {i : b7} {k : Nat} (hk : k = 4) : bd ++ stL v t i m 4 = bd ++ stL v t i m k := by rw [hk]
abbrev bU8 (ars vs : List Int) (bd : List b6) (m pc : Int) (t : b6) (e : b7) : d8 := ⟨69, [.agg [.ref 0, .ref 1, nlA, .ref 2], sA t 3, eA e 7, iA m, iA pc], [qI vs, dI ars, qT bd] ++ sS t ++ [dE e.kids], [qI vs, dI ars, .dead] ++ sS t ++ [dE e.kids, qI (vs ++ [f9 (c6 vs ars 5 ⟨e.kind, e.value, e.kids⟩) pc]), qT (bd ++ [K1 (vs.length : Int) ⟨e.kind, e.value, e.kids⟩] ++ stL (vs.length : Int) t.target ⟨t.index.kind, t.index.value, t.index.kids⟩ m 4)], .agg [.ref 8, .ref 1, nlA, .ref 9]⟩
abbrev ar9 (m : Int) (t : b6) (k : Nat) := t3 m (b7.mk 9 0 (W5 (n4 t.index) (k : Int)).kids) (b7.mk 1 0 [])
abbrev aF1 (vs : List Int) (bd : List b6) (m : Int) (t : b6) (e : b7) (k : Nat) := bd ++ [K1 (vs.length : Int) (n4 e)] ++ stL (vs.length : Int) t.target (n4 t.index) m k
abbrev aT3 (ars : List Int) (vs : List Int) (pc : Int) (e : b7) := vs ++ [f9 (c6 vs ars 5 (n4 e)) pc]
abbrev aT2 : It := .box [.v (.slice none 0 0), .v (.slice none 0 0), .v (.slice none 0 0), .v (.slice none 0 0)]
abbrev bz5 : It := .box [.ref 11, .ref 1, .v (.slice none 0 0), .ref 12]
abbrev ar1 (ars : List Int) (vs : List Int) (pc : Int) (t : b6) (e : b7) (r0 : List It) : List It := .row 3 (D.ints vs) :: dI ars :: .dead :: dE t.index.kids :: dE t.value.kids :: dT t.body :: dT t.els :: dE e.kids :: bz5 :: .box (sL t 3) :: aT2 :: .row 3 (D.ints (aT3 ars vs pc e)) :: r0
abbrev ad7 (vs : List Int) (m : Int) (r0 : List (Nat × AV)) : List (Nat × AV) := (3, iA m) :: (5, .ptr 8 0) :: (6, .ptr 9 0) :: (10, .ptr 10 0) :: (11, iA (vs.length : Int)) :: r0
abbrev ak3 (t : b6) (e : b7) (r0 : List It) : List It := dE t.index.kids :: dE t.value.kids :: dT t.body :: dT t.els :: dE e.kids :: r0
theorem a96 (ars vs : List Int) (bd : List b6) (m pc : Int) (t : b6) (e : b7) (he : c4 vs.length ars.length 5 ⟨e.kind, e.value, e.kids⟩ = true) (r1 : vs.length ≤ 100000) (r2 : bd.length ≤ 700000) : d8.ok Tryz.prog (bU8 ars vs bd m pc t e) := by
  refine t8 63 Tryz.func69 (.row 3 (D.ints vs) :: dI ars :: .row 75 (D.stmts bd) :: (ak3 t e [])) [(0, .agg [.ref 0, .ref 1, .v (.slice none 0 0), .ref 2]), (1, sA t 3), (2, eA e 7), (3, iA m), (4, iA pc)] fun G => ?_; refine wp_seq (e5 G c3 [0, 1, 2, 3, 4, 5, 6, 7, 8, 16, 24, 32] (.row 3 (D.ints vs) :: dI ars :: .row 75 (D.stmts bd) :: (ak3 t e [.box [.ref 0, .ref 1, .v (.slice none 0 0), .ref 2], .box (sL t 3), .box (eL e 7), aT2])) [(3, iA m), (4, iA pc), (5, .ptr 8 0), (6, .ptr 9 0), (7, .ptr 10 0), (10, .ptr 11 0)] fun G => b5 (wp_seq (d9 G c3 [(11, iA 0)] fun G => b5 (wp_seq (F6 G (l9 (f6 4 [0, 1, 7] (d8.lend (N8 vs ars e.kind e.value e.kids (by assumption)) [.row 3]) (f6 7 [0, 1, 2] (ab5 vs ars bd (f9 (c6 vs ars 5 (n4 e)) pc) (by omega)) l8)) fz []) [0, 0, 2, 0, 14, 0, 62, 127, 255, 511, 511, 1023, 4095] [0, 1, 2, 3, 4, 5, 6, 7, 8, 9, 10, 11, 68] (.row 3 (D.ints vs) :: dI ars :: .row 75 (D.stmts bd) :: (ak3 t e [.box [.ref 12, .ref 1, .v (.slice none 0 0), .ref 2], .box (sL t 3), .box (eL e 7), aT2, .row 3 (D.ints (aT3 ars vs pc e))])) [(3, iA m), (5, .ptr 8 0), (6, .ptr 9 0), (7, .ptr 10 0), (10, .ptr 11 0), (11, iA (vs.length : Int))] fun G => b5 (wp_seq (e5 G (n5 3 [12, 1, 2, 7] (H7 (vs ++ [f9 (c6 vs ars 5 (n4 e)) pc]) ars bd ((vs.length : Int)) e.kind e.value e.kids (by omega))) [0, 1, 2, 3, 4, 5, 6, 7, 8, 9, 11, 12, 37] (ar1 ars vs pc t e [.row 75 (D.stmts (bd ++ [K1 (vs.length : Int) (n4 e)]))]) (ad7 vs m []) fun G => b5 (wp_seq (wp_seq (w3 G c3 (ad7 vs m [(12, iA 0)]) fun G => b5 (wp_block ?_))))))))))); replace G := G.as (.row 3 (D.ints vs) :: dI ars :: .dead :: (ak3 t e [.box [.ref 11, .ref 1, .v (.slice none 0 0), .ref 12], .box (sL t 3), .box [.v (.slice none 0 0), .v (.slice none 0 0), .v (.slice none 0 0), .v (.slice none 0 0)], .row 3 (D.ints (vs ++ [f9 (c6 vs ars 5 (n4 e)) pc])), .row 75 (D.stmts (bd ++ [K1 (vs.length : Int) (n4 e)] ++ stL (vs.length : Int) t.target (n4 t.index) m 0))])) (ad7 vs m [(12, iA 0)]) (by have e1 : (bd ++ [K1 (vs.length : Int) (n4 e)] ++ stL (vs.length : Int) t.target (n4 t.index) m 0 : List b6) = (bd ++ [K1 (vs.length : Int) (n4 e)]) := (by simp only [stL, List.append_nil]; done); (first | rw [e1] | simp only [e1]) <;> rfl) (by kernel_rfl); refine k8 (κ := Nat) (fun k => k ≤ 4) (fun k => 4 - k) (fun k => [.row 3 (D.ints vs), dI ars, .dead, dE t.index.kids, dE t.value.kids, dT t.body, dT t.els, dE e.kids, .box [.ref 11, .ref 1, .v (.slice none 0 0), .ref 12], .box (sL t 3), .box [.v (.slice none 0 0), .v (.slice none 0 0), .v (.slice none 0 0), .v (.slice none 0 0)], .row 3 (D.ints (vs ++ [f9 (c6 vs ars 5 (n4 e)) pc])), .row 75 (.stmts (bd ++ [K1 (vs.length : Int) ⟨e.kind, e.value, e.kids⟩] ++ stL (vs.length : Int) t.target ⟨t.index.kind, t.index.value, t.index.kids⟩ m k))]) (fun k => [(3, iA m), (5, .ptr 8 0), (6, .ptr 9 0), (10, .ptr 10 0), (11, iA (vs.length : Int)), (12, iA k)]) 0 (by omega) (l7.at G _ _) ?_
  clear G; intro k ρ a w hp G; replace G := l7.at G (ar1 ars vs pc t e [.row 75 (D.stmts (aF1 vs bd m t e k))]) (ad7 vs m [(12, iA k)]); refine wp_seq (wp_seq (d9 G c3 [(31, bA (decide ((k : Int) < 4)))] fun G => b5 (I2 G (fun h0 q0 => ?_) fun h0 q0 => ?_)))
  · refine wp_exit (j9 (j9 (j7 (b5 (wp_seq (e5 G c3 [0, 1, 2, 3, 4, 5, 6, 7, 10, 11, 12] (.row 3 (D.ints vs) :: dI ars :: .dead :: (ak3 t e [.box [.ref 9, .ref 1, .v (.slice none 0 0), .ref 10], .row 3 (D.ints (aT3 ars vs pc e)), .row 75 (D.stmts (aF1 vs bd m t e k))])) [(10, .ptr 8 0)] fun G => b5 (wp_ret ?_))))))); exact A3 G [0, 1, 2, 3, 4, 5, 6, 7, 9, 10] (by show _ = mR [0, 1, 2, 3, 4, 5, 6, 7, 9, 10] (.row 3 (D.ints vs) :: dI ars :: .dead :: (ak3 t e [.row 3 (D.ints (vs ++ [f9 (c6 vs ars 5 (n4 e)) pc])), .row 75 (D.stmts (bd ++ [K1 (vs.length : Int) (n4 e)] ++ stL (vs.length : Int) t.target (n4 t.index) m 4))])); have e1 : (bd ++ [K1 (vs.length : Int) (n4 e)] ++ stL (vs.length : Int) t.target (n4 t.index) m 4 : List b6) = (bd ++ [K1 (vs.length : Int) (n4 e)] ++ stL (vs.length : Int) t.target (n4 t.index) m k) := (bR0 (show k = 4 by omega)); (first | rw [e1] | simp only [e1]) <;> rfl)
  ·
   refine wp_skip (b5 (wp_seq (wp_block (wp_seq (e5 G (l9 (f6 4 [3] (a61 t.index.kind t.index.value t.index.kids ((k : Int))) (f6 5 [] (A7 0) (f6 6 [45, 53] (Z2 m 9 0 1 0 ((W5 (n4 t.index) (k : Int)).kids) ([])) l8))) fz []) [0, 1, 2, 3, 4, 5, 6, 7, 8, 9, 10, 11, 12, 61, 69] (ar1 ars vs pc t e [.row 75 (D.stmts (aF1 vs bd m t e k)), dE (ar9 m t k).kids, .box [iA (ar9 m t k).kind, iA (ar9 m t k).value, .ref 13]]) (ad7 vs m [(12, iA k), (13, .ptr 14 0)]) fun G => b5 (wp_seq (F6 G (l9 (f6 2 [] (ab4 ((vs.length : Int))) (f6 6 [] (A7 ((k : Int))) (f6 7 [63] (aj3 t.target 1 ((k : Int)) ([])) (f6 9 [79] (S8 11 ([n4 (t3 m (b7.mk 9 0 (W5 (b7.mk t.index.kind t.index.value t.index.kids) (k : Int)).kids) (b7.mk 1 0 []))] ++ ([b7.mk 2 (vs.length : Int) []] ++ ([b7.mk 3 t.target [b7.mk 1 (k : Int) []]] ++ [])))) l8)))) fz []) [0, 0, 2, 0, 8, 0, 38, 126, 255, 511, 0, 2047] [0, 1, 2, 3, 4, 5, 6, 7, 8, 9, 10, 11, 12, 79, 95] (ar1 ars vs pc t e [.row 75 (D.stmts (aF1 vs bd m t e k)), dE ([n4 (ar9 m t k)] ++ ([b7.mk 2 (vs.length : Int) []] ++ ([b7.mk 3 t.target [b7.mk 1 (k : Int) []]] ++ []))), .box [iA 11, iA 0, .ref 13]]) (ad7 vs m [(12, iA k), (14, .ptr 14 0)]) fun G => b5 (F0 G (n5 5 [] (A7 ((k : Int)))) [0, 1, 0, 4, 0, 16, 0, 124, 252, 511, 1023, 2047] [0, 1, 2, 3, 4, 5, 6, 7, 8, 9, 10, 11, 87] (ar1 ars vs pc t e [.row 75 (D.stmts (bd ++ [K1 (vs.length : Int) (n4 e)] ++ stL (vs.length : Int) t.target (n4 t.index) m k ++ ([b6.mk 2 t.target (b7.mk 1 (k : Int) []) (b7.mk 11 0 ([n4 (ar9 m t k)] ++ ([b7.mk 2 (vs.length : Int) []] ++ ([b7.mk 3 t.target [b7.mk 1 (k : Int) []]] ++ [])))) 0 [] []] ++ [])))]) (ad7 vs m [(12, iA k)]) (aP ((bd ++ [K1 (vs.length : Int) (n4 e)] ++ stL (vs.length : Int) t.target (n4 t.index) m k).length + ([b6.mk (2 : Int) t.target (b7.mk (1 : Int) (k : Int) []) (b7.mk (11 : Int) (0 : Int) ([n4 (t3 m (b7.mk (9 : Int) (0 : Int) (W5 (b7.mk t.index.kind t.index.value t.index.kids) (k : Int)).kids) (b7.mk (1 : Int) (0 : Int) []))] ++ ([b7.mk (2 : Int) (vs.length : Int) []] ++ ([b7.mk (3 : Int) t.target [b7.mk (1 : Int) (k : Int) []]] ++ [])))) (0 : Int) [] []] ++ []).length) 152 []) (aK (by simp only [bX5, bX2, bY9, a22]; omega) bX6) fun G => ?_))))))))
   refine i9 (b5 (z5 G c3 [(12, iA ((k : Int) + 1))] [wO ((k : Int) + 1)] (o1 (by omega)) fun G => b5 ?_)); exact H3 G (k + 1) (by omega) (by omega) (rg 13) (by have e1 : (bd ++ [K1 (vs.length : Int) (n4 e)] ++ stL (vs.length : Int) t.target (n4 t.index) m (k + 1) : List b6) = (bd ++ [K1 (vs.length : Int) (n4 e)] ++ stL (vs.length : Int) t.target (n4 t.index) m k ++ ([b6.mk 2 t.target (b7.mk 1 (k : Int) []) (b7.mk 11 0 ([n4 (t3 m (b7.mk 9 0 (W5 (b7.mk t.index.kind t.index.value t.index.kids) (k : Int)).kids) (b7.mk 1 0 []))] ++ ([b7.mk 2 (vs.length : Int) []] ++ ([b7.mk 3 t.target [b7.mk 1 (k : Int) []]] ++ [])))) 0 [] []] ++ [])) := bR1; (first | rw [e1] | simp only [e1]) <;> rfl)
abbrev lbC (ars : List Int) (m pc : Int) (vs : List Int) (bd : List b6) (ss : List b6) : d8 := ⟨46, [.agg [.ref 0, .ref 1, nlA, .ref 3], .ref 2, iA m, iA pc], [qI vs, dI ars, dT ss, qT bd], [.dead, dI ars, dT ss, .dead, qI (i6 ars ss m pc (vs, bd)).1, qT (i6 ars ss m pc (vs, bd)).2], .agg [.ref 4, .ref 1, nlA, .ref 5]⟩
abbrev lnC (ars : List Int) (m pc : Int) (vs : List Int) (ss : List b6) : d8 := ⟨46, [.agg [.ref 0, .ref 1, nlA, nlA], .ref 2, iA m, iA pc], [qI vs, dI ars, dT ss], [.dead, dI ars, dT ss, qI (i6 ars ss m pc (vs, [])).1, qT (i6 ars ss m pc (vs, [])).2], .agg [.ref 3, .ref 1, nlA, .ref 4]⟩
abbrev bs1 (ars : List Int) (m pc : Int) (vs : List Int) (bd : List b6) (ss : List b6) : d8 := ⟨62, [.agg [.ref 0, .ref 1, nlA, .ref 2], .ref 3, iA m, iA pc], [qI vs, dI ars, qT bd, dT ss], [.dead, dI ars, qT bd, dT ss, qI (i6 ars ss m pc (vs, [])).1, dT (i6 ars ss m pc (vs, [])).2], .tup [.agg [.ref 4, .ref 1, nlA, .ref 2], .ref 5]⟩
theorem a74 (ars : List Int) (m pc : Int) (vs : List Int) (bd : List b6) (ss : List b6) (hB : d8.ok Tryz.prog (lnC ars m pc vs ss)) : d8.ok Tryz.prog (bs1 ars m pc vs bd ss) := by
 refine t8 25 Tryz.func62 [.row 3 (D.ints vs), dI ars, .row 75 (D.stmts bd), dT ss] [(0, .agg [.ref 0, .ref 1, .v (.slice none 0 0), .ref 2]), (1, .ref 3), (2, iA m), (3, iA pc)] fun G => ?_; refine wp_seq (e5 G c3 [0, 1, 2, 3, 4, 12] [.row 3 (D.ints vs), dI ars, .row 75 (D.stmts bd), dT ss, .box [.ref 0, .ref 1, .v (.slice none 0 0), .ref 2], .box [.v (.slice none 0 0), .v (.slice none 0 0), .v (.slice none 0 0), .v (.slice none 0 0)]] [(1, .ref 3), (2, iA m), (3, iA pc), (4, .ptr 4 0), (8, .ptr 5 0), (9, .v (.slice none 0 0))] fun G => b5 (wp_seq (e5 G (n5 6 [0, 1, 3] hB) [0, 1, 2, 3, 4, 5, 54, 55, 62] [.dead, dI ars, .row 75 (D.stmts bd), dT ss, .box [.ref 0, .ref 1, .v (.slice none 0 0), .ref 2], .box [.v (.slice none 0 0), .v (.slice none 0 0), .v (.slice none 0 0), .v (.slice none 0 0)], .row 3 (D.ints (i6 ars ss m pc (vs, [])).fst), .row 75 (D.stmts (i6 ars ss m pc (vs, [])).snd), .box [.ref 6, .ref 1, .v (.slice none 0 0), .ref 7]] [(4, .ptr 4 0), (8, .ptr 5 0), (9, .v (.slice none 0 0)), (10, .ptr 8 0)] fun G => b5 (wp_seq (F6 G c3 [0, 1, 0, 4, 15, 0, 32, 31, 255] [0, 1, 2, 3, 5, 6, 7] [.dead, dI ars, .row 75 (D.stmts bd), dT ss, .box [.ref 5, .ref 1, .v (.slice none 0 0), .ref 2], .row 3 (D.ints (i6 ars ss m pc (vs, [])).fst), .row 75 (D.stmts (i6 ars ss m pc (vs, [])).snd)] [(8, .ptr 4 0), (9, .ref 6)] fun G => b5 (wp_ret ?_)))))); obtain ⟨ρ, G⟩ := G.frz [.no, .no, .no, .no, .no, .no, .row 75] [.dead, dI ars, .row 75 (D.stmts bd), dT ss, .box [.ref 5, .ref 1, .v (.slice none 0 0), .ref 2], .row 3 (D.ints (i6 ars ss m pc (vs, [])).fst), dT (i6 ars ss m pc (vs, [])).snd] [(8, .ptr 4 0), (9, .ref 6)]; exact A3 G [0, 1, 2, 3, 5, 6]
abbrev bL8 (ars : List Int) (m pc : Int) (vs : List Int) (bd : List b6) (t : b6) : d8 := ⟨61, [.agg [.ref 0, .ref 1, nlA, .ref 2], sA t 3, iA m, iA pc], [qI vs, dI ars, qT bd] ++ sS t, [.dead, dI ars, .dead] ++ sS t ++ [qI (z6 ars t m pc (vs, bd)).1, qT (z6 ars t m pc (vs, bd)).2], .agg [.ref 7, .ref 1, nlA, .ref 8]⟩
section
variable {ars vs : List Int} {bd : List b6} {m pc : Int} {t : b6} {nv dd : Nat}
theorem bj8 (hh : s9 nv ars.length t = true) (k3 : t.kind = 3) (hv : nv ≤ vs.length) : c4 vs.length ars.length 5 t.value = true := x6 hv 5 _ (r8 hh (by omega))
theorem bU9 (hh : s9 nv ars.length t = true) (k3 : t.kind = 3) (hv : nv ≤ vs.length) : Grw vs.length ars.length 5 (1 + s5 t.value) (vs, bd) (b9 ars pc t.value (vs, bd)).1 := (aa6 ars pc ars.length 5 t.value (vs, bd) (bj8 hh k3 hv)).1
theorem bD3 (hh : s9 nv ars.length t = true) (k3 : t.kind = 3) (hv : nv ≤ vs.length) (r1 : vs.length + 4 * (1 + B6 t) ≤ 90000) (r2 : c9 bd + 130 * (1 + B6 t) ≤ 600000) : (b9 ars pc t.value (vs, bd)).1.1.length + 3 * (1 + s5 t.value) + 4 * c9 t.body + 4 * c9 t.els ≤ 90000 ∧ nv ≤ (b9 ars pc t.value (vs, bd)).1.1.length ∧ c9 (b9 ars pc t.value (vs, bd)).1.2 + 60 * (1 + s5 t.value) + 130 * c9 t.body + 130 * c9 t.els ≤ 600000 ∧ (b9 ars pc t.value (vs, bd)).1.2.length ≤ 600000 := by
 have g := bU9 (pc := pc) (bd := bd) hh k3 hv
 have a := g.lo; have b := g.hi; have c := g.st
 have hsz : B6 t = s5 t.index + s5 t.value + c9 t.body + c9 t.els := by cases t; rfl
 have := D8 (b9 ars pc t.value (vs, bd)).1.2
 simp only at a b c
 omega
end
abbrev W0 (e : b7) : b7 := ⟨e.kind, e.value, e.kids⟩
abbrev ifN (x : V5 × b7) (m l : Int) : V5 := (x.1.1 ++ [l] ++ [l], x.1.2 ++ [K1 (x.1.1.length : Int) (W0 (t3 m (W0 x.2) ⟨1, 0, []⟩))] ++ [K1 ((x.1.1 ++ [l]).length : Int) (W0 (t3 m ⟨9, 0, [⟨2, (x.1.1.length : Int), []⟩] ++ ([⟨1, 0, []⟩] ++ [])⟩ ⟨1, 0, []⟩))])
theorem bj9 (x : V5 × b7) (m l : Int) : ifN x m l = ifM x m l := by
 unfold ifN ifM W0
 simp only [b7.eta]
 rfl
theorem bD4 (x : V5 × b7) (m l : Int) : c9 (ifM x m l).2 ≤ c9 x.1.2 + 20 + s5 x.2 ∧ (ifM x m l).1.length = x.1.1.length + 2 := by
 have m1 := U3 m x.2 (cnE 0)
 have m2 := U3 m ⟨9, 0, [vrE (x.1.1.length : Int), cnE 0]⟩ (cnE 0)
 have m3 : s5 ⟨9, 0, [vrE (x.1.1.length : Int), cnE 0]⟩ = 2 := rfl
 have e0 : s5 nnE = 0 := rfl
 have e1 : s5 (cnE 0) = 0 := rfl
 constructor
 ·simp only [ifM, r6, c9, B6, e0]; omega
 ·simp [ifM]
section
variable {ars vs : List Int} {bd : List b6} {m pc l : Int} {t : b6} {nv dd : Nat}
theorem bM4 (hh : s9 nv ars.length t = true) (k3 : t.kind = 3) (hv : nv ≤ vs.length) (r1 : vs.length + 4 * (1 + B6 t) ≤ 90000) (r2 : c9 bd + 130 * (1 + B6 t) ≤ 600000) :
  nv ≤ (ifN (b9 ars pc t.value (vs, bd)) m l).1.length ∧ (ifN (b9 ars pc t.value (vs, bd)) m l).1.length + 4 * c9 t.body + 4 * c9 t.els ≤ 90000 ∧ c9 (ifN (b9 ars pc t.value (vs, bd)) m l).2 + 130 * c9 t.body + 130 * c9 t.els ≤ 600000 := by
 have hb := bD3 (pc := pc) (bd := bd) hh k3 hv r1 r2
 have hz := bD4 (b9 ars pc t.value (vs, bd)) m l
 have h3 := (aa6 ars pc ars.length 5 t.value (vs, bd) (bj8 hh k3 hv)).2.2
 rw [bj9]
 omega
theorem bM3 (hh : s9 nv ars.length t = true) (k3 : t.kind = 3) (hv : nv ≤ vs.length) (r1 : vs.length + 4 * (1 + B6 t) ≤ 90000) (r2 : c9 bd + 130 * (1 + B6 t) ≤ 600000) : c9 (ifN (b9 ars pc t.value (vs, bd)) m l).2 + 130 * c9 t.body ≤ 600000 := by have := (bM4 (m := m) (l := l) (pc := pc) hh k3 hv r1 r2).2.2; omega
theorem bD2 {u : Int} (hbb : t.body.all (d7 nv ars.length dd) = true) (hh : s9 nv ars.length t = true) (k3 : t.kind = 3) (hv : nv ≤ vs.length) (r1 : vs.length + 4 * (1 + B6 t) ≤ 90000) (r2 : c9 bd + 130 * (1 + B6 t) ≤ 600000) :
  nv ≤ (i6 ars t.body u l (ifN (b9 ars pc t.value (vs, bd)) m l)).1.length ∧ (i6 ars t.body u l (ifN (b9 ars pc t.value (vs, bd)) m l)).1.length + 4 * c9 t.els ≤ 90000 ∧ c9 (i6 ars t.body u l (ifN (b9 ars pc t.value (vs, bd)) m l)).2 + 130 * c9 t.els ≤ 600000 := by
 have h := bM4 (m := m) (l := l) (pc := pc) hh k3 hv r1 r2
 have g := aI6 ars t.body u l (ifN (b9 ars pc t.value (vs, bd)) m l) hbb h.1
 have a := g.lo; have b := g.hi; have c := g.st
 omega
theorem bM5 (hbb : t.body.all (d7 nv ars.length dd) = true) (hh : s9 nv ars.length t = true) (k3 : t.kind = 3) (hv : nv ≤ vs.length) (r1 : vs.length + 4 * (1 + B6 t) ≤ 90000) (r2 : c9 bd + 130 * (1 + B6 t) ≤ 600000) :
  nv ≤ (i6 ars t.body m l ((b9 ars pc t.value (vs, bd)).1.1, [])).1.length ∧ (i6 ars t.body m l ((b9 ars pc t.value (vs, bd)).1.1, [])).1.length + 4 * c9 t.els ≤ 90000 := by
 have hb := bD3 (pc := pc) (bd := bd) hh k3 hv r1 r2
 have g := aI6 ars t.body m l ((b9 ars pc t.value (vs, bd)).1.1, []) hbb hb.2.1
 have a := g.lo; have b := g.hi
 simp only at a b
 omega
abbrev lbV (ars vs : List Int) (pc : Int) (t : b6) : Int := f9 pc (c6 vs ars 5 (W0 t.value))
theorem bM7 (k3 : t.kind = 3) (h : (!(c5 (c6 vs ars 5 (W0 t.value)) && decide (c6 vs ars 5 (W0 t.value) % 2 = 1))) = false) : z6 ars t m pc (vs, bd) = i6 ars t.els (((b9 ars pc t.value (vs, bd)).1.1 ++ [lbV ars vs pc t]).length : Int) (lbV ars vs pc t) (i6 ars t.body ((b9 ars pc t.value (vs, bd)).1.1.length : Int) (lbV ars vs pc t) (ifN (b9 ars pc t.value (vs, bd)) m (lbV ars vs pc t))) := by
 rw [bW7] at h
 rw [bj9]
 unfold lbV
 rw [show W0 t.value = t.value from b7.eta _] at h ⊢
 exact bL4 k3 h
theorem bM9 (k3 : t.kind = 3) (h : (!(c5 (c6 vs ars 5 (W0 t.value)) && decide (c6 vs ars 5 (W0 t.value) % 2 = 1))) = true) : z6 ars t m pc (vs, bd) = ((i6 ars t.els m (lbV ars vs pc t) ((i6 ars t.body m (lbV ars vs pc t) ((b9 ars pc t.value (vs, bd)).1.1, [])).1, [])).1,
  (b9 ars pc t.value (vs, bd)).1.2 ++ [⟨3, 0, ⟨0, 0, []⟩, W0 (b9 ars pc t.value (vs, bd)).2, 0, (i6 ars t.body m (lbV ars vs pc t) ((b9 ars pc t.value (vs, bd)).1.1, [])).2, (i6 ars t.els m (lbV ars vs pc t) ((i6 ars t.body m (lbV ars vs pc t) ((b9 ars pc t.value (vs, bd)).1.1, [])).1, [])).2⟩]) := by
 rw [bW6] at h
 rw [show W0 (b9 ars pc t.value (vs, bd)).2 = (b9 ars pc t.value (vs, bd)).2 from b7.eta _]
 unfold lbV
 rw [show W0 t.value = t.value from b7.eta _] at h ⊢
 exact bL5 k3 h
theorem bM8 (k3 : t.kind = 3) (h : (!(c5 (c6 vs ars 5 (W0 t.value)) && decide (c6 vs ars 5 (W0 t.value) % 2 = 1))) = true) : (z6 ars t m pc (vs, bd)).1 = (i6 ars t.els m (lbV ars vs pc t) ((i6 ars t.body m (lbV ars vs pc t) ((b9 ars pc t.value (vs, bd)).1.1, [])).1, [])).1 := by rw [bM9 k3 h]
theorem bM6 (k3 : t.kind = 3) (h : (!(c5 (c6 vs ars 5 (W0 t.value)) && decide (c6 vs ars 5 (W0 t.value) % 2 = 1))) = false) : (z6 ars t m pc (vs, bd)).1 = (i6 ars t.els (((b9 ars pc t.value (vs, bd)).1.1 ++ [lbV ars vs pc t]).length : Int) (lbV ars vs pc t) (i6 ars t.body ((b9 ars pc t.value (vs, bd)).1.1.length : Int) (lbV ars vs pc t) (ifN (b9 ars pc t.value (vs, bd)) m (lbV ars vs pc t)))).1 := by rw [bM7 k3 h]
end
abbrev ar8 (ars : List Int) (t : b6) (m : Int) (pc : Int) (vs : List Int) (bd : List b6) := i6 ars t.body ((b9 ars pc t.value (vs, bd)).fst.fst.length : Int) (f9 pc (c6 vs ars 5 (n4 t.value))) ((b9 ars pc t.value (vs, bd)).fst.fst ++ [f9 pc (c6 vs ars 5 (n4 t.value))] ++ [f9 pc (c6 vs ars 5 (n4 t.value))], (b9 ars pc t.value (vs, bd)).fst.snd ++ [K1 ((b9 ars pc t.value (vs, bd)).fst.fst.length : Int) (n4 (t3 m (b7.mk (b9 ars pc t.value (vs, bd)).snd.kind (b9 ars pc t.value (vs, bd)).snd.value (b9 ars pc t.value (vs, bd)).snd.kids) (b7.mk 1 0 [])))] ++ [K1 (((b9 ars pc t.value (vs, bd)).fst.fst ++ [f9 pc (c6 vs ars 5 (n4 t.value))]).length : Int) (n4 (t3 m (b7.mk 9 0 ([b7.mk 2 ((b9 ars pc t.value (vs, bd)).fst.fst.length : Int) []] ++ ([b7.mk 1 0 []] ++ []))) (b7.mk 1 0 [])))])
abbrev x5 (ars : List Int) (t : b6) (vs : List Int) := c6 vs ars 5 (n4 t.value)
abbrev aE9 (ars : List Int) (t : b6) (pc : Int) (vs : List Int) (bd : List b6) := n4 (b9 ars pc t.value (vs, bd)).snd
abbrev ae0 (ars : List Int) (t : b6) (m : Int) (pc : Int) (vs : List Int) (bd : List b6) := i6 ars t.body m (f9 pc (x5 ars t vs)) ((b9 ars pc t.value (vs, bd)).fst.fst, [])
abbrev ad9 (ars : List Int) (t : b6) (m : Int) (pc : Int) (vs : List Int) (bd : List b6) := i6 ars t.els m (f9 pc (x5 ars t vs)) ((ae0 ars t m pc vs bd).fst, [])
abbrev aF0 (ars : List Int) (t : b6) (m : Int) (pc : Int) (vs : List Int) (bd : List b6) := n4 (t3 m (aE9 ars t pc vs bd) (b7.mk 1 0 []))
abbrev H9 : It := .box [.v (.slice none 0 0), .v (.slice none 0 0), .v (.slice none 0 0), .v (.slice none 0 0)]
abbrev G8 (ars : List Int) (t : b6) (r0 : List It) : List It := .dead :: dI ars :: .dead :: dE t.index.kids :: dE t.value.kids :: dT t.body :: dT t.els :: r0
abbrev J4 (ars : List Int) (t : b6) (pc : Int) (vs : List Int) (r0 : List (Nat × AV)) : List (Nat × AV) := (3, iA pc) :: (4, .ptr 7 0) :: (5, .ptr 8 0) :: (8, .ptr 9 0) :: (9, iA (x5 ars t vs)) :: r0
abbrev aT0 (ars : List Int) (t : b6) (pc : Int) (vs : List Int) (bd : List b6) (r0 : List It) : List It := .box (sL t 3) :: H9 :: .box [iA (b9 ars pc t.value (vs, bd)).snd.kind, iA (b9 ars pc t.value (vs, bd)).snd.value, .ref 12] :: .row 75 (D.stmts (b9 ars pc t.value (vs, bd)).fst.snd) :: dE (b9 ars pc t.value (vs, bd)).snd.kids :: r0
theorem bB1 (ars : List Int) (nv dd : Nat) (t : b6) (k3 : t.kind = 3) (hh : s9 nv ars.length t = true) (hbb : t.body.all (d7 nv ars.length dd) = true) (hbe : t.els.all (d7 nv ars.length dd) = true)
    (hB : ∀ (tt : List b6) (m pc : Int) (vs : List Int) (bd : List b6), tt.all (d7 nv ars.length dd) = true → nv ≤ vs.length → vs.length + 4 * c9 tt ≤ 90000 → c9 bd + 130 * c9 tt ≤ 600000 → d8.ok Tryz.prog (lbC ars m pc vs bd tt))
    (hI : ∀ (tt : List b6) (m pc : Int) (vs : List Int) (bd : List b6), tt.all (d7 nv ars.length dd) = true → nv ≤ vs.length → vs.length + 4 * c9 tt ≤ 90000 → 130 * c9 tt ≤ 600000 → d8.ok Tryz.prog (bs1 ars m pc vs bd tt))
    (m pc : Int) (vs : List Int) (bd : List b6) (hv : nv ≤ vs.length) (r1 : vs.length + 4 * (1 + B6 t) ≤ 90000) (r2 : c9 bd + 130 * (1 + B6 t) ≤ 600000) : d8.ok Tryz.prog (bL8 ars m pc vs bd t) := by
  refine t8 116 Tryz.func61 [.row 3 (D.ints vs), dI ars, .row 75 (D.stmts bd), dE t.index.kids, dE t.value.kids, dT t.body, dT t.els] [(0, .agg [.ref 0, .ref 1, .v (.slice none 0 0), .ref 2]), (1, sA t 3), (2, iA m), (3, iA pc)] fun G => ?_
  have hsz : B6 t = s5 t.index + s5 t.value + c9 t.body + c9 t.els := by cases t; rfl
  have hsh := bj8 (vs := vs) hh k3 hv; have hbd := bD3 (pc := pc) (bd := bd) hh k3 hv r1 r2; refine wp_seq (e5 G c3 [0, 1, 2, 3, 4, 5, 6, 7, 15, 23] [.row 3 (D.ints vs), dI ars, .row 75 (D.stmts bd), dE t.index.kids, dE t.value.kids, dT t.body, dT t.els, .box [.ref 0, .ref 1, .v (.slice none 0 0), .ref 2], .box (sL t 3), H9] [(2, iA m), (3, iA pc), (4, .ptr 7 0), (5, .ptr 8 0), (8, .ptr 9 0)] fun G => b5 (wp_seq (d9 G (n5 4 [0, 1, 4] (d8.lend (N8 vs ars t.value.kind t.value.value t.value.kids (by assumption)) [.row 3])) [(9, iA (x5 ars t vs))] fun G => b5 (wp_seq (e5 G c3 [0, 1, 2, 3, 4, 5, 6, 7, 8, 9, 18] [.row 3 (D.ints vs), dI ars, .row 75 (D.stmts bd), dE t.index.kids, dE t.value.kids, dT t.body, dT t.els, .box [.ref 0, .ref 1, .v (.slice none 0 0), .ref 2], .box (sL t 3), H9, .box [iA 0, iA 0, .v (.slice none 0 0)]] ((2, iA m) :: (J4 ars t pc vs [(10, .ptr 10 0)])) fun G => b5 (wp_seq (e5 G (n5 4 [0, 1, 2, 4] (aR3 ars pc t.value vs bd (by assumption) (by omega) (by omega))) [0, 1, 2, 3, 4, 5, 6, 7, 8, 9, 10, 43, 44, 45] (G8 ars t [.box [.ref 11, .ref 1, .v (.slice none 0 0), .ref 12], .box (sL t 3), H9, .box [iA (b9 ars pc t.value (vs, bd)).snd.kind, iA (b9 ars pc t.value (vs, bd)).snd.value, .ref 13], .row 3 (D.ints (b9 ars pc t.value (vs, bd)).fst.fst), .row 75 (D.stmts (b9 ars pc t.value (vs, bd)).fst.snd), dE (b9 ars pc t.value (vs, bd)).snd.kids]) ((2, iA m) :: (J4 ars t pc vs [(10, .ptr 10 0)])) fun G => b5 (wp_seq (wp_seq (d9 G (n5 1 [] (A9 (c6 vs ars 5 (n4 t.value)))) [(31, .v (.bool !(c5 (x5 ars t vs) && decide (c6 vs ars 5 (n4 t.value) % 2 = 1))))] fun G => b5 ?_)))))))))); cases h0 : (!(c5 (c6 vs ars (5 : Nat) (n4 t.value)) && decide (c6 vs ars (5 : Nat) (n4 t.value) % (2 : Int) = 1)))
  ·
   have q0 : ((c5 (c6 vs ars 5 (n4 t.value))) = true) ∧ (c6 vs ars 5 (n4 t.value) % 2 = 1) := (fun hq => And.imp (fun hq => (hq)) (fun hq => of_decide_eq_true hq) (bY8.1 hq)) (Eq.mp (bW7 _) h0); refine rF G _ h0 (wp_skip (b5 (wp_seq (d9 G c3 [(13, iA 0), (14, iA 0)] fun G => b5 (wp_seq (e5 G (n5 4 [11, 1, 12] (ab5 ((b9 ars pc t.value (vs, bd)).fst.fst) ars ((b9 ars pc t.value (vs, bd)).fst.snd) (f9 pc (c6 vs ars 5 (n4 t.value))) (by omega))) [0, 1, 2, 3, 4, 5, 6, 7, 8, 9, 10, 12, 13, 46] (G8 ars t (.box [.ref 13, .ref 1, .v (.slice none 0 0), .ref 11] :: (aT0 ars t pc vs bd [.row 3 (D.ints ((b9 ars pc t.value (vs, bd)).fst.fst ++ [f9 pc (x5 ars t vs)]))]))) ((2, iA m) :: (J4 ars t pc vs [(10, .ptr 10 0), (13, iA ((b9 ars pc t.value (vs, bd)).fst.fst.length : Int)), (14, iA 0)])) fun G => b5 (wp_seq (F6 G (l9 (f6 4 [] (A7 0) (f6 5 [12, 46] (Z2 m ((b9 ars pc t.value (vs, bd)).snd.kind) ((b9 ars pc t.value (vs, bd)).snd.value) 1 0 ((b9 ars pc t.value (vs, bd)).snd.kids) ([])) (f6 6 [13, 1, 11, 54] (H7 ((b9 ars pc t.value (vs, bd)).fst.fst ++ [f9 pc (c6 vs ars 5 (n4 t.value))]) ars ((b9 ars pc t.value (vs, bd)).fst.snd) (((b9 ars pc t.value (vs, bd)).fst.fst.length : Int)) ((t3 m (n4 (b9 ars pc t.value (vs, bd)).snd) (b7.mk 1 0 [])).kind) ((t3 m (n4 (b9 ars pc t.value (vs, bd)).snd) (b7.mk 1 0 [])).value) ((t3 m (n4 (b9 ars pc t.value (vs, bd)).snd) (b7.mk 1 0 [])).kids) (by omega)) l8))) fz []) [0, 0, 0, 0, 0, 28, 63, 127] [0, 1, 2, 3, 4, 5, 6, 7, 8, 9, 13, 62] (G8 ars t [.box [.ref 10, .ref 1, .v (.slice none 0 0), .ref 11], .box (sL t 3), H9, .row 3 (D.ints ((b9 ars pc t.value (vs, bd)).fst.fst ++ [f9 pc (x5 ars t vs)])), .row 75 (D.stmts ((b9 ars pc t.value (vs, bd)).fst.snd ++ [K1 ((b9 ars pc t.value (vs, bd)).fst.fst.length : Int) (aF0 ars t m pc vs bd)]))]) ((2, iA m) :: (J4 ars t pc vs [(13, iA ((b9 ars pc t.value (vs, bd)).fst.fst.length : Int)), (14, iA 0)])) fun G => b5 (wp_seq (e5 G (n5 4 [10, 1, 11] (ab5 ((b9 ars pc t.value (vs, bd)).fst.fst ++ [f9 pc (c6 vs ars 5 (n4 t.value))]) ars ((b9 ars pc t.value (vs, bd)).fst.snd ++ [K1 ((b9 ars pc t.value (vs, bd)).fst.fst.length : Int) (n4 (t3 m (b7.mk (b9 ars pc t.value (vs, bd)).snd.kind (b9 ars pc t.value (vs, bd)).snd.value (b9 ars pc t.value (vs, bd)).snd.kids) (b7.mk 1 0 [])))]) (f9 pc (c6 vs ars 5 (n4 t.value))) (by simp only [bX5, bX2, bY9]; omega))) [0, 1, 2, 3, 4, 5, 6, 7, 8, 9, 11, 44] (G8 ars t [.box [.ref 11, .ref 1, .v (.slice none 0 0), .ref 10], .box (sL t 3), H9, .row 75 (D.stmts ((b9 ars pc t.value (vs, bd)).fst.snd ++ [K1 ((b9 ars pc t.value (vs, bd)).fst.fst.length : Int) (aF0 ars t m pc vs bd)])), .row 3 (D.ints ((b9 ars pc t.value (vs, bd)).fst.fst ++ [f9 pc (x5 ars t vs)] ++ [f9 pc (x5 ars t vs)]))]) ((2, iA m) :: (J4 ars t pc vs [(13, iA ((b9 ars pc t.value (vs, bd)).fst.fst.length : Int)), (14, iA (((b9 ars pc t.value (vs, bd)).fst.fst ++ [f9 pc (x5 ars t vs)]).length : Int))])) fun G => ?_))))))))))
   refine b5 (wp_seq (F6 G (l9 (f6 4 [] (ab4 (((b9 ars pc t.value (vs, bd)).fst.fst.length : Int))) (f6 5 [] (A7 0) (f6 7 [60] (S8 9 ([b7.mk 2 ((b9 ars pc t.value (vs, bd)).fst.fst.length : Int) []] ++ ([b7.mk 1 0 []] ++ []))) (f6 8 [] (A7 0) (f6 9 [60, 76] (Z2 m 9 0 1 0 ([b7.mk 2 ((b9 ars pc t.value (vs, bd)).fst.fst.length : Int) []] ++ ([b7.mk 1 0 []] ++ [])) ([])) (f6 10 [11, 1, 10, 84] (H7 ((b9 ars pc t.value (vs, bd)).fst.fst ++ [f9 pc (c6 vs ars 5 (n4 t.value))] ++ [f9 pc (c6 vs ars 5 (n4 t.value))]) ars ((b9 ars pc t.value (vs, bd)).fst.snd ++ [K1 ((b9 ars pc t.value (vs, bd)).fst.fst.length : Int) (n4 (t3 m (b7.mk (b9 ars pc t.value (vs, bd)).snd.kind (b9 ars pc t.value (vs, bd)).snd.value (b9 ars pc t.value (vs, bd)).snd.kids) (b7.mk 1 0 [])))]) ((((b9 ars pc t.value (vs, bd)).fst.fst ++ [f9 pc (c6 vs ars 5 (n4 t.value))]).length : Int)) ((t3 m (b7.mk 9 0 ([b7.mk 2 ((b9 ars pc t.value (vs, bd)).fst.fst.length : Int) []] ++ ([b7.mk 1 0 []] ++ []))) (b7.mk 1 0 [])).kind) ((t3 m (b7.mk 9 0 ([b7.mk 2 ((b9 ars pc t.value (vs, bd)).fst.fst.length : Int) []] ++ ([b7.mk 1 0 []] ++ []))) (b7.mk 1 0 [])).value) ((t3 m (b7.mk 9 0 ([b7.mk 2 ((b9 ars pc t.value (vs, bd)).fst.fst.length : Int) []] ++ ([b7.mk 1 0 []] ++ []))) (b7.mk 1 0 [])).kids) (by simp only [bX5, bX2, bY9]; omega)) l8)))))) fz []) [0, 0, 0, 0, 8, 24, 56, 120, 248, 508, 1023, 2047] [0, 1, 2, 3, 4, 5, 6, 7, 8, 9, 11, 92] (G8 ars t [.box [.ref 10, .ref 1, .v (.slice none 0 0), .ref 11], .box (sL t 3), H9, .row 3 (D.ints ((b9 ars pc t.value (vs, bd)).fst.fst ++ [f9 pc (x5 ars t vs)] ++ [f9 pc (x5 ars t vs)])), .row 75 (D.stmts ((b9 ars pc t.value (vs, bd)).fst.snd ++ [K1 ((b9 ars pc t.value (vs, bd)).fst.fst.length : Int) (aF0 ars t m pc vs bd)] ++ [K1 (((b9 ars pc t.value (vs, bd)).fst.fst ++ [f9 pc (x5 ars t vs)]).length : Int) (n4 (t3 m (b7.mk 9 0 ([b7.mk 2 ((b9 ars pc t.value (vs, bd)).fst.fst.length : Int) []] ++ ([b7.mk 1 0 []] ++ []))) (b7.mk 1 0 [])))]))]) (J4 ars t pc vs [(13, iA ((b9 ars pc t.value (vs, bd)).fst.fst.length : Int)), (14, iA (((b9 ars pc t.value (vs, bd)).fst.fst ++ [f9 pc (x5 ars t vs)]).length : Int))]) fun G => b5 (wp_seq (e5 G (n5 7 [10, 1, 5, 11] (hB t.body (((b9 ars pc t.value (vs, bd)).fst.fst.length : Int)) (f9 pc (c6 vs ars 5 (n4 t.value))) ((b9 ars pc t.value (vs, bd)).fst.fst ++ [f9 pc (c6 vs ars 5 (n4 t.value))] ++ [f9 pc (c6 vs ars 5 (n4 t.value))]) ((b9 ars pc t.value (vs, bd)).fst.snd ++ [K1 ((b9 ars pc t.value (vs, bd)).fst.fst.length : Int) (n4 (t3 m (b7.mk (b9 ars pc t.value (vs, bd)).snd.kind (b9 ars pc t.value (vs, bd)).snd.value (b9 ars pc t.value (vs, bd)).snd.kids) (b7.mk 1 0 [])))] ++ [K1 (((b9 ars pc t.value (vs, bd)).fst.fst ++ [f9 pc (c6 vs ars 5 (n4 t.value))]).length : Int) (n4 (t3 m (b7.mk 9 0 ([b7.mk 2 ((b9 ars pc t.value (vs, bd)).fst.fst.length : Int) []] ++ ([b7.mk 1 0 []] ++ []))) (b7.mk 1 0 [])))]) (by assumption) (by simp only [bX5, bX2, bY9]; omega) (by simp only [bX5, bX2, bY9]; omega) (bM3 hh k3 hv r1 r2))) [0, 1, 2, 3, 4, 5, 6, 7, 8, 9, 68, 69] (G8 ars t [.box [.ref 10, .ref 1, .v (.slice none 0 0), .ref 11], .box (sL t 3), H9, .row 3 (D.ints (ar8 ars t m pc vs bd).fst), .row 75 (D.stmts (ar8 ars t m pc vs bd).snd)]) (J4 ars t pc vs [(14, iA (((b9 ars pc t.value (vs, bd)).fst.fst ++ [f9 pc (x5 ars t vs)]).length : Int))]) fun G => ?_))))
   refine b5 (wp_seq (e5 G (n5 7 [10, 1, 6, 11] (hB t.els ((((b9 ars pc t.value (vs, bd)).fst.fst ++ [f9 pc (c6 vs ars 5 (n4 t.value))]).length : Int)) (f9 pc (c6 vs ars 5 (n4 t.value))) ((i6 ars t.body ((b9 ars pc t.value (vs, bd)).fst.fst.length : Int) (f9 pc (c6 vs ars 5 (n4 t.value))) ((b9 ars pc t.value (vs, bd)).fst.fst ++ [f9 pc (c6 vs ars 5 (n4 t.value))] ++ [f9 pc (c6 vs ars 5 (n4 t.value))], (b9 ars pc t.value (vs, bd)).fst.snd ++ [K1 ((b9 ars pc t.value (vs, bd)).fst.fst.length : Int) (n4 (t3 m (b7.mk (b9 ars pc t.value (vs, bd)).snd.kind (b9 ars pc t.value (vs, bd)).snd.value (b9 ars pc t.value (vs, bd)).snd.kids) (b7.mk 1 0 [])))] ++ [K1 (((b9 ars pc t.value (vs, bd)).fst.fst ++ [f9 pc (c6 vs ars 5 (n4 t.value))]).length : Int) (n4 (t3 m (b7.mk 9 0 ([b7.mk 2 ((b9 ars pc t.value (vs, bd)).fst.fst.length : Int) []] ++ ([b7.mk 1 0 []] ++ []))) (b7.mk 1 0 [])))])).fst) ((i6 ars t.body ((b9 ars pc t.value (vs, bd)).fst.fst.length : Int) (f9 pc (c6 vs ars 5 (n4 t.value))) ((b9 ars pc t.value (vs, bd)).fst.fst ++ [f9 pc (c6 vs ars 5 (n4 t.value))] ++ [f9 pc (c6 vs ars 5 (n4 t.value))], (b9 ars pc t.value (vs, bd)).fst.snd ++ [K1 ((b9 ars pc t.value (vs, bd)).fst.fst.length : Int) (n4 (t3 m (b7.mk (b9 ars pc t.value (vs, bd)).snd.kind (b9 ars pc t.value (vs, bd)).snd.value (b9 ars pc t.value (vs, bd)).snd.kids) (b7.mk 1 0 [])))] ++ [K1 (((b9 ars pc t.value (vs, bd)).fst.fst ++ [f9 pc (c6 vs ars 5 (n4 t.value))]).length : Int) (n4 (t3 m (b7.mk 9 0 ([b7.mk 2 ((b9 ars pc t.value (vs, bd)).fst.fst.length : Int) []] ++ ([b7.mk 1 0 []] ++ []))) (b7.mk 1 0 [])))])).snd) (by assumption) ((bD2 hbb hh k3 hv r1 r2).1) ((bD2 hbb hh k3 hv r1 r2).2.1) ((bD2 hbb hh k3 hv r1 r2).2.2))) [0, 1, 2, 3, 4, 5, 6, 9, 68, 69] (G8 ars t [.box [.ref 8, .ref 1, .v (.slice none 0 0), .ref 9], .row 3 (D.ints (i6 ars t.els (((b9 ars pc t.value (vs, bd)).fst.fst ++ [f9 pc (x5 ars t vs)]).length : Int) (f9 pc (x5 ars t vs)) (ar8 ars t m pc vs bd)).fst), .row 75 (D.stmts (i6 ars t.els (((b9 ars pc t.value (vs, bd)).fst.fst ++ [f9 pc (x5 ars t vs)]).length : Int) (f9 pc (x5 ars t vs)) (ar8 ars t m pc vs bd)).snd)]) [(8, .ptr 7 0)] fun G => ?_))
   refine b5 (wp_ret ?_); exact A3 G [0, 1, 2, 3, 4, 5, 6, 8, 9] (by show _ = mR [0, 1, 2, 3, 4, 5, 6, 8, 9] [.dead, dI ars, .dead, dE t.index.kids, dE t.value.kids, dT t.body, dT t.els, .row 3 (D.ints (z6 ars t m pc (vs, bd)).fst), .row 75 (D.stmts (z6 ars t m pc (vs, bd)).snd)]; have e1 : ((z6 ars t m pc (vs, bd)).fst : List Int) = ((i6 ars t.els (((b9 ars pc t.value (vs, bd)).fst.fst ++ [f9 pc (c6 vs ars 5 (n4 t.value))]).length : Int) (f9 pc (c6 vs ars 5 (n4 t.value))) (i6 ars t.body ((b9 ars pc t.value (vs, bd)).fst.fst.length : Int) (f9 pc (c6 vs ars 5 (n4 t.value))) ((b9 ars pc t.value (vs, bd)).fst.fst ++ [f9 pc (c6 vs ars 5 (n4 t.value))] ++ [f9 pc (c6 vs ars 5 (n4 t.value))], (b9 ars pc t.value (vs, bd)).fst.snd ++ [K1 ((b9 ars pc t.value (vs, bd)).fst.fst.length : Int) (n4 (t3 m (b7.mk (b9 ars pc t.value (vs, bd)).snd.kind (b9 ars pc t.value (vs, bd)).snd.value (b9 ars pc t.value (vs, bd)).snd.kids) (b7.mk 1 0 [])))] ++ [K1 (((b9 ars pc t.value (vs, bd)).fst.fst ++ [f9 pc (c6 vs ars 5 (n4 t.value))]).length : Int) (n4 (t3 m (b7.mk 9 0 ([b7.mk 2 ((b9 ars pc t.value (vs, bd)).fst.fst.length : Int) []] ++ ([b7.mk 1 0 []] ++ []))) (b7.mk 1 0 [])))]))).fst) := (bM6 k3 (by with_reducible assumption)); have e2 : ((z6 ars t m pc (vs, bd)).snd : List b6) = ((i6 ars t.els (((b9 ars pc t.value (vs, bd)).fst.fst ++ [f9 pc (x5 ars t vs)]).length : Int) (f9 pc (x5 ars t vs)) (ar8 ars t m pc vs bd)).snd) := (congrArg Prod.snd (bM7 k3 (by with_reducible assumption))); (first | rw [e1, e2] | simp only [e1, e2]) <;> rfl)
  ·
   have q0 : ((c5 (c6 vs ars 5 (n4 t.value))) = false) ∨ (¬ (c6 vs ars 5 (n4 t.value) % 2 = 1)) := (fun hq => Or.imp (fun hq => (hq)) (fun hq => of_decide_eq_false hq) (bY6.1 hq)) (Eq.mp (bW6 _) h0); refine rT G _ h0 (wp_seq (e5 G c3 [0, 1, 2, 3, 4, 5, 6, 7, 8, 9, 10, 11, 12, 13, 14, 22] (G8 ars t [.box [.ref 11, .ref 1, .v (.slice none 0 0), .ref 12], .box (sL t 3), H9, .box [iA (b9 ars pc t.value (vs, bd)).snd.kind, iA (b9 ars pc t.value (vs, bd)).snd.value, .ref 13], .row 3 (D.ints (b9 ars pc t.value (vs, bd)).fst.fst), .row 75 (D.stmts (b9 ars pc t.value (vs, bd)).fst.snd), dE (b9 ars pc t.value (vs, bd)).snd.kids, .tree (D.stmts []), .tree (D.stmts [])]) ((2, iA m) :: (J4 ars t pc vs [(10, .ptr 10 0), (11, .tref 14), (12, .tref 15)])) fun G => b5 (wp_seq (e5 G (n5 7 [11, 1, 12, 5] (hI t.body m (f9 pc (c6 vs ars 5 (n4 t.value))) ((b9 ars pc t.value (vs, bd)).fst.fst) ((b9 ars pc t.value (vs, bd)).fst.snd) (by assumption) (by omega) (by omega) (by omega))) [0, 1, 2, 3, 4, 5, 6, 7, 8, 9, 10, 12, 13, 15, 72, 73] (G8 ars t (.box [.ref 14, .ref 1, .v (.slice none 0 0), .ref 11] :: (aT0 ars t pc vs bd [.tree (D.stmts []), .row 3 (D.ints (ae0 ars t m pc vs bd).fst), dT (ae0 ars t m pc vs bd).snd]))) ((2, iA m) :: (J4 ars t pc vs [(10, .ptr 10 0), (11, .ref 15), (12, .tref 13)])) fun G => b5 (wp_seq (e5 G (n5 7 [14, 1, 11, 6] (hI t.els m (f9 pc (c6 vs ars 5 (n4 t.value))) ((i6 ars t.body m (f9 pc (c6 vs ars 5 (n4 t.value))) ((b9 ars pc t.value (vs, bd)).fst.fst, [])).fst) ((b9 ars pc t.value (vs, bd)).fst.snd) (by assumption) ((bM5 hbb hh k3 hv r1 r2).1) ((bM5 hbb hh k3 hv r1 r2).2) (by omega))) [0, 1, 2, 3, 4, 5, 6, 7, 8, 9, 10, 11, 12, 15, 72, 73] (G8 ars t (.box [.ref 14, .ref 1, .v (.slice none 0 0), .ref 11] :: (aT0 ars t pc vs bd [dT (ae0 ars t m pc vs bd).snd, .row 3 (D.ints (ad9 ars t m pc vs bd).fst), dT (ad9 ars t m pc vs bd).snd]))) ((2, iA m) :: (J4 ars t pc vs [(10, .ptr 10 0), (11, .ref 13), (12, .ref 15)])) fun G => b5 (wp_seq (L6 G c3 [0, 1, 2, 3, 4, 5, 6, 7, 8, 9, 10, 12, 14, 72] (G8 ars t [.box [.ref 12, .ref 1, .v (.slice none 0 0), .ref 13], .box (sL t 3), H9, .box [iA (b9 ars pc t.value (vs, bd)).snd.kind, iA (b9 ars pc t.value (vs, bd)).snd.value, .ref 11], dE (b9 ars pc t.value (vs, bd)).snd.kids, .row 3 (D.ints (ad9 ars t m pc vs bd).fst), .row 75 (D.stmts ((b9 ars pc t.value (vs, bd)).fst.snd ++ ([b6.mk 3 0 (b7.mk 0 0 []) (aE9 ars t pc vs bd) 0 (ae0 ars t m pc vs bd).snd (ad9 ars t m pc vs bd).snd] ++ [])))]) ((2, iA m) :: (J4 ars t pc vs [(10, .ptr 10 0)])) (aP ((b9 ars pc t.value (vs, bd)).fst.snd.length + 1) 152 []) (aK (by omega) bX6) fun G => ?_))))))))
   refine b5 (wp_seq (e5 G c3 (rg 14) (G8 ars t [.box [.ref 12, .ref 1, .v (.slice none 0 0), .ref 13], .box (sL t 3), .box [.ref 12, .ref 1, .v (.slice none 0 0), .ref 13], .box [iA (b9 ars pc t.value (vs, bd)).snd.kind, iA (b9 ars pc t.value (vs, bd)).snd.value, .ref 11], dE (b9 ars pc t.value (vs, bd)).snd.kids, .row 3 (D.ints (ad9 ars t m pc vs bd).fst), .row 75 (D.stmts ((b9 ars pc t.value (vs, bd)).fst.snd ++ ([b6.mk 3 0 (b7.mk 0 0 []) (aE9 ars t pc vs bd) 0 (ae0 ars t m pc vs bd).snd (ad9 ars t m pc vs bd).snd] ++ [])))]) ((2, iA m) :: (J4 ars t pc vs [(10, .ptr 10 0)])) fun G => b5 (wp_ret (c8 ?_)))); exact A3 G [0, 1, 2, 3, 4, 5, 6, 12, 13] (by show _ = mR [0, 1, 2, 3, 4, 5, 6, 12, 13] (G8 ars t [.row 3 (D.ints (z6 ars t m pc (vs, bd)).fst), .row 75 (D.stmts (z6 ars t m pc (vs, bd)).snd)]); have e1 : ((z6 ars t m pc (vs, bd)).fst : List Int) = ((i6 ars t.els m (f9 pc (c6 vs ars 5 (n4 t.value))) ((i6 ars t.body m (f9 pc (c6 vs ars 5 (n4 t.value))) ((b9 ars pc t.value (vs, bd)).fst.fst, [])).fst, [])).fst) := (bM8 k3 (by with_reducible assumption)); have e2 : ((z6 ars t m pc (vs, bd)).snd : List b6) = ((b9 ars pc t.value (vs, bd)).fst.snd ++ ([b6.mk 3 0 (b7.mk 0 0 []) (aE9 ars t pc vs bd) 0 (ae0 ars t m pc vs bd).snd (ad9 ars t m pc vs bd).snd] ++ [])) := (congrArg Prod.snd (bM9 k3 (by with_reducible assumption))); (first | rw [e1, e2] | simp only [e1, e2]) <;> rfl)
abbrev xB (ars : List Int) (m pc : Int) (vs : List Int) (bd : List b6) (ss : List b6) (k : Nat) : V5 := i6 ars (ss.take k) m pc (vs, bd)
theorem bo9 {ss : List b6} {k : Nat} (hk : k < ss.length) : c9 (ss.take k) + (1 + B6 (ss.getD k bW1)) ≤ c9 ss := by
 have h1 := r6 (ss.take (k + 1)) (ss.drop (k + 1))
 rw [List.take_append_drop, l0 _ _ hk, r6, ← f8 (d := bW1) hk] at h1
 simp only [c9] at h1
 omega
section
variable {ars vs : List Int} {bd : List b6} {m pc : Int} {ss : List b6} {nv d k : Nat}
theorem bG3 (hs : ss.all (d7 nv ars.length d) = true) (hv : nv ≤ vs.length) : GrS (c9 (ss.take k)) (vs, bd) (xB ars m pc vs bd ss k) :=
 aI6 ars (ss.take k) m pc (vs, bd) (bX0.2 fun x hx => bX0.1 hs x (List.mem_of_mem_take hx)) hv
theorem az1 (hs : ss.all (d7 nv ars.length d) = true) (hv : nv ≤ vs.length) (r1 : vs.length + 4 * c9 ss ≤ 90000) (r2 : c9 bd + 130 * c9 ss ≤ 600000) (hk : k < ss.length) : nv ≤ (xB ars m pc vs bd ss k).1.length ∧ (xB ars m pc vs bd ss k).1.length + 4 * (1 + B6 (ss.getD k bW1)) ≤ 90000 ∧ c9 (xB ars m pc vs bd ss k).2 + 130 * (1 + B6 (ss.getD k bW1)) ≤ 600000 := by
 have g := bG3 (bd := bd) (m := m) (pc := pc) (k := k) hs hv
 have h1 := bo9 hk
 have a := g.lo; have b := g.hi; have c := g.st
 simp only at a b c
 omega
abbrev yB (ars : List Int) (m pc : Int) (vs : List Int) (bd : List b6) (ss : List b6) (k : Nat) : V5 × b7 := b9 ars pc (ss.getD k bW1).value ((xB ars m pc vs bd ss k).1, (xB ars m pc vs bd ss k).2)
theorem aK9 (hs : ss.all (d7 nv ars.length (d + 1)) = true) (hv : nv ≤ vs.length) (r1 : vs.length + 4 * c9 ss ≤ 90000) (r2 : c9 bd + 130 * c9 ss ≤ 600000) (hk : k < ss.length) (h4 : ¬ (ss.getD k bW1).kind = 4) :
  c4 (xB ars m pc vs bd ss k).1.length ars.length 5 (ss.getD k bW1).value = true ∧ (xB ars m pc vs bd ss k).1.length + (1 + s5 (ss.getD k bW1).value) ≤ 100000 ∧ c9 (xB ars m pc vs bd ss k).2 + 40 * (1 + s5 (ss.getD k bW1).value) ≤ 700000 ∧
  nv ≤ (yB ars m pc vs bd ss k).1.1.length ∧ (yB ars m pc vs bd ss k).1.1.length ≤ 100000 ∧ (yB ars m pc vs bd ss k).1.2.length + 10 ≤ 700000 ∧ c4 (yB ars m pc vs bd ss k).1.1.length ars.length 5 (yB ars m pc vs bd ss k).2 = true := by
 have hb := az1 (m := m) (pc := pc) hs hv r1 r2 hk
 have hh := (ax0 hs hk).1
 have hsz : B6 (ss.getD k bW1) = s5 (ss.getD k bW1).index + s5 (ss.getD k bW1).value + c9 (ss.getD k bW1).body + c9 (ss.getD k bW1).els := by
  generalize ss.getD k bW1 = s; cases s; rfl
 have hsh := x6 (na := ars.length) hb.1 5 _ (r8 hh h4)
 obtain ⟨g, g2, -⟩ := aa6 ars pc ars.length 5 (ss.getD k bW1).value (xB ars m pc vs bd ss k) hsh
 have a : (xB ars m pc vs bd ss k).1.length ≤ (yB ars m pc vs bd ss k).1.1.length := g.lo
 have b : (yB ars m pc vs bd ss k).1.1.length ≤ (xB ars m pc vs bd ss k).1.length + (1 + s5 (ss.getD k bW1).value) := g.hi
 have c : c9 (yB ars m pc vs bd ss k).1.2 ≤ c9 (xB ars m pc vs bd ss k).2 + 40 * (1 + s5 (ss.getD k bW1).value) := g.st
 have h5 := D8 (yB ars m pc vs bd ss k).1.2
 exact ⟨hsh, by omega, by omega, by omega, by omega, by omega, g2⟩
theorem bb8 (hs : ss.all (d7 nv ars.length (d + 1)) = true) (hk : k < ss.length) (h2 : (ss.getD k bW1).kind = 2) {n : Nat} (hn : nv ≤ n) : c4 n ars.length 5 (ss.getD k bW1).index = true ∧ s5 (ss.getD k bW1).index ≤ 1048576 := by
 obtain ⟨q1, -, q3⟩ := aw2 (ax0 hs hk).1 h2
 exact ⟨x6 hn 5 _ q3, by rw [aq0 q1]; omega⟩
theorem as3 (hk : k < ss.length) : xB ars m pc vs bd ss (k + 1) = z6 ars (ss.getD k bW1) m pc (xB ars m pc vs bd ss k) := a87 hk
theorem X8 (s : b6) : c9 s.body ≤ B6 s ∧ c9 s.els ≤ B6 s ∧ s5 s.value ≤ B6 s := by
 cases s; simp only [B6, b6.body, b6.els, b6.value]; omega
abbrev sK (ss : List b6) (k : Nat) : b6 := ss.getD k bW1
theorem ar6 (hs : ss.all (d7 nv ars.length (d + 1)) = true) (hk : k < ss.length) (h3 : ¬ (sK ss k).kind = 3) (h4 : ¬ (sK ss k).kind = 4) (h5 : ¬ (sK ss k).kind = 5) (h1 : ¬ (sK ss k).kind = 1) : (sK ss k).kind = 2 := by
 by_cases h2 : (sK ss k).kind = 2
 ·exact h2
 ·have hh := (ax0 hs hk).1
  rw [aD5 ⟨h1, h2, h3, h4, h5⟩] at hh; cases hh
theorem bG7 (hk : k < ss.length) (h4 : (sK ss k).kind = 4) : xB ars m pc vs bd ss (k + 1) = ((i6 ars (sK ss k).body m pc ((xB ars m pc vs bd ss k).1, [])).1, (xB ars m pc vs bd ss k).2 ++ [⟨4, 0, ⟨0, 0, []⟩, ⟨0, 0, []⟩, (sK ss k).count, (i6 ars (sK ss k).body m pc ((xB ars m pc vs bd ss k).1, [])).2, []⟩]) := (as3 hk).trans (ln4 h4)
theorem bG5 (hk : k < ss.length) (h5 : (sK ss k).kind = 5) : xB ars m pc vs bd ss (k + 1) = ((yB ars m pc vs bd ss k).1.1, (yB ars m pc vs bd ss k).1.2 ++ [⟨5, (sK ss k).target, ⟨0, 0, []⟩, W0 (yB ars m pc vs bd ss k).2, 0, [], []⟩]) := by
 rw [show W0 (yB ars m pc vs bd ss k).2 = (yB ars m pc vs bd ss k).2 from b7.eta _]
 exact (as3 hk).trans (ln5 h5)
theorem bH0 (hk : k < ss.length) (h1 : (sK ss k).kind = 1) : xB ars m pc vs bd ss (k + 1) = ((yB ars m pc vs bd ss k).1.1, (yB ars m pc vs bd ss k).1.2 ++ [K1 (sK ss k).target (W0 (t3 m (W0 (yB ars m pc vs bd ss k).2) ⟨2, (sK ss k).target, []⟩))]) := by
 rw [show W0 (yB ars m pc vs bd ss k).2 = (yB ars m pc vs bd ss k).2 from b7.eta _, show ∀ e, W0 e = e from b7.eta]
 exact (as3 hk).trans (ln1 h1)
theorem bw5 (hk : k < ss.length) (h2 : (sK ss k).kind = 2) (h : (c5 (c6 (yB ars m pc vs bd ss k).1.1 ars 5 (W0 (sK ss k).index)) && decide (c6 (yB ars m pc vs bd ss k).1.1 ars 5 (W0 (sK ss k).index) % 2 = 1)) = false) : xB ars m pc vs bd ss (k + 1) = ((yB ars m pc vs bd ss k).1.1, (yB ars m pc vs bd ss k).1.2 ++ [⟨2, (sK ss k).target, W0 (sK ss k).index, W0 (t3 m (W0 (yB ars m pc vs bd ss k).2) ⟨3, (sK ss k).target, [W0 (sK ss k).index]⟩), 0, [], []⟩]) := by
 simp only [show ∀ e, W0 e = e from b7.eta] at h ⊢
 exact (as3 hk).trans (bL7 h2 h)
theorem bw4 (hk : k < ss.length) (h2 : (sK ss k).kind = 2) (h : (c5 (c6 (yB ars m pc vs bd ss k).1.1 ars 5 (W0 (sK ss k).index)) && decide (c6 (yB ars m pc vs bd ss k).1.1 ars 5 (W0 (sK ss k).index) % 2 = 1)) = true) : xB ars m pc vs bd ss (k + 1) = ((yB ars m pc vs bd ss k).1.1 ++ [f9 (c6 (yB ars m pc vs bd ss k).1.1 ars 5 (W0 (yB ars m pc vs bd ss k).2)) pc], (yB ars m pc vs bd ss k).1.2 ++ [K1 ((yB ars m pc vs bd ss k).1.1.length : Int) (W0 (yB ars m pc vs bd ss k).2)] ++ stL ((yB ars m pc vs bd ss k).1.1.length : Int) (sK ss k).target (W0 (sK ss k).index) m 4) := by
 simp only [show ∀ e, W0 e = e from b7.eta] at h ⊢
 exact (as3 hk).trans (bL6 h2 h)
theorem bG6 (hk : k < ss.length) (h4 : (sK ss k).kind = 4) : (xB ars m pc vs bd ss (k + 1)).1 = (i6 ars (sK ss k).body m pc ((xB ars m pc vs bd ss k).1, [])).1 := by rw [bG7 hk h4]
theorem bG4 (hk : k < ss.length) (h5 : (sK ss k).kind = 5) : (xB ars m pc vs bd ss (k + 1)).1 = (yB ars m pc vs bd ss k).1.1 := by rw [bG5 hk h5]
theorem bG9 (hk : k < ss.length) (h1 : (sK ss k).kind = 1) : (xB ars m pc vs bd ss (k + 1)).1 = (yB ars m pc vs bd ss k).1.1 := by rw [bH0 hk h1]
theorem bG8 (hk : k < ss.length) (h2 : (sK ss k).kind = 2) (h : (c5 (c6 (yB ars m pc vs bd ss k).1.1 ars 5 (W0 (sK ss k).index)) && decide (c6 (yB ars m pc vs bd ss k).1.1 ars 5 (W0 (sK ss k).index) % 2 = 1)) = false) : (xB ars m pc vs bd ss (k + 1)).1 = (yB ars m pc vs bd ss k).1.1 := by rw [bw5 hk h2 h]
theorem bc1 (hk : ss.length ≤ k) : i6 ars ss m pc (vs, bd) = xB ars m pc vs bd ss k := by unfold xB; rw [bX3 hk]
end
abbrev L2 (ars : List Int) (ss : List b6) (m : Int) (pc : Int) (vs : List Int) (bd : List b6) (k : Nat) := n4 (b9 ars pc (ss.getD k bW1).value (xB ars m pc vs bd ss k)).snd
abbrev p7 (ars : List Int) (ss : List b6) (m : Int) (pc : Int) (vs : List Int) (bd : List b6) (k : Nat) := b9 ars pc (ss.getD k bW1).value (xB ars m pc vs bd ss k)
abbrev a03 (ars : List Int) (ss : List b6) (m : Int) (pc : Int) (vs : List Int) (bd : List b6) (k : Nat) := t3 m (L2 ars ss m pc vs bd k) (b7.mk 3 (ss.getD k bW1).target [n4 (ss.getD k bW1).index])
abbrev Z8 (ss : List b6) (k : Nat) := n4 (ss.getD k bW1).index
abbrev Z7 : It := .box [.v (.slice none 0 0), .v (.slice none 0 0), .v (.slice none 0 0), .v (.slice none 0 0)]
abbrev bo2 : It := .box [.ref 6, .ref 1, .v (.slice none 0 0), .ref 7]
abbrev B1 (m : Int) (pc : Int) (r0 : List (Nat × AV)) : List (Nat × AV) := (1, .ref 2) :: (2, iA m) :: (3, iA pc) :: (4, .ptr 4 0) :: (8, .ptr 5 0) :: r0
abbrev ad6 (ss : List b6) (k : Nat) (r0 : List It) : List It := dE (ss.getD k bW1).index.kids :: dE (ss.getD k bW1).value.kids :: dT (ss.getD k bW1).body :: dT (ss.getD k bW1).els :: r0
abbrev Q1 (ars : List Int) (ss : List b6) (r0 : List It) : List It := .dead :: dI ars :: dT ss :: .dead :: bo2 :: Z7 :: r0
theorem aC3 (ars : List Int) (nv dd : Nat) (ss : List b6) (hs : ss.all (d7 nv ars.length (dd + 1)) = true)
    (hF : ∀ (t : b6), t.kind = 3 → s9 nv ars.length t = true → t.body.all (d7 nv ars.length dd) = true → t.els.all (d7 nv ars.length dd) = true → 0 < ss.length → ∀ (m pc : Int) (vs : List Int) (bd : List b6), nv ≤ vs.length → vs.length + 4 * (1 + B6 t) ≤ 90000 → c9 bd + 130 * (1 + B6 t) ≤ 600000 → d8.ok Tryz.prog (bL8 ars m pc vs bd t))
    (hI : ∀ (tt : List b6) (m pc : Int) (vs : List Int) (bd : List b6), tt.all (d7 nv ars.length dd) = true → 0 < ss.length → nv ≤ vs.length → vs.length + 4 * c9 tt ≤ 90000 → 130 * c9 tt ≤ 600000 → d8.ok Tryz.prog (bs1 ars m pc vs bd tt))
    (m pc : Int) (vs : List Int) (bd : List b6) (hv : nv ≤ vs.length) (r1 : vs.length + 4 * c9 ss ≤ 90000) (r2 : c9 bd + 130 * c9 ss ≤ 600000) : d8.ok Tryz.prog (lbC ars m pc vs bd ss) := by
  have hcp := bt8; refine t8 123 Tryz.func46 [.row 3 (D.ints vs), dI ars, dT ss, .row 75 (D.stmts bd)] [(0, .agg [.ref 0, .ref 1, .v (.slice none 0 0), .ref 3]), (1, .ref 2), (2, iA m), (3, iA pc)] fun G => ?_; have hl := D8 ss; refine wp_seq (e5 G c3 [0, 1, 2, 3, 4, 12] [.row 3 (D.ints vs), dI ars, dT ss, .row 75 (D.stmts bd), .box [.ref 0, .ref 1, .v (.slice none 0 0), .ref 3], Z7] (B1 m pc []) fun G => b5 (wp_seq (wp_seq (w3 G c3 (B1 m pc [(9, iA 0)]) fun G => b5 (wp_block ?_))))); obtain ⟨ρ, G⟩ := G.shift 0 6 [.dead, dI ars, dT ss, .row 75 (D.stmts bd), .box [.ref 6, .ref 1, .v (.slice none 0 0), .ref 3], .box [.v (.slice none 0 0), .v (.slice none 0 0), .v (.slice none 0 0), .v (.slice none 0 0)], .row 3 (D.ints vs)] (B1 m pc [(9, iA 0)]); obtain ⟨ρ, G⟩ := G.shift 3 7 [.dead, dI ars, dT ss, .dead, .box [.ref 6, .ref 1, .v (.slice none 0 0), .ref 7], .box [.v (.slice none 0 0), .v (.slice none 0 0), .v (.slice none 0 0), .v (.slice none 0 0)], .row 3 (D.ints vs), .row 75 (D.stmts bd)] (B1 m pc [(9, iA 0)]); refine k8 (κ := Nat) (fun k => k ≤ ss.length) (fun k => ss.length - k) (fun k => [.dead, dI ars, dT ss, .dead, .box [.ref 6, .ref 1, .v (.slice none 0 0), .ref 7], .box [.v (.slice none 0 0), .v (.slice none 0 0), .v (.slice none 0 0), .v (.slice none 0 0)], .row 3 (.ints (xB ars m pc vs bd ss k).1), .row 75 (.stmts (xB ars m pc vs bd ss k).2)]) (fun k => [(1, .ref 2), (2, iA m), (3, iA pc), (4, .ptr 4 0), (8, .ptr 5 0), (9, iA k)]) 0 (by omega) (l7.at G _ _) ?_; clear G; intro k ρ a w hp G; replace G := l7.at G (Q1 ars ss [.row 3 (D.ints (xB ars m pc vs bd ss k).fst), .row 75 (D.stmts (xB ars m pc vs bd ss k).snd)]) (B1 m pc [(9, iA k)]); refine wp_seq (wp_seq (d9 G c3 [(16, bA (decide ((k : Int) < ss.length)))] fun G => b5 (I2 G (fun h0 q0 => ?_) fun h0 q0 => ?_)))
  · refine wp_exit (j9 (j9 (j7 (b5 (wp_seq (e5 G c3 [0, 1, 2, 3, 5, 6, 7] [.dead, dI ars, dT ss, .dead, .box [.ref 5, .ref 1, .v (.slice none 0 0), .ref 6], .row 3 (D.ints (xB ars m pc vs bd ss k).fst), .row 75 (D.stmts (xB ars m pc vs bd ss k).snd)] [(8, .ptr 4 0)] fun G => b5 (wp_ret ?_))))))); exact A3 G [0, 1, 2, 3, 5, 6] (by show _ = mR [0, 1, 2, 3, 5, 6] [.dead, dI ars, dT ss, .dead, .row 3 (D.ints (i6 ars ss m pc (vs, bd)).fst), .row 75 (D.stmts (i6 ars ss m pc (vs, bd)).snd)]; have e1 : ((i6 ars ss m pc (vs, bd)).fst : List Int) = ((xB ars m pc vs bd ss k).fst) := (congrArg Prod.fst (bc1 (by omega))); have e2 : ((i6 ars ss m pc (vs, bd)).snd : List b6) = ((xB ars m pc vs bd ss k).snd) := (congrArg Prod.snd (bc1 (by omega))); (first | rw [e1, e2] | simp only [e1, e2]) <;> rfl)
  ·
   refine wp_skip (b5 (wp_seq (wp_block (wp_seq (L6 G c3 [0, 1, 2, 3, 4, 5, 6, 7, 32, 33, 34, 35, 40] (Q1 ars ss (.row 3 (D.ints (xB ars m pc vs bd ss k).fst) :: .row 75 (D.stmts (xB ars m pc vs bd ss k).snd) :: (ad6 ss k [.box (sL (ss.getD k bW1) 8)]))) (B1 m pc [(9, iA k), (10, .ptr 12 0)]) (iX k k ss.length []) (iK (by omega) bX6) fun G => b5 (wp_seq (wp_seq (d9 G c3 [(25, bA ((ss.getD k bW1).kind == 3))] fun G => b5 (I1 G (fun h1 q1 => ?_) fun h1 q1 => ?_)))))))))
   ·
    refine wp_skip (b5 (wp_seq (wp_seq (d9 G c3 [(33, bA ((ss.getD k bW1).kind == 4))] fun G => b5 (I1 G (fun h2 q2 => ?_) fun h2 q2 => ?_)))))
    ·
     refine wp_skip (b5 (wp_seq (e5 G c3 [0, 1, 2, 3, 4, 5, 6, 7, 8, 9, 10, 11, 12, 21] (Q1 ars ss (.row 3 (D.ints (xB ars m pc vs bd ss k).fst) :: .row 75 (D.stmts (xB ars m pc vs bd ss k).snd) :: (ad6 ss k [.box (sL (ss.getD k bW1) 8), .box [iA 0, iA 0, .v (.slice none 0 0)]]))) (B1 m pc [(9, iA k), (10, .ptr 12 0), (12, .ptr 13 0)]) fun G => b5 (wp_seq (e5 G (n5 4 [6, 1, 7, 9] (aR3 ars pc ((ss.getD k bW1).value) ((xB ars m pc vs bd ss k).fst) ((xB ars m pc vs bd ss k).snd) ((aK9 hs hv r1 r2 (by omega) (by omega)).1) (by have h9 := az1 (m := m) (pc := pc) hs hv r1 r2 (show k < ss.length by omega); have h8 := X8 (ss.getD k bW1); omega) (by have h9 := az1 (m := m) (pc := pc) hs hv r1 r2 (show k < ss.length by omega); have h8 := X8 (ss.getD k bW1); omega))) [0, 1, 2, 3, 4, 5, 8, 9, 10, 11, 12, 13, 46, 47, 48] (.dead :: dI ars :: dT ss :: .dead :: .box [.ref 12, .ref 1, .v (.slice none 0 0), .ref 13] :: Z7 :: (ad6 ss k [.box (sL (ss.getD k bW1) 6), .box (eL (p7 ars ss m pc vs bd k).snd 14), .row 3 (D.ints (p7 ars ss m pc vs bd k).fst.fst), .row 75 (D.stmts (p7 ars ss m pc vs bd k).fst.snd), dE (p7 ars ss m pc vs bd k).snd.kids])) (B1 m pc [(9, iA k), (10, .ptr 10 0), (12, .ptr 11 0)]) fun G => b5 (wp_block (wp_seq (d9 G c3 [(82, bA ((ss.getD k bW1).kind == 5))] fun G => b5 (I1 G (fun h3 q3 => ?_) fun h3 q3 => ?_)))))))))
     ·
      refine wp_seq (d9 G c3 [(95, bA ((ss.getD k bW1).kind == 1))] fun G => b5 (I1 G (fun h4 q4 => ?_) fun h4 q4 => ?_))
      ·
       refine wp_seq (d9 G (l9 (f6 4 [12, 1, 6] (d8.lend (N8 ((b9 ars pc (ss.getD k bW1).value (xB ars m pc vs bd ss k)).fst.fst) ars ((ss.getD k bW1).index.kind) ((ss.getD k bW1).index.value) ((ss.getD k bW1).index.kids) (by rw [b7.eta]; exact (bb8 hs (by omega) (ar6 hs (by omega) (by omega) (by omega) (by omega) (by omega)) (aK9 hs hv r1 r2 (by omega) (by omega)).2.2.2.1).1)) [.row 3]) (f6 5 [] (A9 (c6 (b9 ars pc (ss.getD k bW1).value (xB ars m pc vs bd ss k)).fst.fst ars 5 (n4 (ss.getD k bW1).index))) l8)) fz []) [(109, bA (c5 (c6 (p7 ars ss m pc vs bd k).fst.fst ars 5 (Z8 ss k)) && decide (c6 (p7 ars ss m pc vs bd k).fst.fst ars 5 (Z8 ss k) % 2 = 1)))] fun G => b5 ?_); cases h5 : (c5 (c6 (b9 ars pc (ss.getD k bW1).value (xB ars m pc vs bd ss k)).fst.fst ars (5 : Nat) (n4 (ss.getD k bW1).index)) && decide (c6 (b9 ars pc (ss.getD k bW1).value (xB ars m pc vs bd ss k)).fst.fst ars (5 : Nat) (n4 (ss.getD k bW1).index) % (2 : Int) = 1))
       ·
        have q5 : ((c5 (c6 (b9 ars pc (ss.getD k bW1).value (xB ars m pc vs bd ss k)).fst.fst ars 5 (n4 (ss.getD k bW1).index))) = false) ∨ (¬ (c6 (b9 ars pc (ss.getD k bW1).value (xB ars m pc vs bd ss k)).fst.fst ars 5 (n4 (ss.getD k bW1).index) % 2 = 1)) := Or.imp (fun hq => (hq)) (fun hq => of_decide_eq_false hq) (bY6.1 h5); refine rF G _ h5 (F0 G (l9 (f6 6 [6] (hcp ((ss.getD k bW1).index) ((bb8 hs (by omega) (ar6 hs (by omega) (by omega) (by omega) (by omega) (by omega)) (bX4 _)).2)) (f6 13 [6] (hcp ((ss.getD k bW1).index) ((bb8 hs (by omega) (ar6 hs (by omega) (by omega) (by omega) (by omega) (by omega)) (bX4 _)).2)) (f6 14 [119] (aj3 ((ss.getD k bW1).target) ((ss.getD k bW1).index.kind) ((ss.getD k bW1).index.value) ((ss.getD k bW1).index.kids)) (f6 15 [14, 127] (Z2 m ((b9 ars pc (ss.getD k bW1).value (xB ars m pc vs bd ss k)).snd.kind) ((b9 ars pc (ss.getD k bW1).value (xB ars m pc vs bd ss k)).snd.value) 3 ((ss.getD k bW1).target) ((b9 ars pc (ss.getD k bW1).value (xB ars m pc vs bd ss k)).snd.kids) ([n4 (ss.getD k bW1).index])) l8)))) fz []) [0, 1, 0, 4, 0, 16, 48, 0, 0, 0, 512, 0, 2048, 6256, 15984, 32752, 65532, 131068, 262143, 524287, 1048575] [0, 1, 2, 3, 4, 5, 12, 159] (Q1 ars ss [.row 3 (D.ints (p7 ars ss m pc vs bd k).fst.fst), .row 75 (D.stmts ((p7 ars ss m pc vs bd k).fst.snd ++ ([b6.mk 2 (ss.getD k bW1).target (Z8 ss k) (n4 (a03 ars ss m pc vs bd k)) 0 [] []] ++ [])))]) (B1 m pc [(9, iA k)]) (aP ((b9 ars pc (ss.getD k bW1).value (xB ars m pc vs bd ss k)).fst.snd.length + ([b6.mk (2 : Int) (ss.getD k bW1).target (n4 (ss.getD k bW1).index) (n4 (t3 m (b7.mk (b9 ars pc (ss.getD k bW1).value (xB ars m pc vs bd ss k)).snd.kind (b9 ars pc (ss.getD k bW1).value (xB ars m pc vs bd ss k)).snd.value (b9 ars pc (ss.getD k bW1).value (xB ars m pc vs bd ss k)).snd.kids) (b7.mk (3 : Int) (ss.getD k bW1).target [b7.mk (ss.getD k bW1).index.kind (ss.getD k bW1).index.value (ss.getD k bW1).index.kids]))) (0 : Int) [] []] ++ []).length) 152 []) (aK (by have h9 : (b9 ars pc (ss.getD k bW1).value ((xB ars m pc vs bd ss k).1, (xB ars m pc vs bd ss k).2)).1.2.length + 10 ≤ 700000 := (aK9 (m := m) (pc := pc) hs hv r1 r2 (show k < ss.length by omega) (by omega)).2.2.2.2.2.1; have h7 : (b9 ars pc (ss.getD k bW1).value (xB ars m pc vs bd ss k)).1.2.length + 10 ≤ 700000 := h9; simp only [bX5, bX2, bY9]; omega) bX6) fun G => ?_)
        refine i9 (i9 (b5 (z5 G c3 [(9, iA ((k : Int) + 1))] [wO ((k : Int) + 1)] (o1 (by omega)) fun G => b5 ?_))); exact H3 G (k + 1) (by omega) (by omega) (rg 8) (by have e1 : ((xB ars m pc vs bd ss (k + 1)).fst : List Int) = ((b9 ars pc (ss.getD k bW1).value (xB ars m pc vs bd ss k)).fst.fst) := (bG8 (by omega) (ar6 hs (by omega) (by omega) (by omega) (by omega) (by omega)) (by with_reducible assumption)); have e2 : ((xB ars m pc vs bd ss (k + 1)).snd : List b6) = ((p7 ars ss m pc vs bd k).fst.snd ++ ([b6.mk 2 (ss.getD k bW1).target (Z8 ss k) (n4 (a03 ars ss m pc vs bd k)) 0 [] []] ++ [])) := (congrArg Prod.snd (bw5 (by omega) (ar6 hs (by omega) (by omega) (by omega) (by omega) (by omega)) (by with_reducible assumption))); (first | rw [e1, e2] | simp only [e1, e2]) <;> rfl)
       · have q5 : ((c5 (c6 (b9 ars pc (ss.getD k bW1).value (xB ars m pc vs bd ss k)).fst.fst ars 5 (n4 (ss.getD k bW1).index))) = true) ∧ (c6 (b9 ars pc (ss.getD k bW1).value (xB ars m pc vs bd ss k)).fst.fst ars 5 (n4 (ss.getD k bW1).index) % 2 = 1) := And.imp (fun hq => (hq)) (fun hq => of_decide_eq_true hq) (bY8.1 h5); refine rT G _ h5 (e5 G (n5 5 [12, 1, 13, 6, 7, 8, 9, 14] (a96 ars ((b9 ars pc (ss.getD k bW1).value (xB ars m pc vs bd ss k)).fst.fst) ((b9 ars pc (ss.getD k bW1).value (xB ars m pc vs bd ss k)).fst.snd) m pc (ss.getD k bW1) ((b9 ars pc (ss.getD k bW1).value (xB ars m pc vs bd ss k)).snd) (by rw [b7.eta]; exact (aK9 hs hv r1 r2 (by omega) (by omega)).2.2.2.2.2.2) ((aK9 hs hv r1 r2 (by omega) (by omega)).2.2.2.2.1) (by have h9 : (b9 ars pc (ss.getD k bW1).value ((xB ars m pc vs bd ss k).1, (xB ars m pc vs bd ss k).2)).1.2.length + 10 ≤ 700000 := (aK9 (m := m) (pc := pc) hs hv r1 r2 (show k < ss.length by omega) (by omega)).2.2.2.2.2.1; have h7 : (b9 ars pc (ss.getD k bW1).value (xB ars m pc vs bd ss k)).1.2.length + 10 ≤ 700000 := h9; omega))) [0, 1, 2, 3, 4, 5, 55, 56] (Q1 ars ss [.row 3 (D.ints ((p7 ars ss m pc vs bd k).fst.fst ++ [f9 (c6 (p7 ars ss m pc vs bd k).fst.fst ars 5 (L2 ars ss m pc vs bd k)) pc])), .row 75 (D.stmts ((p7 ars ss m pc vs bd k).fst.snd ++ [K1 ((p7 ars ss m pc vs bd k).fst.fst.length : Int) (L2 ars ss m pc vs bd k)] ++ stL ((p7 ars ss m pc vs bd k).fst.fst.length : Int) (ss.getD k bW1).target (Z8 ss k) m 4))]) (B1 m pc [(9, iA k)]) fun G => i9 (i9 (b5 (z5 G c3 [(9, iA ((k : Int) + 1))] [wO ((k : Int) + 1)] (o1 (by omega)) fun G => b5 ?_)))); exact H3 G (k + 1) (by omega) (by omega) (rg 8) (by have e1 : ((xB ars m pc vs bd ss (k + 1)).fst : List Int) = ((p7 ars ss m pc vs bd k).fst.fst ++ [f9 (c6 (p7 ars ss m pc vs bd k).fst.fst ars 5 (L2 ars ss m pc vs bd k)) pc]) := (congrArg Prod.fst (bw4 (by omega) (ar6 hs (by omega) (by omega) (by omega) (by omega) (by omega)) (by with_reducible assumption))); have e2 : ((xB ars m pc vs bd ss (k + 1)).snd : List b6) = ((p7 ars ss m pc vs bd k).fst.snd ++ [K1 ((p7 ars ss m pc vs bd k).fst.fst.length : Int) (L2 ars ss m pc vs bd k)] ++ stL ((p7 ars ss m pc vs bd k).fst.fst.length : Int) (ss.getD k bW1).target (Z8 ss k) m 4) := (congrArg Prod.snd (bw4 (by omega) (ar6 hs (by omega) (by omega) (by omega) (by omega) (by omega)) (by with_reducible assumption))); (first | rw [e1, e2] | simp only [e1, e2]) <;> rfl)
      · refine F6 G (l9 (f6 7 [] (ab4 ((ss.getD k bW1).target)) (f6 8 [14, 71] (Z2 m ((b9 ars pc (ss.getD k bW1).value (xB ars m pc vs bd ss k)).snd.kind) ((b9 ars pc (ss.getD k bW1).value (xB ars m pc vs bd ss k)).snd.value) 2 ((ss.getD k bW1).target) ((b9 ars pc (ss.getD k bW1).value (xB ars m pc vs bd ss k)).snd.kids) ([])) (f6 9 [12, 1, 13, 79] (H7 ((b9 ars pc (ss.getD k bW1).value (xB ars m pc vs bd ss k)).fst.fst) ars ((b9 ars pc (ss.getD k bW1).value (xB ars m pc vs bd ss k)).fst.snd) ((ss.getD k bW1).target) ((t3 m (n4 (b9 ars pc (ss.getD k bW1).value (xB ars m pc vs bd ss k)).snd) (b7.mk 2 (ss.getD k bW1).target [])).kind) ((t3 m (n4 (b9 ars pc (ss.getD k bW1).value (xB ars m pc vs bd ss k)).snd) (b7.mk 2 (ss.getD k bW1).target [])).value) ((t3 m (n4 (b9 ars pc (ss.getD k bW1).value (xB ars m pc vs bd ss k)).snd) (b7.mk 2 (ss.getD k bW1).target [])).kids) (by have h9 : (b9 ars pc (ss.getD k bW1).value ((xB ars m pc vs bd ss k).1, (xB ars m pc vs bd ss k).2)).1.2.length + 10 ≤ 700000 := (aK9 (m := m) (pc := pc) hs hv r1 r2 (show k < ss.length by omega) (by omega)).2.2.2.2.2.1; have h7 : (b9 ars pc (ss.getD k bW1).value (xB ars m pc vs bd ss k)).1.2.length + 10 ≤ 700000 := h9; omega)) l8))) fz []) [0, 0, 2, 0, 0, 0, 32, 96, 248, 511, 1023] [0, 1, 2, 3, 4, 5, 12, 87] (Q1 ars ss [.row 3 (D.ints (p7 ars ss m pc vs bd k).fst.fst), .row 75 (D.stmts ((p7 ars ss m pc vs bd k).fst.snd ++ [K1 (ss.getD k bW1).target (n4 (t3 m (L2 ars ss m pc vs bd k) (b7.mk 2 (ss.getD k bW1).target [])))]))]) (B1 m pc [(9, iA k)]) fun G => i9 (i9 (b5 (z5 G c3 [(9, iA ((k : Int) + 1))] [wO ((k : Int) + 1)] (o1 (by omega)) fun G => b5 ?_))); exact H3 G (k + 1) (by omega) (by omega) (rg 8) (by have e1 : ((xB ars m pc vs bd ss (k + 1)).fst : List Int) = ((b9 ars pc (ss.getD k bW1).value (xB ars m pc vs bd ss k)).fst.fst) := (bG9 (by omega) (by omega)); have e2 : ((xB ars m pc vs bd ss (k + 1)).snd : List b6) = ((p7 ars ss m pc vs bd k).fst.snd ++ [K1 (ss.getD k bW1).target (n4 (t3 m (L2 ars ss m pc vs bd k) (b7.mk 2 (ss.getD k bW1).target [])))]) := (congrArg Prod.snd (bH0 (by omega) (by omega))); (first | rw [e1, e2] | simp only [e1, e2]) <;> rfl)
     · refine L6 G c3 [0, 1, 2, 3, 4, 5, 12, 71] (Q1 ars ss [.row 3 (D.ints (p7 ars ss m pc vs bd k).fst.fst), .row 75 (D.stmts ((p7 ars ss m pc vs bd k).fst.snd ++ ([b6.mk 5 (ss.getD k bW1).target (b7.mk 0 0 []) (L2 ars ss m pc vs bd k) 0 [] []] ++ [])))]) (B1 m pc [(9, iA k)]) (aP ((b9 ars pc (ss.getD k bW1).value (xB ars m pc vs bd ss k)).fst.snd.length + ([b6.mk (5 : Int) (ss.getD k bW1).target (b7.mk (0 : Int) (0 : Int) []) (n4 (b9 ars pc (ss.getD k bW1).value (xB ars m pc vs bd ss k)).snd) (0 : Int) [] []] ++ []).length) 152 []) (aK (by have h9 : (b9 ars pc (ss.getD k bW1).value ((xB ars m pc vs bd ss k).1, (xB ars m pc vs bd ss k).2)).1.2.length + 10 ≤ 700000 := (aK9 (m := m) (pc := pc) hs hv r1 r2 (show k < ss.length by omega) (by omega)).2.2.2.2.2.1; have h7 : (b9 ars pc (ss.getD k bW1).value (xB ars m pc vs bd ss k)).1.2.length + 10 ≤ 700000 := h9; simp only [bX5, bX2, bY9]; omega) bX6) fun G => i9 (i9 (b5 (z5 G c3 [(9, iA ((k : Int) + 1))] [wO ((k : Int) + 1)] (o1 (by omega)) fun G => b5 ?_))); exact H3 G (k + 1) (by omega) (by omega) (rg 8) (by have e1 : ((xB ars m pc vs bd ss (k + 1)).fst : List Int) = ((b9 ars pc (ss.getD k bW1).value (xB ars m pc vs bd ss k)).fst.fst) := (bG4 (by omega) (by omega)); have e2 : ((xB ars m pc vs bd ss (k + 1)).snd : List b6) = ((p7 ars ss m pc vs bd k).fst.snd ++ ([b6.mk 5 (ss.getD k bW1).target (b7.mk 0 0 []) (L2 ars ss m pc vs bd k) 0 [] []] ++ [])) := (congrArg Prod.snd (bG5 (by omega) (by omega))); (first | rw [e1, e2] | simp only [e1, e2]) <;> rfl)
    ·
     refine wp_seq (e5 G c3 (rg 14) (Q1 ars ss (.row 3 (D.ints (xB ars m pc vs bd ss k).fst) :: .row 75 (D.stmts (xB ars m pc vs bd ss k).snd) :: (ad6 ss k [.box (sL (ss.getD k bW1) 8), .tree (D.stmts [])]))) (B1 m pc [(9, iA k), (10, .ptr 12 0), (11, .tref 13)]) fun G => b5 (wp_seq (e5 G (n5 5 [6, 1, 7, 10] (hI ((ss.getD k bW1).body) m pc ((xB ars m pc vs bd ss k).fst) ((xB ars m pc vs bd ss k).snd) ((ax0 hs (by omega)).2.1) (by omega) (by have h9 := az1 (m := m) (pc := pc) hs hv r1 r2 (show k < ss.length by omega); have h8 := X8 (ss.getD k bW1); omega) (by have h9 := az1 (m := m) (pc := pc) hs hv r1 r2 (show k < ss.length by omega); have h8 := X8 (ss.getD k bW1); omega) (by have h9 := az1 (m := m) (pc := pc) hs hv r1 r2 (show k < ss.length by omega); have h8 := X8 (ss.getD k bW1); omega))) [0, 1, 2, 3, 4, 5, 7, 8, 9, 10, 11, 12, 54, 55] (.dead :: dI ars :: dT ss :: .dead :: .box [.ref 12, .ref 1, .v (.slice none 0 0), .ref 6] :: Z7 :: .row 75 (D.stmts (xB ars m pc vs bd ss k).snd) :: (ad6 ss k [.box (sL (ss.getD k bW1) 7), .row 3 (D.ints (i6 ars (ss.getD k bW1).body m pc ((xB ars m pc vs bd ss k).fst, [])).fst), dT (i6 ars (ss.getD k bW1).body m pc ((xB ars m pc vs bd ss k).fst, [])).snd])) (B1 m pc [(9, iA k), (10, .ptr 11 0), (11, .ref 13)]) fun G => b5 (wp_seq (L6 G c3 [0, 1, 2, 3, 4, 5, 7, 8, 9, 10, 11, 12, 70] (.dead :: dI ars :: dT ss :: .dead :: .box [.ref 11, .ref 1, .v (.slice none 0 0), .ref 12] :: Z7 :: (ad6 ss k [.box (sL (ss.getD k bW1) 6), .row 3 (D.ints (i6 ars (ss.getD k bW1).body m pc ((xB ars m pc vs bd ss k).fst, [])).fst), .row 75 (D.stmts ((xB ars m pc vs bd ss k).snd ++ ([b6.mk 4 0 (b7.mk 0 0 []) (b7.mk 0 0 []) (ss.getD k bW1).count (i6 ars (ss.getD k bW1).body m pc ((xB ars m pc vs bd ss k).fst, [])).snd []] ++ [])))])) (B1 m pc [(9, iA k), (10, .ptr 10 0)]) (aP ((xB ars m pc vs bd ss k).snd.length + ([b6.mk (4 : Int) (0 : Int) (b7.mk (0 : Int) (0 : Int) []) (b7.mk (0 : Int) (0 : Int) []) (ss.getD k bW1).count (i6 ars (ss.getD k bW1).body m pc ((xB ars m pc vs bd ss k).fst, [])).snd []] ++ []).length) 152 []) (aK (by have h9 := az1 (m := m) (pc := pc) hs hv r1 r2 (show k < ss.length by omega); have h8 := D8 (xB ars m pc vs bd ss k).2; simp only [bX5, bX2, bY9]; omega) bX6) fun G => b5 (wp_exit (j9 (j7 (b5 (L6 G c3 [0, 1, 2, 3, 4, 5, 11, 12] (Q1 ars ss [.row 3 (D.ints (i6 ars (ss.getD k bW1).body m pc ((xB ars m pc vs bd ss k).fst, [])).fst), .row 75 (D.stmts ((xB ars m pc vs bd ss k).snd ++ ([b6.mk 4 0 (b7.mk 0 0 []) (b7.mk 0 0 []) (ss.getD k bW1).count (i6 ars (ss.getD k bW1).body m pc ((xB ars m pc vs bd ss k).fst, [])).snd []] ++ [])))]) (B1 m pc [(9, iA ((k : Int) + 1))]) [wO ((k : Int) + 1)] (o1 (by omega)) fun G => ?_))))))))))
     refine b5 ?_; exact H3 G (k + 1) (by omega) (by omega) (rg 8) (by have e1 : ((xB ars m pc vs bd ss (k + 1)).fst : List Int) = ((i6 ars (ss.getD k bW1).body m pc ((xB ars m pc vs bd ss k).fst, [])).fst) := (bG6 (by omega) (by omega)); have e2 : ((xB ars m pc vs bd ss (k + 1)).snd : List b6) = ((xB ars m pc vs bd ss k).snd ++ ([b6.mk 4 0 (b7.mk 0 0 []) (b7.mk 0 0 []) (ss.getD k bW1).count (i6 ars (ss.getD k bW1).body m pc ((xB ars m pc vs bd ss k).fst, [])).snd []] ++ [])) := (congrArg Prod.snd (bG7 (by omega) (by omega))); (first | rw [e1, e2] | simp only [e1, e2]) <;> rfl)
   · refine wp_seq (e5 G (n5 4 [6, 1, 7, 8, 9, 10, 11] (hF (ss.getD k bW1) (by assumption) ((ax0 hs (by omega)).1) ((ax0 hs (by omega)).2.1) ((ax0 hs (by omega)).2.2) (by omega) m pc ((xB ars m pc vs bd ss k).fst) ((xB ars m pc vs bd ss k).snd) (by have h9 := az1 (m := m) (pc := pc) hs hv r1 r2 (show k < ss.length by omega); have h8 := X8 (ss.getD k bW1); omega) (by have h9 := az1 (m := m) (pc := pc) hs hv r1 r2 (show k < ss.length by omega); have h8 := X8 (ss.getD k bW1); omega) (by have h9 := az1 (m := m) (pc := pc) hs hv r1 r2 (show k < ss.length by omega); have h8 := X8 (ss.getD k bW1); omega))) [0, 1, 2, 3, 4, 5, 8, 9, 10, 11, 12, 45, 46] (.dead :: dI ars :: dT ss :: .dead :: .box [.ref 11, .ref 1, .v (.slice none 0 0), .ref 12] :: Z7 :: (ad6 ss k [.box (sL (ss.getD k bW1) 6), .row 3 (D.ints (z6 ars (ss.getD k bW1) m pc (xB ars m pc vs bd ss k)).fst), .row 75 (D.stmts (z6 ars (ss.getD k bW1) m pc (xB ars m pc vs bd ss k)).snd)])) (B1 m pc [(9, iA k), (10, .ptr 10 0)]) fun G => b5 (wp_exit (j9 (j7 (b5 (L6 G c3 [0, 1, 2, 3, 4, 5, 11, 12] (Q1 ars ss [.row 3 (D.ints (z6 ars (ss.getD k bW1) m pc (xB ars m pc vs bd ss k)).fst), .row 75 (D.stmts (z6 ars (ss.getD k bW1) m pc (xB ars m pc vs bd ss k)).snd)]) (B1 m pc [(9, iA ((k : Int) + 1))]) [wO ((k : Int) + 1)] (o1 (by omega)) fun G => b5 ?_)))))); exact H3 G (k + 1) (by omega) (by omega) (rg 8) (by have e1 : ((xB ars m pc vs bd ss (k + 1)).fst : List Int) = ((z6 ars (ss.getD k bW1) m pc (xB ars m pc vs bd ss k)).fst) := (congrArg Prod.fst (as3 (by omega))); have e2 : ((xB ars m pc vs bd ss (k + 1)).snd : List b6) = ((z6 ars (ss.getD k bW1) m pc (xB ars m pc vs bd ss k)).snd) := (congrArg Prod.snd (as3 (by omega))); (first | rw [e1, e2] | simp only [e1, e2]) <;> rfl)
theorem e7.sel {ι : Type} {φ ψ : Nat → Prop} {w0 w : World} {F : ι → Rs} {ρ : Nat → Value} {S S1 : List It} {js : List Nat} (M : e7 φ ψ w0 w (j1 F ρ (j0 S))) (hn : js.Nodup) (hl : js.length = S1.length) (hS : js.map (j0 S) = S1.map (It.ren (nth js))) : e7 φ ψ w0 w (j1 F (fun i => ρ (nth js i)) (j0 S1)) := by
 refine M.map (fun k : ι ⊕ Nat => (match k with | .inl i => some (.inl i) | .inr i => if i < js.length then some (.inr (nth js i)) else none : Option (ι ⊕ Nat))) ?_ ?_
 ·intro k k' x h1 h2
  match k, k' with
  | .inl i, .inl i' => simp at h1 h2; rw [← h1] at h2; simpa using h2.symm
  | .inl i, .inr j => simp only at h1 h2; cases h1; split at h2 <;> simp at h2
  | .inr j, .inl i => simp only at h1 h2; cases h2; split at h1 <;> simp at h1
  | .inr j, .inr j' =>
   simp at h1 h2
   obtain ⟨f1, f2⟩ := h1
   obtain ⟨g1, g2⟩ := h2
   rw [← f2] at g2
   have hj := Sum.inr.inj g2
   have e1 := bW4 f1
   have e2 := bW4 g1
   rw [A1 e2, A1 e1] at hj
   have := (List.getElem?_inj f1 hn).1 (e1.trans (by rw [← hj]; exact e2.symm))
   rw [this]
 ·intro k
  match k with
  | .inl i => exact .inl ⟨_, rfl, rfl⟩
  | .inr i =>
   by_cases hlt : i < js.length
   ·refine .inl ⟨.inr (nth js i), by simp [hlt], ?_⟩
    have h1 := congrArg (·[i]?) hS
    have hlt' : i < S1.length := by omega
    simp only [List.getElem?_map, bW4 hlt, bW4 hlt', Option.map_some, Option.some.injEq] at h1
    simp only [j1]
    rw [Y9 hlt', A1 (bW4 hlt), h1, ← It.res_ren, A1 (bW4 hlt)]
   ·refine .inr ?_
    simp only [j1]
    rw [l6 (by omega)]
    rfl
theorem d8.nilArg {P : Program} {f : FuncId} {args args0 : List AV} {pre post post' : List It} {res res' : AV} {e : TypeId} {d : D} (hc : d8.ok P ⟨f, args0, pre ++ [.row e d], post, res⟩) (k : Nat) (js : List Nat) (hd : D.nil k = some d) (ha : args = AV.denL false pre.length args0) (hid : (J0 pre.length (AV.idsL args) && pre.all (fun x => J0 pre.length x.ids) && nodupB js && natEq js.length post'.length && by0 pre.length js) = true) (hS : js.map (j0 post) = post'.map (It.ren (nth js))) (hr : res = res'.ren (nth js)) : d8.ok P ⟨f, args, pre, post', res'⟩ := by
 intro ι φ ψ w0 w F ρ M
 simp only [bW2, natEq, beq_iff_eq] at hid
 obtain ⟨⟨⟨⟨h1, h2⟩, h3⟩, h4⟩, h5⟩ := hid
 have hz := D.nil_len hd
 have hvals := (AV.vals_den (ρ := ρ) (t := false) (n := pre.length) (z := .slice none 0 0) (by simp) args0 (by rw [← ha]; exact t4 h1)).1
 have hlt : ∀ j, j < pre.length → j0 (pre ++ [.row e d]) j = j0 pre j := fun j hj => by simp [j0, bW3, bX8 hj]
 have hids : ∀ j, ∀ i ∈ (j0 pre j).ids, i < pre.length := fun j => by
  by_cases hj : j < pre.length
  ·rw [Y9 hj]
   exact t4 (bX0.1 h2 _ (bX7 hj))
  ·rw [l6 (by omega)]; intro i hi; cases hi
 have M1 : e7 φ ψ w0 w (j1 F (fun j => if j = pre.length then .slice none 0 0 else ρ j) (j0 (pre ++ [.row e d]))) := by
  refine e7.put M (.inr pre.length) (fun k hk => ?_) (v7.refl _ _) ?_ ?_
  ·cases k with
   | inl i => rfl
   | inr j =>
    simp only [j1]
    rcases Nat.lt_trichotomy j pre.length with h | h | h
    ·rw [hlt j h]
     exact It.res_congr _ (fun i hi => if_neg (by have := hids j i hi; omega)) (.inr (.inr (if_neg (by omega))))
    ·exact absurd (by rw [h]) hk
    ·rw [l6 (show (pre ++ [It.row e d]).length ≤ j by simp; omega), l6 (show pre.length ≤ j by omega)]; rfl
  ·have : j0 (pre ++ [.row e d]) pre.length = .row e d := by simp [j0, bW3]
   simp only [j1, this, It.res, if_true]
   refine ⟨fun xs => RW.nice d xs, [], ?_, RW.nil hz _⟩
   rw [hz]; exact World.ownsRow_nil _ _ _ _
  ·intro g hg
   have : j0 (pre ++ [.row e d]) pre.length = .row e d := by simp [j0, bW3]
   simp only [j1, this, It.res, if_true] at hg
   cases hg
 have h := hc ι φ ψ w0 w F _ M1
 simp only [hvals, ← ha] at h
 refine h.mono ?_
 rintro x w' ⟨ρ2, g1, rfl, M2⟩
 have hk : ∀ i, i < pre.length → nth js i = i := fun i hi => by
  have := bX0.1 h5 i (List.mem_range.2 hi)
  simp only [bW2, natEq, beq_iff_eq] at this
  exact this.1
 refine ⟨fun i => ρ2 (nth js i), fun i hi => ?_, ?_, M2.sel (ae9 h3) h4 hS⟩
 ·have hi : i < pre.length := hi
  simp only [hk i hi]
  rw [g1 i (by simp; omega), if_neg (by omega)]
 ·show Ending.returned (res.val ρ2) = .returned (res'.val _)
  rw [hr, AV.val_ren]
end Go.Proofs.YtgmhmijcnlfmfaaGreat
