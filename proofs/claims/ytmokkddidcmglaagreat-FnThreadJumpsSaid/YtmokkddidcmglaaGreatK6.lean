/- Part 6: functions on the way, plain laws. Conditions: as said. -/
import Derived.Deep.RegionWith
import Derived.Laws.StructEq
import Derived.Test.YtmokkddidcmglaaGreatK1
import Derived.Test.YtmokkddidcmglaaGreatK2
import Derived.Test.YtmokkddidcmglaaGreatK3
import Derived.Test.YtmokkddidcmglaaGreatK4
import Derived.Test.YtmokkddidcmglaaGreatK5
set_option maxRecDepth 100000
set_option maxHeartbeats 16000000
set_option linter.unusedVariables false
set_option linter.unusedSimpArgs false
open Bool renaming and_eq_true → bX0, not_eq_true' → b03
open Inhabited renaming default → bW7
open List renaming all_eq_true → bX9, append_assoc → b12, getD_eq_getElem?_getD → bX2, getElem?_eq_getElem → bW9, getElem?_eq_some_iff → bX7, getElem_mem → bZ0, length_append → bX1, length_cons → bX8, length_set → bY9, mem_append → bY7, mem_of_getElem? → bY4, mem_range → b11, mem_singleton → bZ2, nil_append → b14, replicate → bW8, take → bY0, take_of_length_le → bY3
open Nat renaming add_zero → b07, le_refl → bX4, le_trans → bZ6, zero_le → bZ4
open True renaming intro → bY1

namespace Go.Proofs.YtmokkddidcmglaaGreat
open Go Go.RowKit
theorem ax4 (b : List UInt8) (j : Int) (r0 : 0 ≤ j) (r1 : j ≤ 10000000) : j8.ok Tryz.prog (cdC b j) := bg1 b j _ rfl r0 r1
abbrev muC (b : List UInt8) (j : Int) (vs ars : List Int) (l : List c7) : j8 := ⟨22, [.ptr 0 0, .agg [.ref 2, .ref 3, .ref 4]], [.box [.ref 1, iA j], dY b, dI vs, dI ars, dN l], [.box [.ref 1, iA (muD b j ⟨vs, ars, l⟩).2], dY b, dI vs, dI ars, dN l, rI (muD b j ⟨vs, ars, l⟩).1.vars, rI (muD b j ⟨vs, ars, l⟩).1.arrays, rN (muD b j ⟨vs, ars, l⟩).1.list], .agg [.ref 5, .ref 6, .ref 7]⟩
section
variable {b : List UInt8} {j : Int} {vs ars : List Int} {l : List c7}
theorem bU4 (h : (([] ++ l).length : Int) = 0) : muD b j ⟨vs, ars, l⟩ = (⟨[] ++ vs, [] ++ ars, [] ++ l⟩, j) := by
 unfold muD; rw [if_pos (by rw [b14] at h; show l.length = 0; omega)]
 rfl
theorem bV1 (h : ¬ (([] ++ l).length : Int) = 0) (h1 : pk b j 60 = 0) : muD b j ⟨vs, ars, l⟩ = (⟨vs, ars, bC2 l 0 (nm b (j + 1) bK6)⟩, j + 1 + 1) := by
 unfold muD; rw [if_neg (by rw [b14] at h; show ¬ l.length = 0; omega), if_pos h1, Int.add_assoc]; rfl
theorem bV0 (h : ¬ (([] ++ l).length : Int) = 0) (h1 : pk b j 60 = 1) : muD b j ⟨vs, ars, l⟩ = (⟨vs, ars, bh8 l (pk b (j + 1) l.length).toNat (nm b (j + 1 + 1) bK5)⟩, j + 1 + 1 + 1) := by
 unfold muD; rw [if_neg (by rw [b14] at h; show ¬ l.length = 0; omega), if_neg (by omega), if_pos h1, Int.add_assoc j 1 1, Int.add_assoc]; rfl
theorem bU9 (h : ¬ (([] ++ l).length : Int) = 0) (h1 : pk b j 60 = 2) : muD b j ⟨vs, ars, l⟩ = (⟨vs, ars, ([] ++ l).set ((([] ++ l).length : Int) - 1).toNat ⟨12, 0, 0, 0, 0⟩⟩, j + 1) := by
 unfold muD; rw [if_neg (by rw [b14] at h; show ¬ l.length = 0; omega), if_neg (by omega), if_neg (by omega), if_pos h1]
 rw [b14] at h ⊢
 exact congrArg (fun i => ((⟨vs, ars, l.set i _⟩ : b6), j + 1)) (by show l.length - 1 = _; omega)
theorem bU8 (h : ¬ (([] ++ l).length : Int) = 0) (h1 : pk b j 60 = 3) : muD b j ⟨vs, ars, l⟩ = (⟨vs, ars, ([] ++ l).set ((([] ++ l).length : Int) - 1).toNat ⟨8, 0, 0, 0, 0⟩⟩, j + 1) := by
 unfold muD; rw [if_neg (by rw [b14] at h; show ¬ l.length = 0; omega), if_neg (by omega), if_neg (by omega), if_neg (by omega), if_pos h1]
 rw [b14] at h ⊢
 exact congrArg (fun i => ((⟨vs, ars, l.set i _⟩ : b6), j + 1)) (by show l.length - 1 = _; omega)
theorem bU7 (h : ¬ (([] ++ l).length : Int) = 0) (h1 : pk b j 60 = 4) : muD b j ⟨vs, ars, l⟩ = (⟨vs, ars, bC3 l (pk b (j + 1) l.length).toNat (nm b (j + 1 + 1) bK4)⟩, j + 1 + 1 + 1) := by
 unfold muD; rw [if_neg (by rw [b14] at h; show ¬ l.length = 0; omega), if_neg (by omega), if_neg (by omega), if_neg (by omega), if_neg (by omega), if_pos h1, Int.add_assoc j 1 1, Int.add_assoc]; rfl
theorem bU6 (h : ¬ (([] ++ l).length : Int) = 0) (h1 : pk b j 60 = 5) : muD b j ⟨vs, ars, l⟩ = (⟨[], ars, l⟩, j + 1) := by
 unfold muD; rw [if_neg (by rw [b14] at h; show ¬ l.length = 0; omega), if_neg (by omega), if_neg (by omega), if_neg (by omega), if_neg (by omega), if_neg (by omega), if_pos h1]
theorem bU3 (h : ¬ (([] ++ l).length : Int) = 0) (h1 : ¬ pk b j 60 = 0 ∧ ¬ pk b j 60 = 1 ∧ ¬ pk b j 60 = 2 ∧ ¬ pk b j 60 = 3 ∧ ¬ pk b j 60 = 4 ∧ ¬ pk b j 60 = 5) : muD b j ⟨vs, ars, l⟩ = (⟨[] ++ vs, [] ++ ars, [] ++ l⟩, j + 1) := by
 unfold muD; rw [if_neg (by rw [b14] at h; show ¬ l.length = 0; omega), if_neg (by omega), if_neg (by omega), if_neg (by omega), if_neg (by omega), if_neg (by omega), if_neg (by omega)]
 rfl
theorem bU2 (h : ¬ (([] ++ l).length : Int) = 0) (r0 : 0 ≤ j) (r1 : j ≤ 100000000) : 0 ≤ pk b (j + 1) (([] ++ l).length : Int) ∧ pk b (j + 1) (([] ++ l).length : Int) < (([] ++ l).length : Int) := bt7 b (by omega) (by omega) (by omega)
end
abbrev Q3 (b : List UInt8) (j : Int) (vs : List Int) (ars : List Int) (l : List c7) : List It := [.box [.ref 1, iA (muD b j (b6.mk vs ars l)).snd], dY b, dI vs, dI ars, dN l, .row 3 (D.ints (muD b j (b6.mk vs ars l)).fst.vars), .row 3 (D.ints (muD b j (b6.mk vs ars l)).fst.arrays), .row 60 (D.instrs (muD b j (b6.mk vs ars l)).fst.list)]
abbrev by0 (b : List UInt8) (j : Int) (l : List c7) : It := .row 60 (D.instrs (([] ++ l).set (pk b (j + 1) (([] ++ l).length : Int)).toNat (c7.mk (([] ++ l).getD (pk b (j + 1) (([] ++ l).length : Int)).toNat bW7).op (nm b (j + 1 + 1) ([-1] ++ ([14] ++ ([0] ++ ([400] ++ []))))) (([] ++ l).getD (pk b (j + 1) (([] ++ l).length : Int)).toNat bW7).b (([] ++ l).getD (pk b (j + 1) (([] ++ l).length : Int)).toNat bW7).c (([] ++ l).getD (pk b (j + 1) (([] ++ l).length : Int)).toNat bW7).d)))
abbrev bx9 (b : List UInt8) (j : Int) (l : List c7) : It := .row 60 (D.instrs (([] ++ l).set (pk b (j + 1) (([] ++ l).length : Int)).toNat (c7.mk (([] ++ l).getD (pk b (j + 1) (([] ++ l).length : Int)).toNat bW7).op (([] ++ l).getD (pk b (j + 1) (([] ++ l).length : Int)).toNat bW7).a (([] ++ l).getD (pk b (j + 1) (([] ++ l).length : Int)).toNat bW7).b (([] ++ l).getD (pk b (j + 1) (([] ++ l).length : Int)).toNat bW7).c (nm b (j + 1 + 1) ([1] ++ ([-1] ++ []))))))
abbrev ag9 : It := .box [.v (.slice none 0 0), .v (.slice none 0 0), .v (.slice none 0 0)]
abbrev bx8 (b : List UInt8) (j : Int) (l : List c7) : It := .row 60 (D.instrs (([] ++ l).set 0 (c7.mk (nm b (j + 1) ([0] ++ ([14] ++ ([1] ++ ([12] ++ []))))) (([] ++ l).getD 0 bW7).a (([] ++ l).getD 0 bW7).b (([] ++ l).getD 0 bW7).c (([] ++ l).getD 0 bW7).d)))
abbrev T7 (vs : List Int) (ars : List Int) (r0 : List It) : List It := .row 3 (D.ints ([] ++ vs)) :: .row 3 (D.ints ([] ++ ars)) :: r0
theorem aZ4 (b : List UInt8) (j : Int) (vs ars : List Int) (l : List c7) (hb : vs.length ≤ 1048576 ∧ ars.length ≤ 1048576 ∧ l.length ≤ 9000000) (r0 : 0 ≤ j) (r1 : j ≤ 100000000) : j8.ok Tryz.prog (muC b j vs ars l) := by
  refine I1 82 Tryz.func22 [.box [.ref 1, iA j], dY b, dI vs, dI ars, dN l] [(0, .ptr 0 0), (1, pA 2)] fun G => ?_
  have hmp := fun (h : ¬ (([] ++ l).length : Int) = 0) => bU2 (b := b) (j := j) (l := l) h r0 r1
  have hll : ([] ++ l).length ≤ 9000000 := hb.2.2; refine wp_seq (i9 G d9 [0, 1, 2, 3, 4, 5, 13] [.box [.ref 1, iA j], dY b, dI vs, dI ars, dN l, .box (pL 2), ag9] [(0, .ptr 0 0), (3, .ptr 5 0), (4, .ptr 6 0)] fun G => b0 (wp_seq (F4 G d9 [0, 0, 2, 7, 0, 0, 32, 127, 0, 0, 512, 2047, 4095, 0, 16383] [0, 1, 2, 3, 4, 6, 31, 63, 95, 111] (.box [.ref 1, iA j] :: dY b :: dI vs :: dI ars :: dN l :: ag9 :: (T7 vs ars [.row 60 (D.instrs ([] ++ l)), .box (pL 6)])) [(0, .ptr 0 0), (4, .ptr 5 0), (5, .ptr 9 0)] (aP ((0 : Nat) + vs.length) 8 (aP ((0 : Nat) + ars.length) 8 (aP ((0 : Nat) + l.length) 40 []))) (aK (by omega) (aK (by omega) (aK (by omega) bY1))) fun G => b0 (wp_seq (l0 G d9 [(6, iA (([] ++ l).length : Int))] fun G => b0 (wp_seq (wp_seq (l0 G d9 [(24, bA ((([] ++ l).length : Int) == 0))] fun G => b0 (M4 G (fun h0 q0 => ?_) fun h0 q0 => ?_)))))))))
  ·
   refine wp_skip (b0 (wp_seq (wp_seq (i9 G (t0 1 [0, 1] (o5 b j 60 (by assumption) (by omega))) (rg 10) (.box [.ref 1, iA (j + 1)] :: dY b :: dI vs :: dI ars :: dN l :: ag9 :: (T7 vs ars [.row 60 (D.instrs ([] ++ l)), .box (pL 6)])) [(0, .ptr 0 0), (4, .ptr 5 0), (5, .ptr 9 0), (6, iA (([] ++ l).length : Int)), (27, iA (pk b j 60))] fun G => b0 (wp_block (wp_seq (l0 G d9 [(28, bA (pk b j 60 == 0))] fun G => b0 (M4 G (fun h1 q1 => ?_) fun h1 q1 => ?_))))))))
   ·
    refine wp_seq (l0 G d9 [(37, bA (pk b j 60 == 1))] fun G => b0 (M4 G (fun h2 q2 => ?_) fun h2 q2 => ?_))
    ·
     refine wp_seq (l0 G d9 [(49, bA (pk b j 60 == 2))] fun G => b0 (M4 G (fun h3 q3 => ?_) fun h3 q3 => ?_))
     ·
      refine wp_seq (l0 G d9 [(57, bA (pk b j 60 == 3))] fun G => b0 (M4 G (fun h4 q4 => ?_) fun h4 q4 => ?_))
      ·
       refine wp_seq (l0 G d9 [(65, bA (pk b j 60 == 4))] fun G => b0 (M4 G (fun h5 q5 => ?_) fun h5 q5 => ?_))
       ·
        refine wp_seq (l0 G d9 [(77, bA (pk b j 60 == 5))] fun G => b0 (M4 G (fun h6 q6 => ?_) fun h6 q6 => ?_))
        · refine wp_skip (i8 (b0 (wp_seq (i9 G d9 (rg 9) (.box [.ref 1, iA (j + 1)] :: dY b :: dI vs :: dI ars :: dN l :: .box (pL 6) :: (T7 vs ars [.row 60 (D.instrs ([] ++ l))])) [(4, .ptr 5 0)] fun G => b0 (wp_ret ?_))))); exact I9 G [0, 1, 2, 3, 4, 6, 7, 8] (by show _ = mR [0, 1, 2, 3, 4, 6, 7, 8] (Q3 b j vs ars l); unfold Q3; rw [bU3 (by omega) (by omega)] <;> rfl)
        · refine i9 G d9 [0, 1, 2, 3, 4, 5, 7, 8, 9, 10] [.box [.ref 1, iA (j + 1)], dY b, dI vs, dI ars, dN l, ag9, .row 3 (D.ints ([] ++ ars)), .row 60 (D.instrs ([] ++ l)), .box [.ref 9, .ref 6, .ref 7], .row 3 (D.ints [])] [(4, .ptr 5 0), (5, .ptr 8 0)] fun G => i8 (b0 (wp_seq (i9 G d9 [0, 1, 2, 3, 4, 5, 6, 7, 9] [.box [.ref 1, iA (j + 1)], dY b, dI vs, dI ars, dN l, .box [.ref 8, .ref 6, .ref 7], .row 3 (D.ints ([] ++ ars)), .row 60 (D.instrs ([] ++ l)), .row 3 (D.ints [])] [(4, .ptr 5 0)] fun G => b0 (wp_ret ?_)))); exact I9 G [0, 1, 2, 3, 4, 8, 6, 7] (by show _ = mR [0, 1, 2, 3, 4, 8, 6, 7] (Q3 b j vs ars l); unfold Q3; rw [bU6 (by omega) (by omega)] <;> rfl)
       · refine F4 G (Q8 (E2 4 [0, 1] (o5 b (j + 1) ((([] ++ l).length : Int)) (by omega) (by omega)) (E2 7 [0, 1, 58] (j8.lend (L6 b (j + 1 + 1) ([1] ++ ([-1] ++ [])) (by simp [h0, h1, h2, h3, h4, h5]) (by omega) (by omega)) [.no, .no, .row 3]) Q7)) fz []) [0, 1, 0, 0, 12, 0, 0, 124, 255, 511, 1023] (rg 10) (.box [.ref 1, iA (j + 1 + 1 + 1)] :: dY b :: dI vs :: dI ars :: dN l :: ag9 :: (T7 vs ars [bx9 b j l, .box (pL 6)])) [(4, .ptr 5 0), (5, .ptr 9 0)] (iX (pk b (j + 1) (([] ++ l).length : Int)) ((pk b (j + 1) (([] ++ l).length : Int)).toNat) (([] ++ l).length) []) (iK (by omega) bY1) fun G => i8 (b0 (wp_seq (i9 G d9 (rg 9) (.box [.ref 1, iA (j + 1 + 1 + 1)] :: dY b :: dI vs :: dI ars :: dN l :: .box (pL 6) :: (T7 vs ars [bx9 b j l])) [(4, .ptr 5 0)] fun G => b0 (wp_ret ?_)))); exact I9 G [0, 1, 2, 3, 4, 6, 7, 8] (by show _ = mR [0, 1, 2, 3, 4, 6, 7, 8] (Q3 b j vs ars l); unfold Q3; rw [bU7 (by omega) (by omega)] <;> rfl)
      · refine J0 G d9 (rg 10) (.box [.ref 1, iA (j + 1)] :: dY b :: dI vs :: dI ars :: dN l :: ag9 :: (T7 vs ars [.row 60 (D.instrs (([] ++ l).set ((([] ++ l).length : Int) - 1).toNat (c7.mk 8 0 0 0 0))), .box (pL 6)])) [(4, .ptr 5 0), (5, .ptr 9 0)] ((wO ((([] ++ l).length : Int) - 1)) :: (iX ((([] ++ l).length : Int) - 1) (((([] ++ l).length : Int) - 1).toNat) (([] ++ l).length) [])) ⟨oW (by omega), (iK (by omega) bY1)⟩ fun G => i8 (b0 (wp_seq (i9 G d9 (rg 9) (.box [.ref 1, iA (j + 1)] :: dY b :: dI vs :: dI ars :: dN l :: .box (pL 6) :: (T7 vs ars [.row 60 (D.instrs (([] ++ l).set ((([] ++ l).length : Int) - 1).toNat (c7.mk 8 0 0 0 0)))])) [(4, .ptr 5 0)] fun G => b0 (wp_ret ?_)))); exact I9 G [0, 1, 2, 3, 4, 6, 7, 8] (by show _ = mR [0, 1, 2, 3, 4, 6, 7, 8] (Q3 b j vs ars l); unfold Q3; rw [bU8 (by omega) (by omega)] <;> rfl)
     · refine J0 G d9 (rg 10) (.box [.ref 1, iA (j + 1)] :: dY b :: dI vs :: dI ars :: dN l :: ag9 :: (T7 vs ars [.row 60 (D.instrs (([] ++ l).set ((([] ++ l).length : Int) - 1).toNat (c7.mk 12 0 0 0 0))), .box (pL 6)])) [(4, .ptr 5 0), (5, .ptr 9 0)] ((wO ((([] ++ l).length : Int) - 1)) :: (iX ((([] ++ l).length : Int) - 1) (((([] ++ l).length : Int) - 1).toNat) (([] ++ l).length) [])) ⟨oW (by omega), (iK (by omega) bY1)⟩ fun G => i8 (b0 (wp_seq (i9 G d9 (rg 9) (.box [.ref 1, iA (j + 1)] :: dY b :: dI vs :: dI ars :: dN l :: .box (pL 6) :: (T7 vs ars [.row 60 (D.instrs (([] ++ l).set ((([] ++ l).length : Int) - 1).toNat (c7.mk 12 0 0 0 0)))])) [(4, .ptr 5 0)] fun G => b0 (wp_ret ?_)))); exact I9 G [0, 1, 2, 3, 4, 6, 7, 8] (by show _ = mR [0, 1, 2, 3, 4, 6, 7, 8] (Q3 b j vs ars l); unfold Q3; rw [bU9 (by omega) (by omega)] <;> rfl)
    · refine F4 G (Q8 (E2 4 [0, 1] (o5 b (j + 1) ((([] ++ l).length : Int)) (by omega) (by omega)) (E2 7 [0, 1, 58] (j8.lend (L6 b (j + 1 + 1) ([-1] ++ ([14] ++ ([0] ++ ([400] ++ [])))) (by simp [h0, h1, h2]) (by omega) (by omega)) [.no, .no, .row 3]) Q7)) fz []) [0, 1, 0, 0, 12, 0, 0, 124, 255, 511, 1023] (rg 10) (.box [.ref 1, iA (j + 1 + 1 + 1)] :: dY b :: dI vs :: dI ars :: dN l :: ag9 :: (T7 vs ars [by0 b j l, .box (pL 6)])) [(4, .ptr 5 0), (5, .ptr 9 0)] (iX (pk b (j + 1) (([] ++ l).length : Int)) ((pk b (j + 1) (([] ++ l).length : Int)).toNat) (([] ++ l).length) []) (iK (by omega) bY1) fun G => i8 (b0 (wp_seq (i9 G d9 (rg 9) (.box [.ref 1, iA (j + 1 + 1 + 1)] :: dY b :: dI vs :: dI ars :: dN l :: .box (pL 6) :: (T7 vs ars [by0 b j l])) [(4, .ptr 5 0)] fun G => b0 (wp_ret ?_)))); exact I9 G [0, 1, 2, 3, 4, 6, 7, 8] (by show _ = mR [0, 1, 2, 3, 4, 6, 7, 8] (Q3 b j vs ars l); unfold Q3; rw [bV0 (by omega) (by omega)] <;> rfl)
   · refine F4 G (t0 4 [0, 1, 34] (j8.lend (L6 b (j + 1) ([0] ++ ([14] ++ ([1] ++ ([12] ++ [])))) (by simp [h0, h1]) (by omega) (by omega)) [.no, .no, .row 3])) [0, 1, 0, 0, 12, 31, 63, 127] (rg 10) (.box [.ref 1, iA (j + 1 + 1)] :: dY b :: dI vs :: dI ars :: dN l :: ag9 :: (T7 vs ars [bx8 b j l, .box (pL 6)])) [(4, .ptr 5 0), (5, .ptr 9 0)] (iX 0 0 (([] ++ l).length) []) (iK (by omega) bY1) fun G => i8 (b0 (wp_seq (i9 G d9 (rg 9) (.box [.ref 1, iA (j + 1 + 1)] :: dY b :: dI vs :: dI ars :: dN l :: .box (pL 6) :: (T7 vs ars [bx8 b j l])) [(4, .ptr 5 0)] fun G => b0 (wp_ret ?_)))); exact I9 G [0, 1, 2, 3, 4, 6, 7, 8] (by show _ = mR [0, 1, 2, 3, 4, 6, 7, 8] (Q3 b j vs ars l); unfold Q3; rw [bV1 (by omega) (by omega)] <;> rfl)
  · refine wp_seq (i9 G d9 (rg 10) (.box [.ref 1, iA j] :: dY b :: dI vs :: dI ars :: dN l :: .box (pL 6) :: (T7 vs ars [.row 60 (D.instrs ([] ++ l)), .box (pL 6)])) [(0, .ptr 0 0), (4, .ptr 5 0), (5, .ptr 9 0), (6, iA (([] ++ l).length : Int))] fun G => b0 (wp_ret (n7 ?_))); exact I9 G [0, 1, 2, 3, 4, 6, 7, 8] (by show _ = mR [0, 1, 2, 3, 4, 6, 7, 8] (Q3 b j vs ars l); unfold Q3; rw [bU4 (by omega)] <;> rfl)
def jpE (b : List UInt8) (j : Int) : b6 × Int :=
 if pk b (d8 b j).2 2 = 0 then (if okC (o0 b ((d8 b j).2 + 1)) = true then ⟨cvP (o0 b ((d8 b j).2 + 1)), caP (o0 b ((d8 b j).2 + 1)), (l5 (o0 b ((d8 b j).2 + 1))).1⟩ else (d8 b j).1, (x8 b ((d8 b j).2 + 1)).2)
 else ((d8 b j).1, (d8 b j).2 + 1)
def W6 (b : List UInt8) (c : b6) (q : Int) : b6 × Int :=
 if c.list.length ≤ 40 then (⟨c.vars, c.arrays, (t8 b c.list.length (c.list, q) (c.list.length - 1)).1⟩, (t8 b c.list.length (c.list, q) (c.list.length - 1)).2) else (c, q)
def jpD (b : List UInt8) (j : Int) : b6 × Int := W6 b (jpE b j).1 (jpE b j).2
section
variable {b : List UInt8} {j q n : Int} {vs ars : List Int} {l : List c7} {x : List c7 × Int} {k : Nat}
theorem bV4 (h : ¬ pk b (d8 b j).2 2 = 0) : jpD b j = W6 b (d8 b j).1 ((d8 b j).2 + 1) := by unfold jpD jpE; rw [if_neg h]
theorem bV5 (h : pk b (d8 b j).2 2 = 0) (h2 : okC (o0 b ((d8 b j).2 + 1)) = false) : jpD b j = W6 b (d8 b j).1 (x8 b ((d8 b j).2 + 1)).2 := by unfold jpD jpE; rw [if_pos h, if_neg (by rw [h2]; decide)]
theorem bV3 (h : pk b (d8 b j).2 2 = 0) (h2 : okC (o0 b ((d8 b j).2 + 1)) = true) : jpD b j = W6 b ⟨cvP (o0 b ((d8 b j).2 + 1)), caP (o0 b ((d8 b j).2 + 1)), (l5 (o0 b ((d8 b j).2 + 1))).1⟩ (x8 b ((d8 b j).2 + 1)).2 := by unfold jpD jpE; rw [if_pos h, if_pos h2]
theorem ap7 (h : ((t8 b n x k).1.getD k bW7).op = 10 ∨ ((t8 b n x k).1.getD k bW7).op = 1) : t8 b n x (k + 1) = t8 b n x k := by
 rw [t8, jmS, if_neg (by omega)]
theorem a93 (h1 : ¬ ((t8 b n x k).1.getD k bW7).op = 10) (h2 : ¬ ((t8 b n x k).1.getD k bW7).op = 1) (h : ¬ pk b (t8 b n x k).2 4 = 0) : t8 b n x (k + 1) = ((t8 b n x k).1, (t8 b n x k).2 + 1) := by
 rw [t8, jmS, if_pos ⟨h1, h2⟩, if_neg h]
theorem a92 (h1 : ¬ ((t8 b n x k).1.getD k bW7).op = 10) (h2 : ¬ ((t8 b n x k).1.getD k bW7).op = 1) (h : pk b (t8 b n x k).2 4 = 0) : t8 b n x (k + 1) = ((t8 b n x k).1.set k ⟨8, (k : Int) + 1 + pk b ((t8 b n x k).2 + 1) (n - k - 1), 0, 0, 0⟩, (t8 b n x k).2 + 1 + 1) := by
 rw [t8, jmS, if_pos ⟨h1, h2⟩, if_pos h, Int.add_assoc _ 1 1]; rfl
theorem aX7 {c : b6} {k : Nat} (h : c.list.length ≤ 40) (hk : k = c.list.length - 1) : W6 b c q = (⟨c.vars, c.arrays, (t8 b c.list.length (c.list, q) k).1⟩, (t8 b c.list.length (c.list, q) k).2) := by
 subst hk; unfold W6; rw [if_pos h]
theorem bE0 {c : b6} (h : ¬ c.list.length ≤ 40) : W6 b c q = (c, q) := by unfold W6; rw [if_neg h]
theorem ai8 (b : List UInt8) (c : b6) (q : Int) : (W6 b c q).1.list.length = c.list.length ∧ (W6 b c q).1.vars = c.vars ∧ (W6 b c q).1.arrays = c.arrays ∧ q ≤ (W6 b c q).2 ∧ (W6 b c q).2 ≤ q + 100 := by
 unfold W6
 split
 ·rename_i h
  obtain ⟨h1, h2, h3⟩ := bE2 b c.list.length (c.list, q) (c.list.length - 1)
  refine ⟨h1, rfl, rfl, h2, ?_⟩
  have h3' : (t8 b c.list.length (c.list, q) (c.list.length - 1)).2 ≤ q + 2 * ((c.list.length - 1 : Nat) : Int) := h3
  show (t8 b c.list.length (c.list, q) (c.list.length - 1)).2 ≤ q + 100
  omega
 ·exact ⟨rfl, rfl, rfl, Int.le_refl _, by show q ≤ q + 100; omega⟩
theorem bL2 (b : List UInt8) {j : Int} (hj : 0 ≤ j) (hj2 : j ≤ 1000000) : j ≤ (jpE b j).2 ∧ (jpE b j).2 ≤ j + 400000 ∧ (jpE b j).1.list.length ≤ 400 ∧ (jpE b j).1.vars.length ≤ 1000 ∧ (jpE b j).1.arrays.length ≤ 1000 := by
 have h1 := bw7 b (j := j) hj (by omega)
 have h2 := bo0 b (j := (d8 b j).2 + 1) (by omega) (by omega)
 have h3 := bi1 b j
 have h4 := bi1 b ((d8 b j).2 + 1)
 have e1 : (d8 b j).1.vars = (o0 b j).vars := rfl
 have e2 : (d8 b j).1.arrays = (o0 b j).arrays := rfl
 unfold jpE
 split
 ·split
  ·rename_i h5
   have h6 : (aq2 (o0 b ((d8 b j).2 + 1))).1.length ≤ 400 := by
    unfold okC at h5; rw [bX0, decide_eq_true_eq] at h5; exact h5.2
   refine ⟨by show j ≤ (x8 b ((d8 b j).2 + 1)).2; omega, by show (x8 b ((d8 b j).2 + 1)).2 ≤ _; omega, ?_, ?_, ?_⟩
   ·show (l5 (o0 b ((d8 b j).2 + 1))).1.length ≤ 400
    unfold l5; rw [if_pos h5]; exact h6
   ·show (cvP _).length ≤ 1000; rw [bN3 h5]; omega
   ·show (caP _).length ≤ 1000; rw [bO2 h5]; omega
  ·exact ⟨by show j ≤ (x8 b ((d8 b j).2 + 1)).2; omega, by show (x8 b ((d8 b j).2 + 1)).2 ≤ _; omega, by show (d8 b j).1.list.length ≤ 400; omega, by show (d8 b j).1.vars.length ≤ 1000; rw [e1]; omega, by show (d8 b j).1.arrays.length ≤ 1000; rw [e2]; omega⟩
 ·exact ⟨by show j ≤ (d8 b j).2 + 1; omega, by show (d8 b j).2 + 1 ≤ _; omega, by show (d8 b j).1.list.length ≤ 400; omega, by show (d8 b j).1.vars.length ≤ 1000; rw [e1]; omega, by show (d8 b j).1.arrays.length ≤ 1000; rw [e2]; omega⟩
end
abbrev jpC (b : List UInt8) (j : Int) (c : b6) (q : Int) : j8 := ⟨23, [.ptr 0 0], [.box [.ref 1, iA j], dY b], [.box [.ref 1, iA (W6 b c q).2], dY b, rI (W6 b c q).1.vars, rI (W6 b c q).1.arrays, rN (W6 b c q).1.list], .agg [.ref 2, .ref 3, .ref 4]⟩
theorem bE1 (b : List UInt8) (n : Int) (l : List c7) (q : Int) (k : Nat) : (t8 b n (l, q) k).1.length = l.length ∧ q ≤ (t8 b n (l, q) k).2 ∧ (t8 b n (l, q) k).2 ≤ q + 2 * k := bE2 b n (l, q) k
theorem bz9 {p : j7} {x : Bool} (hb : p.size ≤ 1048576) (h : okC p = x) : j8.ok Tryz.prog ⟨48, [pA 0], pS p, pS p ++ [rI (cvP p), rI (caP p), rN (l5 p).1], .tup [.agg [.ref 3, .ref 4, .ref 5], bA x]⟩ := h ▸ am2 p hb
theorem bk6 {b : List UInt8} {n : Int} {x : List c7 × Int} {k : Nat} (h1 : (k : Int) + 1 < n) (h2 : n ≤ 40) (h3 : 0 ≤ (t8 b n x k).2) (h4 : (t8 b n x k).2 ≤ 100000000) : IntKind.i64.wrap ((k : Int) + 1 + pk b ((t8 b n x k).2 + 1) (n - k - 1)) = (k : Int) + 1 + pk b ((t8 b n x k).2 + 1) (n - k - 1) := by
 have := bt7 b (k := (t8 b n x k).2 + 1) (n := n - k - 1) (by omega) (by omega) (by omega)
 exact w64 (by omega) (by omega)
abbrev ae0 (b : List UInt8) (j : Int) (k : Nat) := t8 b ((d8 b j).fst.list.length : Int) ((d8 b j).fst.list, (d8 b j).snd + 1) k
abbrev aB1 : It := .box [.v (.slice none 0 0), .v (.slice none 0 0), .v (.slice none 0 0)]
abbrev aB0 (b : List UInt8) (j : Int) : AV := iA ((d8 b j).fst.list.length : Int)
abbrev aA3 (b : List UInt8) (j : Int) (r0 : List It) : List It := .row 3 (D.ints (d8 b j).fst.vars) :: .row 3 (D.ints (d8 b j).fst.arrays) :: r0
abbrev ar8 (r0 : List (Nat × AV)) : List (Nat × AV) := (0, .ptr 0 0) :: (2, .ptr 2 0) :: (3, .ptr 6 0) :: r0
theorem bg4 (b : List UInt8) (j : Int) (hpk : ¬ pk b (d8 b j).2 2 = 0) (r0 : 0 ≤ j) (r1 : j ≤ 1000000) : j8.ok Tryz.prog (jpC b j (d8 b j).1 ((d8 b j).2 + 1)) := by
  have hcd := bw7 b r0 (show j ≤ 10000000 by omega); refine I1 70 Tryz.func23 [.box [.ref 1, iA j], dY b] [(0, .ptr 0 0)] fun G => ?_; refine wp_seq (i9 G d9 [0, 1, 2] [.box [.ref 1, iA j], dY b, aB1] [(0, .ptr 0 0), (2, .ptr 2 0)] fun G => b0 (wp_seq (i9 G (t0 1 [0, 1] (ax4 b j (by assumption) (by omega))) [0, 1, 2, 11, 12, 13, 19] (.box [.ref 1, iA (d8 b j).snd] :: dY b :: aB1 :: (aA3 b j [.row 60 (D.instrs (d8 b j).fst.list), .box (pL 3)])) (ar8 []) fun G => b0 (wp_seq (wp_seq (i9 G (t0 1 [0, 1] (o5 b ((d8 b j).snd) 2 (by omega) (by omega))) (rg 7) (.box [.ref 1, iA ((d8 b j).snd + 1)] :: dY b :: aB1 :: (aA3 b j [.row 60 (D.instrs (d8 b j).fst.list), .box (pL 3)])) (ar8 [(12, bA (pk b (d8 b j).snd 2 == 0))]) fun G => b0 ?_)))))); cases h0 : (pk b (d8 b j).snd (2 : Int) == 0)
  ·
   have q0 := ne_of_beq_false h0; refine rF G _ h0 (wp_skip (b0 (wp_seq (l0 G d9 [(6, aB0 b j)] fun G => b0 (wp_seq (wp_seq (F5 G d9 (ar8 [(6, aB0 b j), (7, iA 0)]) fun G => b0 (wp_block ?_)))))))); refine v5 (κ := Nat) (fun k => (k = 0 ∨ (k + 1 ≤ (d8 b j).1.list.length ∧ (d8 b j).1.list.length ≤ 40))) (fun k => (d8 b j).1.list.length - k) (fun k => [.box [.ref 1, iA (t8 b (d8 b j).1.list.length ((d8 b j).1.list, (d8 b j).2 + 1) k).2], dY b, .box [.v (.slice none 0 0), .v (.slice none 0 0), .v (.slice none 0 0)], .row 3 (D.ints (d8 b j).fst.vars), .row 3 (D.ints (d8 b j).fst.arrays), .row 60 (.instrs (t8 b (d8 b j).1.list.length ((d8 b j).1.list, (d8 b j).2 + 1) k).1), .box (pL 3)]) (fun k => [(0, .ptr 0 0), (2, .ptr 2 0), (3, .ptr 6 0), (6, iA ((d8 b j).fst.list.length : Int)), (7, iA k)]) 0 (by omega) (s4.at G _ _) ?_; clear G; intro k ρ a w hp G; replace G := s4.at G (.box [.ref 1, iA (ae0 b j k).snd] :: dY b :: aB1 :: (aA3 b j [.row 60 (D.instrs (ae0 b j k).fst), .box (pL 3)])) (ar8 [(6, aB0 b j), (7, iA k)]); have hjm := bE1 b (d8 b j).1.list.length ((d8 b j).1.list) ((d8 b j).2 + 1) k; refine wp_seq (wp_seq ?_); cases h1 : (decide ((k : Int) + 1 < ((d8 b j).fst.list.length : Int)))
   · have q1 := W0 h1; refine B5 G (H4 (fc h1 fz) [(5, 0), (6, 0), (1007, 0)]) [(31, bA false)] [wO ((k : Int) + 1)] (o1 (by omega)) fun G => b0 (rF G false (by kernel_rfl) (wp_exit (t6 (t6 (t3 (b0 (wp_seq (i9 G d9 (rg 6) (.box [.ref 1, iA (ae0 b j k).snd] :: dY b :: .box (pL 3) :: (aA3 b j [.row 60 (D.instrs (ae0 b j k).fst)])) [(2, .ptr 2 0)] fun G => b0 (wp_ret ?_))))))))); exact I9 G [0, 1, 3, 4, 5] (by show _ = mR [0, 1, 3, 4, 5] [.box [.ref 1, iA (W6 b (d8 b j).fst ((d8 b j).snd + 1)).snd], dY b, .row 3 (D.ints (W6 b (d8 b j).fst ((d8 b j).snd + 1)).fst.vars), .row 3 (D.ints (W6 b (d8 b j).fst ((d8 b j).snd + 1)).fst.arrays), .row 60 (D.instrs (W6 b (d8 b j).fst ((d8 b j).snd + 1)).fst.list)]; have e2 : ((W6 b (d8 b j).fst ((d8 b j).snd + 1)).fst.vars : List Int) = ((d8 b j).fst.vars) := ((ai8 b _ _).2.1); have e3 : ((W6 b (d8 b j).fst ((d8 b j).snd + 1)).fst.arrays : List Int) = ((d8 b j).fst.arrays) := ((ai8 b _ _).2.2.1); rw [e2, e3, aX7 (k := k) (by omega) (by omega)] <;> rfl)
   ·
    have q1 := V9 h1; refine rB1 G (H4 (fc h1 fz) [(5, 0), (6, 0), (1007, 0)]) (ar8 [(6, aB0 b j), (7, iA k), (31, bA (decide (((d8 b j).fst.list.length : Int) ≤ 40)))]) [wO ((k : Int) + 1)] (o1 (by omega)) fun G => b0 ?_; cases h2 : (decide (((d8 b j).fst.list.length : Int) ≤ 40))
    · have q2 := W0 h2; exact False.elim (by omega)
    ·
     have q2 := V9 h2; refine rT G _ h2 (wp_skip (b0 (wp_seq (wp_block (wp_seq ?_))))); cases h3 : (((t8 b ((d8 b j).fst.list.length : Int) ((d8 b j).fst.list, (d8 b j).snd + 1) k).fst.getD k bW7).op != 10)
     · have q3 := bne_eq_false_iff_eq.1 h3; refine B5 G (H4 (fc h3 (fc (b := false) rfl fz)) (us [(8, 14, 0), (1015, 1015, 0), (17, 19, 1), (1020, 1020, 1)])) [(54, bA false)] (iX k k ((t8 b ((d8 b j).fst.list.length : Int) ((d8 b j).fst.list, (d8 b j).snd + 1) k).fst.length) []) (iK (by omega) bY1) fun G => b0 (rF G false (by kernel_rfl) (wp_skip (i8 (b0 (B5 G d9 [(7, iA ((k : Int) + 1))] [wO ((k : Int) + 1)] (o1 (by omega)) fun G => b0 ?_))))); exact J5 G (k + 1) (by omega) (by omega) (rg 7) (by have e1 : ((t8 b ((d8 b j).fst.list.length : Int) ((d8 b j).fst.list, (d8 b j).snd + 1) (k + 1)).snd : Int) = ((t8 b ((d8 b j).fst.list.length : Int) ((d8 b j).fst.list, (d8 b j).snd + 1) k).snd) := (by rw [ap7 (by omega)]; done); have e2 : ((t8 b ((d8 b j).fst.list.length : Int) ((d8 b j).fst.list, (d8 b j).snd + 1) (k + 1)).fst : List c7) = ((t8 b ((d8 b j).fst.list.length : Int) ((d8 b j).fst.list, (d8 b j).snd + 1) k).fst) := (by rw [ap7 (by omega)]; done); (first | rw [e1, e2] | simp only [e1, e2]) <;> rfl)
     ·
      have q3 := bne_iff_ne.1 h3; cases h4 : (((t8 b ((d8 b j).fst.list.length : Int) ((d8 b j).fst.list, (d8 b j).snd + 1) k).fst.getD k bW7).op != 1)
      · have q4 := bne_eq_false_iff_eq.1 h4; refine B5 G (H4 (fc h3 (fc h4 fz)) (us [(8, 14, 0), (1015, 1015, 0), (17, 19, 1), (1020, 1020, 1)])) [(54, bA false)] (iX k k ((t8 b ((d8 b j).fst.list.length : Int) ((d8 b j).fst.list, (d8 b j).snd + 1) k).fst.length) (iX k k ((t8 b ((d8 b j).fst.list.length : Int) ((d8 b j).fst.list, (d8 b j).snd + 1) k).fst.length) [])) (iK (by omega) (iK (by omega) bY1)) fun G => b0 (rF G false (by kernel_rfl) (wp_skip (i8 (b0 (B5 G d9 [(7, iA ((k : Int) + 1))] [wO ((k : Int) + 1)] (o1 (by omega)) fun G => b0 ?_))))); exact J5 G (k + 1) (by omega) (by omega) (rg 7) (by have e1 : ((t8 b ((d8 b j).fst.list.length : Int) ((d8 b j).fst.list, (d8 b j).snd + 1) (k + 1)).snd : Int) = ((t8 b ((d8 b j).fst.list.length : Int) ((d8 b j).fst.list, (d8 b j).snd + 1) k).snd) := (by rw [ap7 (by omega)]; done); have e2 : ((t8 b ((d8 b j).fst.list.length : Int) ((d8 b j).fst.list, (d8 b j).snd + 1) (k + 1)).fst : List c7) = ((t8 b ((d8 b j).fst.list.length : Int) ((d8 b j).fst.list, (d8 b j).snd + 1) k).fst) := (by rw [ap7 (by omega)]; done); (first | rw [e1, e2] | simp only [e1, e2]) <;> rfl)
      ·
       have q4 := bne_iff_ne.1 h4; refine J0 G (Q8 (E2 18 [0, 1] (o5 b ((t8 b ((d8 b j).fst.list.length : Int) ((d8 b j).fst.list, (d8 b j).snd + 1) k).snd) 4 (by omega) (by omega)) Q7) (fc h3 (fc h4 fz)) (us [(8, 14, 0), (1015, 1015, 0), (17, 19, 1), (1020, 1020, 1)])) (rg 7) (.box [.ref 1, iA ((ae0 b j k).snd + 1)] :: dY b :: aB1 :: (aA3 b j [.row 60 (D.instrs (ae0 b j k).fst), .box (pL 3)])) (ar8 [(6, aB0 b j), (7, iA k), (54, bA (pk b (ae0 b j k).snd 4 == 0))]) (iX k k ((t8 b ((d8 b j).fst.list.length : Int) ((d8 b j).fst.list, (d8 b j).snd + 1) k).fst.length) (iX k k ((t8 b ((d8 b j).fst.list.length : Int) ((d8 b j).fst.list, (d8 b j).snd + 1) k).fst.length) [])) (iK (by omega) (iK (by omega) bY1)) fun G => b0 (M4 (u := (pk b (t8 b ((d8 b j).fst.list.length : Int) ((d8 b j).fst.list, (d8 b j).snd + 1) k).snd (4 : Int))) (v := (0 : Int)) G (fun h5 q5 => ?_) fun h5 q5 => ?_)
       · refine wp_skip (i8 (b0 (B5 G d9 [(7, iA ((k : Int) + 1))] [wO ((k : Int) + 1)] (o1 (by omega)) fun G => b0 ?_))); exact J5 G (k + 1) (by omega) (by omega) (rg 7) (by have e1 : ((t8 b ((d8 b j).fst.list.length : Int) ((d8 b j).fst.list, (d8 b j).snd + 1) (k + 1)).snd : Int) = ((t8 b ((d8 b j).fst.list.length : Int) ((d8 b j).fst.list, (d8 b j).snd + 1) k).snd + 1) := (by rw [a93 (by omega) (by omega) (by omega)]; done); have e2 : ((t8 b ((d8 b j).fst.list.length : Int) ((d8 b j).fst.list, (d8 b j).snd + 1) (k + 1)).fst : List c7) = ((t8 b ((d8 b j).fst.list.length : Int) ((d8 b j).fst.list, (d8 b j).snd + 1) k).fst) := (by rw [a93 (by omega) (by omega) (by omega)]; done); (first | rw [e1, e2] | simp only [e1, e2]) <;> rfl)
       · refine F4 G (t0 10 [0, 1] (o5 b ((t8 b ((d8 b j).fst.list.length : Int) ((d8 b j).fst.list, (d8 b j).snd + 1) k).snd + 1) (((d8 b j).fst.list.length : Int) - (k : Int) - 1) (by omega) (by omega))) [0, 1, 0, 0, 8, 0, 0, 0, 192, 448, 992, 2040, 4088, 8191, 16383] (rg 7) (.box [.ref 1, iA ((ae0 b j k).snd + 1 + 1)] :: dY b :: aB1 :: (aA3 b j [.row 60 (D.instrs ((ae0 b j k).fst.set k (c7.mk 8 ((k : Int) + 1 + pk b ((ae0 b j k).snd + 1) (((d8 b j).fst.list.length : Int) - (k : Int) - 1)) 0 0 0))), .box (pL 3)])) (ar8 [(6, aB0 b j), (7, iA k)]) ((wO ((k : Int) + 1)) :: ((wO (((d8 b j).fst.list.length : Int) - (k : Int))) :: ((wO (((d8 b j).fst.list.length : Int) - (k : Int) - 1)) :: ((wO ((k : Int) + 1 + pk b ((t8 b ((d8 b j).fst.list.length : Int) ((d8 b j).fst.list, (d8 b j).snd + 1) k).snd + 1) (((d8 b j).fst.list.length : Int) - (k : Int) - 1))) :: (iX k k ((t8 b ((d8 b j).fst.list.length : Int) ((d8 b j).fst.list, (d8 b j).snd + 1) k).fst.length) []))))) ⟨oW (by omega), ⟨oW (by omega), ⟨oW (by omega), ⟨(bk6 (by omega) (by omega) (by omega) (by omega)), (iK (by omega) bY1)⟩⟩⟩⟩ fun G => i8 (b0 (B5 G d9 [(7, iA ((k : Int) + 1))] [wO ((k : Int) + 1)] (o1 (by omega)) fun G => b0 ?_)); exact J5 G (k + 1) (by omega) (by omega) (rg 7) (by have e1 : ((t8 b ((d8 b j).fst.list.length : Int) ((d8 b j).fst.list, (d8 b j).snd + 1) (k + 1)).snd : Int) = ((t8 b ((d8 b j).fst.list.length : Int) ((d8 b j).fst.list, (d8 b j).snd + 1) k).snd + 1 + 1) := (by rw [a92 (by omega) (by omega) (by omega)]; done); have e2 : ((t8 b ((d8 b j).fst.list.length : Int) ((d8 b j).fst.list, (d8 b j).snd + 1) (k + 1)).fst : List c7) = ((t8 b ((d8 b j).fst.list.length : Int) ((d8 b j).fst.list, (d8 b j).snd + 1) k).fst.set k (c7.mk 8 ((k : Int) + 1 + pk b ((t8 b ((d8 b j).fst.list.length : Int) ((d8 b j).fst.list, (d8 b j).snd + 1) k).snd + 1) (((d8 b j).fst.list.length : Int) - (k : Int) - 1)) 0 0 0)) := (by rw [a92 (by omega) (by omega) (by omega)]; done); (first | rw [e1, e2] | simp only [e1, e2]) <;> rfl)
  · have q0 := eq_of_beq h0; exact False.elim (by omega)
abbrev ad9 (b : List UInt8) (j : Int) (k : Nat) := t8 b ((d8 b j).fst.list.length : Int) ((d8 b j).fst.list, (x8 b ((d8 b j).snd + 1)).snd) k
abbrev an5 : It := .box [.v (.slice none 0 0), .v (.slice none 0 0), .v (.slice none 0 0)]
abbrev an4 (b : List UInt8) (j : Int) : It := .row 3 (D.ints (d8 b j).fst.arrays)
abbrev an3 (b : List UInt8) (j : Int) : It := .row 3 (D.ints (d8 b j).fst.vars)
abbrev aA9 (b : List UInt8) (j : Int) : AV := iA ((d8 b j).fst.list.length : Int)
abbrev ag5 (r0 : List (Nat × AV)) : List (Nat × AV) := (0, .ptr 0 0) :: (2, .ptr 2 0) :: (3, .ptr 6 0) :: r0
theorem bg5 (b : List UInt8) (j : Int) (hpk : pk b (d8 b j).2 2 = 0) (hok : okC (o0 b ((d8 b j).2 + 1)) = false) (r0 : 0 ≤ j) (r1 : j ≤ 1000000) : j8.ok Tryz.prog (jpC b j (d8 b j).1 ((x8 b ((d8 b j).2 + 1)).2)) := by
  have hcd := bw7 b r0 (show j ≤ 10000000 by omega); have hbd := bo0 b (j := (d8 b j).2 + 1) (by omega) (by omega); have hsz : (o0 b ((d8 b j).2 + 1)).size ≤ 1048576 := bZ6 (bi2 (b := b) (k := (d8 b j).2 + 1) (by omega) (by omega)) (by omega); have hcp := bz9 hsz hok; refine I1 70 Tryz.func23 [.box [.ref 1, iA j], dY b] [(0, .ptr 0 0)] fun G => ?_; refine wp_seq (i9 G d9 [0, 1, 2] [.box [.ref 1, iA j], dY b, an5] [(0, .ptr 0 0), (2, .ptr 2 0)] fun G => b0 (wp_seq (i9 G (t0 1 [0, 1] (ax4 b j (by assumption) (by omega))) [0, 1, 2, 11, 12, 13, 19] [.box [.ref 1, iA (d8 b j).snd], dY b, an5, an3 b j, an4 b j, .row 60 (D.instrs (d8 b j).fst.list), .box (pL 3)] (ag5 []) fun G => b0 (wp_seq (wp_seq (i9 G (t0 1 [0, 1] (o5 b ((d8 b j).snd) 2 (by omega) (by omega))) (rg 7) [.box [.ref 1, iA ((d8 b j).snd + 1)], dY b, an5, an3 b j, an4 b j, .row 60 (D.instrs (d8 b j).fst.list), .box (pL 3)] (ag5 [(12, bA (pk b (d8 b j).snd 2 == 0))]) fun G => b0 ?_)))))); cases h0 : (pk b (d8 b j).snd (2 : Int) == 0)
  · have q0 := ne_of_beq_false h0; exact False.elim (by omega)
  ·
   have q0 := eq_of_beq h0; refine rT G _ h0 (wp_seq (i9 G (Q8 (E2 1 [0, 1] (ab6 b ((d8 b j).snd + 1) (by omega) (by omega)) (E2 2 [15, 16, 17] (j8.lend hcp [.row 3, .row 3, .tree]) Q7)) fz []) [0, 1, 2, 3, 4, 5, 6, 23, 24, 25, 55] [.box [.ref 1, iA (x8 b ((d8 b j).snd + 1)).snd], dY b, an5, an3 b j, an4 b j, .row 60 (D.instrs (d8 b j).fst.list), .box (pL 3), .row 3 (D.ints (cvP (o0 b ((d8 b j).snd + 1)))), .row 3 (D.ints (caP (o0 b ((d8 b j).snd + 1)))), .row 60 (D.instrs (l5 (o0 b ((d8 b j).snd + 1))).fst), .box (pL 7)] (ag5 [(4, .ptr 10 0), (5, bA false)]) fun G => b0 (wp_seq (l0 G d9 [(19, bA false)] fun G => b0 (rF G false (by kernel_rfl) (wp_skip (b0 (wp_seq (i9 G d9 (rg 7) [.box [.ref 1, iA (x8 b ((d8 b j).snd + 1)).snd], dY b, an5, an3 b j, an4 b j, .row 60 (D.instrs (d8 b j).fst.list), .box (pL 3)] (ag5 [(6, aA9 b j)]) fun G => b0 (wp_seq (wp_seq (F5 G d9 (ag5 [(6, aA9 b j), (7, iA 0)]) fun G => b0 (wp_block ?_))))))))))))); refine v5 (κ := Nat) (fun k => (k = 0 ∨ (k + 1 ≤ (d8 b j).1.list.length ∧ (d8 b j).1.list.length ≤ 40))) (fun k => (d8 b j).1.list.length - k) (fun k => [.box [.ref 1, iA (t8 b (d8 b j).1.list.length ((d8 b j).1.list, (x8 b ((d8 b j).2 + 1)).2) k).2], dY b, .box [.v (.slice none 0 0), .v (.slice none 0 0), .v (.slice none 0 0)], .row 3 (D.ints (d8 b j).fst.vars), .row 3 (D.ints (d8 b j).fst.arrays), .row 60 (.instrs (t8 b (d8 b j).1.list.length ((d8 b j).1.list, (x8 b ((d8 b j).2 + 1)).2) k).1), .box (pL 3)]) (fun k => [(0, .ptr 0 0), (2, .ptr 2 0), (3, .ptr 6 0), (6, iA ((d8 b j).fst.list.length : Int)), (7, iA k)]) 0 (by omega) (s4.at G _ _) ?_; clear G; intro k ρ a w hp G; replace G := s4.at G [.box [.ref 1, iA (ad9 b j k).snd], dY b, an5, an3 b j, an4 b j, .row 60 (D.instrs (ad9 b j k).fst), .box (pL 3)] (ag5 [(6, aA9 b j), (7, iA k)]); have hjm := bE1 b (d8 b j).1.list.length ((d8 b j).1.list) ((x8 b ((d8 b j).2 + 1)).2) k; refine wp_seq (wp_seq ?_); cases h1 : (decide ((k : Int) + 1 < ((d8 b j).fst.list.length : Int)))
   · have q1 := W0 h1; refine B5 G (H4 (fc h1 fz) [(5, 0), (6, 0), (1007, 0)]) [(31, bA false)] [wO ((k : Int) + 1)] (o1 (by omega)) fun G => b0 (rF G false (by kernel_rfl) (wp_exit (t6 (t6 (t3 (b0 (wp_seq (i9 G d9 (rg 6) [.box [.ref 1, iA (ad9 b j k).snd], dY b, .box (pL 3), an3 b j, an4 b j, .row 60 (D.instrs (ad9 b j k).fst)] [(2, .ptr 2 0)] fun G => b0 (wp_ret ?_))))))))); exact I9 G [0, 1, 3, 4, 5] (by show _ = mR [0, 1, 3, 4, 5] [.box [.ref 1, iA (W6 b (d8 b j).fst (x8 b ((d8 b j).snd + 1)).snd).snd], dY b, .row 3 (D.ints (W6 b (d8 b j).fst (x8 b ((d8 b j).snd + 1)).snd).fst.vars), .row 3 (D.ints (W6 b (d8 b j).fst (x8 b ((d8 b j).snd + 1)).snd).fst.arrays), .row 60 (D.instrs (W6 b (d8 b j).fst (x8 b ((d8 b j).snd + 1)).snd).fst.list)]; have e2 : ((W6 b (d8 b j).fst (x8 b ((d8 b j).snd + 1)).snd).fst.vars : List Int) = ((d8 b j).fst.vars) := ((ai8 b _ _).2.1); have e3 : ((W6 b (d8 b j).fst (x8 b ((d8 b j).snd + 1)).snd).fst.arrays : List Int) = ((d8 b j).fst.arrays) := ((ai8 b _ _).2.2.1); rw [e2, e3, aX7 (k := k) (by omega) (by omega)] <;> rfl)
   ·
    have q1 := V9 h1; refine rB1 G (H4 (fc h1 fz) [(5, 0), (6, 0), (1007, 0)]) (ag5 [(6, aA9 b j), (7, iA k), (31, bA (decide (((d8 b j).fst.list.length : Int) ≤ 40)))]) [wO ((k : Int) + 1)] (o1 (by omega)) fun G => b0 ?_; cases h2 : (decide (((d8 b j).fst.list.length : Int) ≤ 40))
    · have q2 := W0 h2; exact False.elim (by omega)
    ·
     have q2 := V9 h2; refine rT G _ h2 (wp_skip (b0 (wp_seq (wp_block (wp_seq ?_))))); cases h3 : (((t8 b ((d8 b j).fst.list.length : Int) ((d8 b j).fst.list, (x8 b ((d8 b j).snd + 1)).snd) k).fst.getD k bW7).op != 10)
     · have q3 := bne_eq_false_iff_eq.1 h3; refine B5 G (H4 (fc h3 (fc (b := false) rfl fz)) (us [(8, 14, 0), (1015, 1015, 0), (17, 19, 1), (1020, 1020, 1)])) [(54, bA false)] (iX k k ((t8 b ((d8 b j).fst.list.length : Int) ((d8 b j).fst.list, (x8 b ((d8 b j).snd + 1)).snd) k).fst.length) []) (iK (by omega) bY1) fun G => b0 (rF G false (by kernel_rfl) (wp_skip (i8 (b0 (B5 G d9 [(7, iA ((k : Int) + 1))] [wO ((k : Int) + 1)] (o1 (by omega)) fun G => b0 ?_))))); exact J5 G (k + 1) (by omega) (by omega) (rg 7) (by have e1 : ((t8 b ((d8 b j).fst.list.length : Int) ((d8 b j).fst.list, (x8 b ((d8 b j).snd + 1)).snd) (k + 1)).snd : Int) = ((t8 b ((d8 b j).fst.list.length : Int) ((d8 b j).fst.list, (x8 b ((d8 b j).snd + 1)).snd) k).snd) := (by rw [ap7 (by omega)]; done); have e2 : ((t8 b ((d8 b j).fst.list.length : Int) ((d8 b j).fst.list, (x8 b ((d8 b j).snd + 1)).snd) (k + 1)).fst : List c7) = ((t8 b ((d8 b j).fst.list.length : Int) ((d8 b j).fst.list, (x8 b ((d8 b j).snd + 1)).snd) k).fst) := (by rw [ap7 (by omega)]; done); (first | rw [e1, e2] | simp only [e1, e2]) <;> rfl)
     ·
      have q3 := bne_iff_ne.1 h3; cases h4 : (((t8 b ((d8 b j).fst.list.length : Int) ((d8 b j).fst.list, (x8 b ((d8 b j).snd + 1)).snd) k).fst.getD k bW7).op != 1)
      · have q4 := bne_eq_false_iff_eq.1 h4; refine B5 G (H4 (fc h3 (fc h4 fz)) (us [(8, 14, 0), (1015, 1015, 0), (17, 19, 1), (1020, 1020, 1)])) [(54, bA false)] (iX k k ((t8 b ((d8 b j).fst.list.length : Int) ((d8 b j).fst.list, (x8 b ((d8 b j).snd + 1)).snd) k).fst.length) (iX k k ((t8 b ((d8 b j).fst.list.length : Int) ((d8 b j).fst.list, (x8 b ((d8 b j).snd + 1)).snd) k).fst.length) [])) (iK (by omega) (iK (by omega) bY1)) fun G => b0 (rF G false (by kernel_rfl) (wp_skip (i8 (b0 (B5 G d9 [(7, iA ((k : Int) + 1))] [wO ((k : Int) + 1)] (o1 (by omega)) fun G => b0 ?_))))); exact J5 G (k + 1) (by omega) (by omega) (rg 7) (by have e1 : ((t8 b ((d8 b j).fst.list.length : Int) ((d8 b j).fst.list, (x8 b ((d8 b j).snd + 1)).snd) (k + 1)).snd : Int) = ((t8 b ((d8 b j).fst.list.length : Int) ((d8 b j).fst.list, (x8 b ((d8 b j).snd + 1)).snd) k).snd) := (by rw [ap7 (by omega)]; done); have e2 : ((t8 b ((d8 b j).fst.list.length : Int) ((d8 b j).fst.list, (x8 b ((d8 b j).snd + 1)).snd) (k + 1)).fst : List c7) = ((t8 b ((d8 b j).fst.list.length : Int) ((d8 b j).fst.list, (x8 b ((d8 b j).snd + 1)).snd) k).fst) := (by rw [ap7 (by omega)]; done); (first | rw [e1, e2] | simp only [e1, e2]) <;> rfl)
      ·
       have q4 := bne_iff_ne.1 h4; refine J0 G (Q8 (E2 18 [0, 1] (o5 b ((t8 b ((d8 b j).fst.list.length : Int) ((d8 b j).fst.list, (x8 b ((d8 b j).snd + 1)).snd) k).snd) 4 (by omega) (by omega)) Q7) (fc h3 (fc h4 fz)) (us [(8, 14, 0), (1015, 1015, 0), (17, 19, 1), (1020, 1020, 1)])) (rg 7) [.box [.ref 1, iA ((ad9 b j k).snd + 1)], dY b, an5, an3 b j, an4 b j, .row 60 (D.instrs (ad9 b j k).fst), .box (pL 3)] (ag5 [(6, aA9 b j), (7, iA k), (54, bA (pk b (ad9 b j k).snd 4 == 0))]) (iX k k ((t8 b ((d8 b j).fst.list.length : Int) ((d8 b j).fst.list, (x8 b ((d8 b j).snd + 1)).snd) k).fst.length) (iX k k ((t8 b ((d8 b j).fst.list.length : Int) ((d8 b j).fst.list, (x8 b ((d8 b j).snd + 1)).snd) k).fst.length) [])) (iK (by omega) (iK (by omega) bY1)) fun G => b0 (M4 (u := (pk b (t8 b ((d8 b j).fst.list.length : Int) ((d8 b j).fst.list, (x8 b ((d8 b j).snd + 1)).snd) k).snd (4 : Int))) (v := (0 : Int)) G (fun h5 q5 => ?_) fun h5 q5 => ?_)
       · refine wp_skip (i8 (b0 (B5 G d9 [(7, iA ((k : Int) + 1))] [wO ((k : Int) + 1)] (o1 (by omega)) fun G => b0 ?_))); exact J5 G (k + 1) (by omega) (by omega) (rg 7) (by have e1 : ((t8 b ((d8 b j).fst.list.length : Int) ((d8 b j).fst.list, (x8 b ((d8 b j).snd + 1)).snd) (k + 1)).snd : Int) = ((t8 b ((d8 b j).fst.list.length : Int) ((d8 b j).fst.list, (x8 b ((d8 b j).snd + 1)).snd) k).snd + 1) := (by rw [a93 (by omega) (by omega) (by omega)]; done); have e2 : ((t8 b ((d8 b j).fst.list.length : Int) ((d8 b j).fst.list, (x8 b ((d8 b j).snd + 1)).snd) (k + 1)).fst : List c7) = ((t8 b ((d8 b j).fst.list.length : Int) ((d8 b j).fst.list, (x8 b ((d8 b j).snd + 1)).snd) k).fst) := (by rw [a93 (by omega) (by omega) (by omega)]; done); (first | rw [e1, e2] | simp only [e1, e2]) <;> rfl)
       · refine F4 G (t0 10 [0, 1] (o5 b ((t8 b ((d8 b j).fst.list.length : Int) ((d8 b j).fst.list, (x8 b ((d8 b j).snd + 1)).snd) k).snd + 1) (((d8 b j).fst.list.length : Int) - (k : Int) - 1) (by omega) (by omega))) [0, 1, 0, 0, 8, 0, 0, 0, 192, 448, 992, 2040, 4088, 8191, 16383] (rg 7) [.box [.ref 1, iA ((ad9 b j k).snd + 1 + 1)], dY b, an5, an3 b j, an4 b j, .row 60 (D.instrs ((ad9 b j k).fst.set k (c7.mk 8 ((k : Int) + 1 + pk b ((ad9 b j k).snd + 1) (((d8 b j).fst.list.length : Int) - (k : Int) - 1)) 0 0 0))), .box (pL 3)] (ag5 [(6, aA9 b j), (7, iA k)]) ((wO ((k : Int) + 1)) :: ((wO (((d8 b j).fst.list.length : Int) - (k : Int))) :: ((wO (((d8 b j).fst.list.length : Int) - (k : Int) - 1)) :: ((wO ((k : Int) + 1 + pk b ((t8 b ((d8 b j).fst.list.length : Int) ((d8 b j).fst.list, (x8 b ((d8 b j).snd + 1)).snd) k).snd + 1) (((d8 b j).fst.list.length : Int) - (k : Int) - 1))) :: (iX k k ((t8 b ((d8 b j).fst.list.length : Int) ((d8 b j).fst.list, (x8 b ((d8 b j).snd + 1)).snd) k).fst.length) []))))) ⟨oW (by omega), ⟨oW (by omega), ⟨oW (by omega), ⟨(bk6 (by omega) (by omega) (by omega) (by omega)), (iK (by omega) bY1)⟩⟩⟩⟩ fun G => i8 (b0 (B5 G d9 [(7, iA ((k : Int) + 1))] [wO ((k : Int) + 1)] (o1 (by omega)) fun G => b0 ?_)); exact J5 G (k + 1) (by omega) (by omega) (rg 7) (by have e1 : ((t8 b ((d8 b j).fst.list.length : Int) ((d8 b j).fst.list, (x8 b ((d8 b j).snd + 1)).snd) (k + 1)).snd : Int) = ((t8 b ((d8 b j).fst.list.length : Int) ((d8 b j).fst.list, (x8 b ((d8 b j).snd + 1)).snd) k).snd + 1 + 1) := (by rw [a92 (by omega) (by omega) (by omega)]; done); have e2 : ((t8 b ((d8 b j).fst.list.length : Int) ((d8 b j).fst.list, (x8 b ((d8 b j).snd + 1)).snd) (k + 1)).fst : List c7) = ((t8 b ((d8 b j).fst.list.length : Int) ((d8 b j).fst.list, (x8 b ((d8 b j).snd + 1)).snd) k).fst.set k (c7.mk 8 ((k : Int) + 1 + pk b ((t8 b ((d8 b j).fst.list.length : Int) ((d8 b j).fst.list, (x8 b ((d8 b j).snd + 1)).snd) k).snd + 1) (((d8 b j).fst.list.length : Int) - (k : Int) - 1)) 0 0 0)) := (by rw [a92 (by omega) (by omega) (by omega)]; done); (first | rw [e1, e2] | simp only [e1, e2]) <;> rfl)
theorem bv3 {b : List UInt8} {vs ars : List Int} {l : List c7} {q : Int} {k : Nat} (h : l.length ≤ 40) (hk : k = l.length - 1) : W6 b ⟨vs, ars, l⟩ q = (⟨vs, ars, (t8 b l.length (l, q) k).1⟩, (t8 b l.length (l, q) k).2) := aX7 (c := ⟨vs, ars, l⟩) h hk
theorem bv4 {b : List UInt8} {vs ars : List Int} {l : List c7} {q : Int} (h : ¬ l.length ≤ 40) : W6 b ⟨vs, ars, l⟩ q = (⟨vs, ars, l⟩, q) := bE0 (c := ⟨vs, ars, l⟩) h
abbrev Y8 (b : List UInt8) (j : Int) (k : Nat) := t8 b ((l5 (o0 b ((d8 b j).snd + 1))).fst.length : Int) ((l5 (o0 b ((d8 b j).snd + 1))).fst, (x8 b ((d8 b j).snd + 1)).snd) k
abbrev a23 (b : List UInt8) (j : Int) : List It := [.box [.ref 1, iA (W6 b (b6.mk (cvP (o0 b ((d8 b j).snd + 1))) (caP (o0 b ((d8 b j).snd + 1))) (l5 (o0 b ((d8 b j).snd + 1))).fst) (x8 b ((d8 b j).snd + 1)).snd).snd], dY b, .row 3 (D.ints (W6 b (b6.mk (cvP (o0 b ((d8 b j).snd + 1))) (caP (o0 b ((d8 b j).snd + 1))) (l5 (o0 b ((d8 b j).snd + 1))).fst) (x8 b ((d8 b j).snd + 1)).snd).fst.vars), .row 3 (D.ints (W6 b (b6.mk (cvP (o0 b ((d8 b j).snd + 1))) (caP (o0 b ((d8 b j).snd + 1))) (l5 (o0 b ((d8 b j).snd + 1))).fst) (x8 b ((d8 b j).snd + 1)).snd).fst.arrays), .row 60 (D.instrs (W6 b (b6.mk (cvP (o0 b ((d8 b j).snd + 1))) (caP (o0 b ((d8 b j).snd + 1))) (l5 (o0 b ((d8 b j).snd + 1))).fst) (x8 b ((d8 b j).snd + 1)).snd).fst.list)]
abbrev aA8 : It := .box [.v (.slice none 0 0), .v (.slice none 0 0), .v (.slice none 0 0)]
abbrev as3 (b : List UInt8) (j : Int) : It := .row 3 (D.ints (cvP (o0 b ((d8 b j).snd + 1))))
abbrev as2 (b : List UInt8) (j : Int) : It := .row 3 (D.ints (caP (o0 b ((d8 b j).snd + 1))))
abbrev aL5 (b : List UInt8) (j : Int) : AV := iA ((l5 (o0 b ((d8 b j).snd + 1))).fst.length : Int)
abbrev bd3 (b : List UInt8) (j : Int) (r0 : List It) : List It := dY b :: aA8 :: .row 3 (D.ints (d8 b j).fst.vars) :: .row 3 (D.ints (d8 b j).fst.arrays) :: .row 60 (D.instrs (d8 b j).fst.list) :: .box (pL 3) :: r0
theorem bg3 (b : List UInt8) (j : Int) (hpk : pk b (d8 b j).2 2 = 0) (hok : okC (o0 b ((d8 b j).2 + 1)) = true) (r0 : 0 ≤ j) (r1 : j ≤ 1000000) : j8.ok Tryz.prog (jpC b j (⟨cvP (o0 b ((d8 b j).2 + 1)), caP (o0 b ((d8 b j).2 + 1)), (l5 (o0 b ((d8 b j).2 + 1))).1⟩ : b6) ((x8 b ((d8 b j).2 + 1)).2)) := by
  have hcd := bw7 b r0 (show j ≤ 10000000 by omega); have hbd := bo0 b (j := (d8 b j).2 + 1) (by omega) (by omega); have hsz : (o0 b ((d8 b j).2 + 1)).size ≤ 1048576 := bZ6 (bi2 (b := b) (k := (d8 b j).2 + 1) (by omega) (by omega)) (by omega); have hcp := bz9 hsz hok; refine I1 70 Tryz.func23 [.box [.ref 1, iA j], dY b] [(0, .ptr 0 0)] fun G => ?_; refine wp_seq (i9 G d9 [0, 1, 2] [.box [.ref 1, iA j], dY b, aA8] [(0, .ptr 0 0), (2, .ptr 2 0)] fun G => b0 (wp_seq (i9 G (t0 1 [0, 1] (ax4 b j (by assumption) (by omega))) [0, 1, 2, 11, 12, 13, 19] (.box [.ref 1, iA (d8 b j).snd] :: (bd3 b j [])) [(0, .ptr 0 0), (2, .ptr 2 0), (3, .ptr 6 0)] fun G => b0 (wp_seq (wp_seq (i9 G (t0 1 [0, 1] (o5 b ((d8 b j).snd) 2 (by omega) (by omega))) (rg 7) (.box [.ref 1, iA ((d8 b j).snd + 1)] :: (bd3 b j [])) [(0, .ptr 0 0), (2, .ptr 2 0), (3, .ptr 6 0), (12, bA (pk b (d8 b j).snd 2 == 0))] fun G => b0 ?_)))))); cases h0 : (pk b (d8 b j).snd (2 : Int) == 0)
  · have q0 := ne_of_beq_false h0; exact False.elim (by omega)
  ·
   have q0 := eq_of_beq h0; refine rT G _ h0 (wp_seq (i9 G (Q8 (E2 1 [0, 1] (ab6 b ((d8 b j).snd + 1) (by omega) (by omega)) (E2 2 [15, 16, 17] (j8.lend hcp [.row 3, .row 3, .tree]) Q7)) fz []) [0, 1, 2, 3, 4, 5, 6, 23, 24, 25, 55] (.box [.ref 1, iA (x8 b ((d8 b j).snd + 1)).snd] :: (bd3 b j [as3 b j, as2 b j, .row 60 (D.instrs (l5 (o0 b ((d8 b j).snd + 1))).fst), .box (pL 7)])) [(0, .ptr 0 0), (2, .ptr 2 0), (3, .ptr 6 0), (4, .ptr 10 0), (5, bA true)] fun G => b0 (wp_seq (l0 G d9 [(19, bA true)] fun G => b0 (rT G true (by kernel_rfl) (i9 G d9 [0, 1, 2, 6, 7, 8, 9] [.box [.ref 1, iA (x8 b ((d8 b j).snd + 1)).snd], dY b, aA8, .box (pL 4), as3 b j, as2 b j, .row 60 (D.instrs (l5 (o0 b ((d8 b j).snd + 1))).fst)] [(0, .ptr 0 0), (2, .ptr 2 0), (3, .ptr 3 0)] fun G => b0 (wp_seq (l0 G d9 [(6, aL5 b j)] fun G => b0 (wp_seq (wp_seq (F5 G d9 [(0, .ptr 0 0), (2, .ptr 2 0), (3, .ptr 3 0), (6, aL5 b j), (7, iA 0)] fun G => b0 (wp_block ?_)))))))))))); refine v5 (κ := Nat) (fun k => (k = 0 ∨ (k + 1 ≤ (l5 (o0 b ((d8 b j).2 + 1))).1.length ∧ (l5 (o0 b ((d8 b j).2 + 1))).1.length ≤ 40))) (fun k => (l5 (o0 b ((d8 b j).2 + 1))).1.length - k) (fun k => [.box [.ref 1, iA (t8 b (l5 (o0 b ((d8 b j).2 + 1))).1.length ((l5 (o0 b ((d8 b j).2 + 1))).1, (x8 b ((d8 b j).2 + 1)).2) k).2], dY b, .box [.v (.slice none 0 0), .v (.slice none 0 0), .v (.slice none 0 0)], .box (pL 4), .row 3 (D.ints (cvP (o0 b ((d8 b j).snd + 1)))), .row 3 (D.ints (caP (o0 b ((d8 b j).snd + 1)))), .row 60 (.instrs (t8 b (l5 (o0 b ((d8 b j).2 + 1))).1.length ((l5 (o0 b ((d8 b j).2 + 1))).1, (x8 b ((d8 b j).2 + 1)).2) k).1)]) (fun k => [(0, .ptr 0 0), (2, .ptr 2 0), (3, .ptr 3 0), (6, iA ((l5 (o0 b ((d8 b j).snd + 1))).fst.length : Int)), (7, iA k)]) 0 (by omega) (s4.at G _ _) ?_; clear G; intro k ρ a w hp G; replace G := s4.at G [.box [.ref 1, iA (Y8 b j k).snd], dY b, aA8, .box (pL 4), as3 b j, as2 b j, .row 60 (D.instrs (Y8 b j k).fst)] [(0, .ptr 0 0), (2, .ptr 2 0), (3, .ptr 3 0), (6, aL5 b j), (7, iA k)]; have hjm := bE1 b (l5 (o0 b ((d8 b j).2 + 1))).1.length ((l5 (o0 b ((d8 b j).2 + 1))).1) ((x8 b ((d8 b j).2 + 1)).2) k; refine wp_seq (wp_seq ?_); cases h1 : (decide ((k : Int) + 1 < ((l5 (o0 b ((d8 b j).snd + 1))).fst.length : Int)))
   · have q1 := W0 h1; refine B5 G (H4 (fc h1 fz) [(5, 0), (6, 0), (1007, 0)]) [(31, bA false)] [wO ((k : Int) + 1)] (o1 (by omega)) fun G => b0 (rF G false (by kernel_rfl) (wp_exit (t6 (t6 (t3 (b0 (wp_seq (i9 G d9 [0, 1, 2, 4, 5, 6] [.box [.ref 1, iA (Y8 b j k).snd], dY b, .box (pL 3), as3 b j, as2 b j, .row 60 (D.instrs (Y8 b j k).fst)] [(2, .ptr 2 0)] fun G => b0 (wp_ret ?_))))))))); exact I9 G [0, 1, 3, 4, 5] (by show _ = mR [0, 1, 3, 4, 5] (a23 b j); unfold a23; have e2 : ((W6 b (b6.mk (cvP (o0 b ((d8 b j).snd + 1))) (caP (o0 b ((d8 b j).snd + 1))) (l5 (o0 b ((d8 b j).snd + 1))).fst) (x8 b ((d8 b j).snd + 1)).snd).fst.vars : List Int) = (cvP (o0 b ((d8 b j).snd + 1))) := ((ai8 b _ _).2.1); have e3 : ((W6 b (b6.mk (cvP (o0 b ((d8 b j).snd + 1))) (caP (o0 b ((d8 b j).snd + 1))) (l5 (o0 b ((d8 b j).snd + 1))).fst) (x8 b ((d8 b j).snd + 1)).snd).fst.arrays : List Int) = (caP (o0 b ((d8 b j).snd + 1))) := ((ai8 b _ _).2.2.1); rw [e2, e3, bv3 (k := k) (by omega) (by omega)] <;> rfl)
   ·
    have q1 := V9 h1; refine B5 G (H4 (fc h1 fz) [(5, 0), (6, 0), (1007, 0)]) [(31, bA (decide (((l5 (o0 b ((d8 b j).snd + 1))).fst.length : Int) ≤ 40)))] [wO ((k : Int) + 1)] (o1 (by omega)) fun G => b0 (rcD G (fun h2 q2 => ?_) fun h2 q2 => ?_)
    · refine wp_exit (t6 (t6 (t3 (b0 (wp_seq (i9 G d9 [0, 1, 2, 4, 5, 6] [.box [.ref 1, iA (Y8 b j k).snd], dY b, .box (pL 3), as3 b j, as2 b j, .row 60 (D.instrs (Y8 b j k).fst)] [(2, .ptr 2 0)] fun G => b0 (wp_ret ?_))))))); exact I9 G [0, 1, 3, 4, 5] (by show _ = mR [0, 1, 3, 4, 5] (a23 b j); unfold a23; have e2 : ((W6 b (b6.mk (cvP (o0 b ((d8 b j).snd + 1))) (caP (o0 b ((d8 b j).snd + 1))) (l5 (o0 b ((d8 b j).snd + 1))).fst) (x8 b ((d8 b j).snd + 1)).snd).fst.vars : List Int) = (cvP (o0 b ((d8 b j).snd + 1))) := ((ai8 b _ _).2.1); have e3 : ((W6 b (b6.mk (cvP (o0 b ((d8 b j).snd + 1))) (caP (o0 b ((d8 b j).snd + 1))) (l5 (o0 b ((d8 b j).snd + 1))).fst) (x8 b ((d8 b j).snd + 1)).snd).fst.arrays : List Int) = (caP (o0 b ((d8 b j).snd + 1))) := ((ai8 b _ _).2.2.1); rw [e2, e3, bv4 (by omega), show k = 0 by omega] <;> rfl)
    ·
     refine wp_skip (b0 (wp_seq (wp_block (wp_seq ?_)))); cases h3 : (((t8 b ((l5 (o0 b ((d8 b j).snd + 1))).fst.length : Int) ((l5 (o0 b ((d8 b j).snd + 1))).fst, (x8 b ((d8 b j).snd + 1)).snd) k).fst.getD k bW7).op != 10)
     · have q3 := bne_eq_false_iff_eq.1 h3; refine B5 G (H4 (fc h3 (fc (b := false) rfl fz)) (us [(8, 14, 0), (1015, 1015, 0), (17, 19, 1), (1020, 1020, 1)])) [(54, bA false)] (iX k k ((t8 b ((l5 (o0 b ((d8 b j).snd + 1))).fst.length : Int) ((l5 (o0 b ((d8 b j).snd + 1))).fst, (x8 b ((d8 b j).snd + 1)).snd) k).fst.length) []) (iK (by omega) bY1) fun G => b0 (rF G false (by kernel_rfl) (wp_skip (i8 (b0 (B5 G d9 [(7, iA ((k : Int) + 1))] [wO ((k : Int) + 1)] (o1 (by omega)) fun G => b0 ?_))))); exact J5 G (k + 1) (by omega) (by omega) (rg 7) (by have e1 : ((t8 b ((l5 (o0 b ((d8 b j).snd + 1))).fst.length : Int) ((l5 (o0 b ((d8 b j).snd + 1))).fst, (x8 b ((d8 b j).snd + 1)).snd) (k + 1)).snd : Int) = ((t8 b ((l5 (o0 b ((d8 b j).snd + 1))).fst.length : Int) ((l5 (o0 b ((d8 b j).snd + 1))).fst, (x8 b ((d8 b j).snd + 1)).snd) k).snd) := (by rw [ap7 (by omega)]; done); have e2 : ((t8 b ((l5 (o0 b ((d8 b j).snd + 1))).fst.length : Int) ((l5 (o0 b ((d8 b j).snd + 1))).fst, (x8 b ((d8 b j).snd + 1)).snd) (k + 1)).fst : List c7) = ((t8 b ((l5 (o0 b ((d8 b j).snd + 1))).fst.length : Int) ((l5 (o0 b ((d8 b j).snd + 1))).fst, (x8 b ((d8 b j).snd + 1)).snd) k).fst) := (by rw [ap7 (by omega)]; done); (first | rw [e1, e2] | simp only [e1, e2]) <;> rfl)
     ·
      have q3 := bne_iff_ne.1 h3; cases h4 : (((t8 b ((l5 (o0 b ((d8 b j).snd + 1))).fst.length : Int) ((l5 (o0 b ((d8 b j).snd + 1))).fst, (x8 b ((d8 b j).snd + 1)).snd) k).fst.getD k bW7).op != 1)
      · have q4 := bne_eq_false_iff_eq.1 h4; refine B5 G (H4 (fc h3 (fc h4 fz)) (us [(8, 14, 0), (1015, 1015, 0), (17, 19, 1), (1020, 1020, 1)])) [(54, bA false)] (iX k k ((t8 b ((l5 (o0 b ((d8 b j).snd + 1))).fst.length : Int) ((l5 (o0 b ((d8 b j).snd + 1))).fst, (x8 b ((d8 b j).snd + 1)).snd) k).fst.length) (iX k k ((t8 b ((l5 (o0 b ((d8 b j).snd + 1))).fst.length : Int) ((l5 (o0 b ((d8 b j).snd + 1))).fst, (x8 b ((d8 b j).snd + 1)).snd) k).fst.length) [])) (iK (by omega) (iK (by omega) bY1)) fun G => b0 (rF G false (by kernel_rfl) (wp_skip (i8 (b0 (B5 G d9 [(7, iA ((k : Int) + 1))] [wO ((k : Int) + 1)] (o1 (by omega)) fun G => b0 ?_))))); exact J5 G (k + 1) (by omega) (by omega) (rg 7) (by have e1 : ((t8 b ((l5 (o0 b ((d8 b j).snd + 1))).fst.length : Int) ((l5 (o0 b ((d8 b j).snd + 1))).fst, (x8 b ((d8 b j).snd + 1)).snd) (k + 1)).snd : Int) = ((t8 b ((l5 (o0 b ((d8 b j).snd + 1))).fst.length : Int) ((l5 (o0 b ((d8 b j).snd + 1))).fst, (x8 b ((d8 b j).snd + 1)).snd) k).snd) := (by rw [ap7 (by omega)]; done); have e2 : ((t8 b ((l5 (o0 b ((d8 b j).snd + 1))).fst.length : Int) ((l5 (o0 b ((d8 b j).snd + 1))).fst, (x8 b ((d8 b j).snd + 1)).snd) (k + 1)).fst : List c7) = ((t8 b ((l5 (o0 b ((d8 b j).snd + 1))).fst.length : Int) ((l5 (o0 b ((d8 b j).snd + 1))).fst, (x8 b ((d8 b j).snd + 1)).snd) k).fst) := (by rw [ap7 (by omega)]; done); (first | rw [e1, e2] | simp only [e1, e2]) <;> rfl)
      ·
       have q4 := bne_iff_ne.1 h4; refine J0 G (Q8 (E2 18 [0, 1] (o5 b ((t8 b ((l5 (o0 b ((d8 b j).snd + 1))).fst.length : Int) ((l5 (o0 b ((d8 b j).snd + 1))).fst, (x8 b ((d8 b j).snd + 1)).snd) k).snd) 4 (by omega) (by omega)) Q7) (fc h3 (fc h4 fz)) (us [(8, 14, 0), (1015, 1015, 0), (17, 19, 1), (1020, 1020, 1)])) (rg 7) [.box [.ref 1, iA ((Y8 b j k).snd + 1)], dY b, aA8, .box (pL 4), as3 b j, as2 b j, .row 60 (D.instrs (Y8 b j k).fst)] [(0, .ptr 0 0), (2, .ptr 2 0), (3, .ptr 3 0), (6, aL5 b j), (7, iA k), (54, bA (pk b (Y8 b j k).snd 4 == 0))] (iX k k ((t8 b ((l5 (o0 b ((d8 b j).snd + 1))).fst.length : Int) ((l5 (o0 b ((d8 b j).snd + 1))).fst, (x8 b ((d8 b j).snd + 1)).snd) k).fst.length) (iX k k ((t8 b ((l5 (o0 b ((d8 b j).snd + 1))).fst.length : Int) ((l5 (o0 b ((d8 b j).snd + 1))).fst, (x8 b ((d8 b j).snd + 1)).snd) k).fst.length) [])) (iK (by omega) (iK (by omega) bY1)) fun G => b0 (M4 (u := (pk b (t8 b ((l5 (o0 b ((d8 b j).snd + 1))).fst.length : Int) ((l5 (o0 b ((d8 b j).snd + 1))).fst, (x8 b ((d8 b j).snd + 1)).snd) k).snd (4 : Int))) (v := (0 : Int)) G (fun h5 q5 => ?_) fun h5 q5 => ?_)
       · refine wp_skip (i8 (b0 (B5 G d9 [(7, iA ((k : Int) + 1))] [wO ((k : Int) + 1)] (o1 (by omega)) fun G => b0 ?_))); exact J5 G (k + 1) (by omega) (by omega) (rg 7) (by have e1 : ((t8 b ((l5 (o0 b ((d8 b j).snd + 1))).fst.length : Int) ((l5 (o0 b ((d8 b j).snd + 1))).fst, (x8 b ((d8 b j).snd + 1)).snd) (k + 1)).snd : Int) = ((t8 b ((l5 (o0 b ((d8 b j).snd + 1))).fst.length : Int) ((l5 (o0 b ((d8 b j).snd + 1))).fst, (x8 b ((d8 b j).snd + 1)).snd) k).snd + 1) := (by rw [a93 (by omega) (by omega) (by omega)]; done); have e2 : ((t8 b ((l5 (o0 b ((d8 b j).snd + 1))).fst.length : Int) ((l5 (o0 b ((d8 b j).snd + 1))).fst, (x8 b ((d8 b j).snd + 1)).snd) (k + 1)).fst : List c7) = ((t8 b ((l5 (o0 b ((d8 b j).snd + 1))).fst.length : Int) ((l5 (o0 b ((d8 b j).snd + 1))).fst, (x8 b ((d8 b j).snd + 1)).snd) k).fst) := (by rw [a93 (by omega) (by omega) (by omega)]; done); (first | rw [e1, e2] | simp only [e1, e2]) <;> rfl)
       · refine F4 G (t0 10 [0, 1] (o5 b ((t8 b ((l5 (o0 b ((d8 b j).snd + 1))).fst.length : Int) ((l5 (o0 b ((d8 b j).snd + 1))).fst, (x8 b ((d8 b j).snd + 1)).snd) k).snd + 1) (((l5 (o0 b ((d8 b j).snd + 1))).fst.length : Int) - (k : Int) - 1) (by omega) (by omega))) [0, 1, 0, 0, 8, 0, 0, 0, 192, 448, 992, 2040, 4088, 8191, 16383] (rg 7) [.box [.ref 1, iA ((Y8 b j k).snd + 1 + 1)], dY b, aA8, .box (pL 4), as3 b j, as2 b j, .row 60 (D.instrs ((Y8 b j k).fst.set k (c7.mk 8 ((k : Int) + 1 + pk b ((Y8 b j k).snd + 1) (((l5 (o0 b ((d8 b j).snd + 1))).fst.length : Int) - (k : Int) - 1)) 0 0 0)))] [(0, .ptr 0 0), (2, .ptr 2 0), (3, .ptr 3 0), (6, aL5 b j), (7, iA k)] ((wO ((k : Int) + 1)) :: ((wO (((l5 (o0 b ((d8 b j).snd + 1))).fst.length : Int) - (k : Int))) :: ((wO (((l5 (o0 b ((d8 b j).snd + 1))).fst.length : Int) - (k : Int) - 1)) :: ((wO ((k : Int) + 1 + pk b ((t8 b ((l5 (o0 b ((d8 b j).snd + 1))).fst.length : Int) ((l5 (o0 b ((d8 b j).snd + 1))).fst, (x8 b ((d8 b j).snd + 1)).snd) k).snd + 1) (((l5 (o0 b ((d8 b j).snd + 1))).fst.length : Int) - (k : Int) - 1))) :: (iX k k ((t8 b ((l5 (o0 b ((d8 b j).snd + 1))).fst.length : Int) ((l5 (o0 b ((d8 b j).snd + 1))).fst, (x8 b ((d8 b j).snd + 1)).snd) k).fst.length) []))))) ⟨oW (by omega), ⟨oW (by omega), ⟨oW (by omega), ⟨(bk6 (by omega) (by omega) (by omega) (by omega)), (iK (by omega) bY1)⟩⟩⟩⟩ fun G => i8 (b0 (B5 G d9 [(7, iA ((k : Int) + 1))] [wO ((k : Int) + 1)] (o1 (by omega)) fun G => b0 ?_)); exact J5 G (k + 1) (by omega) (by omega) (rg 7) (by have e1 : ((t8 b ((l5 (o0 b ((d8 b j).snd + 1))).fst.length : Int) ((l5 (o0 b ((d8 b j).snd + 1))).fst, (x8 b ((d8 b j).snd + 1)).snd) (k + 1)).snd : Int) = ((t8 b ((l5 (o0 b ((d8 b j).snd + 1))).fst.length : Int) ((l5 (o0 b ((d8 b j).snd + 1))).fst, (x8 b ((d8 b j).snd + 1)).snd) k).snd + 1 + 1) := (by rw [a92 (by omega) (by omega) (by omega)]; done); have e2 : ((t8 b ((l5 (o0 b ((d8 b j).snd + 1))).fst.length : Int) ((l5 (o0 b ((d8 b j).snd + 1))).fst, (x8 b ((d8 b j).snd + 1)).snd) (k + 1)).fst : List c7) = ((t8 b ((l5 (o0 b ((d8 b j).snd + 1))).fst.length : Int) ((l5 (o0 b ((d8 b j).snd + 1))).fst, (x8 b ((d8 b j).snd + 1)).snd) k).fst.set k (c7.mk 8 ((k : Int) + 1 + pk b ((t8 b ((l5 (o0 b ((d8 b j).snd + 1))).fst.length : Int) ((l5 (o0 b ((d8 b j).snd + 1))).fst, (x8 b ((d8 b j).snd + 1)).snd) k).snd + 1) (((l5 (o0 b ((d8 b j).snd + 1))).fst.length : Int) - (k : Int) - 1)) 0 0 0)) := (by rw [a92 (by omega) (by omega) (by omega)]; done); (first | rw [e1, e2] | simp only [e1, e2]) <;> rfl)
theorem ba9 (b : List UInt8) (j : Int) (r0 : 0 ≤ j) (r1 : j ≤ 1000000) : j8.ok Tryz.prog ⟨23, [.ptr 0 0], [.box [.ref 1, iA j], dY b], [.box [.ref 1, iA (jpD b j).2], dY b, rI (jpD b j).1.vars, rI (jpD b j).1.arrays, rN (jpD b j).1.list], .agg [.ref 2, .ref 3, .ref 4]⟩ := by
 by_cases h : pk b (d8 b j).2 2 = 0
 ·cases h2 : okC (o0 b ((d8 b j).2 + 1)) with
  | true => rw [bV3 h h2]; exact bg3 b j h h2 r0 r1
  | false => rw [bV5 h h2]; exact bg5 b j h h2 r0 r1
 ·rw [bV4 h]; exact bg4 b j h r0 r1
theorem jp0 (b : List UInt8) : 0 ≤ (jpD b 0).2 ∧ (jpD b 0).2 ≤ 1000000 ∧ (jpD b 0).1.list.length ≤ 400 ∧ (jpD b 0).1.vars.length ≤ 1000 ∧ (jpD b 0).1.arrays.length ≤ 1000 := by
 obtain ⟨h1, h2, h3, h4, h5⟩ := bL2 b (j := 0) (by omega) (by omega)
 obtain ⟨g1, g2, g3, g4, g5⟩ := ai8 b (jpE b 0).1 (jpE b 0).2
 unfold jpD
 rw [g1, g2, g3]
 omega
def zB (bit : Int) (l : Int) : Bool := !(bo8 l bit == 0)
section
variable {bit : Int} {p : j7} {m : t2}
theorem bP6 (h : m.arrs.all P0 = true) {i : Nat} (hi : i < m.arrs.length) : (m.arrs.getD i []).length = 4 := by
 have := bX9.1 h (m.arrs.getD i []) (by rw [n9 hi]; exact bZ0 hi)
 unfold P0 at this
 simp only [bX0, decide_eq_true_eq] at this
 exact this.1
end
section
variable {ls xs : List Int} {rs : List (List Int)} {k : Nat} {b : Bool}
end
theorem zbt {bit l : Int} (h : ¬ bo8 l bit = 0) : zB bit l = true := by unfold zB; rw [beq_eq_false_iff_ne.2 h]; rfl
theorem zbf {bit l : Int} (h : bo8 l bit = 0) : zB bit l = false := by unfold zB; rw [h]; rfl
def y7 (b : List UInt8) (bit : Int) (ls : List Int) (j : Int) (xs : List Int) : Nat → List Int × Int
 | 0 => (xs, j)
 | k + 1 => if zB bit (ls.getD k 0) = true then ((y7 b bit ls j xs k).1.set k (nm b (y7 b bit ls j xs k).2 Z9), (y7 b bit ls j xs k).2 + 1) else y7 b bit ls j xs k
theorem aC2 (b : List UInt8) (bit : Int) (ls : List Int) (j : Int) (xs : List Int) : ∀ k : Nat, (y7 b bit ls j xs k).1.length = xs.length ∧ j ≤ (y7 b bit ls j xs k).2 ∧ (y7 b bit ls j xs k).2 ≤ j + k
 | 0 => ⟨rfl, Int.le_refl _, by simp [y7]⟩
 | k + 1 => by
  have h := aC2 b bit ls j xs k
  rw [y7]
  split
  ·refine ⟨by simp [h.1], ?_, ?_⟩ <;> dsimp only <;> omega
  ·omega
theorem by7 {b : List UInt8} {bit : Int} {ls : List Int} {j : Int} {xs : List Int} {k : Nat} (h : zB bit (ls.getD k 0) = true) : y7 b bit ls j xs (k + 1) = ((y7 b bit ls j xs k).1.set k (nm b (y7 b bit ls j xs k).2 Z9), (y7 b bit ls j xs k).2 + 1) := by rw [y7, if_pos h]
theorem by8 {b : List UInt8} {bit : Int} {ls : List Int} {j : Int} {xs : List Int} {k : Nat} (h : zB bit (ls.getD k 0) = false) : y7 b bit ls j xs (k + 1) = y7 b bit ls j xs k := by rw [y7, if_neg (by rw [h]; decide)]
theorem aG5 (b : List UInt8) (bit : Int) (ls : List Int) {j : Int} (xs : List Int) (hx : D8 xs = true) (r0 : 0 ≤ j) : ∀ k : Nat, j + k ≤ 1000000000 → D8 (y7 b bit ls j xs k).1 = true
 | 0, _ => hx
 | k + 1, r1 => by
  have ih := aG5 b bit ls xs hx r0 k (by omega)
  have hb := aC2 b bit ls j xs k
  rw [y7]
  split
  ·unfold D8 at ih ⊢
   rw [bX9] at ih ⊢
   intro x hx
   rcases List.mem_or_eq_of_mem_set hx with h | h
   ·exact ih x h
   ·subst h; exact va_in b (by omega) (by omega)
  ·exact ih
where
 va_in (b : List UInt8) {j : Int} (r0 : 0 ≤ j) (r1 : j ≤ 1000000000) : (decide (0 ≤ nm b j Z9) && decide (nm b j Z9 ≤ 255)) = true := by
  have h := af6 b r0 r1 (l := Z9) (List.cons_ne_nil _ _)
  have key : ∀ x ∈ Z9, (decide (0 ≤ x) && decide (x ≤ 255)) = true := by decide
  exact key _ h
theorem bA9 (b : List UInt8) {j : Int} (r0 : 0 ≤ j) (r1 : j ≤ 1000000000) : (decide (0 ≤ nm b j Z9) && decide (nm b j Z9 ≤ 255)) = true := aG5.va_in b r0 r1
theorem aU0 (b : List UInt8) {j : Int} (r0 : 0 ≤ j) (n : Nat) (r1 : j + n ≤ 1000000000) : D8 (W3 b j n) = true := by
 unfold D8
 rw [bX9]
 intro x hx
 unfold W3 at hx
 obtain ⟨i, hi, rfl⟩ := List.mem_map.1 hx
 have hi := b11.1 hi
 exact bA9 b (by omega) (by omega)
def scA (b : List UInt8) (bit : Int) (ls : List Int) (j : Int) (rs : List (List Int)) : Nat → List (List Int) × Int
 | 0 => (rs, j)
 | i + 1 => if zB bit (ls.getD i 0) = true then ((scA b bit ls j rs i).1.set i (W3 b (scA b bit ls j rs i).2 4), (scA b bit ls j rs i).2 + 4) else scA b bit ls j rs i
theorem at6 (b : List UInt8) (bit : Int) (ls : List Int) (j : Int) (rs : List (List Int)) : ∀ k : Nat, (scA b bit ls j rs k).1.length = rs.length ∧ j ≤ (scA b bit ls j rs k).2 ∧ (scA b bit ls j rs k).2 ≤ j + 4 * k
 | 0 => ⟨rfl, Int.le_refl _, by simp [scA]⟩
 | k + 1 => by
  have h := at6 b bit ls j rs k
  rw [scA]
  split
  ·refine ⟨by simp [h.1], ?_, ?_⟩ <;> dsimp only <;> omega
  ·omega
theorem aV1 (b : List UInt8) (bit : Int) (ls : List Int) (j : Int) (rs : List (List Int)) (i : Nat) : ∀ k : Nat, k ≤ i ∨ zB bit (ls.getD i 0) = false → (scA b bit ls j rs k).1.getD i [] = rs.getD i []
 | 0, _ => rfl
 | k + 1, h => by
  have ih := aV1 b bit ls j rs i k (h.elim (fun h => .inl (by omega)) .inr)
  rw [scA]
  split
  ·rename_i hk
   have : k ≠ i := fun e => by
    rcases h with h | h
    ·omega
    ·rw [e, h] at hk; cases hk
   dsimp only
   rw [bX2, List.getElem?_set_ne this, ← bX2]; exact ih
  ·exact ih
theorem a36 (b : List UInt8) (bit : Int) (ls : List Int) {j : Int} (rs : List (List Int)) (hx : rs.all P0 = true) (r0 : 0 ≤ j) : ∀ k : Nat, j + 4 * k ≤ 1000000000 → (scA b bit ls j rs k).1.all P0 = true
 | 0, _ => hx
 | k + 1, r1 => by
  have ih := a36 b bit ls rs hx r0 k (by omega)
  have hb := at6 b bit ls j rs k
  rw [scA]
  split
  ·rw [bX9] at ih ⊢
   intro x hx
   rcases List.mem_or_eq_of_mem_set hx with h | h
   ·exact ih x h
   ·subst h
    unfold P0
    rw [ae8, aU0 b (by omega) 4 (by omega)]; rfl
  ·exact ih
def H3 (b : List UInt8) (bit : Int) (ls : List Int) (j : Int) (rs : List (List Int)) (i k : Nat) : List (List Int) × Int :=
 if zB bit (ls.getD i 0) = true then ((scA b bit ls j rs i).1.set i (W3 b (scA b bit ls j rs i).2 k ++ (rs.getD i []).drop k), (scA b bit ls j rs i).2 + k) else scA b bit ls j rs i
section
variable {b : List UInt8} {bit : Int} {ls : List Int} {j : Int} {rs : List (List Int)} {i k : Nat}
theorem bJ0 : (H3 b bit ls j rs i k).1.length = rs.length ∧ j ≤ (H3 b bit ls j rs i k).2 ∧ (H3 b bit ls j rs i k).2 ≤ j + 4 * i + k := by
 have h := at6 b bit ls j rs i
 unfold H3
 split
 ·refine ⟨by simp [h.1], ?_, ?_⟩ <;> dsimp only <;> omega
 ·omega
theorem bz1 (hi : i < rs.length) : H3 b bit ls j rs i 0 = scA b bit ls j rs i := by
 have h := at6 b bit ls j rs i
 have h2 := aV1 b bit ls j rs i i (.inl (bX4 _))
 unfold H3
 split
 ·rw [bR0, b14, List.drop_zero, ← h2, n9 (by omega)]
  rw [List.set_getElem_self]; simp
 ·rfl
theorem bf5 (hi : i < rs.length) : (H3 b bit ls j rs i k).1.getD i [] = if zB bit (ls.getD i 0) = true then W3 b (scA b bit ls j rs i).2 k ++ (rs.getD i []).drop k else rs.getD i [] := by
 have h := at6 b bit ls j rs i
 unfold H3
 split
 ·dsimp only
  rw [bX2, List.getElem?_set_self (by omega)]; rfl
 ·exact aV1 b bit ls j rs i i (.inl (bX4 _))
theorem br6 (hi : i < rs.length) (hr : (rs.getD i []).length = 4) (hk : k ≤ 4) : ((H3 b bit ls j rs i k).1.getD i []).length = 4 := by
 rw [bf5 hi]; split
 ·simp only [bX1, ae8, List.length_drop]; omega
 ·exact hr
theorem by9 (hi : i < rs.length) (hr : (rs.getD i []).length = 4) (hk : k < 4) (h : zB bit (ls.getD i 0) = true) : H3 b bit ls j rs i (k + 1) = ((H3 b bit ls j rs i k).1.set i (((H3 b bit ls j rs i k).1.getD i []).set k (nm b (H3 b bit ls j rs i k).2 Z9)), (H3 b bit ls j rs i k).2 + 1) := by
 rw [bf5 hi, if_pos h]
 unfold H3
 rw [if_pos h, if_pos h]
 dsimp only
 rw [List.set_set, mk_set' (ae8 _ _ _) (by omega), aF4]
 exact Prod.ext rfl (by dsimp only; omega)
where
 mk_set' {l m : List Int} {j : Nat} {y : Int} (hl : l.length = j) (hj : j < m.length) : (l ++ m.drop j).set j y = (l ++ [y]) ++ m.drop (j + 1) := by
  rw [List.set_append_right _ _ (by omega), hl, Nat.sub_self, List.drop_eq_getElem_cons hj, List.set_cons_zero, b12]
  rfl
theorem bz0 (h : zB bit (ls.getD i 0) = false) : H3 b bit ls j rs i (k + 1) = H3 b bit ls j rs i k := by
 unfold H3; rw [if_neg (by rw [h]; decide), if_neg (by rw [h]; decide)]
theorem a35 (hi : i < rs.length) (hr : (rs.getD i []).length = 4) : H3 b bit ls j rs i 4 = scA b bit ls j rs (i + 1) := by
 unfold H3
 rw [scA]
 split
 ·rw [List.drop_eq_nil_of_le (by omega), List.append_nil]; rfl
 ·rfl
end
def scM (b : List UInt8) (bit : Int) (p : j7) (m : t2) (j : Int) : t2 × Int :=
 (⟨(y7 b bit p.vars j m.vals m.vals.length).1, (scA b bit p.arrays (y7 b bit p.vars j m.vals m.vals.length).2 m.arrs m.arrs.length).1⟩, (scA b bit p.arrays (y7 b bit p.vars j m.vals m.vals.length).2 m.arrs m.arrs.length).2)
theorem bu5 (v1 v2 : Value) (xs : List Int) (rs : List (List Int)) (w : World) (h1 : F2 w v1 xs.length 1 (ints xs)) (h2 : U5 w v2 rs) (hx : xs.length ≤ 1048576) (hr : rs.length ≤ 1048576) (hi : ∀ r ∈ rs, r.length ≤ 1048576) :
  Calls Tryz.prog 98 #[.agg #[v1, v2]] w fun e w' => ∃ u1 u2 mid, w.heap.size ≤ mid ∧ e = .returned (.agg #[u1, u2]) ∧ D6 w' w.heap.size mid 3 1 u1 xs.length (ints xs) ∧ I8 w' mid w'.heap.size u2 rs ∧ Below w.heap.size w w' := by
 obtain ⟨vs, hv, hrows⟩ := h2
 have hvl : vs.length = rs.length := by have := hv.1; omega
 have hone : ∀ u ∈ vs, u.oneCell' = true := by
  intro u hu
  obtain ⟨i, hi, rfl⟩ := List.mem_iff_getElem.1 hu
  obtain ⟨a', c', e⟩ := (hrows i _ _ (bW9 hi) (bW9 (by omega))).form
  rw [e]; rfl
 obtain ⟨n, hn⟩ : ∃ n, n = w.heap.size := ⟨_, rfl⟩
 obtain ⟨W, hW⟩ : ∃ W, W = (w.alloc (.cells #[v1, v2] 29)).alloc (.cells #[.slice none 0 0, .slice none 0 0] 29) := ⟨_, rfl⟩
 have B0 : Below n w W := by rw [hW, hn]; go_grown
 have sW : W.heap.size = n + 1 + 1 := by rw [hW, hn]; simp
 have L1 : y9 W n [v1, v2] := by rw [hW, hn]; exact (y9.new w [v1, v2] _).alloc _
 have L2 : y9 W (n + 1) [.slice none 0 0, .slice none 0 0] := by rw [hW, hn]; exact y9.new' (w.alloc _) [.slice none 0 0, .slice none 0 0] _ (by simp)
 have HR1 := show Hid (∀ W', Below n w W' → F2 W' v1 xs.length 1 (ints xs)) from fun W' g => h1.below (by rw [← hn]; exact g)
 have HR2 := show Hid (∀ W', Below n w W' → F2 W' v2 rs.length 1 vs) from fun W' g => hv.below (by rw [← hn]; exact g)
 have HR3 := show Hid (∀ W', Below n w W' → ∀ (i : Nat) (u : Value) (r : List Int), vs[i]? = some u → rs[i]? = some r → F2 W' u r.length 1 (ints r)) from fun W' g i u r a b => (hrows i u r a b).below (by rw [← hn]; exact g)
 have HA := show Hid (∀ W', Below (n + 1 + 1) W W' → Below n w W') from fun W' g => B0.trans (g.mono (by omega))
 have HT := show Hid (∀ W', Below (n + 1 + 1) W W' → W'.cell? ⟨n, 0, none⟩ = some v1 ∧ W'.cell? ⟨n, 1, none⟩ = some v2 ∧ W'.frozen? ⟨n, 0, none⟩ = false ∧ W'.frozen? ⟨n, 1, none⟩ = false) from by
  intro W' hb
  have L' := L1.below hb (by omega)
  exact ⟨by simpa using L'.cell 0, by simpa using L'.cell 1, L'.free 0, L'.free 1⟩
 have HQ := show Hid (∀ W' W'', Below (n + 1 + 1) W W' → Below W'.heap.size W' W'' → Below (n + 1 + 1) W W'') from fun W' W'' g k => g.trans (k.mono (by have := g.size; omega))
 have hb0 : Below (n + 1 + 1) W W.drew := (Below.refl _ W).drew
 obtain ⟨c0, c1, f0, f1⟩ := HT.out _ hb0
 have HN := show Hid (n = w.heap.size) from hn
 have HB0 := show Hid _ from B0
 have HL2 := show Hid _ from L2
 have HL1 := show Hid _ from L1
 have HO := show Hid _ from hone
 have HVL := show Hid _ from hvl
 clear h1 hv hrows B0 L1 L2 hone hvl
 go_enter Tryz.func98, Tryz.ntmps98
 go_wp2_with fail
 rw [← HN.out]
 rw [← hW]
 clear hn hW
 go_region_with (first
  | (go_at_call 71; refine (ax0 v1 xs _ (HR1.out _ (HA.out _ hb0)) (by omega)).mono ?_; rintro e w7 ⟨u1, rfl, o1, b7⟩; obtain ⟨x1, k1, rfl⟩ := o1.form; have q7 := HQ.out _ _ hb0 b7; obtain ⟨c2, c3, f2, f3⟩ := HT.out _ q7)
  | (go_at_call 108; refine (aZ0 v2 rs.length vs _ (HR2.out _ (HA.out _ q7)) HO.out (by omega)).mono ?_; rintro e w8 ⟨u2, rfl, o2, b8⟩; obtain ⟨x2, k2, rfl⟩ := o2.form; have q8 := HQ.out _ _ q7 b8; obtain ⟨c4, c5, f4, f5⟩ := HT.out _ q8))
 all_goals
  have s7 := b7.size
  have s8 := b8.size
  have sd : W.drew.heap.size = n + 1 + 1 := sW
  have LX := ((y9.below HL1.out q8 (by omega)).set (j := 0) (.slice x1 xs.length k1)).set (j := 1) (.slice x2 rs.length k2)
  have MX := ((y9.below HL2.out q8 (by omega)).other (p := ⟨n, 0, none⟩) (by show n + 1 ≠ n; omega) (.slice x1 xs.length k1)).other (p := ⟨n, 1, none⟩) (by show n + 1 ≠ n; omega) (.slice x2 rs.length k2)
  have OX := ((o1.keep b8 (bX4 _)).other (b := n) (by omega) 0 (.slice x1 xs.length k1)).other (b := n) (by omega) 1 (.slice x2 rs.length k2)
  have PX := (o2.other (b := n) (by omega) 0 (.slice x1 xs.length k1)).other (b := n) (by omega) 1 (.slice x2 rs.length k2)
  have BX := ((HB0.out.trans (q8.mono (by omega))).setCell (p := ⟨n, 0, none⟩) (bX4 _) (.slice x1 xs.length k1)).setCell (p := ⟨n, 1, none⟩) (bX4 _) (.slice x2 rs.length k2)
  have SX : ((w8.setCell ⟨n, 0, none⟩ (.slice x1 xs.length k1)).setCell ⟨n, 1, none⟩ (.slice x2 rs.length k2)).heap.size = w8.heap.size := by simp
  generalize (w8.setCell ⟨n, 0, none⟩ (.slice x1 xs.length k1)).setCell ⟨n, 1, none⟩ (.slice x2 rs.length k2) = wX at *
  clear c0 c1 c2 c3 c4 c5 f0 f1 f2 f3 f4 f5 hb0 q7 q8 HQ HT HA HL1 HL2 HB0 b7 b8 o1 o2
  have r0 := LX.cell 0
  have r1 := LX.cell 1
  simp at r0 r1
  obtain ⟨A, hA⟩ : ∃ A, A = w7.heap.size := ⟨_, rfl⟩
  obtain ⟨B, hB⟩ : ∃ B, B = w8.heap.size := ⟨_, rfl⟩
  rw [← hA] at OX PX s7 s8
  rw [← hB] at PX s8 SX
  rw [sd] at OX s7
  have HLX := show Hid _ from LX
  have HMX := show Hid _ from MX
  clear hA hB LX MX sd sW
  go_wp2_with fail
  clear r0 r1
  go_loopw [3, 4, 16] (fun _ _ i wr => ∃ (k : Nat) (cs : List Value), k ≤ rs.length ∧ i = .int .i64 k ∧ D6 wr A B 23 1 (.slice x2 rs.length k2) rs.length cs ∧ (∀ (i : Nat) (u : Value) (r : List Int), i < k → cs[i]? = some u → rs[i]? = some r → D6 wr B wr.heap.size 3 1 u r.length (ints r)) ∧
    (∀ (i j : Nat) (u u' : Value), i < j → j < k → cs[i]? = some u → cs[j]? = some u' → M6 u u') ∧ (∀ i, k ≤ i → cs[i]? = vs[i]?) ∧ D6 wr (n + 1 + 1) A 3 1 (.slice x1 xs.length k1) xs.length (ints xs) ∧ y9 wr n [.slice x1 xs.length k1, .slice x2 rs.length k2] ∧ y9 wr (n + 1) [.slice none 0 0, .slice none 0 0] ∧ Below n w wr ∧ B ≤ wr.heap.size) (fun _ _ i _ => rs.length - (intOf i).toNat)
  case atStart => exact ⟨0, vs, bZ4 _, rfl, PX, fun i u r h => by omega, fun i j u u' _ h => by omega, fun i _ => rfl, OX, HLX.out, HMX.out, BX, Nat.le_of_eq SX.symm⟩
  case round =>
   obtain ⟨k, cs, hk, rfl, ho, hrow, hdis, hrest, hvals, hL, hM, hb, hsz⟩ := hrel
   have HROW := show Hid _ from hrow
   have HDIS := show Hid _ from hdis
   have HREST := show Hid _ from hrest
   have HLL := show Hid _ from hL
   have HMM := show Hid _ from hM
   have hcl : cs.length = rs.length := by have := ho.1.1; omega
   clear hrow hdis hrest OX PX BX SX HLX HMX
   have r1 := hL.cell 1
   simp at r1
   by_cases hlt : k < rs.length
   ·obtain ⟨g, cap, hv, hg1, hg2, hg3, -, -, hfz, hcc⟩ := ho.open (by omega)
    cases hv
    have hkc : k < cs.length := by omega
    obtain ⟨u0, hu0⟩ : ∃ u0, u0 = cs[k] := ⟨_, rfl⟩
    have hcu : cs[k]? = some u0 := by rw [hu0]; exact bW9 hkc
    have hvu : vs[k]? = some u0 := by rw [← HREST.out k (bX4 _)]; exact hcu
    have hrk : rs[k]? = some rs[k] := bW9 hlt
    have hrow := HR3.out wr hb k u0 rs[k] hvu hrk
    obtain ⟨au, cu, rfl⟩ := hrow.form
    have hx := hcc k _ hcu
    have f0 := hfz k
    have hlen := hi rs[k] (bZ0 hlt)
    have HCU := show Hid _ from hcu
    have HHR := show Hid _ from hrow
    have HHO := show Hid _ from ho
    have HVA := show Hid _ from hvals
    have HB := show Hid _ from hb
    have HRK := show Hid _ from hrk
    have hm1 : rs.length ≤ 9223372036854775807 := by omega
    have HRR := show Hid (F2 wr.drew (.slice au rs[k].length cu) rs[k].length 1 (ints rs[k])) from HR3.out wr.drew hb.drew k _ rs[k] hvu hrk
    have h0g : n + 1 < g := by omega
    clear hu0 hcc hfz hcu hvu hrow ho hvals hb hL hM hrk
    go_wp2_with fail
    go_region_with (go_at_call 71; refine (ax0 _ rs[k] _ HRR.out (by omega)).mono ?_; rintro e w9 ⟨u9, rfl, o9, b9⟩; obtain ⟨x9, k9, rfl⟩ := o9.form; have q9 := a03 b9 (Below.refl _ wr).drew (bX4 _); have f9 := ((O9 q9).2 g k hg3).trans f0; have c9 := ((O9 q9).1 g k hg3).trans hx; have r9 := ((O9 q9).1 n 1 (by omega)).trans r1)
    all_goals
     have s9 := q9.size
     have sz9 : wr.drew.heap.size = wr.heap.size := rfl
     rw [sz9] at o9 b9
     clear f0 hx r1 f9 c9 r9 HRR
     go_wp2_with fail
     refine ⟨⟨k + 1, cs.set k (.slice x9 rs[k].length k9), by omega, by go_num, D6.setCell (D6.keep HHO.out q9 (by omega)) hkc _, ?_, ?_, ?_, (D6.other (D6.keep HVA.out q9 (by omega)) (b := g) (by omega) _ _), (y9.other (y9.below HLL.out q9 (by omega)) (p := ⟨g, k, none⟩) (by show n ≠ g; omega) _), (y9.other (y9.below HMM.out q9 (by omega)) (p := ⟨g, k, none⟩) (by show n + 1 ≠ g; omega) _), (HB.out.trans (q9.mono (by omega))).setCell (p := ⟨g, k, none⟩) (by show n ≤ g; omega) _, by simp; omega⟩, by simp [intOf]; omega⟩
     ·intro i u r hik hu hr'
      by_cases e : i = k
      ·subst e
       rw [List.getElem?_set_self hkc] at hu
       cases hu
       rw [HRK.out] at hr'
       cases hr'
       exact (o9.other (b := g) (by omega) _ _).wide (by omega) (by simp)
      ·rw [List.getElem?_set_ne (by omega)] at hu
       exact (((HROW.out i u r (by omega) hu hr').keep q9 (bX4 _)).other (b := g) (by omega) _ _).wide (bX4 _) (by simpa using s9)
     ·intro i j u u' hij hj hu hu'
      rw [List.getElem?_set_ne (by omega)] at hu
      by_cases e : j = k
      ·subst e
       rw [List.getElem?_set_self hkc] at hu'
       cases hu'
       exact ac9 (HROW.out i u _ (by omega) hu (bW9 (by omega))) o9 (by omega)
      ·rw [List.getElem?_set_ne (by omega)] at hu'
       exact HDIS.out i j u u' hij (by omega) hu hu'
     ·intro i hik
      rw [List.getElem?_set_ne (by omega)]
      exact HREST.out i (by omega)
   ·have hke : k = rs.length := by omega
    subst hke
    have r0 := hL.cell 0
    have m0 := hM.cell 0
    have m1 := hM.cell 1
    have fm0 := hM.free 0
    have fm1 := hM.free 1
    simp at r0 m0 m1
    have hF := ((hM.set (j := 0) (.slice x1 xs.length k1)).set (j := 1) (.slice x2 rs.length k2))
    have BF := (hb.setCell (p := ⟨n + 1, 0, none⟩) (by show n ≤ n + 1; omega) (.slice x1 xs.length k1)).setCell (p := ⟨n + 1, 1, none⟩) (by show n ≤ n + 1; omega) (.slice x2 rs.length k2)
    have OF := (hvals.other (b := n + 1) (by omega) 0 (.slice x1 xs.length k1)).other (b := n + 1) (by omega) 1 (.slice x2 rs.length k2)
    have PF := (ho.other (b := n + 1) (by omega) 0 (.slice x1 xs.length k1)).other (b := n + 1) (by omega) 1 (.slice x2 rs.length k2)
    have HRF := show Hid (∀ (i : Nat) (u : Value) (r : List Int), cs[i]? = some u → rs[i]? = some r → D6 ((wr.setCell ⟨n + 1, 0, none⟩ (.slice x1 xs.length k1)).setCell ⟨n + 1, 1, none⟩ (.slice x2 rs.length k2)) B wr.heap.size 3 1 u r.length (ints r)) from fun i u r hu hr' =>
     ((HROW.out i u r (by have := (bX7.1 hr').1; omega) hu hr').other (b := n + 1) (by omega) 0 _).other (b := n + 1) (by omega) 1 _
    have zF : ((wr.setCell ⟨n + 1, 0, none⟩ (.slice x1 xs.length k1)).setCell ⟨n + 1, 1, none⟩ (.slice x2 rs.length k2)).heap.size = wr.heap.size := by simp
    have y0 := hF.cell 0
    have y1 := hF.cell 1
    simp at y0 y1
    have HBF := show Hid _ from BF
    have HOF := show Hid _ from OF
    have HPF := show Hid _ from PF
    have HZF := show Hid _ from zF
    clear hF BF OF PF zF ho hvals hL hM hb
    go_wp2_with fail
    refine bodyPost_ret (v := .agg #[.slice x1 xs.length k1, .slice x2 rs.length k2]) (by simp [results, Tryz.results98, go_sem, y0, y1]) rfl ⟨_, _, A, by rw [← HN.out]; omega, rfl, ?_, ⟨cs, ?_, ?_, ?_, ?_⟩, ?_⟩
    ·rw [← HN.out]; exact D6.wide HOF.out (by omega) (bX4 _)
    ·exact D6.wide HPF.out (bX4 _) (by rw [HZF.out]; omega)
    ·intro i u r hu hr'
     exact (HRF.out i u r hu hr').wide (by omega) (by rw [HZF.out]; exact bX4 _)
    ·intro i j u u' hij hu hu'
     exact HDIS.out i j u u' hij (by have := (bX7.1 hu').1; omega) hu hu'
    ·intro i u hu
     have hil : i < rs.length := by have := (bX7.1 hu).1; omega
     exact ac9 (HRF.out i u _ hu (bW9 hil)) HPF.out (by omega)
    ·rw [← HN.out]; exact HBF.out
theorem bs6 {w : World} {φ : Nat → Prop} {v : Value} {m : List (List Int)} (h : RD w φ (.rows m) v) : U5 w v m := by
 obtain ⟨vs, h1, h2⟩ := h
 refine ⟨vs, t4.row h1, fun i u r hu hr => ?_⟩
 have hi : i < m.length := (bX7.1 hr).1
 obtain ⟨u', a, b⟩ := h2 i hi
 rw [hu] at a; cases a
 rw [bW9 hi] at hr; cases hr
 exact t4.row b
theorem bj5 {w : World} {lo hi : Nat} {v : Value} {m : List (List Int)} (h : I8 w lo hi v m) : A2 w (fun b => lo ≤ b ∧ b < hi) (.rows m) v := by
 obtain ⟨vs, h1, h2, h3, h4⟩ := h
 have hl : vs.length = m.length := by have := h1.1.1; omega
 refine ⟨_, vs, fun b => ∃ (i : Nat) (u : Value), vs[i]? = some u ∧ u.ownBlock = some b, rfl, z4 h1.1 (bZ4 _), fun g hg => ⟨⟨(h1.lt g hg).1, (h1.lt g hg).2.1⟩, ?_⟩, ?_, ay5.tree ⟨hl, fun i hi' => ?_, fun i j u u' hij hu hu' g hg => ?_⟩⟩
 ·rintro ⟨i, u, hu, hb⟩
  exact h4 i u hu g hb hg
 ·rintro b ⟨i, u, hu, hb⟩
  have hi' : i < m.length := by have := (bX7.1 hu).1; omega
  have := (h2 i u _ hu (bW9 hi')).lt b hb
  exact ⟨this.1, this.2.1⟩
 ·have hv : i < vs.length := by omega
  exact ⟨vs[i], bW9 hv, fun _ => z4 (h2 i _ _ (bW9 hv) (bW9 hi')).1 (bZ4 _), fun g hg => ⟨i, _, bW9 hv, hg⟩⟩
 ·exact h3 i j u u' hij hu hu' g hg
theorem bH7 (m : t2) (hx : m.vals.length ≤ 1048576) (hr : m.arrs.length ≤ 1048576) (hi : ∀ r ∈ m.arrs, r.length ≤ 1048576) : j8.ok Tryz.prog ⟨98, [mA 0], mS m, mS m ++ mO m, mT 2⟩ := by
 intro ι φ ψ w0 w F ρ M
 have r1 := M.datAt (id := 0) (d := .ints m.vals) rfl
 have r2 := M.datAt (id := 1) (d := .rows m.arrs) rfl
 refine (bu5 (ρ 0) (ρ 1) m.vals m.arrs w (t4.row r1) (bs6 r2) hx hr hi).mono ?_
 rintro e w' ⟨u1, u2, mid, hmid, rfl, o1, o2, hbl⟩
 obtain ⟨z, hz1, hz2⟩ := ag1 u2 (fun b => mid ≤ b ∧ b < w'.heap.size) w'.heap.size fun b h => h.2
 refine ⟨fun i => if i = 2 then u1 else if i = 3 then z else ρ i, fun i hi => ?_, by simp [AV.val, AV.vals, hz1], ?_⟩
 ·have : i < 2 := hi
  simp only [if_neg (show ¬ i = 2 by omega), if_neg (show ¬ i = 3 by omega)]
 ·refine M.grow hbl (fun k => k = .inr 2 ∨ k = .inr 3) (fun k hk => ?_) ?_ ?_ ?_
  ·cases k with
   | inl i => rfl
   | inr j =>
    match j, hk with
    | 0, _ => rfl
    | 1, _ => rfl
    | 2, h => exact absurd (.inl rfl) h
    | 3, h => exact absurd (.inr rfl) h
    | j + 4, _ => rfl
  ·rintro k (rfl | rfl) b hb
   ·exact (o1.lt b hb).1
   ·exact bZ6 hmid ((hz2 b).1 hb).1
  ·rintro j k b hjk (rfl | rfl) (rfl | rfl) hj hk
   ·exact hjk rfl
   ·have h1 := (o1.lt b hj).2.1
    have h2 := ((hz2 b).1 hk).1
    omega
   ·have h1 := (o1.lt b hk).2.1
    have h2 := ((hz2 b).1 hj).1
    omega
   ·exact hjk rfl
  ·rintro k (rfl | rfl)
   ·exact ak7 (z4 o1.1 (bZ4 _))
   ·have e : x5 z = fun b => mid ≤ b ∧ b < w'.heap.size := funext fun b => propext (hz2 b)
    show (Rs.own (x5 z) fun w => A2 w (x5 z) (.rows m.arrs) (B8 z)).holds _ _
    rw [hz1, e]
    exact ⟨fun _ _ h hs => h.same hs, bj5 o2, fun b hb => hb.2⟩
abbrev ag7 : It := .box [.v (.slice none 0 0), .v (.slice none 0 0)]
abbrev aA5 (b : List UInt8) (j : Int) (bit : Int) (p : j7) (m : t2) : It := .row 3 (D.ints (y7 b bit p.vars j m.vals m.vals.length).fst)
abbrev P7 (bit : Int) (r0 : List (Nat × AV)) : List (Nat × AV) := (0, .ptr 0 0) :: (3, iA bit) :: (5, .ptr 7 0) :: (8, .ptr 8 0) :: (9, .ptr 11 0) :: r0
abbrev Z6 (b : List UInt8) (p : j7) (m : t2) (r0 : List It) : List It := dY b :: dI p.vars :: dI p.arrays :: dT p.body :: dI m.vals :: dR m.arrs :: .box (pL 2) :: r0
theorem aN5 (b : List UInt8) (j bit : Int) (p : j7) (m : t2) (hv : m.vals.length = p.vars.length) (ha : m.arrs.length = p.arrays.length) (hr : m.arrs.all P0 = true) (r0 : 0 ≤ j) (r1 : j ≤ 100000000) (r2 : m.vals.length ≤ 1000000 ∧ m.arrs.length ≤ 1000000) (hi : ∀ l ∈ m.arrs, l.length ≤ 1048576) : j8.ok Tryz.prog ⟨26, [.ptr 0 0, pA 2, mA 5, iA bit], [.box [.ref 1, iA j], dY b] ++ pS p ++ mS m, [.box [.ref 1, iA (scM b bit p m j).2], dY b] ++ pS p ++ mS m ++ mO (scM b bit p m j).1, mT 7⟩ := by
  refine I1 85 Tryz.func26 [.box [.ref 1, iA j], dY b, dI p.vars, dI p.arrays, dT p.body, dI m.vals, dR m.arrs] [(0, .ptr 0 0), (1, pA 2), (2, .agg [.ref 5, .ref 6]), (3, iA bit)] fun G => ?_
  have hvb := fun k : Nat => aC2 b bit p.vars j m.vals k
  have hvl := aC2 b bit p.vars j m.vals m.vals.length; refine wp_seq (i9 G d9 [0, 1, 2, 3, 4, 5, 6, 7, 15, 23] (.box [.ref 1, iA j] :: (Z6 b p m [.box [.ref 5, .ref 6], ag7])) [(0, .ptr 0 0), (3, iA bit), (5, .ptr 7 0), (6, .ptr 8 0), (8, .ptr 9 0)] fun G => b0 (wp_seq (i9 G (t0 1 [5, 6] (bn4 m.vals m.arrs (by omega) (by omega) (by assumption))) [0, 1, 2, 3, 4, 5, 6, 7, 9, 18, 19, 26] (.box [.ref 1, iA j] :: (Z6 b p m [ag7, .row 3 (D.ints m.vals), .tree (D.rows m.arrs), .box [.ref 9, .tref 10]])) (P7 bit []) fun G => b0 (wp_seq (wp_seq (F5 G d9 (P7 bit [(10, iA 0)]) fun G => b0 (wp_block ?_))))))); refine v5 (κ := Nat) (fun i => i ≤ m.vals.length) (fun i => m.vals.length - i) (fun i => [.box [.ref 1, iA (y7 b bit p.vars j m.vals i).2], dY b, dI p.vars, dI p.arrays, dT p.body, dI m.vals, dR m.arrs, .box (pL 2), .box [.v (.slice none 0 0), .v (.slice none 0 0)], .row 3 (.ints (y7 b bit p.vars j m.vals i).1), .tree (D.rows m.arrs), .box [.ref 9, .tref 10]]) (fun i => [(0, .ptr 0 0), (3, iA bit), (5, .ptr 7 0), (8, .ptr 8 0), (9, .ptr 11 0), (10, iA i)]) 0 (by omega) (s4.at G _ _) ?_; clear G; intro i ρ a w hp G; replace G := s4.at G (.box [.ref 1, iA (y7 b bit p.vars j m.vals i).snd] :: (Z6 b p m [ag7, .row 3 (D.ints (y7 b bit p.vars j m.vals i).fst), .tree (D.rows m.arrs), .box [.ref 9, .tref 10]])) (P7 bit [(10, iA i)]); have hs1 := aC2 b bit p.vars j m.vals i; refine wp_seq (wp_seq ?_); cases h0 : (decide ((i : Int) < ((y7 b bit p.vars j m.vals i).fst.length : Int)))
  ·
   have q0 := W0 h0
   obtain rfl : i = m.vals.length := by omega
   refine l0 G (H4 (fc (a := decide ((m.vals.length : Int) < ((y7 b bit p.vars j m.vals m.vals.length).fst.length : Int))) (b := false) (by assumption) fz) (us [(6, 10, 0), (1011, 1011, 0)])) [(10, iA (m.vals.length : Int)), (26, bA false)] fun G => b0 (rF G false (by kernel_rfl) (wp_exit (t6 (t6 (t3 (b0 (wp_seq (wp_seq (F5 G d9 (P7 bit [(11, iA 0)]) fun G => b0 (wp_block ?_)))))))))); refine v5 (κ := Nat) (fun i2 => i2 ≤ m.arrs.length) (fun i2 => m.arrs.length - i2) (fun i2 => [.box [.ref 1, iA (scA b bit p.arrays (y7 b bit p.vars j m.vals m.vals.length).2 m.arrs i2).2], dY b, dI p.vars, dI p.arrays, dT p.body, dI m.vals, dR m.arrs, .box (pL 2), .box [.v (.slice none 0 0), .v (.slice none 0 0)], .row 3 (D.ints (y7 b bit p.vars j m.vals m.vals.length).fst), .tree (.rows (scA b bit p.arrays (y7 b bit p.vars j m.vals m.vals.length).2 m.arrs i2).1), .box [.ref 9, .tref 10]]) (fun i2 => [(0, .ptr 0 0), (3, iA bit), (5, .ptr 7 0), (8, .ptr 8 0), (9, .ptr 11 0), (11, iA i2)]) 0 (by omega) (s4.at G _ _) ?_; clear G; intro i2 ρ a w hp G; replace G := s4.at G (.box [.ref 1, iA (scA b bit p.arrays (y7 b bit p.vars j m.vals m.vals.length).snd m.arrs i2).snd] :: (Z6 b p m [ag7, aA5 b j bit p m, .tree (D.rows (scA b bit p.arrays (y7 b bit p.vars j m.vals m.vals.length).snd m.arrs i2).fst), .box [.ref 9, .tref 10]])) (P7 bit [(11, iA i2)]); have hs2 := at6 b bit p.arrays (y7 b bit p.vars j m.vals m.vals.length).2 m.arrs i2; refine wp_seq (wp_seq ?_); cases h3 : (decide ((i2 : Int) < ((scA b bit p.arrays (y7 b bit p.vars j m.vals m.vals.length).snd m.arrs i2).fst.length : Int)))
   ·
    have q3 := W0 h3
    obtain rfl : i2 = m.arrs.length := by omega
    refine l0 G (H4 (fc (a := decide ((m.arrs.length : Int) < ((scA b bit p.arrays (y7 b bit p.vars j m.vals m.vals.length).snd m.arrs m.arrs.length).fst.length : Int))) (b := false) (by assumption) fz) (us [(6, 10, 0), (1011, 1011, 0)])) [(11, iA (m.arrs.length : Int)), (54, bA false)] fun G => b0 (rF G false (by kernel_rfl) (wp_exit (t6 (t6 (t3 (b0 (wp_seq (i9 G d9 [0, 1, 2, 3, 4, 5, 6, 8, 9, 10] [.box [.ref 1, iA (scA b bit p.arrays (y7 b bit p.vars j m.vals m.vals.length).snd m.arrs m.arrs.length).snd], dY b, dI p.vars, dI p.arrays, dT p.body, dI m.vals, dR m.arrs, .box [.ref 8, .tref 9], aA5 b j bit p m, .tree (D.rows (scA b bit p.arrays (y7 b bit p.vars j m.vals m.vals.length).snd m.arrs m.arrs.length).fst)] [(8, .ptr 7 0)] fun G => b0 (wp_ret ?_))))))))); exact I9 G [0, 1, 2, 3, 4, 5, 6, 8, 9]
   ·
    have q3 := V9 h3; refine F5 G (H4 (fc h3 fz) (us [(6, 10, 0), (1011, 1011, 0)])) (P7 bit [(11, iA i2), (54, bA (decide ((i2 : Int) < p.arrays.length)))]) fun G => b0 ?_; cases h4 : (decide ((i2 : Int) < p.arrays.length))
    · have q4 := W0 h4; exact False.elim (by omega)
    ·
     have q4 := V9 h4; refine rT G _ h4 (wp_skip (b0 (wp_seq (wp_block (wp_seq (F5 G d9 (P7 bit [(11, iA i2), (12, iA 0)]) fun G => b0 (wp_block ?_))))))); replace G := G.as (.box [.ref 1, iA (H3 b bit p.arrays (y7 b bit p.vars j m.vals m.vals.length).snd m.arrs i2 0).snd] :: (Z6 b p m [.box [.v (.slice none 0 0), .v (.slice none 0 0)], .row 3 (D.ints (y7 b bit p.vars j m.vals m.vals.length).fst), .tree (D.rows (H3 b bit p.arrays (y7 b bit p.vars j m.vals m.vals.length).snd m.arrs i2 0).fst), .box [.ref 9, .tref 10]])) (P7 bit [(11, iA i2), (12, iA 0)]) (by have e1 : ((H3 b bit p.arrays (y7 b bit p.vars j m.vals m.vals.length).snd m.arrs i2 0).snd : Int) = ((scA b bit p.arrays (y7 b bit p.vars j m.vals m.vals.length).snd m.arrs i2).snd) := (by rw [bz1 (by omega)]; done); have e2 : ((H3 b bit p.arrays (y7 b bit p.vars j m.vals m.vals.length).snd m.arrs i2 0).fst : List (List Int)) = ((scA b bit p.arrays (y7 b bit p.vars j m.vals m.vals.length).snd m.arrs i2).fst) := (by rw [bz1 (by omega)]; done); (first | rw [e1, e2] | simp only [e1, e2]) <;> rfl) (by kernel_rfl); refine v5 (κ := Nat) (fun k2 => k2 ≤ 4) (fun k2 => 4 - k2) (fun k2 => [.box [.ref 1, iA (H3 b bit p.arrays (y7 b bit p.vars j m.vals m.vals.length).2 m.arrs i2 k2).2], dY b, dI p.vars, dI p.arrays, dT p.body, dI m.vals, dR m.arrs, .box (pL 2), .box [.v (.slice none 0 0), .v (.slice none 0 0)], .row 3 (D.ints (y7 b bit p.vars j m.vals m.vals.length).fst), .tree (.rows (H3 b bit p.arrays (y7 b bit p.vars j m.vals m.vals.length).2 m.arrs i2 k2).1), .box [.ref 9, .tref 10]]) (fun k2 => [(0, .ptr 0 0), (3, iA bit), (5, .ptr 7 0), (8, .ptr 8 0), (9, .ptr 11 0), (11, iA i2), (12, iA k2)]) 0 (by omega) (s4.at G _ _) ?_; clear G; intro k2 ρ a w hp G; replace G := s4.at G (.box [.ref 1, iA (H3 b bit p.arrays (y7 b bit p.vars j m.vals m.vals.length).snd m.arrs i2 k2).snd] :: (Z6 b p m [ag7, aA5 b j bit p m, .tree (D.rows (H3 b bit p.arrays (y7 b bit p.vars j m.vals m.vals.length).snd m.arrs i2 k2).fst), .box [.ref 9, .tref 10]])) (P7 bit [(11, iA i2), (12, iA k2)]); have ha4 := bP6 (m := m) hr (i := i2) (by omega); have hs3 := bJ0 (b := b) (bit := bit) (ls := p.arrays) (j := (y7 b bit p.vars j m.vals m.vals.length).2) (rs := m.arrs) (i := i2) (k := k2); have hs4 := br6 (b := b) (bit := bit) (ls := p.arrays) (j := (y7 b bit p.vars j m.vals m.vals.length).2) (rs := m.arrs) (i := i2) (k := k2) (by omega) ha4 (by omega); refine wp_seq (wp_seq (J0 G d9 [0, 1, 2, 3, 4, 5, 6, 7, 8, 9, 10, 11, 52] [.box [.ref 1, iA (H3 b bit p.arrays (y7 b bit p.vars j m.vals m.vals.length).snd m.arrs i2 k2).snd], dY b, dI p.vars, dI p.arrays, dT p.body, dI m.vals, dR m.arrs, .box (pL 2), .box [.v (.slice none 0 0), .v (.slice none 0 0)], .row 3 (D.ints (y7 b bit p.vars j m.vals m.vals.length).fst), .hole 12 i2 (H3 b bit p.arrays (y7 b bit p.vars j m.vals m.vals.length).snd m.arrs i2 k2).fst, .box [.ref 9, .tref 10], .row 3 (D.ints ((H3 b bit p.arrays (y7 b bit p.vars j m.vals m.vals.length).snd m.arrs i2 k2).fst.getD i2 []))] (P7 bit [(11, iA i2), (12, iA k2), (64, bA (decide ((k2 : Int) < (((H3 b bit p.arrays (y7 b bit p.vars j m.vals m.vals.length).snd m.arrs i2 k2).fst.getD i2 []).length : Int))))]) (iX i2 i2 ((H3 b bit p.arrays (y7 b bit p.vars j m.vals m.vals.length).snd m.arrs i2 k2).fst.length) []) (iK (by omega) bY1) fun G => ?_))
     replace G := G.heal0 10 12 i2 ((H3 b bit p.arrays (y7 b bit p.vars j m.vals m.vals.length).snd m.arrs i2 k2).fst) [.box [.ref 1, iA (H3 b bit p.arrays (y7 b bit p.vars j m.vals m.vals.length).snd m.arrs i2 k2).snd], dY b, dI p.vars, dI p.arrays, dT p.body, dI m.vals, dR m.arrs, .box (pL 2), .box [.v (.slice none 0 0), .v (.slice none 0 0)], .row 3 (D.ints (y7 b bit p.vars j m.vals m.vals.length).fst), .tree (D.rows (H3 b bit p.arrays (y7 b bit p.vars j m.vals m.vals.length).snd m.arrs i2 k2).fst), .box [.ref 9, .tref 10], .dead]; refine b0 ?_; cases h5 : (decide ((k2 : Int) < (((H3 b bit p.arrays (y7 b bit p.vars j m.vals m.vals.length).snd m.arrs i2 k2).fst.getD i2 []).length : Int)))
     ·
      have q5 := W0 h5
      obtain rfl : k2 = 4 := by omega
      refine rF G (decide ((↑(4 : Nat) : Int) < (((H3 b bit p.arrays (y7 b bit p.vars j m.vals m.vals.length).snd m.arrs i2 (4 : Nat)).fst.getD i2 []).length : Int))) (by assumption) (wp_exit (t6 (t6 (t3 (i8 (b0 (J0 G d9 (rg 12) (.box [.ref 1, iA (H3 b bit p.arrays (y7 b bit p.vars j m.vals m.vals.length).snd m.arrs i2 4).snd] :: (Z6 b p m [ag7, aA5 b j bit p m, .tree (D.rows (H3 b bit p.arrays (y7 b bit p.vars j m.vals m.vals.length).snd m.arrs i2 4).fst), .box [.ref 9, .tref 10]])) (P7 bit [(11, iA ((i2 : Int) + 1))]) [wO ((i2 : Int) + 1)] (o1 (by omega)) fun G => b0 ?_))))))); exact J5 G (i2 + 1) (by omega) (by omega) (rg 12) (by have e1 : ((scA b bit p.arrays (y7 b bit p.vars j m.vals m.vals.length).snd m.arrs (i2 + 1)).snd : Int) = ((H3 b bit p.arrays (y7 b bit p.vars j m.vals m.vals.length).snd m.arrs i2 4).snd) := (by rw [← a35 (by omega) ha4]; done); have e2 : ((scA b bit p.arrays (y7 b bit p.vars j m.vals m.vals.length).snd m.arrs (i2 + 1)).fst : List (List Int)) = ((H3 b bit p.arrays (y7 b bit p.vars j m.vals m.vals.length).snd m.arrs i2 4).fst) := (by rw [← a35 (by omega) ha4]; done); (first | rw [e1, e2] | simp only [e1, e2]) <;> rfl)
     ·
      have q5 := V9 h5; refine rT G _ h5 (wp_skip (b0 (wp_seq (wp_block (wp_seq (J0 G d9 (rg 12) (.box [.ref 1, iA (H3 b bit p.arrays (y7 b bit p.vars j m.vals m.vals.length).snd m.arrs i2 k2).snd] :: (Z6 b p m [ag7, aA5 b j bit p m, .tree (D.rows (H3 b bit p.arrays (y7 b bit p.vars j m.vals m.vals.length).snd m.arrs i2 k2).fst), .box [.ref 9, .tref 10]])) (P7 bit [(11, iA i2), (12, iA k2), (74, bA (bo8 (p.arrays.getD i2 0) bit != 0))]) (iX i2 i2 p.arrays.length []) (iK (by omega) bY1) fun G => b0 (rcN G (fun h6 q6 => ?_) fun h6 q6 => ?_)))))))
      · refine wp_skip (i8 (b0 (B5 G d9 [(12, iA ((k2 : Int) + 1))] [wO ((k2 : Int) + 1)] (o1 (by omega)) fun G => b0 ?_))); exact J5 G (k2 + 1) (by omega) (by omega) (rg 12) (by have e1 : ((H3 b bit p.arrays (y7 b bit p.vars j m.vals m.vals.length).snd m.arrs i2 (k2 + 1)).snd : Int) = ((H3 b bit p.arrays (y7 b bit p.vars j m.vals m.vals.length).snd m.arrs i2 k2).snd) := (by rw [bz0 (zbf (by omega))]; done); have e2 : ((H3 b bit p.arrays (y7 b bit p.vars j m.vals m.vals.length).snd m.arrs i2 (k2 + 1)).fst : List (List Int)) = ((H3 b bit p.arrays (y7 b bit p.vars j m.vals m.vals.length).snd m.arrs i2 k2).fst) := (by rw [bz0 (zbf (by omega))]; done); (first | rw [e1, e2] | simp only [e1, e2]) <;> rfl)
      · refine F4 G (t0 7 [0, 1] (K4 b ((H3 b bit p.arrays (y7 b bit p.vars j m.vals m.vals.length).snd m.arrs i2 k2).snd) (by omega) (by omega))) [0, 1, 0, 7, 15, 0, 0, 64, 255, 511] [0, 1, 2, 3, 4, 5, 6, 7, 8, 9, 10, 11, 44] [.box [.ref 1, iA ((H3 b bit p.arrays (y7 b bit p.vars j m.vals m.vals.length).snd m.arrs i2 k2).snd + 1)], dY b, dI p.vars, dI p.arrays, dT p.body, dI m.vals, dR m.arrs, .box (pL 2), .box [.v (.slice none 0 0), .v (.slice none 0 0)], .row 3 (D.ints (y7 b bit p.vars j m.vals m.vals.length).fst), .hole 12 i2 (H3 b bit p.arrays (y7 b bit p.vars j m.vals m.vals.length).snd m.arrs i2 k2).fst, .box [.ref 9, .tref 10], .row 3 (D.ints (((H3 b bit p.arrays (y7 b bit p.vars j m.vals m.vals.length).snd m.arrs i2 k2).fst.getD i2 []).set k2 (nm b (H3 b bit p.arrays (y7 b bit p.vars j m.vals m.vals.length).snd m.arrs i2 k2).snd Z9)))] (P7 bit [(11, iA i2), (12, iA k2)]) (iX i2 i2 ((H3 b bit p.arrays (y7 b bit p.vars j m.vals m.vals.length).snd m.arrs i2 k2).fst.length) (iX k2 k2 (((H3 b bit p.arrays (y7 b bit p.vars j m.vals m.vals.length).snd m.arrs i2 k2).fst.getD i2 []).length) [])) (iK (by omega) (iK (by omega) bY1)) fun G => ?_; replace G := G.heal 10 12 i2 ((H3 b bit p.arrays (y7 b bit p.vars j m.vals m.vals.length).snd m.arrs i2 k2).fst) (((H3 b bit p.arrays (y7 b bit p.vars j m.vals m.vals.length).snd m.arrs i2 k2).fst.getD i2 []).set k2 (nm b (H3 b bit p.arrays (y7 b bit p.vars j m.vals m.vals.length).snd m.arrs i2 k2).snd Z9)) (.box [.ref 1, iA ((H3 b bit p.arrays (y7 b bit p.vars j m.vals m.vals.length).snd m.arrs i2 k2).snd + 1)] :: (Z6 b p m [.box [.v (.slice none 0 0), .v (.slice none 0 0)], .row 3 (D.ints (y7 b bit p.vars j m.vals m.vals.length).fst), .tree (D.rows ((H3 b bit p.arrays (y7 b bit p.vars j m.vals m.vals.length).snd m.arrs i2 k2).fst.set i2 (((H3 b bit p.arrays (y7 b bit p.vars j m.vals m.vals.length).snd m.arrs i2 k2).fst.getD i2 []).set k2 (nm b (H3 b bit p.arrays (y7 b bit p.vars j m.vals m.vals.length).snd m.arrs i2 k2).snd Z9)))), .box [.ref 9, .tref 10], .dead])); refine i8 (b0 (J0 G d9 (rg 12) (.box [.ref 1, iA ((H3 b bit p.arrays (y7 b bit p.vars j m.vals m.vals.length).snd m.arrs i2 k2).snd + 1)] :: (Z6 b p m [ag7, aA5 b j bit p m, .tree (D.rows ((H3 b bit p.arrays (y7 b bit p.vars j m.vals m.vals.length).snd m.arrs i2 k2).fst.set i2 (((H3 b bit p.arrays (y7 b bit p.vars j m.vals m.vals.length).snd m.arrs i2 k2).fst.getD i2 []).set k2 (nm b (H3 b bit p.arrays (y7 b bit p.vars j m.vals m.vals.length).snd m.arrs i2 k2).snd Z9)))), .box [.ref 9, .tref 10]])) (P7 bit [(11, iA i2), (12, iA ((k2 : Int) + 1))]) [wO ((k2 : Int) + 1)] (o1 (by omega)) fun G => b0 ?_)); exact J5 G (k2 + 1) (by omega) (by omega) (rg 12) (by have e1 : ((H3 b bit p.arrays (y7 b bit p.vars j m.vals m.vals.length).snd m.arrs i2 (k2 + 1)).snd : Int) = ((H3 b bit p.arrays (y7 b bit p.vars j m.vals m.vals.length).snd m.arrs i2 k2).snd + 1) := (by rw [by9 (by omega) ha4 (by omega) (zbt (by omega))]; done); have e2 : ((H3 b bit p.arrays (y7 b bit p.vars j m.vals m.vals.length).snd m.arrs i2 (k2 + 1)).fst : List (List Int)) = ((H3 b bit p.arrays (y7 b bit p.vars j m.vals m.vals.length).snd m.arrs i2 k2).fst.set i2 (((H3 b bit p.arrays (y7 b bit p.vars j m.vals m.vals.length).snd m.arrs i2 k2).fst.getD i2 []).set k2 (nm b (H3 b bit p.arrays (y7 b bit p.vars j m.vals m.vals.length).snd m.arrs i2 k2).snd Z9))) := (by rw [by9 (by omega) ha4 (by omega) (zbt (by omega))]; done); (first | rw [e1, e2] | simp only [e1, e2]) <;> rfl)
  ·
   have q0 := V9 h0; refine F5 G (H4 (fc h0 fz) (us [(6, 10, 0), (1011, 1011, 0)])) (P7 bit [(10, iA i), (26, bA (decide ((i : Int) < p.vars.length)))]) fun G => b0 ?_; cases h1 : (decide ((i : Int) < p.vars.length))
   · have q1 := W0 h1; exact False.elim (by omega)
   ·
    have q1 := V9 h1; refine rT G _ h1 (wp_skip (b0 (wp_seq (wp_block (wp_seq (B5 G d9 [(36, bA (bo8 (p.vars.getD i 0) bit != 0))] (iX i i p.vars.length []) (iK (by omega) bY1) fun G => b0 (rcN G (fun h2 q2 => ?_) fun h2 q2 => ?_)))))))
    · refine wp_skip (i8 (b0 (B5 G d9 [(10, iA ((i : Int) + 1))] [wO ((i : Int) + 1)] (o1 (by omega)) fun G => b0 ?_))); exact J5 G (i + 1) (by omega) (by omega) (rg 12) (by have e1 : ((y7 b bit p.vars j m.vals (i + 1)).snd : Int) = ((y7 b bit p.vars j m.vals i).snd) := (by rw [by8 (zbf (by omega))]; done); have e2 : ((y7 b bit p.vars j m.vals (i + 1)).fst : List Int) = ((y7 b bit p.vars j m.vals i).fst) := (by rw [by8 (zbf (by omega))]; done); (first | rw [e1, e2] | simp only [e1, e2]) <;> rfl)
    · refine F4 G (t0 4 [0, 1] (K4 b ((y7 b bit p.vars j m.vals i).snd) (by omega) (by omega))) [0, 1, 0, 0, 8, 31, 63] (rg 12) (.box [.ref 1, iA ((y7 b bit p.vars j m.vals i).snd + 1)] :: (Z6 b p m [ag7, .row 3 (D.ints ((y7 b bit p.vars j m.vals i).fst.set i (nm b (y7 b bit p.vars j m.vals i).snd Z9))), .tree (D.rows m.arrs), .box [.ref 9, .tref 10]])) (P7 bit [(10, iA i)]) (iX i i ((y7 b bit p.vars j m.vals i).fst.length) []) (iK (by omega) bY1) fun G => i8 (b0 (B5 G d9 [(10, iA ((i : Int) + 1))] [wO ((i : Int) + 1)] (o1 (by omega)) fun G => b0 ?_)); exact J5 G (i + 1) (by omega) (by omega) (rg 12) (by have e1 : ((y7 b bit p.vars j m.vals (i + 1)).snd : Int) = ((y7 b bit p.vars j m.vals i).snd + 1) := (by rw [by7 (zbt (by omega))]; done); have e2 : ((y7 b bit p.vars j m.vals (i + 1)).fst : List Int) = ((y7 b bit p.vars j m.vals i).fst.set i (nm b (y7 b bit p.vars j m.vals i).snd Z9)) := (by rw [by7 (zbt (by omega))]; done); (first | rw [e1, e2] | simp only [e1, e2]) <;> rfl)
theorem aS2 (b : List UInt8) (j bit : Int) (vs ars : List Int) (bd : List c6) (xs : List Int) (rs : List (List Int)) (hv : xs.length = vs.length) (ha : rs.length = ars.length) (hr : rs.all P0 = true) (r0 : 0 ≤ j) (r1 : j ≤ 100000000) (r2 : xs.length ≤ 1000000 ∧ rs.length ≤ 1000000) (hi : ∀ l ∈ rs, l.length ≤ 1048576) : j8.ok Tryz.prog ⟨26, [.ptr 0 0, pA 2, mA 5, iA bit], [.box [.ref 1, iA j], dY b, dI vs, dI ars, dT bd, dI xs, dR rs], [.box [.ref 1, iA (scM b bit ⟨vs, ars, bd⟩ ⟨xs, rs⟩ j).2], dY b, dI vs, dI ars, dT bd, dI xs, dR rs] ++ mO (scM b bit ⟨vs, ars, bd⟩ ⟨xs, rs⟩ j).1, mT 7⟩ :=
 aN5 b j bit ⟨vs, ars, bd⟩ ⟨xs, rs⟩ hv ha hr r0 r1 r2 hi
def gX (nv na : Nat) (L : Int) (x : c7) : Prop :=
 (x.op = 1 ∧ (0 ≤ x.a ∧ x.a ≤ 13) ∧ (0 ≤ x.b ∧ x.b ≤ 255) ∧ x.c = 0 ∧ x.d = 0) ∨
 (x.op = 2 ∧ (0 ≤ x.a ∧ x.a ≤ 13) ∧ (0 ≤ x.b ∧ x.b < nv) ∧ x.c = 0 ∧ x.d = 0) ∨
 (x.op = 3 ∧ (0 ≤ x.a ∧ x.a < nv) ∧ (0 ≤ x.b ∧ x.b ≤ 13) ∧ x.c = 0 ∧ x.d = 0) ∨
 (x.op = 4 ∧ (0 ≤ x.a ∧ x.a ≤ 13) ∧ (0 ≤ x.b ∧ x.b < na) ∧ (0 ≤ x.c ∧ x.c ≤ 13) ∧ x.d = 0) ∨
 (x.op = 5 ∧ (0 ≤ x.a ∧ x.a < na) ∧ (0 ≤ x.b ∧ x.b ≤ 13) ∧ (0 ≤ x.c ∧ x.c ≤ 13) ∧ x.d = 0) ∨
 (x.op = 6 ∧ (0 ≤ x.a ∧ x.a ≤ 13) ∧ (4 ≤ x.b ∧ x.b ≤ 10) ∧ (0 ≤ x.c ∧ x.c ≤ 13) ∧ (0 ≤ x.d ∧ x.d ≤ 13)) ∨
 (x.op = 7 ∧ (0 ≤ x.a ∧ x.a ≤ 13) ∧ (0 ≤ x.b ∧ x.b ≤ 13) ∧ (0 ≤ x.c ∧ x.c ≤ 13) ∧ (0 ≤ x.d ∧ x.d ≤ 13)) ∨
 (x.op = 8 ∧ (0 ≤ x.a ∧ x.a < L) ∧ x.b = 0 ∧ x.c = 0 ∧ x.d = 0) ∨
 (x.op = 9 ∧ (0 ≤ x.a ∧ x.a ≤ 13) ∧ (0 ≤ x.b ∧ x.b < L) ∧ x.c = 0 ∧ x.d = 0) ∨
 (x.op = 10 ∧ (0 ≤ x.a ∧ x.a ≤ 13) ∧ (0 ≤ x.b ∧ x.b < L) ∧ x.c = 0 ∧ x.d = 0) ∨
 (x.op = 11 ∧ (0 ≤ x.a ∧ x.a ≤ 13) ∧ x.b = 0 ∧ x.c = 0 ∧ x.d = 0)
def gL (nv na : Nat) (L : Int) (l : List c7) : Prop := ∀ x ∈ l, gX nv na L x
theorem bE5 {nv na : Nat} {L : Int} {a b : List c7} (h : gL nv na L a) (k : gL nv na L b) : gL nv na L (a ++ b) := by
 intro x hx
 rcases bY7.1 hx with hx | hx
 ·exact h x hx
 ·exact k x hx
theorem aw2 {nv na : Nat} {L : Int} {a : c7} (h : gX nv na L a) : gL nv na L [a] := by
 intro x hx
 rw [bZ2] at hx
 subst hx; exact h
def Gd (nv na : Nat) (L : Int) (x y : F7) : Prop := ∃ ys, y.1 = x.1 ++ ys ∧ gL nv na L ys
theorem Gd.refl {nv na : Nat} {L : Int} (x : F7) : Gd nv na L x x := ⟨[], by simp, fun x hx => by cases hx⟩
theorem Gd.trans {nv na : Nat} {L : Int} {x y z : F7} (h : Gd nv na L x y) (k : Gd nv na L y z) : Gd nv na L x z := by
 obtain ⟨a, a1, a2⟩ := h
 obtain ⟨b, b1, b2⟩ := k
 exact ⟨a ++ b, by rw [b1, a1, b12], bE5 a2 b2⟩
theorem Gd.add {nv na : Nat} {L : Int} {x : F7} {n : Int} {c : List c7} (h : gL nv na L c) : Gd nv na L x (E1 x n c) := ⟨c, rfl, h⟩
theorem bs8 : (0 : Int) ≤ 0 ∧ (0 : Int) ≤ 13 := by decide
theorem bS2 : (0 : Int) ≤ 1 ∧ (1 : Int) ≤ 13 := by decide
theorem g1 {nv na : Nat} {L a b : Int} (h1 : 0 ≤ a ∧ a ≤ 13) (h2 : 0 ≤ b ∧ b ≤ 255) : gL nv na L [⟨1, a, b, 0, 0⟩] := aw2 (.inl ⟨rfl, h1, h2, rfl, rfl⟩)
theorem g3 {nv na : Nat} {L a : Int} (h1 : 0 ≤ a ∧ a < nv) : gL nv na L [⟨3, a, 0, 0, 0⟩] := aw2 (.inr (.inr (.inl ⟨rfl, h1, bs8, rfl, rfl⟩)))
theorem g5 {nv na : Nat} {L a : Int} (h1 : 0 ≤ a ∧ a < na) : gL nv na L [⟨5, a, 1, 0, 0⟩] := aw2 (.inr (.inr (.inr (.inr (.inl ⟨rfl, h1, bS2, bs8, rfl⟩)))))
theorem g8 {nv na : Nat} {L a : Int} (h1 : 0 ≤ a ∧ a < L) : gX nv na L ⟨8, a, 0, 0, 0⟩ := .inr (.inr (.inr (.inr (.inr (.inr (.inr (.inl ⟨rfl, h1, rfl, rfl, rfl⟩)))))))
theorem g9 {nv na : Nat} {L b : Int} (h1 : 0 ≤ b ∧ b < L) : gX nv na L ⟨9, 0, b, 0, 0⟩ := .inr (.inr (.inr (.inr (.inr (.inr (.inr (.inr (.inl ⟨rfl, bs8, h1, rfl, rfl⟩))))))))
theorem g10 {nv na : Nat} {L a b : Int} (h0 : 0 ≤ a ∧ a ≤ 13) (h1 : 0 ≤ b ∧ b < L) : gL nv na L [⟨10, a, b, 0, 0⟩] := aw2 (.inr (.inr (.inr (.inr (.inr (.inr (.inr (.inr (.inr (.inl ⟨rfl, h0, h1, rfl, rfl⟩))))))))))
theorem g11 {nv na : Nat} {L : Int} : gL nv na L [⟨11, 0, 0, 0, 0⟩] := aw2 (.inr (.inr (.inr (.inr (.inr (.inr (.inr (.inr (.inr (.inr ⟨rfl, bs8, rfl, rfl, rfl⟩))))))))))
def inV (x : Int) : Prop := 0 ≤ x ∧ x ≤ 255
theorem bM0 {l : List Int} (h : ∀ x ∈ l, inV x) (i : Nat) : inV (l.getD i 0) := by
 rw [bX2]
 cases hx : l[i]? with
 | none => exact ⟨Int.le_refl _, by decide⟩
 | some x => exact h x (bY4 hx)
theorem bA8 {l : List Int} (h : D8 l = true) : ∀ x ∈ l, inV x := fun x hx => by
 have := bX9.1 h x hx
 simpa [inV] using this
theorem bR8 {l : List (List Int)} (h : l.all P0 = true) (i : Nat) : ∀ x ∈ l.getD i [], inV x := by
 rw [bX2]
 cases hx : l[i]? with
 | none => intro x hx; simp at hx
 | some r =>
  have := bX9.1 h r (bY4 hx)
  unfold P0 at this
  rw [bX0] at this
  exact bA8 this.2
structure n8 where
 pc : Int
 regs : List Int
 mem : t2
def stR (m : t2) (x : c7) (r : List Int) : List Int :=
 if x.op = 1 then r.set x.a.toNat x.b
 else if x.op = 2 then r.set x.a.toNat (m.vals.getD x.b.toNat 0)
 else if x.op = 4 then r.set x.a.toNat ((m.arrs.getD x.b.toNat []).getD ((r.getD x.c.toNat 0).tmod 4).toNat 0)
 else if x.op = 6 then r.set x.a.toNat (H7 x.b (r.getD x.c.toNat 0) (r.getD x.d.toNat 0))
 else if x.op = 7 then r.set x.a.toNat (if r.getD x.b.toNat 0 = 0 then r.getD x.d.toNat 0 else r.getD x.c.toNat 0)
 else if x.op = 10 then r.set x.a.toNat ((r.getD x.a.toNat 0 + 255).tmod 256)
 else r
def stM (m : t2) (x : c7) (r : List Int) : t2 :=
 if x.op = 3 then ⟨m.vals.set x.a.toNat (r.getD x.b.toNat 0), m.arrs⟩
 else if x.op = 5 then ⟨m.vals, m.arrs.set x.a.toNat ((m.arrs.getD x.a.toNat []).set ((r.getD x.b.toNat 0).tmod 4).toNat (r.getD x.c.toNat 0))⟩
 else m
def stE (x : c7) (r : List Int) : List (Int × Int) :=
 if x.op = 4 then [(2, x.b * 4 + (r.getD x.c.toNat 0).tmod 4)]
 else if x.op = 5 then [(3, x.a * 4 + (r.getD x.b.toNat 0).tmod 4)]
 else if x.op = 11 then [(4, r.getD x.a.toNat 0)]
 else []
def stP (x : c7) (r : List Int) (pc : Int) : Int :=
 if x.op = 8 then x.a
 else if x.op = 9 then (if r.getD x.a.toNat 0 = 0 then x.b else pc + 1)
 else if x.op = 10 then (if (r.getD x.a.toNat 0 + 255).tmod 256 = 0 then pc + 1 else x.b)
 else if x.op = 13 then pc
 else pc + 1
def E9 (c : b6) (s : n8) : c7 := z9 c s.pc.toNat
def i5 (c : b6) (s : n8) : n8 := ⟨stP (E9 c s) s.regs s.pc, stR s.mem (E9 c s) s.regs, stM s.mem (E9 c s) s.regs⟩
def B9 (c : b6) (s : n8) : List (Int × Int) := (5, s.pc) :: stE (E9 c s) s.regs
def J9 (c : b6) (s : n8) : Bool := decide ((E9 c s).op = 13)
def m7 (c : b6) (s : n8) : Nat → n8
 | 0 => s
 | n + 1 => i5 c (m7 c s n)
def F3 (c : b6) (s : n8) : Nat → List (Int × Int)
 | 0 => []
 | n + 1 => F3 c s n ++ B9 c (m7 c s n)
def N0 (c : b6) (s : n8) : Bool := decide (0 ≤ s.pc) && (decide (s.pc < c.list.length) && (decide (s.regs.length = 14) && (D8 s.regs && G5 c.vars.length c.arrays.length s.mem)))
theorem X7 {c : b6} {s : n8} (h : N0 c s = true) : 0 ≤ s.pc ∧ s.pc < c.list.length ∧ s.regs.length = 14 ∧ D8 s.regs = true ∧ G5 c.vars.length c.arrays.length s.mem = true := by
 unfold N0 at h
 simpa [bX0] using h
theorem a52 {c : b6} {s : n8} (h1 : 0 ≤ s.pc) (h2 : s.pc < c.list.length) (h3 : s.regs.length = 14) (h4 : D8 s.regs = true) (h5 : G5 c.vars.length c.arrays.length s.mem = true) : N0 c s = true := by
 unfold N0
 simp [*]
theorem bA7 {l : List Int} (h : ∀ x ∈ l, inV x) : D8 l = true := by
 unfold D8
 rw [bX9]
 intro x hx
 have := h x hx
 unfold inV at this
 simp [this]
theorem T9 {l : List Int} (h : D8 l = true) {x : Int} (hx : inV x) (i : Nat) : D8 (l.set i x) = true := by
 refine bA7 fun y hy => ?_
 rcases List.mem_or_eq_of_mem_set hy with h1 | h1
 ·exact bA8 h y h1
 ·exact h1 ▸ hx
theorem U0 {l : List Int} (h : D8 l = true) (i : Nat) : inV (l.getD i 0) := bM0 (bA8 h) i
theorem bH5 {x n : Int} (h : 0 ≤ x) (hn : 0 < n) (h2 : n ≤ 256) : inV (x.tmod n) := by
 have := Int.tmod_lt_of_pos x hn
 have := Int.tmod_nonneg n h
 unfold inV; omega
theorem bq2 (m : t2) (x : c7) (r : List Int) : (stR m x r).length = r.length := by
 unfold stR
 repeat' split
 all_goals simp
theorem bq1 {c : b6} {m : t2} {x : c7} {r : List Int} (hx : v8 c x = true) (hm : G5 c.vars.length c.arrays.length m = true) (hr : D8 r = true) : D8 (stR m x r) = true := by
 obtain ⟨f1, f2, f3, f4⟩ := aw3 hm
 unfold stR
 split
 ·rename_i e
  refine T9 hr ?_ _
  unfold v8 at hx
  simp only [bX0, decide_eq_true_eq] at hx
  obtain ⟨_, ⟨⟨_, hb⟩, _⟩, _⟩ := hx
  rw [e] at hb
  simp [e6, B6, I3] at hb
  exact hb
 split
 ·exact T9 hr (U0 f3 _) _
 split
 ·exact T9 hr (bM0 (bR8 f4 _) _) _
 split
 ·have a := U0 hr x.c.toNat
  have b := U0 hr x.d.toNat
  exact T9 hr (aQ3 a.1 a.2 b.1 b.2) _
 split
 ·refine T9 hr ?_ _
  split <;> exact U0 hr _
 split
 ·have a := U0 hr x.a.toNat
  exact T9 hr (bH5 (by have := a.1; omega) (by decide) (by decide)) _
 ·exact hr
theorem bG4 {a : List Int} (h1 : a.length = 4) (h2 : D8 a = true) : P0 a = true := by unfold P0; simp [h1, h2]
theorem bo6 {a : List Int} (h : P0 a = true) : a.length = 4 ∧ D8 a = true := by
 unfold P0 at h; simpa [bX0] using h
theorem bq4 {nv na : Nat} {m : t2} {r : List Int} (x : c7) (hm : G5 nv na m = true) (hr : D8 r = true) : G5 nv na (stM m x r) = true := by
 obtain ⟨f1, f2, f3, f4⟩ := aw3 hm
 have key : ∀ m' : t2, m'.vals.length = nv → m'.arrs.length = na → D8 m'.vals = true → m'.arrs.all P0 = true → G5 nv na m' = true := by
  intro m' h1 h2 h3 h4
  unfold G5; simp [h1, h2, h3]; simpa using h4
 unfold stM
 split
 ·exact key _ (by simp [f1]) f2 (T9 f3 (U0 hr _) _) f4
 split
 ·refine key _ f1 (by simp [f2]) f3 ?_
  rw [bX9] at f4 ⊢
  intro a ha
  rcases List.mem_or_eq_of_mem_set ha with h | h
  ·exact f4 a h
  ·subst h
   by_cases hl : x.a.toNat < m.arrs.length
   ·have := bo6 (f4 (m.arrs.getD x.a.toNat []) (by rw [bX2, bW9 hl]; exact bZ0 hl))
    exact bG4 (by simp only [bY9]; exact this.1) (T9 this.2 (U0 hr _) _)
   ·rw [List.set_eq_of_length_le (by omega)] at ha
    exact f4 _ ha
 ·exact hm
theorem aP7 {c : b6} {s : n8} (h0 : 0 ≤ s.pc) (h1 : s.pc < c.list.length) : E9 c s = c.list[s.pc.toNat]'(by omega) := R5 (by omega)
theorem aI2 {c : b6} {s : n8} (hc : f8 c = true) (h0 : 0 ≤ s.pc) (h1 : s.pc < c.list.length) : v8 c (E9 c s) = true := by
 rw [aP7 h0 h1]; exact (o8 hc).2.2.2.1 _ (by omega)
theorem bT8 {c : b6} {s : n8} (h0 : 0 ≤ s.pc) (h1 : s.pc < c.list.length) : nx c s.pc = aD0 (E9 c s) s.pc := by
 rw [aP7 h0 h1]; exact bz4 (by omega)
theorem be9 {x : c7} {r : List Int} {pc : Int} (h : x.op ≠ 13) : stP x r pc ∈ aD0 x pc := by
 unfold stP aD0
 rw [if_neg h]
 by_cases h8 : x.op = 8
 ·simp [h8]
 rw [if_neg h8, if_neg h8]
 by_cases h9 : x.op = 9
 ·rw [if_pos h9, if_pos (.inl h9)]; split <;> simp
 rw [if_neg h9]
 by_cases h10 : x.op = 10
 ·rw [if_pos h10, if_pos (.inr h10)]; split <;> simp
 rw [if_neg h10, if_neg h, if_neg (by omega)]; simp
theorem bq3 {x : c7} {r : List Int} {pc : Int} (h : x.op = 13) : stP x r pc = pc := by
 unfold stP
 rw [if_neg (by omega), if_neg (by omega), if_neg (by omega), if_pos h]
theorem a29 {c : b6} {s : n8} (hc : f8 c = true) (h0 : 0 ≤ s.pc) (h1 : s.pc < c.list.length) : (0 ≤ (i5 c s).pc ∧ (i5 c s).pc < c.list.length) ∧ ((i5 c s).pc = s.pc ∨ (i5 c s).pc ∈ nx c s.pc) := by
 by_cases h : (E9 c s).op = 13
 ·have : (i5 c s).pc = s.pc := bq3 h
  rw [this]; exact ⟨⟨h0, h1⟩, .inl rfl⟩
 ·have hn : (i5 c s).pc ∈ nx c s.pc := by rw [bT8 h0 h1]; exact be9 h
  exact ⟨bz3 hc h0 hn, .inr hn⟩
theorem bq0 {c : b6} {s : n8} (hc : f8 c = true) (h : N0 c s = true) : N0 c (i5 c s) = true := by
 obtain ⟨h1, h2, h3, h4, h5⟩ := X7 h
 have hp := (a29 hc h1 h2).1
 exact a52 hp.1 hp.2 ((bq2 _ _ _).trans h3) (bq1 (aI2 hc h1 h2) h5 h4) (bq4 _ h5 h4)
theorem aa5 {c : b6} {s : n8} (hc : f8 c = true) (h : N0 c s = true) : ∀ n, N0 c (m7 c s n) = true
 | 0 => h
 | n + 1 => bq0 hc (aa5 hc h n)
theorem bq5 (x : c7) (r : List Int) : (stE x r).length ≤ 1 := by
 unfold stE
 repeat' split
 all_goals simp
theorem aC0 (c : b6) (s : n8) : (B9 c s).length ≤ 2 := by
 have := bq5 (E9 c s) s.regs
 unfold B9; simp; omega
theorem au0 (c : b6) (s : n8) : ∀ n, (F3 c s n).length ≤ 2 * n
 | 0 => by simp [F3]
 | n + 1 => by
  have := au0 c s n
  have := aC0 c (m7 c s n)
  rw [F3, bX1]; omega
theorem bp9 {c : b6} {s : n8} (hc : f8 c = true) (h0 : 0 ≤ s.pc) (h1 : s.pc < c.list.length) (hr : Rc c s.pc) : Rc c (i5 c s).pc := by
 rcases (a29 hc h0 h1).2 with h | h
 ·rw [h]; exact hr
 ·exact .step hr h
def j9 (m : t2) : n8 := ⟨0, bW8 14 0, m⟩
theorem R9 {c : b6} {m : t2} (hc : f8 c = true) (h : G5 c.vars.length c.arrays.length m = true) : N0 c (j9 m) = true := by
 have hn := (o8 hc).2.1
 exact a52 (Int.le_refl _) (by show (0 : Int) < _; omega) rfl (show D8 (bW8 14 0) = true by decide) h
structure az8 (c : b6) (m : t2) (n : Nat) : Prop where
 lt : n < 20000
 fin : J9 c (m7 c (j9 m) n) = true
 no : ∀ k, k < n → J9 c (m7 c (j9 m) k) = false
def bh4 (c : b6) (m : t2) (n : Nat) : t2 := (m7 c (j9 m) (n + 1)).mem
def ap3 (c : b6) (m : t2) (n : Nat) : List (Int × Int) := F3 c (j9 m) (n + 1)
theorem bs4 {c : b6} {m : t2} {n : Nat} (hn : n < 20000) (h : J9 c (m7 c (j9 m) n) = true) : ∃ k, k ≤ n ∧ az8 c m k := by
 induction n using Nat.strongRecOn with
 | _ n ih =>
  by_cases hk : ∃ k, k < n ∧ J9 c (m7 c (j9 m) k) = true
  ·obtain ⟨k, h1, h2⟩ := hk
   obtain ⟨j, h3, h4⟩ := ih k h1 (by omega) h2
   exact ⟨j, by omega, h4⟩
  ·refine ⟨n, bX4 _, hn, h, fun k h1 => ?_⟩
   cases he : J9 c (m7 c (j9 m) k) with
   | false => rfl
   | true => exact absurd ⟨k, h1, he⟩ hk
theorem bh0 {c : b6} {m : t2} {n k : Nat} (h : az8 c m n) (g : az8 c m k) : n = k := by
 rcases Nat.lt_trichotomy n k with h1 | h1 | h1
 ·have := g.no n h1; rw [h.fin] at this; cases this
 ·exact h1
 ·have := h.no k h1; rw [g.fin] at this; cases this
theorem bs3 (c : b6) (m : t2) : (∃ n, az8 c m n) ∨ ∀ k, k < 20000 → J9 c (m7 c (j9 m) k) = false := by
 by_cases h : ∃ k, k < 20000 ∧ J9 c (m7 c (j9 m) k) = true
 ·obtain ⟨k, h1, h2⟩ := h
  obtain ⟨j, _, h4⟩ := bs4 h1 h2
  exact .inl ⟨j, h4⟩
 ·right
  intro k h1
  cases he : J9 c (m7 c (j9 m) k) with
  | false => rfl
  | true => exact absurd ⟨k, h1, he⟩ h
def x7 (l : List (Int × Int)) : List (Int × Int) := l.filter fun e => decide (2 ≤ e.1) && decide (e.1 ≤ 4)
theorem I4 (l m : List (Int × Int)) : x7 (l ++ m) = x7 l ++ x7 m := List.filter_append ..
theorem S5 (c : b6) (s : n8) : x7 (B9 c s) = stE (E9 c s) s.regs := by
 unfold B9 x7 stE
 repeat' split
 all_goals rfl
theorem a39 {c : b6} {m : t2} (hc : f8 c = true) (h : G5 c.vars.length c.arrays.length m = true) (n : Nat) : Rc c (m7 c (j9 m) n).pc := by
 induction n with
 | zero => exact .zero
 | succ n ih =>
  obtain ⟨h1, h2, -⟩ := X7 (aa5 hc (R9 hc h) n)
  exact bp9 hc h1 h2 ih
section
variable {c : b6} {s : n8}
theorem A4 : i5 c s = ⟨stP (c.list.getD s.pc.toNat bW7) s.regs s.pc, stR s.mem (c.list.getD s.pc.toNat bW7) s.regs, stM s.mem (c.list.getD s.pc.toNat bW7) s.regs⟩ ∧ B9 c s = (5, s.pc) :: stE (c.list.getD s.pc.toNat bW7) s.regs := ⟨rfl, rfl⟩
theorem bQ8 (h : (c.list.getD s.pc.toNat bW7).op = 1) : i5 c s = ⟨s.pc + 1, s.regs.set (c.list.getD s.pc.toNat bW7).a.toNat (c.list.getD s.pc.toNat bW7).b, s.mem⟩ ∧ B9 c s = [(5, s.pc)] := by
 rw [A4.1, A4.2]; generalize (c.list.getD s.pc.toNat bW7) = x at *; simp [stP, stR, stM, stE, h]
theorem bQ7 (h : (c.list.getD s.pc.toNat bW7).op = 2) : i5 c s = ⟨s.pc + 1, s.regs.set (c.list.getD s.pc.toNat bW7).a.toNat (s.mem.vals.getD (c.list.getD s.pc.toNat bW7).b.toNat 0), s.mem⟩ ∧ B9 c s = [(5, s.pc)] := by
 rw [A4.1, A4.2]; generalize (c.list.getD s.pc.toNat bW7) = x at *; simp [stP, stR, stM, stE, h]
theorem bQ6 (h : (c.list.getD s.pc.toNat bW7).op = 3) : i5 c s = ⟨s.pc + 1, s.regs, ⟨s.mem.vals.set (c.list.getD s.pc.toNat bW7).a.toNat (s.regs.getD (c.list.getD s.pc.toNat bW7).b.toNat 0), s.mem.arrs⟩⟩ ∧ B9 c s = [(5, s.pc)] := by
 rw [A4.1, A4.2]; generalize (c.list.getD s.pc.toNat bW7) = x at *; simp [stP, stR, stM, stE, h]
theorem bQ5 (h : (c.list.getD s.pc.toNat bW7).op = 4) : i5 c s = ⟨s.pc + 1, s.regs.set (c.list.getD s.pc.toNat bW7).a.toNat ((s.mem.arrs.getD (c.list.getD s.pc.toNat bW7).b.toNat []).getD ((s.regs.getD (c.list.getD s.pc.toNat bW7).c.toNat 0).tmod 4).toNat 0), s.mem⟩ ∧ B9 c s = [(5, s.pc)] ++ [(2, (c.list.getD s.pc.toNat bW7).b * 4 + (s.regs.getD (c.list.getD s.pc.toNat bW7).c.toNat 0).tmod 4)] := by
 rw [A4.1, A4.2]; generalize (c.list.getD s.pc.toNat bW7) = x at *; simp [stP, stR, stM, stE, h]
theorem bQ4 (h : (c.list.getD s.pc.toNat bW7).op = 5) : i5 c s = ⟨s.pc + 1, s.regs, ⟨s.mem.vals, s.mem.arrs.set (c.list.getD s.pc.toNat bW7).a.toNat ((s.mem.arrs.getD (c.list.getD s.pc.toNat bW7).a.toNat []).set ((s.regs.getD (c.list.getD s.pc.toNat bW7).b.toNat 0).tmod 4).toNat (s.regs.getD (c.list.getD s.pc.toNat bW7).c.toNat 0))⟩⟩ ∧ B9 c s = [(5, s.pc)] ++ [(3, (c.list.getD s.pc.toNat bW7).a * 4 + (s.regs.getD (c.list.getD s.pc.toNat bW7).b.toNat 0).tmod 4)] := by
 rw [A4.1, A4.2]; generalize (c.list.getD s.pc.toNat bW7) = x at *; simp [stP, stR, stM, stE, h]
theorem bQ3 (h : (c.list.getD s.pc.toNat bW7).op = 6) : i5 c s = ⟨s.pc + 1, s.regs.set (c.list.getD s.pc.toNat bW7).a.toNat (H7 (c.list.getD s.pc.toNat bW7).b (s.regs.getD (c.list.getD s.pc.toNat bW7).c.toNat 0) (s.regs.getD (c.list.getD s.pc.toNat bW7).d.toNat 0)), s.mem⟩ ∧ B9 c s = [(5, s.pc)] := by
 rw [A4.1, A4.2]; generalize (c.list.getD s.pc.toNat bW7) = x at *; simp [stP, stR, stM, stE, h]
theorem aK4 (h : (c.list.getD s.pc.toNat bW7).op = 7) (h2 : ¬ s.regs.getD (c.list.getD s.pc.toNat bW7).b.toNat 0 = 0) : i5 c s = ⟨s.pc + 1, s.regs.set (c.list.getD s.pc.toNat bW7).a.toNat (s.regs.getD (c.list.getD s.pc.toNat bW7).c.toNat 0), s.mem⟩ ∧ B9 c s = [(5, s.pc)] := by
 rw [A4.1, A4.2]; generalize (c.list.getD s.pc.toNat bW7) = x at *; simp only [stP, stR, stM, stE, h, h2]; simp
theorem aK5 (h : (c.list.getD s.pc.toNat bW7).op = 7) (h2 : s.regs.getD (c.list.getD s.pc.toNat bW7).b.toNat 0 = 0) : i5 c s = ⟨s.pc + 1, s.regs.set (c.list.getD s.pc.toNat bW7).a.toNat (s.regs.getD (c.list.getD s.pc.toNat bW7).d.toNat 0), s.mem⟩ ∧ B9 c s = [(5, s.pc)] := by
 rw [A4.1, A4.2]; generalize (c.list.getD s.pc.toNat bW7) = x at *; simp only [stP, stR, stM, stE, h, h2]; simp
theorem bQ2 (h : (c.list.getD s.pc.toNat bW7).op = 8) : i5 c s = ⟨(c.list.getD s.pc.toNat bW7).a, s.regs, s.mem⟩ ∧ B9 c s = [(5, s.pc)] := by
 rw [A4.1, A4.2]; generalize (c.list.getD s.pc.toNat bW7) = x at *; simp [stP, stR, stM, stE, h]
theorem aK2 (h : (c.list.getD s.pc.toNat bW7).op = 9) (h2 : s.regs.getD (c.list.getD s.pc.toNat bW7).a.toNat 0 = 0) : i5 c s = ⟨(c.list.getD s.pc.toNat bW7).b, s.regs, s.mem⟩ ∧ B9 c s = [(5, s.pc)] := by
 rw [A4.1, A4.2]; generalize (c.list.getD s.pc.toNat bW7) = x at *; simp only [stP, stR, stM, stE, h, h2]; simp
theorem aK3 (h : (c.list.getD s.pc.toNat bW7).op = 9) (h2 : ¬ s.regs.getD (c.list.getD s.pc.toNat bW7).a.toNat 0 = 0) : i5 c s = ⟨s.pc + 1, s.regs, s.mem⟩ ∧ B9 c s = [(5, s.pc)] := by
 rw [A4.1, A4.2]; generalize (c.list.getD s.pc.toNat bW7) = x at *; simp only [stP, stR, stM, stE, h, h2]; simp
theorem ar4 (h : (c.list.getD s.pc.toNat bW7).op = 10) (h2 : ¬ (s.regs.getD (c.list.getD s.pc.toNat bW7).a.toNat 0 + 255).tmod 256 = 0) : i5 c s = ⟨(c.list.getD s.pc.toNat bW7).b, s.regs.set (c.list.getD s.pc.toNat bW7).a.toNat ((s.regs.getD (c.list.getD s.pc.toNat bW7).a.toNat 0 + 255).tmod 256), s.mem⟩ ∧ B9 c s = [(5, s.pc)] := by
 rw [A4.1, A4.2]; generalize (c.list.getD s.pc.toNat bW7) = x at *; simp only [stP, stR, stM, stE, h, h2]; simp
theorem ar5 (h : (c.list.getD s.pc.toNat bW7).op = 10) (h2 : (s.regs.getD (c.list.getD s.pc.toNat bW7).a.toNat 0 + 255).tmod 256 = 0) : i5 c s = ⟨s.pc + 1, s.regs.set (c.list.getD s.pc.toNat bW7).a.toNat ((s.regs.getD (c.list.getD s.pc.toNat bW7).a.toNat 0 + 255).tmod 256), s.mem⟩ ∧ B9 c s = [(5, s.pc)] := by
 rw [A4.1, A4.2]; generalize (c.list.getD s.pc.toNat bW7) = x at *; simp only [stP, stR, stM, stE, h, h2]; simp
theorem bH1 (h : (c.list.getD s.pc.toNat bW7).op = 11) : i5 c s = ⟨s.pc + 1, s.regs, s.mem⟩ ∧ B9 c s = [(5, s.pc)] ++ [(4, s.regs.getD (c.list.getD s.pc.toNat bW7).a.toNat 0)] := by
 rw [A4.1, A4.2]; generalize (c.list.getD s.pc.toNat bW7) = x at *; simp [stP, stR, stM, stE, h]
theorem bH0 (h : (c.list.getD s.pc.toNat bW7).op = 12) : i5 c s = ⟨s.pc + 1, s.regs, s.mem⟩ ∧ B9 c s = [(5, s.pc)] := by
 rw [A4.1, A4.2]; generalize (c.list.getD s.pc.toNat bW7) = x at *; simp [stP, stR, stM, stE, h]
theorem bG9 (h : (c.list.getD s.pc.toNat bW7).op = 13) : i5 c s = ⟨s.pc, s.regs, s.mem⟩ ∧ B9 c s = [(5, s.pc)] := by
 rw [A4.1, A4.2]; generalize (c.list.getD s.pc.toNat bW7) = x at *; simp [stP, stR, stM, stE, h]
theorem bx5 (hc : f8 c = true) (h : N0 c s = true) : v8 c (c.list.getD s.pc.toNat bW7) = true := by
 obtain ⟨h1, h2, -⟩ := X7 h
 exact aI2 hc h1 h2
theorem bG7 (hc : f8 c = true) (h : N0 c s = true) : 1 ≤ (c.list.getD s.pc.toNat bW7).op ∧ (c.list.getD s.pc.toNat bW7).op ≤ 13 := by
 have hx := bx5 hc h
 unfold v8 at hx
 simp only [bX0, decide_eq_true_eq] at hx
 exact hx.1
theorem bG8 (hc : f8 c = true) : c.arrays.length ≤ 2 ∧ c.vars.length ≤ 12 := by
 obtain ⟨h1, -⟩ := o8 hc
 unfold C6 at h1
 simp only [bX0, decide_eq_true_eq] at h1
 omega
theorem bA5 {l : List Int} {i : Nat} {v : Int} (h : i < l.length) : (l.set i v).getD i 0 = v := by
 rw [bX2, List.getElem?_set, if_pos rfl, if_pos h]; rfl
end
theorem ba8 (k x y : Int) (r0 : inV x) (r1 : inV y) : j8.ok Tryz.prog (V1 100 [iA k, iA x, iA y] [] (iA (H7 k x y))) :=
 af5 fun φ w ρ h => (aI3 k x y w r0.1 r0.2 r1.1 r1.2).mono fun e w' ⟨h1, h2⟩ => ⟨h1, h2 ▸ Below.refl _ _⟩
theorem tmV {x : Int} (h : inV x) : 0 ≤ x.tmod 4 ∧ x.tmod 4 < 4 := by
 have h1 : 0 ≤ x ∧ x ≤ 255 := h
 rw [Int.tmod_eq_emod_of_nonneg (by omega)]; omega
theorem aE0 (x y : Int) (r0 : 0 ≤ x ∧ x ≤ 1000) (r1 : inV y) : j8.ok Tryz.prog (V1 99 [iA x, iA y] [] (iA (x * 4 + y.tmod 4))) := by
 refine I1 10 Tryz.func99 [] [(0, iA x), (1, iA y)] fun G => ?_; have htm := tmV r1; have hyy : 0 ≤ y ∧ y ≤ 255 := r1; refine wp_seq (l0 G d9 [(4, iA 0)] fun G => b0 (wp_seq (B5 G d9 [(4, iA (x * 4 + y.tmod 4))] [wO (x * 4), (4 : Int) ≠ 0, wO (x * 4 + y.tmod (4 : Int))] ⟨oW (by omega), (by omega), (oW (by omega)), bY1⟩ fun G => b0 (wp_ret ?_)))); exact I9 G []
section
variable {nv na d : Nat} {m : t2} {e : c8}
end
section
variable {m : t2} {e : c8}
theorem bJ4 {nv na : Nat} (hm : G5 nv na m = true) {i : Int} (h0 : 0 ≤ i) (h1 : i < na) : (m.arrs.getD i.toNat []).length = 4 := by
 obtain ⟨f1, f2, f3, f4⟩ := aw3 hm
 have hi : i.toNat < m.arrs.length := by omega
 have := bX9.1 f4 (m.arrs.getD i.toNat []) (by rw [n9 hi]; exact bZ0 hi)
 unfold P0 at this
 simp only [bX0, decide_eq_true_eq] at this
 exact this.1
end
abbrev kcS (c : b6) : List It := [dI c.vars, dI c.arrays, .dat (.instrs c.list)]
abbrev stI (s : n8) : List It := [.box [iA s.pc, .ref 1, .ref 2, .tref 3], .row 3 (.ints s.regs), .row 3 (.ints s.mem.vals), .tree (.rows s.mem.arrs)]
abbrev aL3 (c : b6) (s : n8) := s.regs.set (c.list.getD s.pc.toNat bW7).a.toNat ((s.regs.getD (c.list.getD s.pc.toNat bW7).a.toNat 0 + 255).tmod 256)
abbrev ag6 (c : b6) (s : n8) := s.regs.getD (c.list.getD s.pc.toNat bW7).c.toNat 0
abbrev as0 (c : b6) (s : n8) := s.regs.getD (c.list.getD s.pc.toNat bW7).b.toNat 0
abbrev A5 (c : b6) (s : n8) (E : List (Int × Int)) : List It := [.box [iA (i5 c s).pc, .ref 1, .ref 2, .tref 3], .row 3 (D.ints (i5 c s).regs), .row 3 (D.ints (i5 c s).mem.vals), .tree (D.rows (i5 c s).mem.arrs), dI c.vars, dI c.arrays, dN c.list, .row 71 (D.events E)]
abbrev aL2 (c : b6) (s : n8) : It := .box [iA (c.list.getD s.pc.toNat bW7).op, iA (c.list.getD s.pc.toNat bW7).a, iA (c.list.getD s.pc.toNat bW7).b, iA (c.list.getD s.pc.toNat bW7).c, iA (c.list.getD s.pc.toNat bW7).d]
abbrev G9 (s : n8) : It := .row 71 (D.events ([(5, s.pc)] ++ []))
abbrev M8 (s : n8) : It := .box [iA s.pc, .ref 1, .ref 2, .tref 3]
abbrev Y7 (s : n8) : It := .box [iA (s.pc + 1), .ref 1, .ref 2, .tref 3]
abbrev Y6 (c : b6) (s : n8) : AV := iA (c.list.getD s.pc.toNat bW7).op
abbrev bx6 (c : b6) (s : n8) : It := .row 3 (D.ints (s.regs.set (c.list.getD s.pc.toNat bW7).a.toNat (H7 (c.list.getD s.pc.toNat bW7).b (ag6 c s) (s.regs.getD (c.list.getD s.pc.toNat bW7).d.toNat 0))))
abbrev A9 (c : b6) (s : n8) (r0 : List It) : List It := .row 3 (D.ints s.mem.vals) :: .tree (D.rows s.mem.arrs) :: dI c.vars :: dI c.arrays :: dN c.list :: r0
abbrev T5 (s : n8) (r0 : List (Nat × AV)) : List (Nat × AV) := (0, .ptr 0 0) :: (4, .v (.slice none 0 0)) :: (5, .ptr 7 0) :: (6, .ref 1) :: (7, .ref 8) :: (8, iA (s.pc + 1)) :: r0
abbrev C7 (r0 : List (Nat × AV)) : List (Nat × AV) := (4, .v (.slice none 0 0)) :: (7, .ref 7) :: r0
theorem bB6 (c : b6) (s : n8) (hc : f8 c = true) (hs : N0 c s = true) (E : List (Int × Int)) (hE : B9 c s = E) : j8.ok Tryz.prog ⟨84, [.ptr 0 0, pA 4], stI s ++ kcS c, stI (i5 c s) ++ kcS c ++ [.row 71 (.events E)], .ref 7⟩ := by
  refine I1 240 Tryz.func84 (M8 s :: .row 3 (D.ints s.regs) :: (A9 c s [])) [(0, .ptr 0 0), (1, pA 4)] fun G => ?_; obtain ⟨m1, m2, m3, m4, m5⟩ := X7 hs; have hop : 1 ≤ (c.list.getD s.pc.toNat bW7).op ∧ (c.list.getD s.pc.toNat bW7).op ≤ 13 := bG7 hc hs; have hn := (o8 hc).2.2.1; obtain ⟨f1, f11, f2, f3, f4, f5, f6, f7, f9, f10⟩ := aX8 (x := c.list.getD s.pc.toNat bW7) (bx5 hc hs); obtain ⟨w1, w2, w3, w4⟩ := aw3 m5; have hna := bG8 hc
  have hrv := fun i => U0 m4 i
  refine wp_seq (i9 G d9 (rg 8) (M8 s :: .row 3 (D.ints s.regs) :: (A9 c s [.box (pL 4)])) [(0, .ptr 0 0), (3, .ptr 7 0), (4, .v (.slice none 0 0))] fun G => b0 (wp_seq (F4 G d9 [0, 1, 0, 4, 12, 28, 63, 127, 0, 256, 768, 1792, 0, 4351, 16383] [0, 1, 2, 3, 4, 5, 6, 104] (M8 s :: .row 3 (D.ints s.regs) :: (A9 c s [aL2 c s])) [(0, .ptr 0 0), (4, .v (.slice none 0 0)), (5, .ptr 7 0), (6, .ref 1)] (iX s.pc s.pc.toNat c.list.length []) (iK (by omega) bY1) fun G => b0 (wp_seq (i9 G d9 [0, 1, 2, 3, 4, 5, 6, 7, 48] (M8 s :: .row 3 (D.ints s.regs) :: (A9 c s [aL2 c s, G9 s])) [(0, .ptr 0 0), (4, .v (.slice none 0 0)), (5, .ptr 7 0), (6, .ref 1), (7, .ref 8)] fun G => b0 (wp_seq (B5 G d9 [(8, iA (s.pc + 1))] [wO (s.pc + 1)] (o1 (by omega)) fun G => b0 (wp_seq (wp_seq (l0 G d9 [(35, Y6 c s)] fun G => b0 (wp_block (wp_seq (F5 G d9 (T5 s [(35, Y6 c s), (36, bA ((c.list.getD s.pc.toNat bW7).op == 1))]) fun G => b0 ?_))))))))))))); cases h0 : ((c.list.getD s.pc.toNat bW7).op == 1)
  ·
   have q0 := ne_of_beq_false h0; refine rF G _ h0 (wp_seq (F5 G d9 (T5 s [(35, Y6 c s), (44, bA ((c.list.getD s.pc.toNat bW7).op == 2))]) fun G => b0 ?_)); cases h1 : ((c.list.getD s.pc.toNat bW7).op == 2)
   ·
    have q1 := ne_of_beq_false h1; refine rF G _ h1 (wp_seq (F5 G d9 (T5 s [(35, Y6 c s), (59, bA ((c.list.getD s.pc.toNat bW7).op == 3))]) fun G => b0 ?_)); cases h2 : ((c.list.getD s.pc.toNat bW7).op == 3)
    ·
     have q2 := ne_of_beq_false h2; refine rF G _ h2 (wp_seq (F5 G d9 (T5 s [(35, Y6 c s), (74, bA ((c.list.getD s.pc.toNat bW7).op == 4))]) fun G => b0 ?_)); cases h3 : ((c.list.getD s.pc.toNat bW7).op == 4)
     ·
      have q3 := ne_of_beq_false h3; refine rF G _ h3 (wp_seq (F5 G d9 (T5 s [(35, Y6 c s), (106, bA ((c.list.getD s.pc.toNat bW7).op == 5))]) fun G => b0 ?_)); cases h4 : ((c.list.getD s.pc.toNat bW7).op == 5)
      ·
       have q4 := ne_of_beq_false h4; refine rF G _ h4 (wp_seq (F5 G d9 (T5 s [(35, Y6 c s), (138, bA ((c.list.getD s.pc.toNat bW7).op == 6))]) fun G => b0 ?_)); cases h5 : ((c.list.getD s.pc.toNat bW7).op == 6)
       ·
        have q5 := ne_of_beq_false h5; refine rF G _ h5 (wp_seq (F5 G d9 (T5 s [(35, Y6 c s), (157, bA ((c.list.getD s.pc.toNat bW7).op == 7))]) fun G => b0 ?_)); cases h6 : ((c.list.getD s.pc.toNat bW7).op == 7)
        ·
         have q6 := ne_of_beq_false h6; refine rF G _ h6 (wp_seq (F5 G d9 (T5 s [(35, Y6 c s), (183, bA ((c.list.getD s.pc.toNat bW7).op == 8))]) fun G => b0 ?_)); cases h7 : ((c.list.getD s.pc.toNat bW7).op == 8)
         ·
          have q7 := ne_of_beq_false h7; refine rF G _ h7 (wp_seq (F5 G d9 (T5 s [(35, Y6 c s), (187, bA ((c.list.getD s.pc.toNat bW7).op == 9))]) fun G => b0 ?_)); cases h8 : ((c.list.getD s.pc.toNat bW7).op == 9)
          ·
           have q8 := ne_of_beq_false h8; refine rF G _ h8 (wp_seq (F5 G d9 (T5 s [(35, Y6 c s), (197, bA ((c.list.getD s.pc.toNat bW7).op == 10))]) fun G => b0 ?_)); cases h9 : ((c.list.getD s.pc.toNat bW7).op == 10)
           ·
            have q9 := ne_of_beq_false h9; refine rF G _ h9 (wp_seq (F5 G d9 (T5 s [(35, Y6 c s), (218, bA ((c.list.getD s.pc.toNat bW7).op == 11))]) fun G => b0 ?_)); cases h10 : ((c.list.getD s.pc.toNat bW7).op == 11)
            ·
             have q10 := ne_of_beq_false h10; refine rF G _ h10 (wp_seq (i9 G d9 [0, 1, 2, 3, 4, 5, 6, 8] (M8 s :: .row 3 (D.ints s.regs) :: (A9 c s [G9 s])) ((0, .ptr 0 0) :: (C7 [(8, iA (s.pc + 1)), (229, bA ((c.list.getD s.pc.toNat bW7).op == 13))])) fun G => b0 ?_)); cases h11 : ((c.list.getD s.pc.toNat bW7).op == 13)
             · have q11 := ne_of_beq_false h11; have hst := bH0 (c := c) (s := s) (show (c.list.getD s.pc.toNat bW7).op = 12 by omega); refine rF G _ h11 (wp_skip (i8 (b0 (wp_seq (i9 G d9 (rg 8) (Y7 s :: .row 3 (D.ints s.regs) :: (A9 c s [G9 s])) (C7 []) fun G => b0 (wp_seq (l0 G d9 [(4, .ref 7)] fun G => b0 (wp_ret ?_)))))))); exact I9 G (rg 8) (by show _ = mR (rg 8) (A5 c s E); unfold A5; have e1 : ((i5 c s).pc : Int) = (s.pc + 1) := (by rw [hst.1]); have e2 : ((i5 c s).regs : List Int) = (s.regs) := (by rw [hst.1]); have e3 : ((i5 c s).mem.vals : List Int) = (s.mem.vals) := (by rw [hst.1]); have e4 : ((i5 c s).mem.arrs : List (List Int)) = (s.mem.arrs) := (by rw [hst.1]); rw [e1, e2, e3, e4, ← hE, hst.2] <;> rfl)
             · have q11 := eq_of_beq h11; have hst := bG9 (c := c) (s := s) (show (c.list.getD s.pc.toNat bW7).op = 13 by omega); refine rT G _ h11 (l0 G d9 [(8, iA s.pc)] fun G => i8 (b0 (wp_seq (l0 G d9 [] fun G => b0 (wp_seq (l0 G d9 [(4, .ref 7)] fun G => b0 (wp_ret ?_))))))); exact I9 G (rg 8) (by show _ = mR (rg 8) (A5 c s E); unfold A5; have e1 : ((i5 c s).pc : Int) = (s.pc) := (by rw [hst.1]); have e2 : ((i5 c s).regs : List Int) = (s.regs) := (by rw [hst.1]); have e3 : ((i5 c s).mem.vals : List Int) = (s.mem.vals) := (by rw [hst.1]); have e4 : ((i5 c s).mem.arrs : List (List Int)) = (s.mem.arrs) := (by rw [hst.1]); rw [e1, e2, e3, e4, ← hE, hst.2] <;> rfl)
            · have q10 := eq_of_beq h10; have hst := bH1 (c := c) (s := s) (show (c.list.getD s.pc.toNat bW7).op = 11 by omega); have hfi := f11 (by omega); refine rT G _ h10 (J0 G d9 [0, 1, 2, 3, 4, 5, 6, 73] (M8 s :: .row 3 (D.ints s.regs) :: (A9 c s [.row 71 (D.events ([(5, s.pc)] ++ [] ++ ([(4, s.regs.getD (c.list.getD s.pc.toNat bW7).a.toNat 0)] ++ [])))])) ((0, .ptr 0 0) :: (C7 [(8, iA (s.pc + 1))])) (iX ((c.list.getD s.pc.toNat bW7).a) ((c.list.getD s.pc.toNat bW7).a.toNat) s.regs.length ((([((5 : Int), s.pc)] ++ []).length + ([((4 : Int), s.regs.getD (c.list.getD s.pc.toNat bW7).a.toNat (0 : Int))] ++ []).length ≤ (9223372036854775807 : Nat)) :: (((([((5 : Int), s.pc)] ++ []).length + ([((4 : Int), s.regs.getD (c.list.getD s.pc.toNat bW7).a.toNat (0 : Int))] ++ []).length) * (16 : Nat) ≤ (140737488355328 : Nat)) :: []))) (iK (by omega) ⟨(by simp [hc, hs, m4, m5, w3, w4, h0, h1, h2, h3, h4, h5, h6, h7, h8, h9, h10]), ⟨(by simp [hc, hs, m4, m5, w3, w4, h0, h1, h2, h3, h4, h5, h6, h7, h8, h9, h10]), bY1⟩⟩) fun G => i8 (b0 (wp_seq (i9 G d9 (rg 8) (Y7 s :: .row 3 (D.ints s.regs) :: (A9 c s [.row 71 (D.events ([(5, s.pc)] ++ [] ++ ([(4, s.regs.getD (c.list.getD s.pc.toNat bW7).a.toNat 0)] ++ [])))])) (C7 []) fun G => b0 (wp_seq (l0 G d9 [(4, .ref 7)] fun G => b0 (wp_ret ?_))))))); exact I9 G (rg 8) (by show _ = mR (rg 8) (A5 c s E); unfold A5; have e1 : ((i5 c s).pc : Int) = (s.pc + 1) := (by rw [hst.1]); have e2 : ((i5 c s).regs : List Int) = (s.regs) := (by rw [hst.1]); have e3 : ((i5 c s).mem.vals : List Int) = (s.mem.vals) := (by rw [hst.1]); have e4 : ((i5 c s).mem.arrs : List (List Int)) = (s.mem.arrs) := (by rw [hst.1]); rw [e1, e2, e3, e4, ← hE, hst.2] <;> rfl)
           ·
            have q9 := eq_of_beq h9; have hfi := f10 (by omega); have hv10 : 0 ≤ s.regs.getD (c.list.getD s.pc.toNat bW7).a.toNat 0 ∧ s.regs.getD (c.list.getD s.pc.toNat bW7).a.toNat 0 ≤ 255 := hrv _; have hgs := bA5 (l := s.regs) (i := (c.list.getD s.pc.toNat bW7).a.toNat) (v := (s.regs.getD (c.list.getD s.pc.toNat bW7).a.toNat 0 + 255).tmod 256) (by omega); refine rT G _ h9 (wp_seq (F4 G d9 [0, 0, 2, 0, 0, 16, 56, 120, 248, 504, 1023, 2047] (rg 9) (M8 s :: .row 3 (D.ints (aL3 c s)) :: (A9 c s [aL2 c s, G9 s])) (T5 s []) (iX ((c.list.getD s.pc.toNat bW7).a) ((c.list.getD s.pc.toNat bW7).a.toNat) s.regs.length ((wO (s.regs.getD (c.list.getD s.pc.toNat bW7).a.toNat (0 : Int) + 255)) :: (((256 : Int) ≠ 0) :: (iX ((c.list.getD s.pc.toNat bW7).a) ((c.list.getD s.pc.toNat bW7).a.toNat) s.regs.length [])))) (iK (by omega) ⟨oW (by omega), ⟨(by omega), (iK (by omega) bY1)⟩⟩) fun G => b0 (wp_seq (B5 G d9 [(215, bA ((aL3 c s).getD (c.list.getD s.pc.toNat bW7).a.toNat 0 != 0))] (iX ((c.list.getD s.pc.toNat bW7).a) ((c.list.getD s.pc.toNat bW7).a.toNat) ((s.regs.set (c.list.getD s.pc.toNat bW7).a.toNat ((s.regs.getD (c.list.getD s.pc.toNat bW7).a.toNat (0 : Int) + 255).tmod (256 : Int))).length) []) (iK (by rw [bY9]; omega) bY1) fun G => b0 (rcN (u := ((s.regs.set (c.list.getD s.pc.toNat bW7).a.toNat ((s.regs.getD (c.list.getD s.pc.toNat bW7).a.toNat (0 : Int) + 255).tmod (256 : Int))).getD (c.list.getD s.pc.toNat bW7).a.toNat (0 : Int))) (v := (0 : Int)) G (fun h12 q12 => ?_) fun h12 q12 => ?_)))))
            · refine wp_skip (i8 (b0 (wp_seq (i9 G d9 [0, 1, 2, 3, 4, 5, 6, 8] (Y7 s :: .row 3 (D.ints (aL3 c s)) :: (A9 c s [G9 s])) (C7 []) fun G => b0 (wp_seq (l0 G d9 [(4, .ref 7)] fun G => b0 (wp_ret ?_))))))); exact I9 G (rg 8) (by show _ = mR (rg 8) (A5 c s E); unfold A5; have e1 : ((i5 c s).pc : Int) = (s.pc + 1) := (by rw [(ar5 (by omega) (by omega)).1]); have e2 : ((i5 c s).regs : List Int) = (s.regs.set (c.list.getD s.pc.toNat bW7).a.toNat ((s.regs.getD (c.list.getD s.pc.toNat bW7).a.toNat 0 + 255).tmod 256)) := (by rw [(ar5 (by omega) (by omega)).1]); have e3 : ((i5 c s).mem.vals : List Int) = (s.mem.vals) := (by rw [(ar5 (by omega) (by omega)).1]); have e4 : ((i5 c s).mem.arrs : List (List Int)) = (s.mem.arrs) := (by rw [(ar5 (by omega) (by omega)).1]); rw [e1, e2, e3, e4, ← hE, (ar5 (by omega) (by omega)).2] <;> rfl)
            · refine i9 G d9 [0, 1, 2, 3, 4, 5, 6, 8] (M8 s :: .row 3 (D.ints (aL3 c s)) :: (A9 c s [G9 s])) ((0, .ptr 0 0) :: (C7 [(8, iA (c.list.getD s.pc.toNat bW7).b)])) fun G => i8 (b0 (wp_seq (i9 G d9 (rg 8) (.box [iA (c.list.getD s.pc.toNat bW7).b, .ref 1, .ref 2, .tref 3] :: .row 3 (D.ints (aL3 c s)) :: (A9 c s [G9 s])) (C7 []) fun G => b0 (wp_seq (l0 G d9 [(4, .ref 7)] fun G => b0 (wp_ret ?_)))))); exact I9 G (rg 8) (by show _ = mR (rg 8) (A5 c s E); unfold A5; have e1 : ((i5 c s).pc : Int) = ((c.list.getD s.pc.toNat bW7).b) := (by rw [(ar4 (by omega) (by omega)).1]); have e2 : ((i5 c s).regs : List Int) = (s.regs.set (c.list.getD s.pc.toNat bW7).a.toNat ((s.regs.getD (c.list.getD s.pc.toNat bW7).a.toNat 0 + 255).tmod 256)) := (by rw [(ar4 (by omega) (by omega)).1]); have e3 : ((i5 c s).mem.vals : List Int) = (s.mem.vals) := (by rw [(ar4 (by omega) (by omega)).1]); have e4 : ((i5 c s).mem.arrs : List (List Int)) = (s.mem.arrs) := (by rw [(ar4 (by omega) (by omega)).1]); rw [e1, e2, e3, e4, ← hE, (ar4 (by omega) (by omega)).2] <;> rfl)
          ·
           have q8 := eq_of_beq h8; have hfi := f9 (by omega); refine rT G _ h8 (wp_seq (B5 G d9 [(194, bA (s.regs.getD (c.list.getD s.pc.toNat bW7).a.toNat 0 == 0))] (iX ((c.list.getD s.pc.toNat bW7).a) ((c.list.getD s.pc.toNat bW7).a.toNat) s.regs.length []) (iK (by omega) bY1) fun G => b0 (M4 G (fun h13 q13 => ?_) fun h13 q13 => ?_)))
           · refine wp_skip (i8 (b0 (wp_seq (i9 G d9 [0, 1, 2, 3, 4, 5, 6, 8] (Y7 s :: .row 3 (D.ints s.regs) :: (A9 c s [G9 s])) (C7 []) fun G => b0 (wp_seq (l0 G d9 [(4, .ref 7)] fun G => b0 (wp_ret ?_))))))); exact I9 G (rg 8) (by show _ = mR (rg 8) (A5 c s E); unfold A5; have e1 : ((i5 c s).pc : Int) = (s.pc + 1) := (by rw [(aK3 (by omega) (by omega)).1]); have e2 : ((i5 c s).regs : List Int) = (s.regs) := (by rw [(aK3 (by omega) (by omega)).1]); have e3 : ((i5 c s).mem.vals : List Int) = (s.mem.vals) := (by rw [(aK3 (by omega) (by omega)).1]); have e4 : ((i5 c s).mem.arrs : List (List Int)) = (s.mem.arrs) := (by rw [(aK3 (by omega) (by omega)).1]); rw [e1, e2, e3, e4, ← hE, (aK3 (by omega) (by omega)).2] <;> rfl)
           · refine i9 G d9 [0, 1, 2, 3, 4, 5, 6, 8] (M8 s :: .row 3 (D.ints s.regs) :: (A9 c s [G9 s])) ((0, .ptr 0 0) :: (C7 [(8, iA (c.list.getD s.pc.toNat bW7).b)])) fun G => i8 (b0 (wp_seq (i9 G d9 (rg 8) (.box [iA (c.list.getD s.pc.toNat bW7).b, .ref 1, .ref 2, .tref 3] :: .row 3 (D.ints s.regs) :: (A9 c s [G9 s])) (C7 []) fun G => b0 (wp_seq (l0 G d9 [(4, .ref 7)] fun G => b0 (wp_ret ?_)))))); exact I9 G (rg 8) (by show _ = mR (rg 8) (A5 c s E); unfold A5; have e1 : ((i5 c s).pc : Int) = ((c.list.getD s.pc.toNat bW7).b) := (by rw [(aK2 (by omega) (by omega)).1]); have e2 : ((i5 c s).regs : List Int) = (s.regs) := (by rw [(aK2 (by omega) (by omega)).1]); have e3 : ((i5 c s).mem.vals : List Int) = (s.mem.vals) := (by rw [(aK2 (by omega) (by omega)).1]); have e4 : ((i5 c s).mem.arrs : List (List Int)) = (s.mem.arrs) := (by rw [(aK2 (by omega) (by omega)).1]); rw [e1, e2, e3, e4, ← hE, (aK2 (by omega) (by omega)).2] <;> rfl)
         · have q7 := eq_of_beq h7; have hst := bQ2 (c := c) (s := s) (show (c.list.getD s.pc.toNat bW7).op = 8 by omega); refine rT G _ h7 (i9 G d9 [0, 1, 2, 3, 4, 5, 6, 8] (M8 s :: .row 3 (D.ints s.regs) :: (A9 c s [G9 s])) ((0, .ptr 0 0) :: (C7 [(8, iA (c.list.getD s.pc.toNat bW7).a)])) fun G => i8 (b0 (wp_seq (i9 G d9 (rg 8) (.box [iA (c.list.getD s.pc.toNat bW7).a, .ref 1, .ref 2, .tref 3] :: .row 3 (D.ints s.regs) :: (A9 c s [G9 s])) (C7 []) fun G => b0 (wp_seq (l0 G d9 [(4, .ref 7)] fun G => b0 (wp_ret ?_))))))); exact I9 G (rg 8) (by show _ = mR (rg 8) (A5 c s E); unfold A5; have e1 : ((i5 c s).pc : Int) = ((c.list.getD s.pc.toNat bW7).a) := (by rw [hst.1]); have e2 : ((i5 c s).regs : List Int) = (s.regs) := (by rw [hst.1]); have e3 : ((i5 c s).mem.vals : List Int) = (s.mem.vals) := (by rw [hst.1]); have e4 : ((i5 c s).mem.arrs : List (List Int)) = (s.mem.arrs) := (by rw [hst.1]); rw [e1, e2, e3, e4, ← hE, hst.2] <;> rfl)
        ·
         have q6 := eq_of_beq h6; have hfi := f7 (by omega); refine rT G _ h6 (wp_seq (B5 G d9 [(164, bA (s.regs.getD (c.list.getD s.pc.toNat bW7).b.toNat 0 != 0))] (iX ((c.list.getD s.pc.toNat bW7).b) ((c.list.getD s.pc.toNat bW7).b.toNat) s.regs.length []) (iK (by omega) bY1) fun G => b0 (rcN G (fun h14 q14 => ?_) fun h14 q14 => ?_)))
         · refine F4 G d9 [0, 0, 2, 0, 0, 16, 56, 120, 255, 511] [0, 1, 2, 3, 4, 5, 6, 8] (M8 s :: .row 3 (D.ints (s.regs.set (c.list.getD s.pc.toNat bW7).a.toNat (s.regs.getD (c.list.getD s.pc.toNat bW7).d.toNat 0))) :: (A9 c s [G9 s])) ((0, .ptr 0 0) :: (C7 [(8, iA (s.pc + 1))])) (iX ((c.list.getD s.pc.toNat bW7).d) ((c.list.getD s.pc.toNat bW7).d.toNat) s.regs.length (iX ((c.list.getD s.pc.toNat bW7).a) ((c.list.getD s.pc.toNat bW7).a.toNat) s.regs.length [])) (iK (by omega) (iK (by omega) bY1)) fun G => i8 (b0 (wp_seq (i9 G d9 (rg 8) (Y7 s :: .row 3 (D.ints (s.regs.set (c.list.getD s.pc.toNat bW7).a.toNat (s.regs.getD (c.list.getD s.pc.toNat bW7).d.toNat 0))) :: (A9 c s [G9 s])) (C7 []) fun G => b0 (wp_seq (l0 G d9 [(4, .ref 7)] fun G => b0 (wp_ret ?_)))))); exact I9 G (rg 8) (by show _ = mR (rg 8) (A5 c s E); unfold A5; have e1 : ((i5 c s).pc : Int) = (s.pc + 1) := (by rw [(aK5 (by omega) (by omega)).1]); have e2 : ((i5 c s).regs : List Int) = (s.regs.set (c.list.getD s.pc.toNat bW7).a.toNat (s.regs.getD (c.list.getD s.pc.toNat bW7).d.toNat 0)) := (by rw [(aK5 (by omega) (by omega)).1]); have e3 : ((i5 c s).mem.vals : List Int) = (s.mem.vals) := (by rw [(aK5 (by omega) (by omega)).1]); have e4 : ((i5 c s).mem.arrs : List (List Int)) = (s.mem.arrs) := (by rw [(aK5 (by omega) (by omega)).1]); rw [e1, e2, e3, e4, ← hE, (aK5 (by omega) (by omega)).2] <;> rfl)
         · refine F4 G d9 [0, 0, 2, 0, 0, 16, 56, 120, 255, 511] [0, 1, 2, 3, 4, 5, 6, 8] (M8 s :: .row 3 (D.ints (s.regs.set (c.list.getD s.pc.toNat bW7).a.toNat (ag6 c s))) :: (A9 c s [G9 s])) ((0, .ptr 0 0) :: (C7 [(8, iA (s.pc + 1))])) (iX ((c.list.getD s.pc.toNat bW7).c) ((c.list.getD s.pc.toNat bW7).c.toNat) s.regs.length (iX ((c.list.getD s.pc.toNat bW7).a) ((c.list.getD s.pc.toNat bW7).a.toNat) s.regs.length [])) (iK (by omega) (iK (by omega) bY1)) fun G => i8 (b0 (wp_seq (i9 G d9 (rg 8) (Y7 s :: .row 3 (D.ints (s.regs.set (c.list.getD s.pc.toNat bW7).a.toNat (ag6 c s))) :: (A9 c s [G9 s])) (C7 []) fun G => b0 (wp_seq (l0 G d9 [(4, .ref 7)] fun G => b0 (wp_ret ?_)))))); exact I9 G (rg 8) (by show _ = mR (rg 8) (A5 c s E); unfold A5; have e1 : ((i5 c s).pc : Int) = (s.pc + 1) := (by rw [(aK4 (by omega) (by omega)).1]); have e2 : ((i5 c s).regs : List Int) = (s.regs.set (c.list.getD s.pc.toNat bW7).a.toNat (s.regs.getD (c.list.getD s.pc.toNat bW7).c.toNat 0)) := (by rw [(aK4 (by omega) (by omega)).1]); have e3 : ((i5 c s).mem.vals : List Int) = (s.mem.vals) := (by rw [(aK4 (by omega) (by omega)).1]); have e4 : ((i5 c s).mem.arrs : List (List Int)) = (s.mem.arrs) := (by rw [(aK4 (by omega) (by omega)).1]); rw [e1, e2, e3, e4, ← hE, (aK4 (by omega) (by omega)).2] <;> rfl)
       · have q5 := eq_of_beq h5; have hst := bQ3 (c := c) (s := s) (show (c.list.getD s.pc.toNat bW7).op = 6 by omega); have hfi := f6 (by omega); refine rT G _ h5 (F4 G (t0 15 [] (ba8 ((c.list.getD s.pc.toNat bW7).b) (s.regs.getD (c.list.getD s.pc.toNat bW7).c.toNat 0) (s.regs.getD (c.list.getD s.pc.toNat bW7).d.toNat 0) (hrv _) (hrv _))) [0, 0, 2, 0, 8, 0, 0, 64, 224, 480, 0, 0, 2048, 7168, 15360, 32760, 65535, 131071] [0, 1, 2, 3, 4, 5, 6, 8] (M8 s :: bx6 c s :: (A9 c s [G9 s])) ((0, .ptr 0 0) :: (C7 [(8, iA (s.pc + 1))])) (iX ((c.list.getD s.pc.toNat bW7).c) ((c.list.getD s.pc.toNat bW7).c.toNat) s.regs.length (iX ((c.list.getD s.pc.toNat bW7).d) ((c.list.getD s.pc.toNat bW7).d.toNat) s.regs.length (iX ((c.list.getD s.pc.toNat bW7).a) ((c.list.getD s.pc.toNat bW7).a.toNat) s.regs.length []))) (iK (by omega) (iK (by omega) (iK (by omega) bY1))) fun G => i8 (b0 (wp_seq (i9 G d9 (rg 8) (Y7 s :: bx6 c s :: (A9 c s [G9 s])) (C7 []) fun G => b0 (wp_seq (l0 G d9 [(4, .ref 7)] fun G => b0 (wp_ret ?_))))))); exact I9 G (rg 8) (by show _ = mR (rg 8) (A5 c s E); unfold A5; have e1 : ((i5 c s).pc : Int) = (s.pc + 1) := (by rw [hst.1]); have e2 : ((i5 c s).regs : List Int) = (s.regs.set (c.list.getD s.pc.toNat bW7).a.toNat (H7 (c.list.getD s.pc.toNat bW7).b (s.regs.getD (c.list.getD s.pc.toNat bW7).c.toNat 0) (s.regs.getD (c.list.getD s.pc.toNat bW7).d.toNat 0))) := (by rw [hst.1]); have e3 : ((i5 c s).mem.vals : List Int) = (s.mem.vals) := (by rw [hst.1]); have e4 : ((i5 c s).mem.arrs : List (List Int)) = (s.mem.arrs) := (by rw [hst.1]); rw [e1, e2, e3, e4, ← hE, hst.2] <;> rfl)
      ·
       have q4 := eq_of_beq h4; have hst := bQ4 (c := c) (s := s) (show (c.list.getD s.pc.toNat bW7).op = 5 by omega); have hfi := f5 (by omega); have hr4 := bJ4 m5 (i := (c.list.getD s.pc.toNat bW7).a) (by omega) (by omega); have htm := tmV (hrv (c.list.getD s.pc.toNat bW7).b.toNat); refine rT G _ h4 (wp_seq (B5 G d9 [(10, iA (as0 c s))] (iX ((c.list.getD s.pc.toNat bW7).b) ((c.list.getD s.pc.toNat bW7).b.toNat) s.regs.length []) (iK (by omega) bY1) fun G => b0 (wp_seq (J0 G (t0 4 [] (aE0 ((c.list.getD s.pc.toNat bW7).a) (s.regs.getD (c.list.getD s.pc.toNat bW7).b.toNat 0) (by omega) (hrv _))) [0, 1, 2, 3, 4, 5, 6, 7, 65] (M8 s :: .row 3 (D.ints s.regs) :: (A9 c s [aL2 c s, .row 71 (D.events ([(5, s.pc)] ++ [] ++ ([(3, (c.list.getD s.pc.toNat bW7).a * 4 + (as0 c s).tmod 4)] ++ [])))])) (T5 s [(10, iA (as0 c s))]) [([((5 : Int), s.pc)] ++ []).length + ([((3 : Int), (c.list.getD s.pc.toNat bW7).a * 4 + (s.regs.getD (c.list.getD s.pc.toNat bW7).b.toNat (0 : Int)).tmod (4 : Int))] ++ []).length ≤ (9223372036854775807 : Nat), (([((5 : Int), s.pc)] ++ []).length + ([((3 : Int), (c.list.getD s.pc.toNat bW7).a * 4 + (s.regs.getD (c.list.getD s.pc.toNat bW7).b.toNat (0 : Int)).tmod (4 : Int))] ++ []).length) * (16 : Nat) ≤ (140737488355328 : Nat)] ⟨(by simp [hc, hs, m4, m5, w3, w4, h0, h1, h2, h3, h4]), (by simp [hc, hs, m4, m5, w3, w4, h0, h1, h2, h3, h4]), bY1⟩ fun G => b0 (F4 G d9 [0, 1, 3, 7, 15, 0, 32, 127, 255, 0, 512, 0, 0, 4096, 14336, 30720, 65535, 131071] [0, 1, 2, 3, 4, 5, 6, 8, 73] [.box [iA s.pc, .ref 1, .ref 2, .tref 3], .row 3 (D.ints s.regs), .row 3 (D.ints s.mem.vals), .hole 8 (c.list.getD s.pc.toNat bW7).a.toNat s.mem.arrs, dI c.vars, dI c.arrays, dN c.list, .row 71 (D.events ([(5, s.pc)] ++ [] ++ ([(3, (c.list.getD s.pc.toNat bW7).a * 4 + (s.regs.getD (c.list.getD s.pc.toNat bW7).b.toNat 0).tmod 4)] ++ []))), .row 3 (D.ints ((s.mem.arrs.getD (c.list.getD s.pc.toNat bW7).a.toNat []).set ((s.regs.getD (c.list.getD s.pc.toNat bW7).b.toNat 0).tmod 4).toNat (s.regs.getD (c.list.getD s.pc.toNat bW7).c.toNat 0)))] ((0, .ptr 0 0) :: (C7 [(8, iA (s.pc + 1))])) (iX ((c.list.getD s.pc.toNat bW7).a) ((c.list.getD s.pc.toNat bW7).a.toNat) s.mem.arrs.length (((4 : Int) ≠ 0) :: (iX ((c.list.getD s.pc.toNat bW7).c) ((c.list.getD s.pc.toNat bW7).c.toNat) s.regs.length (iX ((s.regs.getD (c.list.getD s.pc.toNat bW7).b.toNat (0 : Int)).tmod (4 : Int)) (((s.regs.getD (c.list.getD s.pc.toNat bW7).b.toNat (0 : Int)).tmod (4 : Int)).toNat) ((s.mem.arrs.getD (c.list.getD s.pc.toNat bW7).a.toNat []).length) [])))) (iK (by omega) ⟨(by omega), (iK (by omega) (iK (by omega) bY1))⟩) fun G => ?_))))); replace G := G.heal 3 8 ((c.list.getD s.pc.toNat bW7).a.toNat) s.mem.arrs ((s.mem.arrs.getD (c.list.getD s.pc.toNat bW7).a.toNat []).set ((s.regs.getD (c.list.getD s.pc.toNat bW7).b.toNat 0).tmod 4).toNat (s.regs.getD (c.list.getD s.pc.toNat bW7).c.toNat 0)) [.box [iA s.pc, .ref 1, .ref 2, .tref 3], .row 3 (D.ints s.regs), .row 3 (D.ints s.mem.vals), .tree (D.rows (s.mem.arrs.set (c.list.getD s.pc.toNat bW7).a.toNat ((s.mem.arrs.getD (c.list.getD s.pc.toNat bW7).a.toNat []).set ((s.regs.getD (c.list.getD s.pc.toNat bW7).b.toNat 0).tmod 4).toNat (s.regs.getD (c.list.getD s.pc.toNat bW7).c.toNat 0)))), dI c.vars, dI c.arrays, dN c.list, .row 71 (D.events ([(5, s.pc)] ++ [] ++ ([(3, (c.list.getD s.pc.toNat bW7).a * 4 + (s.regs.getD (c.list.getD s.pc.toNat bW7).b.toNat 0).tmod 4)] ++ []))), .dead]
       refine i8 (b0 (wp_seq (i9 G d9 (rg 8) [Y7 s, .row 3 (D.ints s.regs), .row 3 (D.ints s.mem.vals), .tree (D.rows (s.mem.arrs.set (c.list.getD s.pc.toNat bW7).a.toNat ((s.mem.arrs.getD (c.list.getD s.pc.toNat bW7).a.toNat []).set ((as0 c s).tmod 4).toNat (ag6 c s)))), dI c.vars, dI c.arrays, dN c.list, .row 71 (D.events ([(5, s.pc)] ++ [] ++ ([(3, (c.list.getD s.pc.toNat bW7).a * 4 + (as0 c s).tmod 4)] ++ [])))] (C7 []) fun G => b0 (wp_seq (l0 G d9 [(4, .ref 7)] fun G => b0 (wp_ret ?_)))))); exact I9 G (rg 8) (by show _ = mR (rg 8) (A5 c s E); unfold A5; have e1 : ((i5 c s).pc : Int) = (s.pc + 1) := (by rw [hst.1]); have e2 : ((i5 c s).regs : List Int) = (s.regs) := (by rw [hst.1]); have e3 : ((i5 c s).mem.vals : List Int) = (s.mem.vals) := (by rw [hst.1]); have e4 : ((i5 c s).mem.arrs : List (List Int)) = (s.mem.arrs.set (c.list.getD s.pc.toNat bW7).a.toNat ((s.mem.arrs.getD (c.list.getD s.pc.toNat bW7).a.toNat []).set ((s.regs.getD (c.list.getD s.pc.toNat bW7).b.toNat 0).tmod 4).toNat (s.regs.getD (c.list.getD s.pc.toNat bW7).c.toNat 0))) := (by rw [hst.1]); rw [e1, e2, e3, e4, ← hE, hst.2] <;> rfl)
     ·
      have q3 := eq_of_beq h3; have hst := bQ5 (c := c) (s := s) (show (c.list.getD s.pc.toNat bW7).op = 4 by omega); have hfi := f4 (by omega); have hr4 := bJ4 m5 (i := (c.list.getD s.pc.toNat bW7).b) (by omega) (by omega); have htm := tmV (hrv (c.list.getD s.pc.toNat bW7).c.toNat); refine rT G _ h3 (wp_seq (B5 G d9 [(9, iA (ag6 c s))] (iX ((c.list.getD s.pc.toNat bW7).c) ((c.list.getD s.pc.toNat bW7).c.toNat) s.regs.length []) (iK (by omega) bY1) fun G => b0 (wp_seq (J0 G (t0 4 [] (aE0 ((c.list.getD s.pc.toNat bW7).b) (s.regs.getD (c.list.getD s.pc.toNat bW7).c.toNat 0) (by omega) (hrv _))) [0, 1, 2, 3, 4, 5, 6, 7, 65] (M8 s :: .row 3 (D.ints s.regs) :: (A9 c s [aL2 c s, .row 71 (D.events ([(5, s.pc)] ++ [] ++ ([(2, (c.list.getD s.pc.toNat bW7).b * 4 + (ag6 c s).tmod 4)] ++ [])))])) (T5 s [(9, iA (ag6 c s))]) [([((5 : Int), s.pc)] ++ []).length + ([((2 : Int), (c.list.getD s.pc.toNat bW7).b * 4 + (s.regs.getD (c.list.getD s.pc.toNat bW7).c.toNat (0 : Int)).tmod (4 : Int))] ++ []).length ≤ (9223372036854775807 : Nat), (([((5 : Int), s.pc)] ++ []).length + ([((2 : Int), (c.list.getD s.pc.toNat bW7).b * 4 + (s.regs.getD (c.list.getD s.pc.toNat bW7).c.toNat (0 : Int)).tmod (4 : Int))] ++ []).length) * (16 : Nat) ≤ (140737488355328 : Nat)] ⟨(by simp [hc, hs, m4, m5, w3, w4, h0, h1, h2, h3]), (by simp [hc, hs, m4, m5, w3, w4, h0, h1, h2, h3]), bY1⟩ fun G => b0 (F4 G d9 [0, 0, 2, 0, 8, 24, 56, 120, 0, 256, 1016, 2040, 0, 4096, 16376, 32760, 65535, 131071] [0, 1, 2, 3, 4, 5, 6, 8, 97] [.box [iA s.pc, .ref 1, .ref 2, .tref 3], .row 3 (D.ints (s.regs.set (c.list.getD s.pc.toNat bW7).a.toNat ((s.mem.arrs.getD (c.list.getD s.pc.toNat bW7).b.toNat []).getD ((s.regs.getD (c.list.getD s.pc.toNat bW7).c.toNat 0).tmod 4).toNat 0))), .row 3 (D.ints s.mem.vals), .hole 8 (c.list.getD s.pc.toNat bW7).b.toNat s.mem.arrs, dI c.vars, dI c.arrays, dN c.list, .row 71 (D.events ([(5, s.pc)] ++ [] ++ ([(2, (c.list.getD s.pc.toNat bW7).b * 4 + (s.regs.getD (c.list.getD s.pc.toNat bW7).c.toNat 0).tmod 4)] ++ []))), .row 3 (D.ints (s.mem.arrs.getD (c.list.getD s.pc.toNat bW7).b.toNat []))] ((0, .ptr 0 0) :: (C7 [(8, iA (s.pc + 1))])) (iX ((c.list.getD s.pc.toNat bW7).b) ((c.list.getD s.pc.toNat bW7).b.toNat) s.mem.arrs.length (((4 : Int) ≠ 0) :: (iX ((s.regs.getD (c.list.getD s.pc.toNat bW7).c.toNat (0 : Int)).tmod (4 : Int)) (((s.regs.getD (c.list.getD s.pc.toNat bW7).c.toNat (0 : Int)).tmod (4 : Int)).toNat) ((s.mem.arrs.getD (c.list.getD s.pc.toNat bW7).b.toNat []).length) (iX ((c.list.getD s.pc.toNat bW7).a) ((c.list.getD s.pc.toNat bW7).a.toNat) s.regs.length [])))) (iK (by omega) ⟨(by omega), (iK (by omega) (iK (by omega) bY1))⟩) fun G => ?_))))); replace G := G.heal0 3 8 ((c.list.getD s.pc.toNat bW7).b.toNat) s.mem.arrs (.box [iA s.pc, .ref 1, .ref 2, .tref 3] :: .row 3 (D.ints (s.regs.set (c.list.getD s.pc.toNat bW7).a.toNat ((s.mem.arrs.getD (c.list.getD s.pc.toNat bW7).b.toNat []).getD ((s.regs.getD (c.list.getD s.pc.toNat bW7).c.toNat 0).tmod 4).toNat 0))) :: (A9 c s [.row 71 (D.events ([(5, s.pc)] ++ [] ++ ([(2, (c.list.getD s.pc.toNat bW7).b * 4 + (s.regs.getD (c.list.getD s.pc.toNat bW7).c.toNat 0).tmod 4)] ++ []))), .dead]))
      refine i8 (b0 (wp_seq (i9 G d9 (rg 8) (Y7 s :: .row 3 (D.ints (s.regs.set (c.list.getD s.pc.toNat bW7).a.toNat ((s.mem.arrs.getD (c.list.getD s.pc.toNat bW7).b.toNat []).getD ((ag6 c s).tmod 4).toNat 0))) :: (A9 c s [.row 71 (D.events ([(5, s.pc)] ++ [] ++ ([(2, (c.list.getD s.pc.toNat bW7).b * 4 + (ag6 c s).tmod 4)] ++ [])))])) (C7 []) fun G => b0 (wp_seq (l0 G d9 [(4, .ref 7)] fun G => b0 (wp_ret ?_)))))); exact I9 G (rg 8) (by show _ = mR (rg 8) (A5 c s E); unfold A5; have e1 : ((i5 c s).pc : Int) = (s.pc + 1) := (by rw [hst.1]); have e2 : ((i5 c s).regs : List Int) = (s.regs.set (c.list.getD s.pc.toNat bW7).a.toNat ((s.mem.arrs.getD (c.list.getD s.pc.toNat bW7).b.toNat []).getD ((s.regs.getD (c.list.getD s.pc.toNat bW7).c.toNat 0).tmod 4).toNat 0)) := (by rw [hst.1]); have e3 : ((i5 c s).mem.vals : List Int) = (s.mem.vals) := (by rw [hst.1]); have e4 : ((i5 c s).mem.arrs : List (List Int)) = (s.mem.arrs) := (by rw [hst.1]); rw [e1, e2, e3, e4, ← hE, hst.2] <;> rfl)
    · have q2 := eq_of_beq h2; have hst := bQ6 (c := c) (s := s) (show (c.list.getD s.pc.toNat bW7).op = 3 by omega); have hfi := f3 (by omega); refine rT G _ h2 (F4 G d9 [0, 1, 3, 7, 15, 0, 32, 0, 0, 256, 896, 1920, 4095, 8191] [0, 1, 2, 3, 4, 5, 6, 8] [M8 s, .row 3 (D.ints s.regs), .row 3 (D.ints (s.mem.vals.set (c.list.getD s.pc.toNat bW7).a.toNat (as0 c s))), .tree (D.rows s.mem.arrs), dI c.vars, dI c.arrays, dN c.list, G9 s] ((0, .ptr 0 0) :: (C7 [(8, iA (s.pc + 1))])) (iX ((c.list.getD s.pc.toNat bW7).b) ((c.list.getD s.pc.toNat bW7).b.toNat) s.regs.length (iX ((c.list.getD s.pc.toNat bW7).a) ((c.list.getD s.pc.toNat bW7).a.toNat) s.mem.vals.length [])) (iK (by omega) (iK (by omega) bY1)) fun G => i8 (b0 (wp_seq (i9 G d9 (rg 8) [Y7 s, .row 3 (D.ints s.regs), .row 3 (D.ints (s.mem.vals.set (c.list.getD s.pc.toNat bW7).a.toNat (as0 c s))), .tree (D.rows s.mem.arrs), dI c.vars, dI c.arrays, dN c.list, G9 s] (C7 []) fun G => b0 (wp_seq (l0 G d9 [(4, .ref 7)] fun G => b0 (wp_ret ?_))))))); exact I9 G (rg 8) (by show _ = mR (rg 8) (A5 c s E); unfold A5; have e1 : ((i5 c s).pc : Int) = (s.pc + 1) := (by rw [hst.1]); have e2 : ((i5 c s).regs : List Int) = (s.regs) := (by rw [hst.1]); have e3 : ((i5 c s).mem.vals : List Int) = (s.mem.vals.set (c.list.getD s.pc.toNat bW7).a.toNat (s.regs.getD (c.list.getD s.pc.toNat bW7).b.toNat 0)) := (by rw [hst.1]); have e4 : ((i5 c s).mem.arrs : List (List Int)) = (s.mem.arrs) := (by rw [hst.1]); rw [e1, e2, e3, e4, ← hE, hst.2] <;> rfl)
   · have q1 := eq_of_beq h1; have hst := bQ7 (c := c) (s := s) (show (c.list.getD s.pc.toNat bW7).op = 2 by omega); have hfi := f2 (by omega); refine rT G _ h1 (F4 G d9 [0, 0, 2, 0, 8, 24, 56, 120, 0, 256, 1016, 2040, 4095, 8191] [0, 1, 2, 3, 4, 5, 6, 8] (M8 s :: .row 3 (D.ints (s.regs.set (c.list.getD s.pc.toNat bW7).a.toNat (s.mem.vals.getD (c.list.getD s.pc.toNat bW7).b.toNat 0))) :: (A9 c s [G9 s])) ((0, .ptr 0 0) :: (C7 [(8, iA (s.pc + 1))])) (iX ((c.list.getD s.pc.toNat bW7).b) ((c.list.getD s.pc.toNat bW7).b.toNat) s.mem.vals.length (iX ((c.list.getD s.pc.toNat bW7).a) ((c.list.getD s.pc.toNat bW7).a.toNat) s.regs.length [])) (iK (by omega) (iK (by omega) bY1)) fun G => i8 (b0 (wp_seq (i9 G d9 (rg 8) (Y7 s :: .row 3 (D.ints (s.regs.set (c.list.getD s.pc.toNat bW7).a.toNat (s.mem.vals.getD (c.list.getD s.pc.toNat bW7).b.toNat 0))) :: (A9 c s [G9 s])) (C7 []) fun G => b0 (wp_seq (l0 G d9 [(4, .ref 7)] fun G => b0 (wp_ret ?_))))))); exact I9 G (rg 8) (by show _ = mR (rg 8) (A5 c s E); unfold A5; have e1 : ((i5 c s).pc : Int) = (s.pc + 1) := (by rw [hst.1]); have e2 : ((i5 c s).regs : List Int) = (s.regs.set (c.list.getD s.pc.toNat bW7).a.toNat (s.mem.vals.getD (c.list.getD s.pc.toNat bW7).b.toNat 0)) := (by rw [hst.1]); have e3 : ((i5 c s).mem.vals : List Int) = (s.mem.vals) := (by rw [hst.1]); have e4 : ((i5 c s).mem.arrs : List (List Int)) = (s.mem.arrs) := (by rw [hst.1]); rw [e1, e2, e3, e4, ← hE, hst.2] <;> rfl)
  · have q0 := eq_of_beq h0; have hst := bQ8 (c := c) (s := s) (show (c.list.getD s.pc.toNat bW7).op = 1 by omega); have hfi := f1 (by omega); refine rT G _ h0 (J0 G d9 [0, 1, 2, 3, 4, 5, 6, 8] (M8 s :: .row 3 (D.ints (s.regs.set (c.list.getD s.pc.toNat bW7).a.toNat (c.list.getD s.pc.toNat bW7).b)) :: (A9 c s [G9 s])) ((0, .ptr 0 0) :: (C7 [(8, iA (s.pc + 1))])) (iX ((c.list.getD s.pc.toNat bW7).a) ((c.list.getD s.pc.toNat bW7).a.toNat) s.regs.length []) (iK (by omega) bY1) fun G => i8 (b0 (wp_seq (i9 G d9 (rg 8) (Y7 s :: .row 3 (D.ints (s.regs.set (c.list.getD s.pc.toNat bW7).a.toNat (c.list.getD s.pc.toNat bW7).b)) :: (A9 c s [G9 s])) (C7 []) fun G => b0 (wp_seq (l0 G d9 [(4, .ref 7)] fun G => b0 (wp_ret ?_))))))); exact I9 G (rg 8) (by show _ = mR (rg 8) (A5 c s E); unfold A5; have e1 : ((i5 c s).pc : Int) = (s.pc + 1) := (by rw [hst.1]); have e2 : ((i5 c s).regs : List Int) = (s.regs.set (c.list.getD s.pc.toNat bW7).a.toNat (c.list.getD s.pc.toNat bW7).b) := (by rw [hst.1]); have e3 : ((i5 c s).mem.vals : List Int) = (s.mem.vals) := (by rw [hst.1]); have e4 : ((i5 c s).mem.arrs : List (List Int)) = (s.mem.arrs) := (by rw [hst.1]); rw [e1, e2, e3, e4, ← hE, hst.2] <;> rfl)
theorem bF9 (c : b6) (s : n8) (hc : f8 c = true) (hs : N0 c s = true) : j8.ok Tryz.prog ⟨84, [.ptr 0 0, pA 4], stI s ++ kcS c, stI (i5 c s) ++ kcS c ++ [.row 71 (.events (B9 c s))], .ref 7⟩ := bB6 c s hc hs _ rfl
theorem bA3 (c : b6) : j8.ok Tryz.prog (V1 12 [pA 0] (kcS c) (bA (f8 c))) :=
 af5 fun φ w ρ h => (ab1 _ c w ⟨ρ 0, ρ 1, ρ 2, rfl, t4.row (h 0 _ rfl), t4.row (h 1 _ rfl), t4.row (h 2 _ rfl)⟩).mono fun e w' h => h
abbrev smO (s : n8) : List It := [.row 3 (.ints s.regs), .row 3 (.ints s.mem.vals), .tree (.rows s.mem.arrs)]
theorem bn6 (c : b6) (m : t2) : j8.ok Tryz.prog (V1 82 [.ref 0, .ref 1, mA 2] [dI c.vars, dI c.arrays, dI m.vals, dR m.arrs] (bA (G5 c.vars.length c.arrays.length m))) := a02 c.vars c.arrays m.vals m.arrs
structure Pub (vs ars : List Int) (a b : t2) : Prop where
 v : ∀ i : Nat, zB 1 (vs.getD i 0) = false → a.vals.getD i 0 = b.vals.getD i 0
 a : ∀ i : Nat, zB 1 (ars.getD i 0) = false → a.arrs.getD i [] = b.arrs.getD i []
theorem bB5 (b : List UInt8) {bit : Int} (p : j7) (m : t2) {j : Int} (hv : m.vals.length = p.vars.length) (ha : m.arrs.length = p.arrays.length) (h1 : D8 m.vals = true) (h2 : m.arrs.all P0 = true) (r0 : 0 ≤ j) (r1 : j + m.vals.length + 4 * m.arrs.length ≤ 1000000000) : G5 p.vars.length p.arrays.length (scM b bit p m j).1 = true := by
 have a1 := aC2 b bit p.vars j m.vals m.vals.length
 have a2 := at6 b bit p.arrays (y7 b bit p.vars j m.vals m.vals.length).2 m.arrs m.arrs.length
 unfold G5 scM
 dsimp only
 rw [aG5 b bit p.vars m.vals h1 r0 _ (by omega), a36 b bit p.arrays m.arrs h2 (by omega) _ (by omega), a1.1, a2.1, decide_eq_true hv, decide_eq_true ha]
 rfl
theorem a90 (w : World) : i7 (fun _ => True) (fun _ => True) w w (l6 (fun _ : Empty => Rs.none) (fun _ => undef) (o7 [])) := by
 refine (i7.start (ι := Empty ⊕ Nat) (w0 := w) (φ := fun _ => True) (ψ := fun _ => True) fun _ _ => trivial).map (fun k => some k) (fun k k' i a b => by cases a; cases b; rfl) fun k => ?_
 cases k with
 | inl e => exact e.elim
 | inr j => exact .inr rfl
theorem bc4 (w : World) : Agr (fun _ => True) (V3 (fun _ => True) (l6 (fun _ : Empty => Rs.none) (fun _ => undef) (o7 []))) w w := Agr.mono fun b _ _ => ⟨bY1, fun i => by
 cases i with
 | inl e => exact e.elim
 | inr j => exact fun h => h.elim⟩
abbrev u8s (c : List UInt8) : List Value := c.map fun b => Value.int .u8 (b.toNat : Int)
theorem bb8 {P : Program} {f : FuncId} {x : Value} {c : List UInt8} {post : List It} (hc : j8.ok P ⟨f, [.ref 0], [dY c], post, .v x⟩) (u : Value) (w : World) (hp : t4 w (fun _ => True) u c.length 1 (u8s c)) :
  Calls P f #[u] w fun e w' => e = .returned x ∧ Below w.heap.size w w' := by
 obtain ⟨ρ', g1, M2, g2⟩ := i7.dats [.sl (.bytes c)] [u] 0 (a90 w) ⟨RD.nice (.bytes c) _ _ _ _ _ (bc4 w) hp, bY1⟩ (fun _ _ => rfl) (fun _ _ _ => rfl)
 have e : l7 (o7 []) (P2 [.sl (.bytes c)] 0) = o7 [dY c] := by
  funext j
  match j with
  | 0 => rfl
  | j + 1 => simp [P2, l7, o7]
 rw [e] at M2
 simp only [xav, AV.vals, AV.val, List.cons.injEq, and_true] at g2
 subst g2
 refine (hc Empty _ _ w w _ ρ' M2).mono ?_
 rintro e w' ⟨ρ2, -, rfl, M3⟩
 exact ⟨rfl, M3.below fun _ _ => trivial⟩
structure Okd (p q : j7) (m : t2) : Prop where
 bp : s6 p.body ≤ 1048576
 bq : s6 q.body ≤ 1048576
 qv : q.vars.length ≤ 1000000
 mv : m.vals.length ≤ 1000000
 ma : m.arrs.length ≤ 1000000
 mi : ∀ l ∈ m.arrs, l.length ≤ 1000
section
variable {p : j7} {e : c8}
end
theorem bj3 (b : List UInt8) {j : Int} (nv na : Nat) (r0 : 0 ≤ j) (r1 : j + nv + 4 * na ≤ 100000000) : (mmD b j nv na).vals.length = nv ∧ (mmD b j nv na).arrs.length = na ∧ D8 (mmD b j nv na).vals = true ∧ (mmD b j nv na).arrs.all P0 = true := by
 refine ⟨ae8 _ _ _, bo7 _ _ _, aU0 b r0 nv (by omega), ?_⟩
 rw [bX9]
 intro x hx
 unfold P0
 rw [bX0]
 refine ⟨by rw [bP8 _ _ _ x hx]; rfl, ?_⟩
 obtain ⟨k, hk, rfl⟩ := ar_mem hx
 exact aU0 b (by omega) 4 (by omega)
where
 ar_mem {b : List UInt8} {j : Int} {n : Nat} {x : List Int} (h : x ∈ arD b j n) : ∃ k : Nat, k < n ∧ W3 b (j + 4 * k) 4 = x := by
  unfold arD at h
  obtain ⟨i, hi, rfl⟩ := List.mem_map.1 h
  exact ⟨i, b11.1 hi, rfl⟩
theorem bb0 (xs ys : List Int) (l : List c7) : j8.ok Tryz.prog ⟨24, [pA 0], [dI xs, dI ys, dN l], [dI xs, dI ys, dN l], .agg [.ref 0, .ref 1, .v (.slice none 0 0)]⟩ := by
 refine I1 8 Tryz.func24 [dI xs, dI ys, dN l] [(0, pA 0)] fun G => ?_; refine wp_seq (i9 G d9 [0, 1, 2, 3, 11] [dI xs, dI ys, dN l, .box (pL 0), .box [.v (.slice none 0 0), .v (.slice none 0 0), .v (.slice none 0 0)]] [(1, .ptr 3 0), (2, .ptr 4 0)] fun G => b0 (wp_seq (i9 G d9 [0, 1, 2, 4] [dI xs, dI ys, dN l, .box [.ref 0, .ref 1, .v (.slice none 0 0)]] [(2, .ptr 3 0)] fun G => b0 (wp_ret ?_)))); exact I9 G [0, 1, 2]
abbrev crC (f : FuncId) (c : List UInt8) (k : b6) (m m2 : t2) : j8 := ⟨f, [.ref 0], [dY c], [dY c] ++ kcS k ++ mS m ++ mS m2, .tup [pA 1, mA 4, mA 6]⟩
abbrev ad7 : It := .box [.v (.slice none 0 0), .v (.slice none 0 0)]
abbrev aL1 : It := .box [.v (.slice none 0 0), .v (.slice none 0 0), .v (.slice none 0 0)]
abbrev bc7 (j2 : Int) (r0 : List It) : List It := .box [.v (.slice none 0 0), .v (.slice none 0 0), .v (.slice none 0 0)] :: .box [.v (.slice none 0 0), .v (.slice none 0 0)] :: .box [.v (.slice none 0 0), .v (.slice none 0 0)] :: .box [.ref 5, iA j2] :: r0
abbrev aA1 (r0 : List (Nat × AV)) : List (Nat × AV) := (2, .ptr 1 0) :: (3, .ptr 2 0) :: (4, .ptr 3 0) :: (5, .ptr 4 0) :: (6, .ptr 9 0) :: r0
theorem bg6 (c b : List UInt8) (kv ka v u : List Int) (kl l : List c7) (xs : List Int) (rs : List (List Int)) (m2 : t2) (j1 j2 j3 j4 : Int)
  (h0 : j8.ok Tryz.prog ⟨21, [.ref 0], [dY c], [dY c, .box [.ref 2, iA 0], dY b], .ptr 1 0⟩)
  (h1 : j8.ok Tryz.prog ⟨23, [.ptr 0 0], [.box [.ref 1, iA 0], dY b], [.box [.ref 1, iA j1], dY b, rI kv, rI ka, rN kl], pA 2⟩)
  (h2 : j8.ok Tryz.prog ⟨22, [.ptr 0 0, pA 2], [.box [.ref 1, iA j1], dY b, dI kv, dI ka, dN kl], [.box [.ref 1, iA j2], dY b, dI kv, dI ka, dN kl, rI v, rI u, rN l], pA 5⟩)
  (h3 : j8.ok Tryz.prog ⟨25, [.ptr 0 0, pA 2], [.box [.ref 1, iA j2], dY b, dI v, dI u, dT []], [.box [.ref 1, iA j3], dY b, dI v, dI u, dT [], dI xs, dR rs], mA 5⟩)
  (h4 : j8.ok Tryz.prog ⟨26, [.ptr 0 0, pA 2, mA 5, iA 1], [.box [.ref 1, iA j3], dY b, dI v, dI u, dT [], dI xs, dR rs], [.box [.ref 1, iA j4], dY b, dI v, dI u, dT [], dI xs, dR rs] ++ mO m2, mT 7⟩) : j8.ok Tryz.prog (crC 7 c ⟨v, u, l⟩ ⟨xs, rs⟩ m2) := by
 have ho := h0; have hju := h1; have hmu := h2; have hme := h3; have hse := h4; refine I1 26 Tryz.func7 [dY c] [(0, .ref 0)] fun G => ?_; refine wp_seq (i9 G d9 [0, 1, 9, 17] [dY c, aL1, ad7, ad7] [(0, .ref 0), (2, .ptr 1 0), (3, .ptr 2 0), (4, .ptr 3 0)] fun G => b0 (wp_seq (i9 G (t0 1 [0] ho) [0, 1, 2, 3, 12, 13] [dY c, aL1, ad7, ad7, .box [.ref 5, iA 0], dY b] [(2, .ptr 1 0), (3, .ptr 2 0), (4, .ptr 3 0), (5, .ptr 4 0)] fun G => b0 (wp_seq (i9 G (Q8 (E2 2 [4, 5] hju (E2 3 [4, 5, 22, 23, 24] (j8.lend hmu [.no, .no, .row 3, .row 3, .row 60]) Q7)) fz []) [0, 1, 2, 3, 4, 5, 30, 31, 32, 38] [dY c, aL1, ad7, ad7, .box [.ref 5, iA j2], dY b, .row 3 (D.ints v), .row 3 (D.ints u), .row 60 (D.instrs l), .box (pL 6)] (aA1 []) fun G => b0 (wp_seq ?_)))))); obtain ⟨ρ, G⟩ := G.frz [.no, .no, .no, .no, .no, .no, .row 3, .row 3, .row 60] (dY c :: (bc7 j2 [dY b, dI v, dI u, dN l, .box (pL 6)])) (aA1 []); refine i9 G (t0 1 [6, 7, 8] (bb0 v u l)) [0, 1, 2, 3, 4, 5, 6, 7, 8, 9, 26] [dY c, aL1, ad7, ad7, .box [.ref 5, iA j2], dY b, dI v, dI u, dN l, .box (pL 6), .box [.ref 6, .ref 7, .v (.slice none 0 0)]] (aA1 [(7, .ptr 10 0)]) fun G => b0 (wp_seq ?_); obtain ⟨ρ, G⟩ := G.nilT 11 (.stmts []) (dY c :: (bc7 j2 [dY b, dI v, dI u, dN l, .box (pL 6), .box [.ref 6, .ref 7, .tref 11]])) (aA1 [(7, .ptr 10 0)]); obtain ⟨ρ, G⟩ := G.frz [.no, .no, .no, .no, .no, .no, .no, .no, .no, .no, .no, .tree] (dY c :: (bc7 j2 [dY b, dI v, dI u, dN l, .box (pL 6), .box [.ref 6, .ref 7, .ref 11], dT []])) (aA1 [(7, .ptr 10 0)]); refine i9 G (t0 2 [4, 5, 6, 7, 11] hme) [0, 1, 2, 3, 4, 5, 6, 7, 8, 9, 10, 11, 28, 29, 36] [dY c, aL1, ad7, ad7, .box [.ref 5, iA j3], dY b, dI v, dI u, dN l, .box (pL 6), .box [.ref 6, .ref 7, .ref 11], dT [], dI xs, dR rs, .box [.ref 12, .ref 13]] (aA1 [(7, .ptr 10 0), (8, .ptr 14 0)]) fun G => b0 (wp_seq (bh5 G (t0 5 [4, 5, 6, 7, 11, 12, 13] hse) [0, 0, 0, 0, 0, 28, 61, 127, 255] [0, 1, 2, 3, 6, 7, 8, 12, 13, 55, 56] [dY c, .box (pL 4), .box [.ref 7, .ref 8], .box [.ref 9, .tref 10], dI v, dI u, dN l, dI xs, dR rs, .row 3 (D.ints m2.vals), .tree (D.rows m2.arrs)] [(2, .ptr 1 0), (3, .ptr 2 0), (4, .ptr 3 0)] fun G => b0 (wp_ret ?_))); obtain ⟨ρ, G⟩ := G.frz [.no, .no, .no, .no, .no, .no, .no, .no, .no, .row 3, .tree] [dY c, .box (pL 4), .box [.ref 7, .ref 8], .box [.ref 9, .ref 10], dI v, dI u, dN l, dI xs, dR rs, dI m2.vals, dR m2.arrs] [(2, .ptr 1 0), (3, .ptr 2 0), (4, .ptr 3 0)]
 exact I9 G [0, 4, 5, 6, 7, 8, 9, 10]
theorem bK7 (b : List UInt8) {j : Int} (nv na : Nat) (r0 : 0 ≤ j) (r1 : j + nv + 4 * na ≤ 100000000) : G5 nv na (mmD b j nv na) = true := by
 obtain ⟨h1, h2, h3, h4⟩ := bj3 b (j := j) nv na r0 r1
 unfold G5
 rw [h3, h4, decide_eq_true h1, decide_eq_true h2]; rfl
theorem bm4 (c : List UInt8) : ∃ (k : b6) (m m2 : t2), (k.vars.length ≤ 1000 ∧ k.arrays.length ≤ 1000 ∧ k.list.length ≤ 400) ∧ G5 k.vars.length k.arrays.length m = true ∧ G5 k.vars.length k.arrays.length m2 = true ∧ j8.ok Tryz.prog (crC 7 c k m m2) := by
 have h0 := bb7 c
 have h1 := ba9 (bsD c) 0 (by omega) (by omega)
 have hj := jp0 (bsD c)
 generalize jpD (bsD c) 0 = x at *
 obtain ⟨⟨kv, ka, kl⟩, j1⟩ := x
 dsimp only at h1 hj
 have h2 := aZ4 (bsD c) j1 kv ka kl ⟨by omega, by omega, by omega⟩ (by omega) (by omega)
 have hm := bU5 (bsD c) j1 ⟨kv, ka, kl⟩
 unfold muC at h2
 generalize muD (bsD c) j1 ⟨kv, ka, kl⟩ = y at *
 obtain ⟨⟨v, u, l⟩, j2⟩ := y
 dsimp only at h2 hm
 have h3 := aZ5 (bsD c) j2 v u [] (by omega) (by omega) (by omega) (by omega)
 have hf := bj3 (bsD c) (j := j2) v.length u.length (by omega) (by omega)
 have hok := bK7 (bsD c) (j := j2) v.length u.length (by omega) (by omega)
 have h4 := fun hi => aS2 (bsD c) (j2 + v.length + 4 * u.length) 1 v u [] (mmD (bsD c) j2 v.length u.length).vals (mmD (bsD c) j2 v.length u.length).arrs hf.1 hf.2.1 hf.2.2.2 (by omega) (by omega) ⟨by omega, by omega⟩ hi
 have h4 := h4 fun a ha => by
  have := bX9.1 hf.2.2.2 a ha
  unfold P0 at this
  rw [bX0, decide_eq_true_eq] at this
  omega
 have hs := bB5 (bsD c) (bit := 1) ⟨v, u, []⟩ (mmD (bsD c) j2 v.length u.length) (j := j2 + v.length + 4 * u.length) hf.1 hf.2.1 hf.2.2.1 hf.2.2.2 (by omega) (by omega)
 exact ⟨⟨v, u, l⟩, _, _, ⟨by dsimp only; omega, by dsimp only; omega, by dsimp only; omega⟩, hok, hs, bg6 c (bsD c) kv ka v u kl l _ _ _ j1 j2 _ _ h0 h1 h2 h3 h4⟩
theorem bG0 (l e : List (Int × Int)) (pc : Int) (h1 : l.length ≤ 1000000) (h2 : e.length ≤ 1000000) : j8.ok Tryz.prog ⟨62, [iA pc, .ref 2, .ptr 0 0], [.box [.ref 1], .row 71 (.events l), .dat (.events e)], [.box [.ref 3], .dead, .dat (.events e), .row 71 (.events (l ++ e))], .tup []⟩ := by
 refine I1 8 Tryz.func62 [.box [.ref 1], .row 71 (D.events l), dV e] [(0, iA pc), (1, .ref 2), (2, .ptr 0 0)] fun G => ?_; refine J0 G d9 [0, 1, 2, 19] [.box [.ref 3], .dead, dV e, .row 71 (D.events (l ++ e))] [] (aP (l.length + e.length) 16 []) (aK (by omega) bY1) fun G => ?_; exact bR5 G (rg 4)
structure a08 (c : b6) (s : n8) (n : Nat) (b : Bool) : Prop where
 le : n ≤ 20000
 no : ∀ k, k + 1 < n → J9 c (m7 c s k) = false
 yes : b = true → ∃ k, n = k + 1 ∧ J9 c (m7 c s k) = true
 non : b = false → n = 20000 ∧ ∀ k, k < 20000 → J9 c (m7 c s k) = false
theorem bE8 {c : b6} {s : n8} {n k : Nat} {b : Bool} (h : a08 c s n b) (hk : k < 20000) (hp : ∀ j, j < k → J9 c (m7 c s j) = false) (he : J9 c (m7 c s k) = true) : n = k + 1 ∧ b = true := by
 cases b with
 | false => have := (h.non rfl).2 k hk; rw [he] at this; cases this
 | true =>
  obtain ⟨j, h1, h2⟩ := h.yes rfl
  refine ⟨?_, rfl⟩
  rcases Nat.lt_trichotomy j k with h3 | h3 | h3
  ·rw [hp j h3] at h2; cases h2
  ·omega
  ·have := h.no k (by omega); rw [he] at this; cases this
theorem bE9 {c : b6} {s : n8} {n : Nat} {b : Bool} (h : a08 c s n b) (hp : ∀ j, j < 20000 → J9 c (m7 c s j) = false) : n = 20000 ∧ b = false := by
 cases b with
 | false => exact ⟨(h.non rfl).1, rfl⟩
 | true =>
  obtain ⟨j, h1, h2⟩ := h.yes rfl
  have := hp j (by have := h.le; omega)
  rw [h2] at this; cases this
theorem bF1 {c : b6} {s : n8} (h : (c.list.getD s.pc.toNat bW7).op = 13) : J9 c s = true := decide_eq_true h
theorem bF0 {c : b6} {s : n8} (h : ¬ (c.list.getD s.pc.toNat bW7).op = 13) : J9 c s = false := decide_eq_false h
theorem bu2 {c : b6} {s : n8} {k : Nat} (hp : ∀ j, j < k → J9 c (m7 c s j) = false) (h : ¬ (c.list.getD (m7 c s k).pc.toNat bW7).op = 13) : ∀ j, j < k + 1 → J9 c (m7 c s j) = false := by
 intro j hj
 by_cases e : j = k
 ·subst e; exact bF0 h
 ·exact hp j (by omega)
theorem a96 {c : b6} {s : n8} {n k : Nat} {b : Bool} (h : a08 c s n b) (hp : ∀ j, j < k → J9 c (m7 c s j) = false) (h1 : k ≤ 20000) (h2 : 20000 ≤ k) : m7 c s n = m7 c s k ∧ F3 c s n = F3 c s k ∧ b = false := by
 obtain rfl : k = 20000 := by omega
 obtain ⟨rfl, rfl⟩ := bE9 h hp
 exact ⟨rfl, rfl, rfl⟩
theorem a95 {c : b6} {s : n8} {n k : Nat} {b : Bool} (h : a08 c s n b) (hp : ∀ j, j < k → J9 c (m7 c s j) = false) (hk : k < 20000) (he : (c.list.getD (m7 c s k).pc.toNat bW7).op = 13) : m7 c s n = i5 c (m7 c s k) ∧ F3 c s n = F3 c s k ++ B9 c (m7 c s k) ∧ b = true := by
 obtain ⟨rfl, rfl⟩ := bE8 h hk hp (bF1 he)
 exact ⟨rfl, rfl, rfl⟩
abbrev a17 (c : b6) (s : n8) (n : Nat) : List It := [.box [iA (m7 c s n).pc, .ref 1, .ref 2, .tref 3], .row 3 (D.ints (m7 c s n).regs), .row 3 (D.ints (m7 c s n).mem.vals), .tree (D.rows (m7 c s n).mem.arrs), dI c.vars, dI c.arrays, dN c.list, .box [.ref 9], .dead, .row 71 (D.events (F3 c s n))]
abbrev aA2 (r0 : List (Nat × AV)) : List (Nat × AV) := (1, .ptr 0 0) :: (2, .fn 62 [.ptr 7 0]) :: (3, .ptr 9 0) :: (6, bA false) :: r0
abbrev bd2 (c : b6) (s : n8) (r0 : List It) : List It := .box [iA s.pc, .ref 1, .ref 2, .tref 3] :: .row 3 (D.ints s.regs) :: .row 3 (D.ints s.mem.vals) :: .tree (D.rows s.mem.arrs) :: dI c.vars :: dI c.arrays :: dN c.list :: r0
theorem aD9 (c : b6) (s : n8) (n : Nat) (b : Bool) (hc : f8 c = true) (hs : N0 c s = true) (hE : a08 c s n b) : j8.ok Tryz.prog ⟨61, [pA 4, .ptr 0 0, .fn 62 [.ptr 7 0]], stI s ++ kcS c ++ [.box [.ref 8], .row 71 (.events [])], stI (m7 c s n) ++ kcS c ++ [.box [.ref 9], .dead, .row 71 (.events (F3 c s n))], bA b⟩ := by
  refine I1 28 Tryz.func61 (bd2 c s [.box [.ref 8], .row 71 (D.events [])]) [(0, pA 4), (1, .ptr 0 0), (2, .fn 62 [.ptr 7 0])] fun G => ?_; refine wp_seq (i9 G d9 (rg 10) (bd2 c s [.box [.ref 8], .row 71 (D.events []), .box (pL 4)]) (aA2 []) fun G => b0 (wp_seq (wp_seq (F5 G d9 (aA2 [(8, iA 0)]) fun G => b0 (wp_block ?_))))); obtain ⟨ρ, G⟩ := G.shift 8 10 (bd2 c s [.box [.ref 10], .dead, .box (pL 4), .row 71 (D.events [])]) (aA2 [(8, iA 0)]); refine v5 (κ := Nat) (fun k => k ≤ 20000 ∧ ∀ j, j < k → J9 c (m7 c s j) = false) (fun k => 20000 - k) (fun k => [.box [iA (m7 c s k).pc, .ref 1, .ref 2, .tref 3], .row 3 (.ints (m7 c s k).regs), .row 3 (.ints (m7 c s k).mem.vals), .tree (.rows (m7 c s k).mem.arrs), dI c.vars, dI c.arrays, dN c.list, .box [.ref 10], .dead, .box (pL 4), .row 71 (.events (F3 c s k))]) (fun k => (aA2 [(8, iA k)])) 0 (by simp [hc, hs]) (s4.at G _ _) ?_; clear G; intro k ρ a w hp G; replace G := s4.at G [.box [iA (m7 c s k).pc, .ref 1, .ref 2, .tref 3], .row 3 (D.ints (m7 c s k).regs), .row 3 (D.ints (m7 c s k).mem.vals), .tree (D.rows (m7 c s k).mem.arrs), dI c.vars, dI c.arrays, dN c.list, .box [.ref 10], .dead, .box (pL 4), .row 71 (D.events (F3 c s k))] (aA2 [(8, iA k)]); have hpc := X7 (aa5 hc hs k); have hel := au0 c s k; have hen := aC0 c (m7 c s k); refine wp_seq (l0 G d9 [(9, bA (decide ((k : Int) < 20000)))] fun G => b0 (wp_seq (rcD G (fun h0 q0 => ?_) fun h0 q0 => ?_)))
  · refine wp_exit (t6 (t6 (t3 (b0 (wp_seq (i9 G d9 [0, 1, 2, 3, 4, 5, 6, 7, 8, 10] [.box [iA (m7 c s k).pc, .ref 1, .ref 2, .tref 3], .row 3 (D.ints (m7 c s k).regs), .row 3 (D.ints (m7 c s k).mem.vals), .tree (D.rows (m7 c s k).mem.arrs), dI c.vars, dI c.arrays, dN c.list, .box [.ref 9], .dead, .row 71 (D.events (F3 c s k))] [(6, bA false)] fun G => b0 (wp_ret ?_))))))); exact J6 false G (rg 10) ((a96 hE hp.2 (by omega) (by omega)).2.2) (by show _ = mR (rg 10) (a17 c s n); unfold a17; have e1 : ((m7 c s n).pc : Int) = ((m7 c s k).pc) := (by rw [(a96 hE hp.2 (by omega) (by omega)).1]); have e2 : ((m7 c s n).regs : List Int) = ((m7 c s k).regs) := (by rw [(a96 hE hp.2 (by omega) (by omega)).1]); have e3 : ((m7 c s n).mem.vals : List Int) = ((m7 c s k).mem.vals) := (by rw [(a96 hE hp.2 (by omega) (by omega)).1]); have e4 : ((m7 c s n).mem.arrs : List (List Int)) = ((m7 c s k).mem.arrs) := (by rw [(a96 hE hp.2 (by omega) (by omega)).1]); have e5 : (F3 c s n : List (Int × Int)) = (F3 c s k) := (by rw [(a96 hE hp.2 (by omega) (by omega)).2.1]); (first | rw [e1, e2, e3, e4, e5] | simp only [e1, e2, e3, e4, e5]) <;> rfl)
  ·
   refine wp_skip (b0 (wp_seq (wp_block (wp_seq (l0 G d9 [(7, iA (m7 c s k).pc)] fun G => b0 (wp_seq (i9 G (Q8 (E2 4 (rg 7) (bF9 c (m7 c s k) (by assumption) (aa5 hc hs _)) (E2 5 [7, 10, 43] (j8.lend (bG0 (F3 c s k) (B9 c (m7 c s k)) ((m7 c s k).pc) (by omega) (by omega)) [.no, .no, .row 71]) Q7)) fz []) [0, 1, 2, 3, 4, 5, 6, 7, 8, 9, 51] [.box [iA (i5 c (m7 c s k)).pc, .ref 1, .ref 2, .tref 3], .row 3 (D.ints (i5 c (m7 c s k)).regs), .row 3 (D.ints (i5 c (m7 c s k)).mem.vals), .tree (D.rows (i5 c (m7 c s k)).mem.arrs), dI c.vars, dI c.arrays, dN c.list, .box [.ref 10], .dead, .box (pL 4), .row 71 (D.events (F3 c s k ++ B9 c (m7 c s k)))] (aA2 [(7, iA (m7 c s k).pc), (8, iA k)]) fun G => b0 (wp_seq (B5 G d9 [(26, bA ((c.list.getD (m7 c s k).pc.toNat bW7).op == 13))] (iX ((m7 c s k).pc) ((m7 c s k).pc.toNat) c.list.length []) (iK (by omega) bY1) fun G => b0 (M4 G (fun h1 q1 => ?_) fun h1 q1 => ?_))))))))))
   · refine wp_skip (i8 (b0 (B5 G d9 [(8, iA ((k : Int) + 1))] [wO ((k : Int) + 1)] (o1 (by omega)) fun G => b0 ?_))); exact J5 G (k + 1) (⟨by omega, bu2 hp.2 (by omega)⟩) (by omega) (rg 11)
   · refine wp_seq (l0 G d9 [(6, bA true)] fun G => b0 (wp_ret (C2 (n7 (n7 (C2 (n7 ?_))))))); exact J6 true G [0, 1, 2, 3, 4, 5, 6, 7, 8, 10] ((a95 hE hp.2 (by omega) (by with_reducible assumption)).2.2) (by show _ = mR [0, 1, 2, 3, 4, 5, 6, 7, 8, 10] (a17 c s n); unfold a17; have e1 : ((m7 c s n).pc : Int) = ((i5 c (m7 c s k)).pc) := (by rw [(a95 hE hp.2 (by omega) (by with_reducible assumption)).1]); have e2 : ((m7 c s n).regs : List Int) = ((i5 c (m7 c s k)).regs) := (by rw [(a95 hE hp.2 (by omega) (by with_reducible assumption)).1]); have e3 : ((m7 c s n).mem.vals : List Int) = ((i5 c (m7 c s k)).mem.vals) := (by rw [(a95 hE hp.2 (by omega) (by with_reducible assumption)).1]); have e4 : ((m7 c s n).mem.arrs : List (List Int)) = ((i5 c (m7 c s k)).mem.arrs) := (by rw [(a95 hE hp.2 (by omega) (by with_reducible assumption)).1]); have e5 : (F3 c s n : List (Int × Int)) = (F3 c s k ++ B9 c (m7 c s k)) := (by rw [(a95 hE hp.2 (by omega) (by with_reducible assumption)).2.1]); (first | rw [e1, e2, e3, e4, e5] | simp only [e1, e2, e3, e4, e5]) <;> rfl)
theorem a78 (m : t2) (hx : m.vals.length ≤ 1048576) (hr : m.arrs.length ≤ 1048576) (hi : ∀ r ∈ m.arrs, r.length ≤ 1048576) : j8.ok Tryz.prog ⟨83, [mA 0], mS m, mS m ++ [.row 3 (.ints (bW8 14 0)), .row 3 (.ints m.vals), .tree (.rows m.arrs)], .agg [iA 0, .ref 2, .ref 3, .tref 4]⟩ := by
 have how := bH7 m hx hr hi; refine I1 7 Tryz.func83 [dI m.vals, dR m.arrs] [(0, .agg [.ref 0, .ref 1])] fun G => ?_; refine wp_seq (i9 G d9 [0, 1, 2, 10] [dI m.vals, dR m.arrs, .box [.ref 0, .ref 1], .box [iA 0, .v (.slice none 0 0), .v (.slice none 0 0), .v (.slice none 0 0)]] [(1, .ptr 2 0), (2, .ptr 3 0)] fun G => b0 (wp_seq (F4 G (t0 2 [0, 1] how) [0, 0, 2, 7, 15] [0, 1, 3, 4, 20, 21] [dI m.vals, dR m.arrs, .box [iA 0, .ref 3, .ref 4, .tref 5], .row 3 (D.ints (bW8 (Int.toNat 14) 0)), .row 3 (D.ints m.vals), .tree (D.rows m.arrs)] [(2, .ptr 2 0)] [(14 : Int) = 14, (0 : Int) ≤ 14, (↑(8 : Nat) : Int) * 14 ≤ 281474976710656, (14 : Int) ≤ 9223372036854775807, ((.int .i64 (0 : Int)) : Value) = (.int .i64 (0 : Int))] ⟨(by kernel_rfl), (by omega), (by omega), (by omega), (by kernel_rfl), bY1⟩ fun G => b0 (wp_ret ?_)))); exact I9 G [0, 1, 3, 4, 5]
def ssD (c : b6) (m : t2) : n8 := if (f8 c && G5 c.vars.length c.arrays.length m) = true then j9 m else ⟨0, [], ⟨[], []⟩⟩
theorem a31 {c : b6} {m : t2} (h : f8 c = false) : ssD c m = ⟨0, [], ⟨[], []⟩⟩ ∧ (f8 c && G5 c.vars.length c.arrays.length m) = false := by
 have : (f8 c && G5 c.vars.length c.arrays.length m) = false := by rw [h]; rfl
 exact ⟨by unfold ssD; rw [this]; rfl, this⟩
theorem a30 {c : b6} {m : t2} (h : G5 c.vars.length c.arrays.length m = false) : ssD c m = ⟨0, [], ⟨[], []⟩⟩ ∧ (f8 c && G5 c.vars.length c.arrays.length m) = false := by
 have : (f8 c && G5 c.vars.length c.arrays.length m) = false := by rw [h]; simp
 exact ⟨by unfold ssD; rw [this]; rfl, this⟩
theorem a80 {c : b6} {m : t2} (h : f8 c = true) (h2 : G5 c.vars.length c.arrays.length m = true) : ssD c m = j9 m ∧ (f8 c && G5 c.vars.length c.arrays.length m) = true := by
 have : (f8 c && G5 c.vars.length c.arrays.length m) = true := by rw [h, h2]; rfl
 exact ⟨by unfold ssD; rw [this]; rfl, this⟩
abbrev aA4 (c : b6) (m : t2) (T : n8) : List It := [dI c.vars, dI c.arrays, dN c.list, dI m.vals, dR m.arrs, .row 3 (D.ints T.regs), .row 3 (D.ints T.mem.vals), .tree (D.rows T.mem.arrs)]
abbrev bd5 : It := .box [iA 0, .v (.slice none 0 0), .v (.slice none 0 0), .v (.slice none 0 0)]
abbrev am8 (c : b6) (m : t2) (r0 : List It) : List It := dI c.vars :: dI c.arrays :: dN c.list :: dI m.vals :: dR m.arrs :: .box [.ref 3, .ref 4] :: r0
abbrev ad5 (r0 : List (Nat × AV)) : List (Nat × AV) := (3, .ptr 5 0) :: (4, .ptr 6 0) :: (5, bA false) :: r0
theorem S0 (c : b6) (m : t2) (T : n8) (hT : ssD c m = T) (hx : m.vals.length ≤ 1048576) (hr : m.arrs.length ≤ 1048576) (hi : ∀ r ∈ m.arrs, r.length ≤ 1048576) : j8.ok Tryz.prog ⟨60, [pA 0, mA 3], kcS c ++ mS m, kcS c ++ mS m ++ smO T, .tup [.agg [iA T.pc, .ref 5, .ref 6, .tref 7], bA (f8 c && G5 c.vars.length c.arrays.length m)]⟩ := by
  have hcv := bA3 c; have him := bn6 c m; have hst := a78 m hx hr hi; refine I1 21 Tryz.func60 [dI c.vars, dI c.arrays, dN c.list, dI m.vals, dR m.arrs] [(0, pA 0), (1, .agg [.ref 3, .ref 4])] fun G => ?_; refine wp_seq (i9 G d9 [0, 1, 2, 3, 4, 5, 13, 21] [dI c.vars, dI c.arrays, dN c.list, dI m.vals, dR m.arrs, .box (pL 0), .box [.ref 3, .ref 4], bd5] [(2, .ptr 5 0), (3, .ptr 6 0), (4, .ptr 7 0), (5, bA false)] fun G => b0 (wp_seq (wp_seq ?_))); cases h0 : (!f8 c)
  ·
   have q0 : (f8 c) = true := (Eq.mp (Bool.not_eq_false' _) h0); refine i9 G (Q8 (E2 1 [0, 1, 2] hcv (E2 9 [0, 1, 3, 4] him Q7)) (fc h0 fz) (us [(4, 10, 0), (1011, 1011, 0)])) [0, 1, 2, 3, 4, 6, 7] (am8 c m [bd5]) (ad5 [(17, .v (.bool !G5 c.vars.length c.arrays.length m))]) fun G => b0 ?_; cases h1 : (!G5 c.vars.length c.arrays.length m)
   · have q1 : (G5 c.vars.length c.arrays.length m) = true := (Eq.mp (Bool.not_eq_false' _) h1); refine rF G _ h1 (wp_skip (b0 (wp_seq (i9 G (t0 1 [3, 4] hst) [0, 1, 2, 3, 4, 6, 15, 16, 17] [dI c.vars, dI c.arrays, dN c.list, dI m.vals, dR m.arrs, .box [iA 0, .ref 6, .ref 7, .tref 8], .row 3 (D.ints (bW8 14 0)), .row 3 (D.ints m.vals), .tree (D.rows m.arrs)] [(4, .ptr 5 0), (5, bA true)] fun G => b0 (wp_ret ?_))))); exact W4 (.tup [.agg [iA 0, .ref 6, .ref 7, .tref 8], bA true]) G [0, 1, 2, 3, 4, 6, 7, 8] (by have e1 : (T.pc : Int) = (0) := (by rw [← hT, (a80 (by with_reducible assumption) (by with_reducible assumption)).1]; rfl); have e2 : (f8 c && G5 c.vars.length c.arrays.length m : Bool) = (true) := (by simp [h0, q0, h1, q1]); (first | rw [e1, e2] | simp only [e1, e2]) <;> rfl) (by show _ = mR [0, 1, 2, 3, 4, 6, 7, 8] (aA4 c m T); unfold aA4; rw [← hT, (a80 (by with_reducible assumption) (by with_reducible assumption)).1] <;> rfl)
   · have q1 : (G5 c.vars.length c.arrays.length m) = false := (Eq.mp (b03 _) h1); refine rT G _ h1 (wp_seq (F5 G d9 (ad5 []) fun G => b0 (wp_ret (n7 ?_)))); obtain ⟨ρ, G⟩ := G.nil 7 3 (.ints []) 1 (am8 c m [.box [iA 0, .ref 7, .v (.slice none 0 0), .v (.slice none 0 0)]]) (ad5 []); obtain ⟨ρ, G⟩ := G.nil 8 3 (.ints []) 1 (am8 c m [.box [iA 0, .ref 7, .ref 8, .v (.slice none 0 0)], .row 3 (D.ints [])]) (ad5 []); obtain ⟨ρ, G⟩ := G.nilT 9 (.rows []) (am8 c m [.box [iA 0, .ref 7, .ref 8, .tref 9], .row 3 (D.ints []), .row 3 (D.ints [])]) (ad5 []); exact W4 (.tup [.agg [iA 0, .ref 7, .ref 8, .tref 9], bA false]) G [0, 1, 2, 3, 4, 7, 8, 9] (by have e1 : (T.pc : Int) = (0) := (by rw [← hT, (a30 (by with_reducible assumption)).1]); have e2 : (f8 c && G5 c.vars.length c.arrays.length m : Bool) = (false) := (by simp [h0, q0, h1, q1]); (first | rw [e1, e2] | simp only [e1, e2]) <;> rfl) (by show _ = mR [0, 1, 2, 3, 4, 7, 8, 9] (aA4 c m T); unfold aA4; have e1 : (T.regs : List Int) = ([]) := (by rw [← hT, (a30 (by with_reducible assumption)).1]); have e2 : (T.mem.vals : List Int) = ([]) := (by rw [← hT, (a30 (by with_reducible assumption)).1]); have e3 : (T.mem.arrs : List (List Int)) = ([]) := (by rw [← hT, (a30 (by with_reducible assumption)).1]); (first | rw [e1, e2, e3] | simp only [e1, e2, e3]) <;> rfl)
  · have q0 : (f8 c) = false := (Eq.mp (b03 _) h0); refine i9 G (Q8 (E2 1 [0, 1, 2] hcv Q7) (fc h0 fz) (us [(4, 10, 0), (1011, 1011, 0)])) [0, 1, 2, 3, 4, 6, 7] (am8 c m [bd5]) (ad5 [(17, bA true)]) fun G => b0 (rT G true (by kernel_rfl) (wp_seq (F5 G d9 (ad5 []) fun G => b0 (wp_ret (n7 ?_))))); obtain ⟨ρ, G⟩ := G.nil 7 3 (.ints []) 1 (am8 c m [.box [iA 0, .ref 7, .v (.slice none 0 0), .v (.slice none 0 0)]]) (ad5 []); obtain ⟨ρ, G⟩ := G.nil 8 3 (.ints []) 1 (am8 c m [.box [iA 0, .ref 7, .ref 8, .v (.slice none 0 0)], .row 3 (D.ints [])]) (ad5 []); obtain ⟨ρ, G⟩ := G.nilT 9 (.rows []) (am8 c m [.box [iA 0, .ref 7, .ref 8, .tref 9], .row 3 (D.ints []), .row 3 (D.ints [])]) (ad5 []); exact W4 (.tup [.agg [iA 0, .ref 7, .ref 8, .tref 9], bA false]) G [0, 1, 2, 3, 4, 7, 8, 9] (by have e1 : (T.pc : Int) = (0) := (by rw [← hT, (a31 (by with_reducible assumption)).1]); have e2 : (f8 c && G5 c.vars.length c.arrays.length m : Bool) = (false) := (by rw [q0]; rfl); (first | rw [e1, e2] | simp only [e1, e2]) <;> rfl) (by show _ = mR [0, 1, 2, 3, 4, 7, 8, 9] (aA4 c m T); unfold aA4; have e1 : (T.regs : List Int) = ([]) := (by rw [← hT, (a31 (by with_reducible assumption)).1]); have e2 : (T.mem.vals : List Int) = ([]) := (by rw [← hT, (a31 (by with_reducible assumption)).1]); have e3 : (T.mem.arrs : List (List Int)) = ([]) := (by rw [← hT, (a31 (by with_reducible assumption)).1]); (first | rw [e1, e2, e3] | simp only [e1, e2, e3]) <;> rfl)
abbrev rnO (s : n8) : List It := [.box [iA s.pc, .ref 6, .ref 7, .tref 8], .row 3 (.ints s.regs), .row 3 (.ints s.mem.vals), .tree (.rows s.mem.arrs)]
abbrev bd1 (c : b6) (m : t2) (r0 : List It) : List It := dI c.vars :: dI c.arrays :: dN c.list :: dI m.vals :: dR m.arrs :: .box (pL 0) :: .row 3 (D.ints (j9 m).regs) :: .row 3 (D.ints (j9 m).mem.vals) :: .tree (D.rows (j9 m).mem.arrs) :: .box [iA (j9 m).pc, .ref 6, .ref 7, .tref 8] :: r0
abbrev bd0 (c : b6) (m : t2) (r0 : List (Nat × AV)) : List (Nat × AV) := (2, .ptr 5 0) :: (4, .v (.pointer none)) :: (5, .v (.slice none 0 0)) :: (6, bA false) :: (7, .ptr 9 0) :: (8, bA (f8 c && G5 c.vars.length c.arrays.length m)) :: r0
theorem bB7 (c : b6) (m : t2) (n : Nat) (hc : f8 c = true) (hm : G5 c.vars.length c.arrays.length m = true) (hE : a08 c (j9 m) n true) (hx : m.vals.length ≤ 1048576) (hr : m.arrs.length ≤ 1048576) (hi : ∀ r ∈ m.arrs, r.length ≤ 1048576) : j8.ok Tryz.prog ⟨32, [pA 0, mA 3], kcS c ++ mS m, kcS c ++ mS m ++ rnO (m7 c (j9 m) n) ++ [.row 71 (.events (F3 c (j9 m) n))], .tup [.ptr 5 0, .ref 9, bA true]⟩ := by
 have hst := S0 c m (j9 m) (a80 hc hm).1 hx hr hi; have hex := aD9 c (j9 m) n true hc (R9 hc hm) hE; refine I1 24 Tryz.func32 [dI c.vars, dI c.arrays, dN c.list, dI m.vals, dR m.arrs] [(0, pA 0), (1, .agg [.ref 3, .ref 4])] fun G => ?_; have hok : (f8 c && G5 c.vars.length c.arrays.length m) = true := (a80 hc hm).2; refine wp_seq (i9 G d9 [0, 1, 2, 3, 4, 5, 13] [dI c.vars, dI c.arrays, dN c.list, dI m.vals, dR m.arrs, .box (pL 0), .box [.ref 3, .ref 4]] [(2, .ptr 5 0), (3, .ptr 6 0), (4, .v (.pointer none)), (5, .v (.slice none 0 0)), (6, bA false)] fun G => b0 (wp_seq (i9 G (t0 2 (rg 5) hst) [0, 1, 2, 3, 4, 5, 23, 24, 25, 55] (bd1 c m []) (bd0 c m []) fun G => b0 (wp_seq (wp_seq (l0 G d9 [(17, .v (.bool !(f8 c && G5 c.vars.length c.arrays.length m)))] fun G => b0 (rF G (!(f8 c && G5 c.vars.length c.arrays.length m)) (by rw [hok]; rfl) (wp_skip (b0 (wp_seq (i9 G d9 (rg 11) (bd1 c m [.box [.v (.slice none 0 0)]]) (bd0 c m [(9, .ptr 10 0)]) fun G => b0 (wp_seq ?_)))))))))))); obtain ⟨ρ, G⟩ := G.nil 11 71 (.events []) 6 (bd1 c m [.box [.ref 11]]) (bd0 c m [(9, .ptr 10 0)]); refine i9 G (t0 2 [9, 6, 7, 8, 0, 1, 2, 10, 11] hex) [0, 1, 2, 3, 4, 6, 7, 8, 9, 10, 28] [dI c.vars, dI c.arrays, dN c.list, dI m.vals, dR m.arrs, .row 3 (D.ints (m7 c (j9 m) n).regs), .row 3 (D.ints (m7 c (j9 m) n).mem.vals), .tree (D.rows (m7 c (j9 m) n).mem.arrs), .box [iA (m7 c (j9 m) n).pc, .ref 5, .ref 6, .tref 7], .box [.ref 10], .row 71 (D.events (F3 c (j9 m) n))] [(4, .v (.pointer none)), (5, .v (.slice none 0 0)), (6, bA false), (7, .ptr 8 0), (8, bA true), (9, .ptr 9 0)] fun G => b0 (wp_seq (wp_seq (l0 G d9 [(22, bA false)] fun G => b0 (rF G false (by kernel_rfl) (wp_skip (b0 (wp_seq (bh5 G d9 [0, 0, 3, 7] [0, 1, 2, 3, 4, 5, 6, 7, 8, 10] [dI c.vars, dI c.arrays, dN c.list, dI m.vals, dR m.arrs, .row 3 (D.ints (m7 c (j9 m) n).regs), .row 3 (D.ints (m7 c (j9 m) n).mem.vals), .tree (D.rows (m7 c (j9 m) n).mem.arrs), .box [iA (m7 c (j9 m) n).pc, .ref 5, .ref 6, .tref 7], .row 71 (D.events (F3 c (j9 m) n))] [(4, .ptr 8 0), (5, .ref 9), (6, bA true)] fun G => b0 (wp_ret ?_))))))))); exact I9 G [0, 1, 2, 3, 4, 8, 5, 6, 7, 9]
theorem br8 (c : b6) (m : t2) (hok : (f8 c && G5 c.vars.length c.arrays.length m) = false) (hx : m.vals.length ≤ 1048576) (hr : m.arrs.length ≤ 1048576) (hi : ∀ r ∈ m.arrs, r.length ≤ 1048576) : j8.ok Tryz.prog ⟨32, [pA 0, mA 3], kcS c ++ mS m, kcS c ++ mS m, .tup [.v (.pointer none), .v (.slice none 0 0), bA false]⟩ := by
 have hst := S0 c m (ssD c m) rfl hx hr hi; refine I1 24 Tryz.func32 [dI c.vars, dI c.arrays, dN c.list, dI m.vals, dR m.arrs] [(0, pA 0), (1, .agg [.ref 3, .ref 4])] fun G => ?_; refine wp_seq (i9 G d9 [0, 1, 2, 3, 4, 5, 13] [dI c.vars, dI c.arrays, dN c.list, dI m.vals, dR m.arrs, .box (pL 0), .box [.ref 3, .ref 4]] [(2, .ptr 5 0), (3, .ptr 6 0), (4, .v (.pointer none)), (5, .v (.slice none 0 0)), (6, bA false)] fun G => b0 (wp_seq (i9 G (t0 2 (rg 5) hst) [0, 1, 2, 3, 4, 5, 23, 24, 25, 55] [dI c.vars, dI c.arrays, dN c.list, dI m.vals, dR m.arrs, .box (pL 0), .row 3 (D.ints (ssD c m).regs), .row 3 (D.ints (ssD c m).mem.vals), .tree (D.rows (ssD c m).mem.arrs), .box [iA (ssD c m).pc, .ref 6, .ref 7, .tref 8]] [(2, .ptr 5 0), (4, .v (.pointer none)), (5, .v (.slice none 0 0)), (6, bA false), (7, .ptr 9 0), (8, bA (f8 c && G5 c.vars.length c.arrays.length m))] fun G => b0 (wp_seq (wp_seq (l0 G d9 [(17, .v (.bool !(f8 c && G5 c.vars.length c.arrays.length m)))] fun G => b0 (rT G (!(f8 c && G5 c.vars.length c.arrays.length m)) (by rw [hok]; rfl) (wp_seq (l0 G d9 [] fun G => b0 (wp_ret (n7 ?_))))))))))); exact I9 G (rg 5)
abbrev bc9 (c : b6) (m : t2) (r0 : List It) : List It := dI c.vars :: dI c.arrays :: dN c.list :: dI m.vals :: dR m.arrs :: .box (pL 0) :: .row 3 (D.ints (j9 m).regs) :: .row 3 (D.ints (j9 m).mem.vals) :: .tree (D.rows (j9 m).mem.arrs) :: .box [iA (j9 m).pc, .ref 6, .ref 7, .tref 8] :: r0
abbrev bc8 (c : b6) (m : t2) (r0 : List (Nat × AV)) : List (Nat × AV) := (2, .ptr 5 0) :: (4, .v (.pointer none)) :: (5, .v (.slice none 0 0)) :: (6, bA false) :: (7, .ptr 9 0) :: (8, bA (f8 c && G5 c.vars.length c.arrays.length m)) :: r0
theorem br7 (c : b6) (m : t2) (hc : f8 c = true) (hm : G5 c.vars.length c.arrays.length m = true) (hE : a08 c (j9 m) 20000 false) (hx : m.vals.length ≤ 1048576) (hr : m.arrs.length ≤ 1048576) (hi : ∀ r ∈ m.arrs, r.length ≤ 1048576) : j8.ok Tryz.prog ⟨32, [pA 0, mA 3], kcS c ++ mS m, kcS c ++ mS m, .tup [.v (.pointer none), .v (.slice none 0 0), bA false]⟩ := by
 have hst := S0 c m (j9 m) (a80 hc hm).1 hx hr hi; have hex := aD9 c (j9 m) 20000 false hc (R9 hc hm) hE; refine I1 24 Tryz.func32 [dI c.vars, dI c.arrays, dN c.list, dI m.vals, dR m.arrs] [(0, pA 0), (1, .agg [.ref 3, .ref 4])] fun G => ?_; have hok : (f8 c && G5 c.vars.length c.arrays.length m) = true := (a80 hc hm).2; refine wp_seq (i9 G d9 [0, 1, 2, 3, 4, 5, 13] [dI c.vars, dI c.arrays, dN c.list, dI m.vals, dR m.arrs, .box (pL 0), .box [.ref 3, .ref 4]] [(2, .ptr 5 0), (3, .ptr 6 0), (4, .v (.pointer none)), (5, .v (.slice none 0 0)), (6, bA false)] fun G => b0 (wp_seq (i9 G (t0 2 (rg 5) hst) [0, 1, 2, 3, 4, 5, 23, 24, 25, 55] (bc9 c m []) (bc8 c m []) fun G => b0 (wp_seq (wp_seq (l0 G d9 [(17, .v (.bool !(f8 c && G5 c.vars.length c.arrays.length m)))] fun G => b0 (rF G (!(f8 c && G5 c.vars.length c.arrays.length m)) (by rw [hok]; rfl) (wp_skip (b0 (wp_seq (i9 G d9 (rg 11) (bc9 c m [.box [.v (.slice none 0 0)]]) (bc8 c m [(9, .ptr 10 0)]) fun G => b0 (wp_seq ?_)))))))))))); obtain ⟨ρ, G⟩ := G.nil 11 71 (.events []) 6 (bc9 c m [.box [.ref 11]]) (bc8 c m [(9, .ptr 10 0)]); refine i9 G (t0 2 [9, 6, 7, 8, 0, 1, 2, 10, 11] hex) [0, 1, 2, 3, 4, 6, 7, 8, 9, 10, 28] [dI c.vars, dI c.arrays, dN c.list, dI m.vals, dR m.arrs, .row 3 (D.ints (m7 c (j9 m) 20000).regs), .row 3 (D.ints (m7 c (j9 m) 20000).mem.vals), .tree (D.rows (m7 c (j9 m) 20000).mem.arrs), .box [iA (m7 c (j9 m) 20000).pc, .ref 5, .ref 6, .tref 7], .box [.ref 10], .row 71 (D.events (F3 c (j9 m) 20000))] [(4, .v (.pointer none)), (5, .v (.slice none 0 0)), (6, bA false), (7, .ptr 8 0), (8, bA false), (9, .ptr 9 0)] fun G => b0 (wp_seq (wp_seq (l0 G d9 [(22, bA true)] fun G => b0 (rT G true (by kernel_rfl) (wp_seq (l0 G d9 [] fun G => b0 (wp_ret (n7 ?_)))))))); exact I9 G (rg 5)
abbrev rcC (c : b6) (m x : t2) (v : List (Int × Int)) (b : Bool) : j8 := ⟨11, [pA 0, mA 3], kcS c ++ mS m, kcS c ++ mS m ++ mO x ++ [.row 71 (.events v)], .tup [mT 5, .ref 7, bA b]⟩
theorem aV4 (c : b6) (m : t2) (s : n8) (v : List (Int × Int)) (hran : j8.ok Tryz.prog ⟨32, [pA 0, mA 3], kcS c ++ mS m, kcS c ++ mS m ++ rnO s ++ [.row 71 (.events v)], .tup [.ptr 5 0, .ref 9, bA true]⟩) : j8.ok Tryz.prog (rcC c m s.mem v true) := by
 have hrn := hran; refine I1 25 Tryz.func11 [dI c.vars, dI c.arrays, dN c.list, dI m.vals, dR m.arrs] [(0, pA 0), (1, .agg [.ref 3, .ref 4])] fun G => ?_; refine wp_seq (i9 G d9 [0, 1, 2, 3, 4, 5, 13, 21] [dI c.vars, dI c.arrays, dN c.list, dI m.vals, dR m.arrs, .box (pL 0), .box [.ref 3, .ref 4], .box [.v (.slice none 0 0), .v (.slice none 0 0)]] [(2, .ptr 5 0), (3, .ptr 6 0), (4, .ptr 7 0), (5, .v (.slice none 0 0)), (6, bA false)] fun G => b0 (wp_seq (i9 G (t0 2 (rg 5) hrn) [0, 1, 2, 3, 4, 7, 24, 25, 26, 27, 28] [dI c.vars, dI c.arrays, dN c.list, dI m.vals, dR m.arrs, .box [.v (.slice none 0 0), .v (.slice none 0 0)], .box [iA s.pc, .ref 7, .ref 8, .tref 9], .row 3 (D.ints s.regs), .row 3 (D.ints s.mem.vals), .tree (D.rows s.mem.arrs), .row 71 (D.events v)] [(4, .ptr 5 0), (5, .v (.slice none 0 0)), (6, bA false), (7, .ptr 6 0), (8, .ref 10), (9, bA true)] fun G => b0 (wp_seq (wp_seq (l0 G d9 [(18, bA false)] fun G => b0 (rF G false (by kernel_rfl) (wp_skip (b0 (wp_seq (i9 G d9 [0, 1, 2, 3, 4, 5, 8, 9, 10] [dI c.vars, dI c.arrays, dN c.list, dI m.vals, dR m.arrs, .box [.ref 6, .tref 7], .row 3 (D.ints s.mem.vals), .tree (D.rows s.mem.arrs), .row 71 (D.events v)] [(4, .ptr 5 0), (5, .ref 8), (6, bA true)] fun G => b0 (wp_ret ?_)))))))))))); exact I9 G [0, 1, 2, 3, 4, 6, 7, 8]
abbrev a09 (r0 : List (Nat × AV)) : List (Nat × AV) := (4, .ptr 5 0) :: (5, .v (.slice none 0 0)) :: (6, bA false) :: (7, .v (.pointer none)) :: (8, .v (.slice none 0 0)) :: r0
theorem at8 (c : b6) (m : t2) (hran : j8.ok Tryz.prog ⟨32, [pA 0, mA 3], kcS c ++ mS m, kcS c ++ mS m, .tup [.v (.pointer none), .v (.slice none 0 0), bA false]⟩) : j8.ok Tryz.prog (rcC c m ⟨[], []⟩ [] false) := by
 have hrn := hran; refine I1 25 Tryz.func11 [dI c.vars, dI c.arrays, dN c.list, dI m.vals, dR m.arrs] [(0, pA 0), (1, .agg [.ref 3, .ref 4])] fun G => ?_; refine wp_seq (i9 G d9 [0, 1, 2, 3, 4, 5, 13, 21] [dI c.vars, dI c.arrays, dN c.list, dI m.vals, dR m.arrs, .box (pL 0), .box [.ref 3, .ref 4], .box [.v (.slice none 0 0), .v (.slice none 0 0)]] [(2, .ptr 5 0), (3, .ptr 6 0), (4, .ptr 7 0), (5, .v (.slice none 0 0)), (6, bA false)] fun G => b0 (wp_seq (i9 G (t0 2 (rg 5) hrn) [0, 1, 2, 3, 4, 7] [dI c.vars, dI c.arrays, dN c.list, dI m.vals, dR m.arrs, .box [.v (.slice none 0 0), .v (.slice none 0 0)]] (a09 [(9, bA false)]) fun G => b0 (wp_seq (wp_seq (l0 G d9 [(18, bA true)] fun G => b0 (rT G true (by kernel_rfl) (wp_seq (F5 G d9 (a09 []) fun G => b0 (wp_ret (n7 ?_))))))))))); obtain ⟨ρ, G⟩ := G.nil 6 3 (.ints []) 1 [dI c.vars, dI c.arrays, dN c.list, dI m.vals, dR m.arrs, .box [.ref 6, .v (.slice none 0 0)]] (a09 []); obtain ⟨ρ, G⟩ := G.nilT 7 (.rows []) [dI c.vars, dI c.arrays, dN c.list, dI m.vals, dR m.arrs, .box [.ref 6, .tref 7], .row 3 (D.ints [])] (a09 []); obtain ⟨ρ, G⟩ := G.nil 8 71 (.events []) 6 [dI c.vars, dI c.arrays, dN c.list, dI m.vals, dR m.arrs, .box [.ref 6, .tref 7], .row 3 (D.ints []), .tree (D.rows [])] [(4, .ptr 5 0), (5, .ref 8), (6, bA false), (7, .v (.pointer none)), (8, .v (.slice none 0 0))]; exact I9 G [0, 1, 2, 3, 4, 6, 7, 8]
def aK0 (c : b6) (m x : t2) (v : List (Int × Int)) (b : Bool) : Prop :=
 (b = true ∧ f8 c = true ∧ G5 c.vars.length c.arrays.length m = true ∧ ∃ n, az8 c m n ∧ x = bh4 c m n ∧ v = ap3 c m n) ∨
 (b = false ∧ x = ⟨[], []⟩ ∧ v = [] ∧ ∀ n, ¬ (f8 c = true ∧ G5 c.vars.length c.arrays.length m = true ∧ az8 c m n))
theorem aE1 (c : b6) (m : t2) (hx : m.vals.length ≤ 1048576) (hr : m.arrs.length ≤ 1048576) (hi : ∀ r ∈ m.arrs, r.length ≤ 1048576) : ∃ x v b, aK0 c m x v b ∧ j8.ok Tryz.prog (rcC c m x v b) := by
 cases hok : (f8 c && G5 c.vars.length c.arrays.length m) with
 | false =>
  refine ⟨_, _, _, .inr ⟨rfl, rfl, rfl, fun n h => ?_⟩, at8 c m (br8 c m hok hx hr hi)⟩
  rw [h.1, h.2.1] at hok; cases hok
 | true =>
  rw [bX0] at hok
  obtain ⟨hc, hm⟩ := hok
  rcases bs3 c m with ⟨n, h⟩ | h
  ·refine ⟨_, _, _, .inl ⟨rfl, hc, hm, n, h, rfl, rfl⟩, aV4 c m (m7 c (j9 m) (n + 1)) _ (bB7 c m (n + 1) hc hm ⟨?_, fun k hk => ?_, fun _ => ⟨n, rfl, h.fin⟩, fun e => by cases e⟩ hx hr hi)⟩
   ·have := h.lt; omega
   ·exact h.no k (by omega)
  ·refine ⟨_, _, _, .inr ⟨rfl, rfl, rfl, fun n h2 => ?_⟩, at8 c m (br7 c m hc hm ⟨bX4 _, fun k hk => h k (by omega), (fun e => by cases e), fun _ => ⟨rfl, h⟩⟩ hx hr hi)⟩
   have := h n h2.2.2.lt
   rw [h2.2.2.fin] at this; cases this
theorem bh1 {c : b6} {m x : t2} {v : List (Int × Int)} {b : Bool} (h : aK0 c m x v b) : v.length ≤ 100000 := by
 rcases h with ⟨_, _, _, n, h1, _, rfl⟩ | ⟨_, _, rfl, _⟩
 ·have := au0 c (j9 m) (n + 1)
  have := h1.lt
  unfold ap3; omega
 ·exact bZ4 _
structure ay4 (x y : c7) : Prop where
 r : ∀ m r, stR m y r = stR m x r
 m : ∀ m r, stM m y r = stM m x r
 e : ∀ r, stE y r = stE x r
 o : y.op = x.op
theorem same_refl (x : c7) : ay4 x x := ⟨fun _ _ => rfl, fun _ _ => rfl, fun _ => rfl, rfl⟩
theorem bf6 {x : c7} (h : 0 ≤ l8 x) (t : Int) : ay4 x (D3 x t) := by
 have ho : x.op = 8 ∨ x.op = 9 ∨ x.op = 10 := by
  unfold l8 at h
  by_cases h8 : x.op = 8
  ·exact .inl h8
  ·by_cases h9 : x.op = 9 ∨ x.op = 10
   ·exact .inr h9
   ·rw [if_neg h8, if_neg h9] at h; omega
 rcases ho with e | e | e
 ·have ha : D3 x t = { x with a := t } := by unfold D3; rw [if_pos e]
  rw [ha]
  refine ⟨fun m r => ?_, fun m r => ?_, fun r => ?_, rfl⟩
  ·simp [stR, e]
  ·simp [stM, e]
  ·simp [stE, e]
 ·have ha : D3 x t = { x with b := t } := by unfold D3; rw [if_neg (by omega), if_pos (.inl e)]
  rw [ha]
  refine ⟨fun m r => ?_, fun m r => ?_, fun r => ?_, rfl⟩
  ·simp [stR, e]
  ·simp [stM, e]
  ·simp [stE, e]
 ·have ha : D3 x t = { x with b := t } := by unfold D3; rw [if_neg (by omega), if_pos (.inr e)]
  rw [ha]
  refine ⟨fun m r => ?_, fun m r => ?_, fun r => ?_, rfl⟩
  ·simp [stR, e]
  ·simp [stM, e]
  ·simp [stE, e]
theorem bE4 {x : c7} (h : 0 ≤ l8 x) (t : Int) (r : List Int) (p q : Int) : (stP x r p = l8 x ∧ stP (D3 x t) r q = t) ∨ (x.op ≠ 8 ∧ stP x r p = p + 1 ∧ stP (D3 x t) r q = q + 1) := by
 unfold l8 at h ⊢
 by_cases e8 : x.op = 8
 ·left
  have ha : D3 x t = { x with a := t } := by unfold D3; rw [if_pos e8]
  rw [ha]; simp [stP, e8]
 rw [if_neg e8] at h ⊢
 by_cases e9 : x.op = 9
 ·have ha : D3 x t = { x with b := t } := by unfold D3; rw [if_neg e8, if_pos (.inl e9)]
  rw [ha, if_pos (.inl e9)]
  simp only [stP]
  rw [if_neg e8, if_neg e8, if_pos e9, if_pos e9]
  split
  ·exact .inl ⟨rfl, rfl⟩
  ·exact .inr ⟨e8, rfl, rfl⟩
 by_cases e10 : x.op = 10
 ·have ha : D3 x t = { x with b := t } := by unfold D3; rw [if_neg e8, if_pos (.inr e10)]
  rw [ha, if_pos (.inr e10)]
  simp only [stP]
  rw [if_neg e8, if_neg e8, if_neg e9, if_neg e9, if_pos e10, if_pos e10]
  split
  ·exact .inr ⟨e8, rfl, rfl⟩
  ·exact .inl ⟨rfl, rfl⟩
 ·rw [if_neg (by omega)] at h; omega
theorem aQ1 {c : b6} {x : c7} (hx : v8 c x = true) (h : ¬ 0 ≤ l8 x) (h13 : x.op ≠ 13) (r : List Int) (p : Int) : stP x r p = p + 1 := by
 have := bD5 hx h
 unfold stP
 rw [if_neg this.1, if_neg this.2.1, if_neg this.2.2, if_neg h13]
theorem bk5 {c : b6} {s : n8} (h : isJ c s.pc = true) : i5 c s = ⟨(z9 c s.pc.toNat).a, s.regs, s.mem⟩ ∧ stE (E9 c s) s.regs = [] ∧ J9 c s = false := by
 unfold isJ at h
 have h8 : (z9 c s.pc.toNat).op = 8 := by simpa using h
 unfold i5 J9 E9
 simp [stP, stR, stM, stE, h8]
structure Sim (c d : b6) (R : Int → Int → Prop) : Prop where
 zero : R 0 0
 go : ∀ (s t : n8), N0 c s = true → Rc c s.pc → N0 d t = true → R s.pc t.pc → t.regs = s.regs → t.mem = s.mem → J9 c s = false →
  (R (i5 c s).pc t.pc ∧ (i5 c s).regs = s.regs ∧ (i5 c s).mem = s.mem ∧ stE (E9 c s) s.regs = []) ∨
  (ay4 (E9 c s) (E9 d t) ∧ R (i5 c s).pc (i5 d t).pc)
 fin : ∀ (s t : n8), N0 c s = true → Rc c s.pc → N0 d t = true → R s.pc t.pc → J9 c s = true → ay4 (E9 c s) (E9 d t)
theorem aR2 {c d : b6} {s t : n8} (h : ay4 (E9 c s) (E9 d t)) : J9 d t = J9 c s := by
 unfold J9; rw [h.o]
theorem aB9 {c d : b6} {s t : n8} (h : ay4 (E9 c s) (E9 d t)) (hr : t.regs = s.regs) (hm : t.mem = s.mem) : (i5 d t).regs = (i5 c s).regs ∧ (i5 d t).mem = (i5 c s).mem ∧ stE (E9 d t) t.regs = stE (E9 c s) s.regs := by
 unfold i5
 dsimp only
 rw [hr, hm, h.r, h.m, h.e]
 exact ⟨rfl, rfl, rfl⟩
section
variable {c d : b6} {R : Int → Int → Prop} {m : t2}
theorem a34 (S : Sim c d R) (hc : f8 c = true) (hd : f8 d = true) (hm : G5 c.vars.length c.arrays.length m = true) (hm2 : G5 d.vars.length d.arrays.length m = true) : ∀ n : Nat, (∀ k, k < n → J9 c (m7 c (j9 m) k) = false) →
  ∃ i, i ≤ n ∧ R (m7 c (j9 m) n).pc (m7 d (j9 m) i).pc ∧ (m7 d (j9 m) i).regs = (m7 c (j9 m) n).regs ∧ (m7 d (j9 m) i).mem = (m7 c (j9 m) n).mem ∧
   x7 (F3 d (j9 m) i) = x7 (F3 c (j9 m) n) ∧ (F3 d (j9 m) i).length ≤ (F3 c (j9 m) n).length ∧ ∀ k, k < i → J9 d (m7 d (j9 m) k) = false
 | 0, _ => ⟨0, bX4 _, S.zero, rfl, rfl, rfl, bX4 _, fun k hk => absurd hk (Nat.not_lt_zero _)⟩
 | n + 1, hno => by
  obtain ⟨i, h0, h1, h2, h3, h4, h5, h6⟩ := a34 S hc hd hm hm2 n fun k hk => hno k (by omega)
  have hs := aa5 hc (R9 hc hm) n
  have ht := aa5 hd (R9 hd hm2) i
  have hr := a39 hc hm n
  have he := hno n (by omega)
  rcases S.go _ _ hs hr ht h1 h2 h3 he with ⟨g1, g2, g3, g4⟩ | ⟨g1, g2⟩
  ·refine ⟨i, by omega, g1, ?_, ?_, ?_, ?_, h6⟩
   ·rw [h2]; exact g2.symm
   ·rw [h3]; exact g3.symm
   ·rw [F3, I4, S5, g4, h4, List.append_nil]
   ·rw [F3, bX1]; omega
  ·obtain ⟨k1, k2, k3⟩ := aB9 g1 h2 h3
   refine ⟨i + 1, by omega, g2, k1, k2, ?_, ?_, fun k hk => ?_⟩
   ·rw [F3, F3, I4, I4, S5, S5, k3, h4]
   ·rw [F3, F3, bX1, bX1]
    unfold B9
    rw [k3, bX8, bX8]; omega
   ·by_cases e : k = i
    ·subst e; rw [aR2 g1]; exact he
    ·exact h6 k (by omega)
theorem bq8 (S : Sim c d R) (hc : f8 c = true) (hd : f8 d = true) (hm : G5 c.vars.length c.arrays.length m = true) (hm2 : G5 d.vars.length d.arrays.length m = true) {n : Nat} (h : az8 c m n) :
  ∃ i, az8 d m i ∧ bh4 d m i = bh4 c m n ∧ x7 (ap3 d m i) = x7 (ap3 c m n) ∧ (ap3 d m i).length ≤ (ap3 c m n).length := by
 obtain ⟨i, h0, h1, h2, h3, h4, h5, h6⟩ := a34 S hc hd hm hm2 n h.no
 have g := S.fin _ _ (aa5 hc (R9 hc hm) n) (a39 hc hm n) (aa5 hd (R9 hd hm2) i) h1 h.fin
 obtain ⟨k1, k2, k3⟩ := aB9 g h2 h3
 have hlt := h.lt
 refine ⟨i, ⟨by omega, ?_, h6⟩, k2, ?_, ?_⟩
 ·rw [aR2 g]; exact h.fin
 ·unfold ap3
  rw [F3, F3, I4, I4, S5, S5, k3, h4]
 ·unfold ap3
  rw [F3, F3, bX1, bX1]
  unfold B9
  rw [k3, bX8, bX8]; omega
end
theorem bn0 (c : b6) {x : Int} (h : isJ c x = true) (k : Nat) : D0 c k (z9 c x.toNat).a = D0 c (k + 1) x := (Y1 h).symm
theorem aP6 {c : b6} {t : n8} (h : H1 c t.pc) : E9 (t9 c) t = P3 c (z9 c t.pc.toNat) := by
 have h1 : 0 ≤ t.pc := h.1
 have h2 : t.pc < c.list.length := h.2
 exact bv5 (by omega)
theorem aQ9 (c : b6) (t : Int) : ∃ k, D0 c k t = G6 c t := by
 unfold G6
 split
 ·exact ⟨0, rfl⟩
 ·exact ⟨_, rfl⟩
theorem aB5 (c : b6) (x : c7) : ay4 x (P3 c x) := by
 unfold P3
 split
 ·rename_i h; exact bf6 h _
 ·exact same_refl x
theorem bq7 {c : b6} (hc : f8 c = true) : Sim c (t9 c) fun p q => ∃ k, D0 c k p = q where
 zero := ⟨0, rfl⟩
 go := by
  rintro s t hs hr ht ⟨k, hk⟩ hR hM he
  obtain ⟨a1, a2, -⟩ := X7 hs
  by_cases hp : t.pc = s.pc
  ·right
   have hpl : H1 c t.pc := by rw [hp]; exact ⟨a1, a2⟩
   have hi : E9 (t9 c) t = P3 c (E9 c s) := by rw [aP6 hpl, hp]; rfl
   have hx := aI2 hc a1 a2
   have h13 : (E9 c s).op ≠ 13 := by unfold J9 at he; simpa using he
   refine ⟨hi ▸ aB5 c _, ?_⟩
   show ∃ k, D0 c k (stP (E9 c s) s.regs s.pc) = stP (E9 (t9 c) t) t.regs t.pc
   rw [hi, hR]
   by_cases ht : 0 ≤ l8 (E9 c s)
   ·have e : P3 c (E9 c s) = D3 (E9 c s) (G6 c (l8 (E9 c s))) := by unfold P3; rw [if_pos ht]
    rw [e]
    rcases bE4 ht (G6 c (l8 (E9 c s))) s.regs s.pc t.pc with ⟨g1, g2⟩ | ⟨_, g1, g2⟩
    ·rw [g1, g2]; exact aQ9 c _
    ·rw [g1, g2, hp]; exact ⟨0, rfl⟩
   ·have e : P3 c (E9 c s) = E9 c s := by unfold P3; rw [if_neg ht]
    rw [e, aQ1 hx ht h13, aQ1 hx ht h13, hp]; exact ⟨0, rfl⟩
  ·left
   cases k with
   | zero => exact absurd hk.symm hp
   | succ k =>
    cases hj : isJ c s.pc with
    | false => rw [T2 hj] at hk; exact absurd hk.symm hp
    | true =>
     obtain ⟨g1, g2, _⟩ := bk5 (c := c) (s := s) hj
     rw [g1]
     refine ⟨⟨k, ?_⟩, rfl, rfl, g2⟩
     rw [← hk]; exact bn0 c hj k
 fin := by
  rintro s t hs hr ht ⟨k, hk⟩ he
  obtain ⟨a1, a2, -⟩ := X7 hs
  have hj : isJ c s.pc = false := by
   cases hj : isJ c s.pc with
   | false => rfl
   | true => rw [(bk5 (c := c) (s := s) hj).2.2] at he; cases he
  rw [T2 hj] at hk
  have hpl : H1 c t.pc := by rw [← hk]; exact ⟨a1, a2⟩
  have hi : E9 (t9 c) t = P3 c (E9 c s) := by rw [aP6 hpl, ← hk]; rfl
  rw [hi]; exact aB5 c _
theorem be2 {c : b6} {m : t2} (h : G5 c.vars.length c.arrays.length m = true) : G5 (t9 c).vars.length (t9 c).arrays.length m = true := h
def aE4 (c d : b6) (m : t2) : Prop := ∀ n, az8 c m n → ∃ i, az8 d m i ∧ bh4 d m i = bh4 c m n ∧ x7 (ap3 d m i) = x7 (ap3 c m n) ∧ (ap3 d m i).length ≤ (ap3 c m n).length
theorem aE4.trans {c d e : b6} {m : t2} (h : aE4 c d m) (g : aE4 d e m) : aE4 c e m := by
 intro n hn
 obtain ⟨i, h1, h2, h3, h4⟩ := h n hn
 obtain ⟨j, g1, g2, g3, g4⟩ := g i h1
 exact ⟨j, g1, g2.trans h2, g3.trans h3, bZ6 g4 h4⟩
theorem a77 {c : b6} {m : t2} (hc : f8 c = true) (hm : G5 c.vars.length c.arrays.length m = true) : aE4 c (t9 c) m := fun _ h => bq8 (bq7 hc) hc (aU2 hc) hm (be2 hm) h
theorem bs5 {c d : b6} {m x y : t2} {v w : List (Int × Int)} {b e : Bool} (hd : f8 d = true) (hm : G5 c.vars.length c.arrays.length m = true → G5 d.vars.length d.arrays.length m = true) (hA : f8 c = true → G5 c.vars.length c.arrays.length m = true → aE4 c d m) (h : aK0 c m x v b) (g : aK0 d m y w e) (hb : b = true) : e = true ∧ y = x ∧ x7 w = x7 v ∧ w.length ≤ v.length := by
 rcases h with ⟨_, hc, hf, n, h1, rfl, rfl⟩ | ⟨h, _⟩
 ·obtain ⟨i, k1, k2, k3, k4⟩ := hA hc hf n h1
  rcases g with ⟨ge, _, _, j, g1, rfl, rfl⟩ | ⟨_, _, _, g4⟩
  ·obtain rfl := bh0 k1 g1
   exact ⟨ge, k2, k3, k4⟩
  ·exact absurd ⟨hd, hm hf, k1⟩ (g4 i)
 ·rw [h] at hb; cases hb
theorem a44 {l : List (Int × Int)} {k : Nat} (hk : k < l.length) : x7 (l.take (k + 1)) = x7 (l.take k) ++ x7 [l.getD k (0, 0)] := by
 rw [r8 _ _ hk, I4, n9 hk]
theorem bT3 {l : List (Int × Int)} {k : Nat} (hk : k < l.length) (h1 : 2 ≤ (l.getD k (0, 0)).1) (h2 : (l.getD k (0, 0)).1 ≤ 4) : x7 (l.take (k + 1)) = x7 (l.take k) ++ [((l.getD k (0, 0)).1, (l.getD k (0, 0)).2)] := by
 rw [a44 hk]
 generalize l.getD k (0, 0) = x at *
 unfold x7
 rw [List.filter_cons, decide_eq_true h1, decide_eq_true h2]; rfl
theorem bT4 {l : List (Int × Int)} {k : Nat} (hk : k < l.length) (h : (l.getD k (0, 0)).1 < 2 ∨ 4 < (l.getD k (0, 0)).1) : x7 (l.take (k + 1)) = x7 (l.take k) := by
 rw [a44 hk]
 generalize l.getD k (0, 0) = x at *
 unfold x7
 rw [List.filter_cons]
 rcases h with h | h
 ·rw [decide_eq_false (p := 2 ≤ x.1) (by omega)]; simp
 ·rw [decide_eq_false (p := x.1 ≤ 4) (by omega)]; simp
theorem bC7 {l : List (Int × Int)} {k : Nat} (hk : l.length ≤ k) : x7 (l.take k) = x7 l := by rw [bY3 hk]
theorem bC6 (l : List (Int × Int)) : (x7 l).length ≤ l.length := List.length_filter_le ..
theorem bA2 (l : List (Int × Int)) (h1 : l.length ≤ 1000000) : j8.ok Tryz.prog ⟨15, [.ref 0], [.dat (.events l)], [.dat (.events l), .row 71 (.events (x7 l))], .ref 1⟩ := by
  refine I1 21 Tryz.func15 [dV l] [(0, .ref 0)] fun G => ?_; refine wp_seq (l0 G d9 [(2, .v (.slice none 0 0))] fun G => b0 (wp_seq (l0 G d9 [(3, .v (.slice none 0 0))] fun G => b0 (wp_seq (wp_seq (F5 G d9 [(2, .v (.slice none 0 0)), (3, .v (.slice none 0 0)), (6, .ref 0), (7, iA (l.length : Int)), (8, iA 0)] fun G => b0 (wp_block ?_))))))); obtain ⟨ρ, G⟩ := G.nil 1 71 (.events []) 6 [dV l] [(2, .v (.slice none 0 0)), (3, .ref 1), (6, .ref 0), (7, iA (l.length : Int)), (8, iA 0)]; refine v5 (κ := Nat) (fun k => k ≤ l.length) (fun k => l.length - k) (fun k => [dV l, .row 71 (.events (x7 (l.take k)))]) (fun k => [(2, .v (.slice none 0 0)), (3, .ref 1), (6, .ref 0), (7, iA (l.length : Int)), (8, iA k)]) 0 (by omega) (s4.at G _ _) ?_; clear G; intro k ρ a w hp G; replace G := s4.at G [dV l, .row 71 (D.events (x7 (bY0 k l)))] [(2, .v (.slice none 0 0)), (3, .ref 1), (6, .ref 0), (7, iA (l.length : Int)), (8, iA k)]; have hpl := bC6 (l.take k)
  have hpm : (l.take k).length ≤ l.length := by rw [List.length_take]; exact Nat.min_le_right _ _
  refine wp_seq (l0 G d9 [(9, bA (decide ((k : Int) < l.length)))] fun G => b0 (wp_seq (rcD G (fun h0 q0 => ?_) fun h0 q0 => ?_)))
  · refine wp_exit (t6 (t6 (t3 (b0 (wp_seq (l0 G d9 [(2, .ref 1)] fun G => b0 (wp_ret ?_))))))); exact I9 G [0, 1] (by show _ = mR [0, 1] [dV l, .row 71 (D.events (x7 l))]; have e1 : (x7 l : List (Int × Int)) = (x7 (bY0 k l)) := ((bC7 (by omega)).symm); (first | rw [e1] | simp only [e1]) <;> rfl)
  ·
   refine wp_skip (b0 (wp_seq (wp_block (wp_seq (J0 G d9 [0, 1, 18] [dV l, .row 71 (D.events (x7 (bY0 k l))), .box [iA (l.getD k (0, 0)).fst, iA (l.getD k (0, 0)).snd]] [(2, .v (.slice none 0 0)), (3, .ref 1), (5, .ptr 2 0), (6, .ref 0), (7, iA (l.length : Int)), (8, iA k)] (iX k k l.length []) (iK (by omega) bY1) fun G => b0 (wp_seq (l0 G (t0 2 [] (aR9 ((l.getD k (0, 0)).fst) 2 4)) [(14, bA (decide (2 ≤ (l.getD k (0, 0)).fst) && decide ((l.getD k (0, 0)).fst ≤ 4)))] fun G => b0 ?_))))))); cases h1 : (decide ((2 : Int) ≤ (l.getD k ((0 : Int), (0 : Int))).fst) && decide ((l.getD k ((0 : Int), (0 : Int))).fst ≤ 4))
   · have q1 : (¬ (2 ≤ (l.getD k (0, 0)).fst)) ∨ (¬ ((l.getD k (0, 0)).fst ≤ 4)) := Or.imp (fun hq => of_decide_eq_false hq) (fun hq => of_decide_eq_false hq) (Bool.and_eq_false_iff.1 h1); refine rF G _ h1 (wp_skip (i8 (b0 (J0 G d9 [0, 1] [dV l, .row 71 (D.events (x7 (bY0 k l)))] [(2, .v (.slice none 0 0)), (3, .ref 1), (6, .ref 0), (7, iA (l.length : Int)), (8, iA ((k : Int) + 1))] [wO ((k : Int) + 1)] (o1 (by omega)) fun G => b0 ?_)))); exact J5 G (k + 1) (by omega) (by omega) [0, 1] (by have e1 : (x7 (bY0 (k + 1) l) : List (Int × Int)) = (x7 (bY0 k l)) := (bT4 (by omega) (by omega)); (first | rw [e1] | simp only [e1]) <;> rfl)
   · have q1 : (2 ≤ (l.getD k (0, 0)).fst) ∧ ((l.getD k (0, 0)).fst ≤ 4) := And.imp (fun hq => of_decide_eq_true hq) (fun hq => of_decide_eq_true hq) (Bool.and_eq_true_iff.1 h1); refine rT G _ h1 (J0 G d9 [0, 27] [dV l, .row 71 (D.events (x7 (bY0 k l) ++ ([(l.getD k (0, 0))] ++ [])))] [(2, .v (.slice none 0 0)), (3, .ref 1), (6, .ref 0), (7, iA (l.length : Int)), (8, iA k)] (aP ((x7 (bY0 k l)).length + ([(l.getD k ((0 : Int), (0 : Int)))] ++ []).length) 16 []) (aK (by simp; omega) bY1) fun G => i8 (b0 (B5 G d9 [(8, iA ((k : Int) + 1))] [wO ((k : Int) + 1)] (o1 (by omega)) fun G => b0 ?_))); exact J5 G (k + 1) (by omega) (by omega) [0, 1] (by have e1 : (x7 (bY0 (k + 1) l) : List (Int × Int)) = (x7 (bY0 k l) ++ ([(l.getD k (0, 0))] ++ [])) := (bT3 (by omega) (by omega) (by omega)); (first | rw [e1] | simp only [e1]) <;> rfl)
abbrev evF (l : List (Int × Int)) : List Value := l.flatMap fun x => [Value.int .i64 x.1, .int .i64 x.2]
theorem F2.ev {w : World} {v : Value} {l : List (Int × Int)} (h : F2 w v l.length 2 (evF l)) : ∃ a cap, v = .slice a l.length cap ∧ l.length ≤ cap ∧ l.length ≤ 9223372036854775807 ∧ cap ≤ 9223372036854775807 ∧
  ∀ i (hi : i < l.length), ∃ b off, a = some ⟨b, off, none⟩ ∧ b < w.heap.size ∧ w.cell? ⟨b, off + i * 2, none⟩ = some (.int .i64 l[i].1) ∧ w.cell? ⟨b, off + i * 2 + 1, none⟩ = some (.int .i64 l[i].2) := by
 obtain ⟨a, cap, h0, h1, h2, h3, h4⟩ := h.open
 refine ⟨a, cap, h0, h1, h2, h3, fun i hi => ?_⟩
 obtain ⟨b, off, e, hb, hc⟩ := h4 i hi
 have c0 := hc 0 (by omega)
 have c1 := hc 1 (by omega)
 obtain ⟨y0, e0, g0⟩ := a61 l (j := 0) (x := .v (.int .i64 l[i].1)) hi (by rw [n9 hi]; rfl)
 obtain ⟨y1, e1, g1⟩ := a61 l (j := 1) (x := .v (.int .i64 l[i].2)) hi (by rw [n9 hi]; rfl)
 cases e0
 cases e1
 simp only [b07] at c0 g0
 exact ⟨b, off, e, hb, by rw [c0]; exact g0, by rw [c1]; exact g1⟩
theorem bE7 (x y : Int × Int) (w : World) : (binOp .neq 71 (.agg #[.int .i64 x.1, .int .i64 x.2]) (.agg #[.int .i64 y.1, .int .i64 y.2])).run Tryz.prog w = .ok (.bool (!decide (x = y))) w := by
 rw [run_neq_struct, run_equalIn_struct _ _ _ _ _ (by kernel_rfl) (by kernel_rfl)]
 rw [show (Tryz.prog.fieldsOf 71).toList = [⟨"Kind", 3, 0, false, "", "", 0⟩, ⟨"Value", 3, 1, false, "", "", 8⟩] from by kernel_rfl]
 simp only [Prod.ext_iff]
 simp [go_sem, Op.eqFields]
 (repeat' split) <;> simp_all
theorem bl6 (v1 v2 : Value) (xs ys : List (Int × Int)) (w : World) (h1 : F2 w v1 xs.length 2 (evF xs)) (h2 : F2 w v2 ys.length 2 (evF ys)) :
  Calls Tryz.prog 39 #[v1, v2] w fun e w' => e = .returned (.bool (decide (xs = ys))) ∧ ∃ n, w' = w.drewN n := by
 obtain ⟨a1, c1, rfl, -, hm1, -, hc1⟩ := h1.ev
 obtain ⟨a2, c2, rfl, -, hm2, -, hc2⟩ := h2.ev
 by_cases hl : xs.length = ys.length
 ·have heq : ((xs.length : Int) == (ys.length : Int)) = true := by simp; omega
  have HL : Hid (xs.length = ys.length) := hl
  clear h1 h2 hl
  go_enter Tryz.func39, Tryz.ntmps39
  go_wp2
  go_loopw [5, 13] (fun _ i wr => ∃ k : Nat, k ≤ xs.length ∧ i = .int .i64 k ∧ xs.take k = ys.take k ∧ ∃ n, wr = w.drewN n) (fun _ i _ => xs.length - (intOf i).toNat)
  case atStart => exact ⟨0, bZ4 _, rfl, rfl, 0, rfl⟩
  case round =>
   obtain ⟨k, hk, rfl, ht, nd, rfl⟩ := hrel
   have HT : Hid (xs.take k = ys.take k) := ht
   clear ht
   by_cases hlt : k < xs.length
   ·have hlt2 : k < ys.length := by have := HL.out; omega
    obtain ⟨b1, o1, e1, hb1, i0, i1⟩ := hc1 k hlt
    obtain ⟨b2, o2, e2, hb2, j0, j1⟩ := hc2 k hlt2
    have hq := fun w => bE7 xs[k] ys[k] w
    have HE := show Hid _ from (fun (h : xs[k] = ys[k]) => W9 HT.out hlt hlt2 h)
    obtain ⟨q, hq0⟩ : ∃ q, q = !decide (xs[k] = ys[k]) := ⟨_, rfl⟩
    rw [← hq0] at hq
    have HQ0 := show Hid _ from hq0
    obtain ⟨x, hx⟩ : ∃ x, x = xs[k] := ⟨_, rfl⟩
    obtain ⟨y, hy⟩ : ∃ y, y = ys[k] := ⟨_, rfl⟩
    rw [← hx] at i0 i1
    rw [← hy] at j0 j1
    simp only [← hx, ← hy] at hq
    subst e1 e2
    clear hc1 hc2 hq0 hx hy
    cases q
    ·go_wp2
     go_quiet (fail)
     go_wp2
     refine ⟨⟨k + 1, by omega, by go_num, HE.out (by have := HQ0.out; simpa using this), _, by first | rfl | exact World.drewN_drewN _ _ _⟩, by simp [intOf]; omega⟩
    ·go_wp2
     go_quiet (fail)
     go_wp2
     go_ret
     exact ⟨j5 (by symm; simp; intro h; subst h; simpa using HQ0.out), _, by first | rfl | exact World.drewN_drewN _ _ _⟩
   ·go_wp2
    go_ret
    exact ⟨j5 (by symm; simp; exact aa0 HT.out (by omega) (by have := HL.out; omega)), _, rfl⟩
 ·have hne : ((xs.length : Int) == (ys.length : Int)) = false := by simp; omega
  clear hc1 hc2
  go_enter Tryz.func39, Tryz.ntmps39
  go_wp2
  go_ret
  exact ⟨j5 (by symm; simp; intro h; exact hl (by rw [h])), 0, rfl⟩
theorem bn9 (l m : List (Int × Int)) : j8.ok Tryz.prog (V1 39 [.ref 0, .ref 1] [.dat (.events l), .dat (.events m)] (bA (decide (l = m)))) :=
 af5 fun φ w ρ h => (bl6 _ _ l m w (t4.row (h 0 _ rfl)) (t4.row (h 1 _ rfl))).mono fun e w' ⟨h1, n, h2⟩ => ⟨h1, h2 ▸ below_drewN (Below.refl _ _) n⟩
theorem bO8 (l m : List (Int × Int)) : j8.ok Tryz.prog (V1 14 [.ref 0, .ref 1] [.dat (.events l), .dat (.events m)] (bA (decide (l = m)))) := by
 refine I1 8 Tryz.func14 [dV l, dV m] [(0, .ref 0), (1, .ref 1)] fun G => ?_; refine wp_seq (l0 G d9 [(4, bA false)] fun G => b0 (wp_seq (l0 G (t0 2 [0, 1] (bn9 l m)) [(4, bA (decide (l = m)))] fun G => b0 (wp_ret ?_)))); exact I9 G [0, 1]
theorem aV6 {w : World} {φ : Nat → Prop} {v : Value} {l : List c7} (h : w.ownsRow 0 60 5 v l.length (ints (A8 l))) : (Rs.row 60 (D.instrs l).sz v (D.instrs l).len fun xs w φ => RW w φ (.instrs l) xs).holds w φ := by
 refine ⟨fun xs => RW.nice (.instrs l) xs, ints (A8 l), h, fun i hi j x hx => ?_⟩
 have hi' : i < l.length := hi
 obtain ⟨y, rfl, hy⟩ := bl4 l hi' hx
 exact ⟨y, hy, rfl⟩
theorem a66 {f : FuncId} {c d : b6} {b : Bool} (h : ∀ (v : Value) (w : World), A3 w v c → Calls Tryz.prog f #[v] w fun e w' => ∃ u, e = .returned (.tuple #[u, .bool b]) ∧ A0 w' w.heap.size w'.heap.size u d ∧ Below w.heap.size w w') : j8.ok Tryz.prog ⟨f, [.agg [.ref 0, .ref 1, .ref 2]], [.dat (.ints c.vars), .dat (.ints c.arrays), .dat (.instrs c.list)], [.dat (.ints c.vars), .dat (.ints c.arrays), .dat (.instrs c.list), .row 3 (.ints d.vars), .row 3 (.ints d.arrays), .row 60 (.instrs d.list)], .tup [.agg [.ref 3, .ref 4, .ref 5], .v (.bool b)]⟩ := by
 intro ι φ ψ w0 w F ρ M
 have r0 := M.datAt (id := 0) (d := .ints c.vars) rfl
 have r1 := M.datAt (id := 1) (d := .ints c.arrays) rfl
 have r2 := M.datAt (id := 2) (d := .instrs c.list) rfl
 refine (h (.agg #[ρ 0, ρ 1, ρ 2]) w ⟨_, _, _, rfl, t4.row r0, t4.row r1, t4.row r2⟩).mono ?_
 rintro e w' ⟨u, rfl, ⟨v1, v2, v3, rfl, ⟨o1, g1⟩, ⟨o2, g2⟩, ⟨o3, g3⟩, d12, d13, d23⟩, hbl⟩
 refine ⟨fun i => if i = 3 then v1 else if i = 4 then v2 else if i = 5 then v3 else ρ i, fun i hi => ?_, by simp [AV.val, AV.vals], ?_⟩
 ·have hi' : i < 3 := hi
  simp only [if_neg (show ¬ i = 3 by omega), if_neg (show ¬ i = 4 by omega), if_neg (show ¬ i = 5 by omega)]
 ·refine M.grow hbl (fun k => k = .inr 3 ∨ k = .inr 4 ∨ k = .inr 5) (fun k hk => ?_) ?_ ?_ ?_
  ·cases k with
   | inl i => rfl
   | inr j =>
    match j, hk with
    | 0, _ => rfl
    | 1, _ => rfl
    | 2, _ => rfl
    | 3, h => exact absurd (.inl rfl) h
    | 4, h => exact absurd (.inr (.inl rfl)) h
    | 5, h => exact absurd (.inr (.inr rfl)) h
    | j + 6, _ => rfl
  ·rintro k (rfl | rfl | rfl) b hb
   ·exact (World.ownsRow.lt o1 b hb).1
   ·exact (World.ownsRow.lt o2 b hb).1
   ·exact (World.ownsRow.lt o3 b hb).1
  ·rintro j k b hjk (rfl | rfl | rfl) (rfl | rfl | rfl) h1 h2
   ·exact absurd rfl hjk
   ·exact d12 b h1 h2
   ·exact d13 b h1 h2
   ·exact d12 b h2 h1
   ·exact absurd rfl hjk
   ·exact d23 b h1 h2
   ·exact d13 b h2 h1
   ·exact d23 b h2 h1
   ·exact absurd rfl hjk
  ·rintro k (rfl | rfl | rfl)
   ·exact ak7 (z4 o1 (bZ4 _))
   ·exact ak7 (z4 o2 (bZ4 _))
   ·exact aV6 (z4 o3 (bZ4 _))
theorem aS4 (v ar : List Int) (l : List c7) : j8.ok Tryz.prog (V1 10 [.agg [.ref 0, .ref 1, .ref 2], .agg [.ref 3, .ref 4, .ref 5]] [.dat (.ints v), .dat (.ints ar), .dat (.instrs l), .dat (.ints v), .dat (.ints ar), .dat (.instrs l)] (bA true)) :=
 af5 fun φ w ρ h => (az3 _ _ ⟨v, ar, l⟩ ⟨v, ar, l⟩ w ⟨ρ 0, ρ 1, ρ 2, rfl, t4.row (h 0 _ rfl), t4.row (h 1 _ rfl), t4.row (h 2 _ rfl)⟩ ⟨ρ 3, ρ 4, ρ 5, rfl, t4.row (h 3 _ rfl), t4.row (h 4 _ rfl), t4.row (h 5 _ rfl)⟩).mono fun e w' h => ⟨by rw [h.1, b6.same_refl], h.2⟩
end Go.Proofs.YtmokkddidcmglaaGreat
