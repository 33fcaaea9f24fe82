/- Part 6: functions on the way, plain laws. Conditions: as said. -/
import Derived.Deep.RegionWith
import Derived.Laws.StructEq
import Derived.Test.YtmokkddidcmglaaGreatK1
import Derived.Test.YtmokkddidcmglaaGreatK2
import Derived.Test.YtmokkddidcmglaaGreatK3
import Derived.Test.YtmokkddidcmglaaGreatK4
import Derived.Test.YtmokkddidcmglaaGreatK5
set_option maxRecDepth 100000
set_option maxHeartbeats 16000000
set_option linter.unusedVariables false
set_option linter.unusedSimpArgs false
open Bool renaming and_eq_true → b73, not_eq_false' → cb4, not_eq_true' → ca5
open Inhabited renaming default → b71
open Int renaming toNat_natCast → cb0
open List renaming all_eq_true → b80, append_assoc → cb7, getD_eq_getElem?_getD → b75, getElem?_eq_getElem → b72, getElem?_eq_none → b98, getElem?_eq_some_iff → b77, getElem_mem → b91, length_append → b74, length_cons → b79, length_set → b95, mem_append → b87, mem_cons → ca4, mem_of_getElem? → b86, mem_range → ca9, mem_singleton → b94, nil_append → cb8, replicate → b70, take → b83, take_of_length_le → b89
open Nat renaming le_refl → b76, le_trans → b97, lt_or_ge → b93, zero_le → b92
open True renaming intro → b84

namespace Go.Proofs.YtmokkddidcmglaaGreat
open Go Go.RowKit
theorem aC9 (b : List UInt8) (j : Int) (r0 : 0 ≤ j) (r1 : j ≤ 10000000) : l0.ok Tryz.prog (cdC b j) := bp0 b j _ rfl r0 r1
abbrev muC (b : List UInt8) (j : Int) (vs ars : List Int) (l : List d7) : l0 := ⟨22, [.ptr 0 0, .agg [.ref 2, .ref 3, .ref 4]], [.box [.ref 1, iA j], dY b, dI vs, dI ars, dN l], [.box [.ref 1, iA (muD b j ⟨vs, ars, l⟩).2], dY b, dI vs, dI ars, dN l, rI (muD b j ⟨vs, ars, l⟩).1.vars, rI (muD b j ⟨vs, ars, l⟩).1.arrays, rN (muD b j ⟨vs, ars, l⟩).1.list], .agg [.ref 5, .ref 6, .ref 7]⟩
section
variable {b : List UInt8} {j : Int} {vs ars : List Int} {l : List d7}
theorem b47 (h : (([] ++ l).length : Int) = 0) : muD b j ⟨vs, ars, l⟩ = (⟨[] ++ vs, [] ++ ars, [] ++ l⟩, j) := by
 unfold muD; rw [if_pos (by rw [cb8] at h; show l.length = 0; omega)]
 rfl
theorem b54 (h : ¬ (([] ++ l).length : Int) = 0) (h1 : pk b j 60 = 0) : muD b j ⟨vs, ars, l⟩ = (⟨vs, ars, bM4 l 0 (nm b (j + 1) bV0)⟩, j + 1 + 1) := by
 unfold muD; rw [if_neg (by rw [cb8] at h; show ¬ l.length = 0; omega), if_pos h1, Int.add_assoc]; rfl
theorem b53 (h : ¬ (([] ++ l).length : Int) = 0) (h1 : pk b j 60 = 1) : muD b j ⟨vs, ars, l⟩ = (⟨vs, ars, bq8 l (pk b (j + 1) l.length).toNat (nm b (j + 1 + 1) bU9)⟩, j + 1 + 1 + 1) := by
 unfold muD; rw [if_neg (by rw [cb8] at h; show ¬ l.length = 0; omega), if_neg (by omega), if_pos h1, Int.add_assoc j 1 1, Int.add_assoc]; rfl
theorem b52 (h : ¬ (([] ++ l).length : Int) = 0) (h1 : pk b j 60 = 2) : muD b j ⟨vs, ars, l⟩ = (⟨vs, ars, ([] ++ l).set ((([] ++ l).length : Int) - 1).toNat ⟨12, 0, 0, 0, 0⟩⟩, j + 1) := by
 unfold muD; rw [if_neg (by rw [cb8] at h; show ¬ l.length = 0; omega), if_neg (by omega), if_neg (by omega), if_pos h1]
 rw [cb8] at h ⊢
 exact congrArg (fun i => ((⟨vs, ars, l.set i _⟩ : b6), j + 1)) (by show l.length - 1 = _; omega)
theorem b51 (h : ¬ (([] ++ l).length : Int) = 0) (h1 : pk b j 60 = 3) : muD b j ⟨vs, ars, l⟩ = (⟨vs, ars, ([] ++ l).set ((([] ++ l).length : Int) - 1).toNat ⟨8, 0, 0, 0, 0⟩⟩, j + 1) := by
 unfold muD; rw [if_neg (by rw [cb8] at h; show ¬ l.length = 0; omega), if_neg (by omega), if_neg (by omega), if_neg (by omega), if_pos h1]
 rw [cb8] at h ⊢
 exact congrArg (fun i => ((⟨vs, ars, l.set i _⟩ : b6), j + 1)) (by show l.length - 1 = _; omega)
theorem b50 (h : ¬ (([] ++ l).length : Int) = 0) (h1 : pk b j 60 = 4) : muD b j ⟨vs, ars, l⟩ = (⟨vs, ars, bM5 l (pk b (j + 1) l.length).toNat (nm b (j + 1 + 1) bU8)⟩, j + 1 + 1 + 1) := by
 unfold muD; rw [if_neg (by rw [cb8] at h; show ¬ l.length = 0; omega), if_neg (by omega), if_neg (by omega), if_neg (by omega), if_neg (by omega), if_pos h1, Int.add_assoc j 1 1, Int.add_assoc]; rfl
theorem b49 (h : ¬ (([] ++ l).length : Int) = 0) (h1 : pk b j 60 = 5) : muD b j ⟨vs, ars, l⟩ = (⟨[], ars, l⟩, j + 1) := by
 unfold muD; rw [if_neg (by rw [cb8] at h; show ¬ l.length = 0; omega), if_neg (by omega), if_neg (by omega), if_neg (by omega), if_neg (by omega), if_neg (by omega), if_pos h1]
theorem b46 (h : ¬ (([] ++ l).length : Int) = 0) (h1 : ¬ pk b j 60 = 0 ∧ ¬ pk b j 60 = 1 ∧ ¬ pk b j 60 = 2 ∧ ¬ pk b j 60 = 3 ∧ ¬ pk b j 60 = 4 ∧ ¬ pk b j 60 = 5) : muD b j ⟨vs, ars, l⟩ = (⟨[] ++ vs, [] ++ ars, [] ++ l⟩, j + 1) := by
 unfold muD; rw [if_neg (by rw [cb8] at h; show ¬ l.length = 0; omega), if_neg (by omega), if_neg (by omega), if_neg (by omega), if_neg (by omega), if_neg (by omega), if_neg (by omega)]
 rfl
theorem b45 (h : ¬ (([] ++ l).length : Int) = 0) (r0 : 0 ≤ j) (r1 : j ≤ 100000000) : 0 ≤ pk b (j + 1) (([] ++ l).length : Int) ∧ pk b (j + 1) (([] ++ l).length : Int) < (([] ++ l).length : Int) := bD5 b (by omega) (by omega) (by omega)
end
abbrev S9 (b : List UInt8) (j : Int) (vs : List Int) (ars : List Int) (l : List d7) : List It := [.box [.ref 1, iA (muD b j (b6.mk vs ars l)).snd], dY b, dI vs, dI ars, dN l, .row 3 (D.ints (muD b j (b6.mk vs ars l)).fst.vars), .row 3 (D.ints (muD b j (b6.mk vs ars l)).fst.arrays), .row 60 (D.instrs (muD b j (b6.mk vs ars l)).fst.list)]
abbrev bH9 (b : List UInt8) (j : Int) (l : List d7) : It := .row 60 (D.instrs (([] ++ l).set (pk b (j + 1) (([] ++ l).length : Int)).toNat (d7.mk (([] ++ l).getD (pk b (j + 1) (([] ++ l).length : Int)).toNat b71).op (nm b (j + 1 + 1) ([-1] ++ ([14] ++ ([0] ++ ([400] ++ []))))) (([] ++ l).getD (pk b (j + 1) (([] ++ l).length : Int)).toNat b71).b (([] ++ l).getD (pk b (j + 1) (([] ++ l).length : Int)).toNat b71).c (([] ++ l).getD (pk b (j + 1) (([] ++ l).length : Int)).toNat b71).d)))
abbrev bH8 (b : List UInt8) (j : Int) (l : List d7) : It := .row 60 (D.instrs (([] ++ l).set (pk b (j + 1) (([] ++ l).length : Int)).toNat (d7.mk (([] ++ l).getD (pk b (j + 1) (([] ++ l).length : Int)).toNat b71).op (([] ++ l).getD (pk b (j + 1) (([] ++ l).length : Int)).toNat b71).a (([] ++ l).getD (pk b (j + 1) (([] ++ l).length : Int)).toNat b71).b (([] ++ l).getD (pk b (j + 1) (([] ++ l).length : Int)).toNat b71).c (nm b (j + 1 + 1) ([1] ++ ([-1] ++ []))))))
abbrev al4 : It := .box [.v (.slice none 0 0), .v (.slice none 0 0), .v (.slice none 0 0)]
abbrev bH7 (b : List UInt8) (j : Int) (l : List d7) : It := .row 60 (D.instrs (([] ++ l).set 0 (d7.mk (nm b (j + 1) ([0] ++ ([14] ++ ([1] ++ ([12] ++ []))))) (([] ++ l).getD 0 b71).a (([] ++ l).getD 0 b71).b (([] ++ l).getD 0 b71).c (([] ++ l).getD 0 b71).d)))
abbrev X1 (vs : List Int) (ars : List Int) (r0 : List It) : List It := .row 3 (D.ints ([] ++ vs)) :: .row 3 (D.ints ([] ++ ars)) :: r0
theorem a75 (b : List UInt8) (j : Int) (vs ars : List Int) (l : List d7) (hb : vs.length ≤ 1048576 ∧ ars.length ≤ 1048576 ∧ l.length ≤ 9000000) (r0 : 0 ≤ j) (r1 : j ≤ 100000000) : l0.ok Tryz.prog (muC b j vs ars l) := by
  refine J8 82 Tryz.func22 [.box [.ref 1, iA j], dY b, dI vs, dI ars, dN l] [(0, .ptr 0 0), (1, pA 2)] fun G => ?_
  have hmp := fun (h : ¬ (([] ++ l).length : Int) = 0) => b45 (b := b) (j := j) (l := l) h r0 r1
  have hll : ([] ++ l).length ≤ 9000000 := hb.2.2; refine wp_seq (i9 G e6 [0, 1, 2, 3, 4, 5, 13] [.box [.ref 1, iA j], dY b, dI vs, dI ars, dN l, .box (pL 2), al4] [(0, .ptr 0 0), (3, .ptr 5 0), (4, .ptr 6 0)] fun G => b0 (wp_seq (H5 G e6 [0, 0, 2, 7, 0, 0, 32, 127, 0, 0, 512, 2047, 4095, 0, 16383] [0, 1, 2, 3, 4, 6, 31, 63, 95, 111] (.box [.ref 1, iA j] :: dY b :: dI vs :: dI ars :: dN l :: al4 :: (X1 vs ars [.row 60 (D.instrs ([] ++ l)), .box (pL 6)])) [(0, .ptr 0 0), (4, .ptr 5 0), (5, .ptr 9 0)] (aP ((0 : Nat) + vs.length) 8 (aP ((0 : Nat) + ars.length) 8 (aP ((0 : Nat) + l.length) 40 []))) (aK (by omega) (aK (by omega) (aK (by omega) b84))) fun G => b0 (wp_seq (l6 G e6 [(6, iA (([] ++ l).length : Int))] fun G => b0 (wp_seq (wp_seq (l6 G e6 [(24, bA ((([] ++ l).length : Int) == 0))] fun G => b0 (P0 G (fun h0 q0 => ?_) fun h0 q0 => ?_)))))))))
  ·
   refine wp_skip (b0 (wp_seq (wp_seq (i9 G (v5 1 [0, 1] (s4 b j 60 (by assumption) (by omega))) (rg 10) (.box [.ref 1, iA (j + 1)] :: dY b :: dI vs :: dI ars :: dN l :: al4 :: (X1 vs ars [.row 60 (D.instrs ([] ++ l)), .box (pL 6)])) [(0, .ptr 0 0), (4, .ptr 5 0), (5, .ptr 9 0), (6, iA (([] ++ l).length : Int)), (27, iA (pk b j 60))] fun G => b0 (wp_block (wp_seq (l6 G e6 [(28, bA (pk b j 60 == 0))] fun G => b0 (P0 G (fun h1 q1 => ?_) fun h1 q1 => ?_))))))))
   ·
    refine wp_seq (l6 G e6 [(37, bA (pk b j 60 == 1))] fun G => b0 (P0 G (fun h2 q2 => ?_) fun h2 q2 => ?_))
    ·
     refine wp_seq (l6 G e6 [(49, bA (pk b j 60 == 2))] fun G => b0 (P0 G (fun h3 q3 => ?_) fun h3 q3 => ?_))
     ·
      refine wp_seq (l6 G e6 [(57, bA (pk b j 60 == 3))] fun G => b0 (P0 G (fun h4 q4 => ?_) fun h4 q4 => ?_))
      ·
       refine wp_seq (l6 G e6 [(65, bA (pk b j 60 == 4))] fun G => b0 (P0 G (fun h5 q5 => ?_) fun h5 q5 => ?_))
       ·
        refine wp_seq (l6 G e6 [(77, bA (pk b j 60 == 5))] fun G => b0 (P0 G (fun h6 q6 => ?_) fun h6 q6 => ?_))
        · refine wp_skip (i8 (b0 (wp_seq (i9 G e6 (rg 9) (.box [.ref 1, iA (j + 1)] :: dY b :: dI vs :: dI ars :: dN l :: .box (pL 6) :: (X1 vs ars [.row 60 (D.instrs ([] ++ l))])) [(4, .ptr 5 0)] fun G => b0 (wp_ret ?_))))); exact J9 G [0, 1, 2, 3, 4, 6, 7, 8] (by show _ = mR [0, 1, 2, 3, 4, 6, 7, 8] (S9 b j vs ars l); unfold S9; rw [b46 (by omega) (by omega)] <;> rfl)
        · refine i9 G e6 [0, 1, 2, 3, 4, 5, 7, 8, 9, 10] [.box [.ref 1, iA (j + 1)], dY b, dI vs, dI ars, dN l, al4, .row 3 (D.ints ([] ++ ars)), .row 60 (D.instrs ([] ++ l)), .box [.ref 9, .ref 6, .ref 7], .row 3 (D.ints [])] [(4, .ptr 5 0), (5, .ptr 8 0)] fun G => i8 (b0 (wp_seq (i9 G e6 [0, 1, 2, 3, 4, 5, 6, 7, 9] [.box [.ref 1, iA (j + 1)], dY b, dI vs, dI ars, dN l, .box [.ref 8, .ref 6, .ref 7], .row 3 (D.ints ([] ++ ars)), .row 60 (D.instrs ([] ++ l)), .row 3 (D.ints [])] [(4, .ptr 5 0)] fun G => b0 (wp_ret ?_)))); exact J9 G [0, 1, 2, 3, 4, 8, 6, 7] (by show _ = mR [0, 1, 2, 3, 4, 8, 6, 7] (S9 b j vs ars l); unfold S9; rw [b49 (by omega) (by omega)] <;> rfl)
       · refine H5 G (T4 (F9 4 [0, 1] (s4 b (j + 1) ((([] ++ l).length : Int)) (by omega) (by omega)) (F9 7 [0, 1, 58] (l0.lend (O5 b (j + 1 + 1) ([1] ++ ([-1] ++ [])) (by simp [h0, h1, h2, h3, h4, h5]) (by omega) (by omega)) [.no, .no, .row 3]) T3)) fz []) [0, 1, 0, 0, 12, 0, 0, 124, 255, 511, 1023] (rg 10) (.box [.ref 1, iA (j + 1 + 1 + 1)] :: dY b :: dI vs :: dI ars :: dN l :: al4 :: (X1 vs ars [bH8 b j l, .box (pL 6)])) [(4, .ptr 5 0), (5, .ptr 9 0)] (iX (pk b (j + 1) (([] ++ l).length : Int)) ((pk b (j + 1) (([] ++ l).length : Int)).toNat) (([] ++ l).length) []) (iK (by omega) b84) fun G => i8 (b0 (wp_seq (i9 G e6 (rg 9) (.box [.ref 1, iA (j + 1 + 1 + 1)] :: dY b :: dI vs :: dI ars :: dN l :: .box (pL 6) :: (X1 vs ars [bH8 b j l])) [(4, .ptr 5 0)] fun G => b0 (wp_ret ?_)))); exact J9 G [0, 1, 2, 3, 4, 6, 7, 8] (by show _ = mR [0, 1, 2, 3, 4, 6, 7, 8] (S9 b j vs ars l); unfold S9; rw [b50 (by omega) (by omega)] <;> rfl)
      · refine K6 G e6 (rg 10) (.box [.ref 1, iA (j + 1)] :: dY b :: dI vs :: dI ars :: dN l :: al4 :: (X1 vs ars [.row 60 (D.instrs (([] ++ l).set ((([] ++ l).length : Int) - 1).toNat (d7.mk 8 0 0 0 0))), .box (pL 6)])) [(4, .ptr 5 0), (5, .ptr 9 0)] ((wO ((([] ++ l).length : Int) - 1)) :: (iX ((([] ++ l).length : Int) - 1) (((([] ++ l).length : Int) - 1).toNat) (([] ++ l).length) [])) ⟨oW (by omega), (iK (by omega) b84)⟩ fun G => i8 (b0 (wp_seq (i9 G e6 (rg 9) (.box [.ref 1, iA (j + 1)] :: dY b :: dI vs :: dI ars :: dN l :: .box (pL 6) :: (X1 vs ars [.row 60 (D.instrs (([] ++ l).set ((([] ++ l).length : Int) - 1).toNat (d7.mk 8 0 0 0 0)))])) [(4, .ptr 5 0)] fun G => b0 (wp_ret ?_)))); exact J9 G [0, 1, 2, 3, 4, 6, 7, 8] (by show _ = mR [0, 1, 2, 3, 4, 6, 7, 8] (S9 b j vs ars l); unfold S9; rw [b51 (by omega) (by omega)] <;> rfl)
     · refine K6 G e6 (rg 10) (.box [.ref 1, iA (j + 1)] :: dY b :: dI vs :: dI ars :: dN l :: al4 :: (X1 vs ars [.row 60 (D.instrs (([] ++ l).set ((([] ++ l).length : Int) - 1).toNat (d7.mk 12 0 0 0 0))), .box (pL 6)])) [(4, .ptr 5 0), (5, .ptr 9 0)] ((wO ((([] ++ l).length : Int) - 1)) :: (iX ((([] ++ l).length : Int) - 1) (((([] ++ l).length : Int) - 1).toNat) (([] ++ l).length) [])) ⟨oW (by omega), (iK (by omega) b84)⟩ fun G => i8 (b0 (wp_seq (i9 G e6 (rg 9) (.box [.ref 1, iA (j + 1)] :: dY b :: dI vs :: dI ars :: dN l :: .box (pL 6) :: (X1 vs ars [.row 60 (D.instrs (([] ++ l).set ((([] ++ l).length : Int) - 1).toNat (d7.mk 12 0 0 0 0)))])) [(4, .ptr 5 0)] fun G => b0 (wp_ret ?_)))); exact J9 G [0, 1, 2, 3, 4, 6, 7, 8] (by show _ = mR [0, 1, 2, 3, 4, 6, 7, 8] (S9 b j vs ars l); unfold S9; rw [b52 (by omega) (by omega)] <;> rfl)
    · refine H5 G (T4 (F9 4 [0, 1] (s4 b (j + 1) ((([] ++ l).length : Int)) (by omega) (by omega)) (F9 7 [0, 1, 58] (l0.lend (O5 b (j + 1 + 1) ([-1] ++ ([14] ++ ([0] ++ ([400] ++ [])))) (by simp [h0, h1, h2]) (by omega) (by omega)) [.no, .no, .row 3]) T3)) fz []) [0, 1, 0, 0, 12, 0, 0, 124, 255, 511, 1023] (rg 10) (.box [.ref 1, iA (j + 1 + 1 + 1)] :: dY b :: dI vs :: dI ars :: dN l :: al4 :: (X1 vs ars [bH9 b j l, .box (pL 6)])) [(4, .ptr 5 0), (5, .ptr 9 0)] (iX (pk b (j + 1) (([] ++ l).length : Int)) ((pk b (j + 1) (([] ++ l).length : Int)).toNat) (([] ++ l).length) []) (iK (by omega) b84) fun G => i8 (b0 (wp_seq (i9 G e6 (rg 9) (.box [.ref 1, iA (j + 1 + 1 + 1)] :: dY b :: dI vs :: dI ars :: dN l :: .box (pL 6) :: (X1 vs ars [bH9 b j l])) [(4, .ptr 5 0)] fun G => b0 (wp_ret ?_)))); exact J9 G [0, 1, 2, 3, 4, 6, 7, 8] (by show _ = mR [0, 1, 2, 3, 4, 6, 7, 8] (S9 b j vs ars l); unfold S9; rw [b53 (by omega) (by omega)] <;> rfl)
   · refine H5 G (v5 4 [0, 1, 34] (l0.lend (O5 b (j + 1) ([0] ++ ([14] ++ ([1] ++ ([12] ++ [])))) (by simp [h0, h1]) (by omega) (by omega)) [.no, .no, .row 3])) [0, 1, 0, 0, 12, 31, 63, 127] (rg 10) (.box [.ref 1, iA (j + 1 + 1)] :: dY b :: dI vs :: dI ars :: dN l :: al4 :: (X1 vs ars [bH7 b j l, .box (pL 6)])) [(4, .ptr 5 0), (5, .ptr 9 0)] (iX 0 0 (([] ++ l).length) []) (iK (by omega) b84) fun G => i8 (b0 (wp_seq (i9 G e6 (rg 9) (.box [.ref 1, iA (j + 1 + 1)] :: dY b :: dI vs :: dI ars :: dN l :: .box (pL 6) :: (X1 vs ars [bH7 b j l])) [(4, .ptr 5 0)] fun G => b0 (wp_ret ?_)))); exact J9 G [0, 1, 2, 3, 4, 6, 7, 8] (by show _ = mR [0, 1, 2, 3, 4, 6, 7, 8] (S9 b j vs ars l); unfold S9; rw [b54 (by omega) (by omega)] <;> rfl)
  · refine wp_seq (i9 G e6 (rg 10) (.box [.ref 1, iA j] :: dY b :: dI vs :: dI ars :: dN l :: .box (pL 6) :: (X1 vs ars [.row 60 (D.instrs ([] ++ l)), .box (pL 6)])) [(0, .ptr 0 0), (4, .ptr 5 0), (5, .ptr 9 0), (6, iA (([] ++ l).length : Int))] fun G => b0 (wp_ret (o8 ?_))); exact J9 G [0, 1, 2, 3, 4, 6, 7, 8] (by show _ = mR [0, 1, 2, 3, 4, 6, 7, 8] (S9 b j vs ars l); unfold S9; rw [b47 (by omega)] <;> rfl)
def jpE (b : List UInt8) (j : Int) : b6 × Int :=
 if pk b (d9 b j).2 2 = 0 then (if okC (r8 b ((d9 b j).2 + 1)) = true then ⟨cvP (r8 b ((d9 b j).2 + 1)), caP (r8 b ((d9 b j).2 + 1)), (l8 (r8 b ((d9 b j).2 + 1))).1⟩ else (d9 b j).1, (z8 b ((d9 b j).2 + 1)).2)
 else ((d9 b j).1, (d9 b j).2 + 1)
def jpF (b : List UInt8) (c : b6) (q : Int) : b6 × Int :=
 if c.list.length ≤ 40 then (⟨c.vars, c.arrays, (x7 b c.list.length (c.list, q) (c.list.length - 1)).1⟩, (x7 b c.list.length (c.list, q) (c.list.length - 1)).2) else (c, q)
def jpD (b : List UInt8) (j : Int) : b6 × Int := jpF b (jpE b j).1 (jpE b j).2
section
variable {b : List UInt8} {j q n : Int} {vs ars : List Int} {l : List d7} {x : List d7 × Int} {k : Nat}
theorem b57 (h : ¬ pk b (d9 b j).2 2 = 0) : jpD b j = jpF b (d9 b j).1 ((d9 b j).2 + 1) := by unfold jpD jpE; rw [if_neg h]
theorem b58 (h : pk b (d9 b j).2 2 = 0) (h2 : okC (r8 b ((d9 b j).2 + 1)) = false) : jpD b j = jpF b (d9 b j).1 (z8 b ((d9 b j).2 + 1)).2 := by unfold jpD jpE; rw [if_pos h, if_neg (by rw [h2]; decide)]
theorem b56 (h : pk b (d9 b j).2 2 = 0) (h2 : okC (r8 b ((d9 b j).2 + 1)) = true) : jpD b j = jpF b ⟨cvP (r8 b ((d9 b j).2 + 1)), caP (r8 b ((d9 b j).2 + 1)), (l8 (r8 b ((d9 b j).2 + 1))).1⟩ (z8 b ((d9 b j).2 + 1)).2 := by unfold jpD jpE; rw [if_pos h, if_pos h2]
theorem au3 (h : ((x7 b n x k).1.getD k b71).op = 10 ∨ ((x7 b n x k).1.getD k b71).op = 1) : x7 b n x (k + 1) = x7 b n x k := by
 rw [x7, jmS, if_neg (by omega)]
theorem bh8 (h1 : ¬ ((x7 b n x k).1.getD k b71).op = 10) (h2 : ¬ ((x7 b n x k).1.getD k b71).op = 1) (h : ¬ pk b (x7 b n x k).2 4 = 0) : x7 b n x (k + 1) = ((x7 b n x k).1, (x7 b n x k).2 + 1) := by
 rw [x7, jmS, if_pos ⟨h1, h2⟩, if_neg h]
theorem bh7 (h1 : ¬ ((x7 b n x k).1.getD k b71).op = 10) (h2 : ¬ ((x7 b n x k).1.getD k b71).op = 1) (h : pk b (x7 b n x k).2 4 = 0) : x7 b n x (k + 1) = ((x7 b n x k).1.set k ⟨8, (k : Int) + 1 + pk b ((x7 b n x k).2 + 1) (n - k - 1), 0, 0, 0⟩, (x7 b n x k).2 + 1 + 1) := by
 rw [x7, jmS, if_pos ⟨h1, h2⟩, if_pos h, Int.add_assoc _ 1 1]; rfl
theorem a56 {c : b6} {k : Nat} (h : c.list.length ≤ 40) (hk : k = c.list.length - 1) : jpF b c q = (⟨c.vars, c.arrays, (x7 b c.list.length (c.list, q) k).1⟩, (x7 b c.list.length (c.list, q) k).2) := by
 subst hk; unfold jpF; rw [if_pos h]
theorem bO1 {c : b6} (h : ¬ c.list.length ≤ 40) : jpF b c q = (c, q) := by unfold jpF; rw [if_neg h]
theorem an6 (b : List UInt8) (c : b6) (q : Int) : (jpF b c q).1.list.length = c.list.length ∧ (jpF b c q).1.vars = c.vars ∧ (jpF b c q).1.arrays = c.arrays ∧ q ≤ (jpF b c q).2 ∧ (jpF b c q).2 ≤ q + 100 := by
 unfold jpF
 split
 ·rename_i h
  obtain ⟨h1, h2, h3⟩ := bO3 b c.list.length (c.list, q) (c.list.length - 1)
  refine ⟨h1, rfl, rfl, h2, ?_⟩
  have h3' : (x7 b c.list.length (c.list, q) (c.list.length - 1)).2 ≤ q + 2 * ((c.list.length - 1 : Nat) : Int) := h3
  show (x7 b c.list.length (c.list, q) (c.list.length - 1)).2 ≤ q + 100
  omega
 ·exact ⟨rfl, rfl, rfl, Int.le_refl _, by show q ≤ q + 100; omega⟩
theorem bV6 (b : List UInt8) {j : Int} (hj : 0 ≤ j) (hj2 : j ≤ 1000000) : j ≤ (jpE b j).2 ∧ (jpE b j).2 ≤ j + 400000 ∧ (jpE b j).1.list.length ≤ 400 ∧ (jpE b j).1.vars.length ≤ 1000 ∧ (jpE b j).1.arrays.length ≤ 1000 := by
 have h1 := bG5 b (j := j) hj (by omega)
 have h2 := bx8 b (j := (d9 b j).2 + 1) (by omega) (by omega)
 have h3 := br3 b j
 have h4 := br3 b ((d9 b j).2 + 1)
 have e1 : (d9 b j).1.vars = (r8 b j).vars := rfl
 have e2 : (d9 b j).1.arrays = (r8 b j).arrays := rfl
 unfold jpE
 split
 ·split
  ·rename_i h5
   have h6 : (au9 (r8 b ((d9 b j).2 + 1))).1.length ≤ 400 := by
    unfold okC at h5; rw [b73, decide_eq_true_eq] at h5; exact h5.2
   refine ⟨by show j ≤ (z8 b ((d9 b j).2 + 1)).2; omega, by show (z8 b ((d9 b j).2 + 1)).2 ≤ _; omega, ?_, ?_, ?_⟩
   ·show (l8 (r8 b ((d9 b j).2 + 1))).1.length ≤ 400
    unfold l8; rw [if_pos h5]; exact h6
   ·show (cvP _).length ≤ 1000; rw [bX6 h5]; omega
   ·show (caP _).length ≤ 1000; rw [bY5 h5]; omega
  ·exact ⟨by show j ≤ (z8 b ((d9 b j).2 + 1)).2; omega, by show (z8 b ((d9 b j).2 + 1)).2 ≤ _; omega, by show (d9 b j).1.list.length ≤ 400; omega, by show (d9 b j).1.vars.length ≤ 1000; rw [e1]; omega, by show (d9 b j).1.arrays.length ≤ 1000; rw [e2]; omega⟩
 ·exact ⟨by show j ≤ (d9 b j).2 + 1; omega, by show (d9 b j).2 + 1 ≤ _; omega, by show (d9 b j).1.list.length ≤ 400; omega, by show (d9 b j).1.vars.length ≤ 1000; rw [e1]; omega, by show (d9 b j).1.arrays.length ≤ 1000; rw [e2]; omega⟩
end
abbrev jpC (b : List UInt8) (j : Int) (c : b6) (q : Int) : l0 := ⟨23, [.ptr 0 0], [.box [.ref 1, iA j], dY b], [.box [.ref 1, iA (jpF b c q).2], dY b, rI (jpF b c q).1.vars, rI (jpF b c q).1.arrays, rN (jpF b c q).1.list], .agg [.ref 2, .ref 3, .ref 4]⟩
theorem bO2 (b : List UInt8) (n : Int) (l : List d7) (q : Int) (k : Nat) : (x7 b n (l, q) k).1.length = l.length ∧ q ≤ (x7 b n (l, q) k).2 ∧ (x7 b n (l, q) k).2 ≤ q + 2 * k := bO3 b n (l, q) k
theorem bJ7 {p : j9} {x : Bool} (hb : p.size ≤ 1048576) (h : okC p = x) : l0.ok Tryz.prog ⟨48, [pA 0], pS p, pS p ++ [rI (cvP p), rI (caP p), rN (l8 p).1], .tup [.agg [.ref 3, .ref 4, .ref 5], bA x]⟩ := h ▸ aq8 p hb
theorem bu1 {b : List UInt8} {n : Int} {x : List d7 × Int} {k : Nat} (h1 : (k : Int) + 1 < n) (h2 : n ≤ 40) (h3 : 0 ≤ (x7 b n x k).2) (h4 : (x7 b n x k).2 ≤ 100000000) : IntKind.i64.wrap ((k : Int) + 1 + pk b ((x7 b n x k).2 + 1) (n - k - 1)) = (k : Int) + 1 + pk b ((x7 b n x k).2 + 1) (n - k - 1) := by
 have := bD5 b (k := (x7 b n x k).2 + 1) (n := n - k - 1) (by omega) (by omega) (by omega)
 exact w64 (by omega) (by omega)
abbrev ai1 (b : List UInt8) (j : Int) (k : Nat) := x7 b ((d9 b j).fst.list.length : Int) ((d9 b j).fst.list, (d9 b j).snd + 1) k
abbrev aG6 : It := .box [.v (.slice none 0 0), .v (.slice none 0 0), .v (.slice none 0 0)]
abbrev aG5 (b : List UInt8) (j : Int) : AV := iA ((d9 b j).fst.list.length : Int)
abbrev aF8 (b : List UInt8) (j : Int) (r0 : List It) : List It := .row 3 (D.ints (d9 b j).fst.vars) :: .row 3 (D.ints (d9 b j).fst.arrays) :: r0
abbrev aw6 (r0 : List (Nat × AV)) : List (Nat × AV) := (0, .ptr 0 0) :: (2, .ptr 2 0) :: (3, .ptr 6 0) :: r0
theorem bp3 (b : List UInt8) (j : Int) (hpk : ¬ pk b (d9 b j).2 2 = 0) (r0 : 0 ≤ j) (r1 : j ≤ 1000000) : l0.ok Tryz.prog (jpC b j (d9 b j).1 ((d9 b j).2 + 1)) := by
  have hcd := bG5 b r0 (show j ≤ 10000000 by omega); refine J8 70 Tryz.func23 [.box [.ref 1, iA j], dY b] [(0, .ptr 0 0)] fun G => ?_; refine wp_seq (i9 G e6 [0, 1, 2] [.box [.ref 1, iA j], dY b, aG6] [(0, .ptr 0 0), (2, .ptr 2 0)] fun G => b0 (wp_seq (i9 G (v5 1 [0, 1] (aC9 b j (by assumption) (by omega))) [0, 1, 2, 11, 12, 13, 19] (.box [.ref 1, iA (d9 b j).snd] :: dY b :: aG6 :: (aF8 b j [.row 60 (D.instrs (d9 b j).fst.list), .box (pL 3)])) (aw6 []) fun G => b0 (wp_seq (wp_seq (i9 G (v5 1 [0, 1] (s4 b ((d9 b j).snd) 2 (by omega) (by omega))) (rg 7) (.box [.ref 1, iA ((d9 b j).snd + 1)] :: dY b :: aG6 :: (aF8 b j [.row 60 (D.instrs (d9 b j).fst.list), .box (pL 3)])) (aw6 [(12, bA (pk b (d9 b j).snd 2 == 0))]) fun G => b0 ?_)))))); cases h0 : (pk b (d9 b j).snd (2 : Int) == 0)
  ·
   have q0 := ne_of_beq_false h0; refine rF G _ h0 (wp_skip (b0 (wp_seq (l6 G e6 [(6, aG5 b j)] fun G => b0 (wp_seq (wp_seq (G9 G e6 (aw6 [(6, aG5 b j), (7, iA 0)]) fun G => b0 (wp_block ?_)))))))); refine x6 (κ := Nat) (fun k => (k = 0 ∨ (k + 1 ≤ (d9 b j).1.list.length ∧ (d9 b j).1.list.length ≤ 40))) (fun k => (d9 b j).1.list.length - k) (fun k => [.box [.ref 1, iA (x7 b (d9 b j).1.list.length ((d9 b j).1.list, (d9 b j).2 + 1) k).2], dY b, .box [.v (.slice none 0 0), .v (.slice none 0 0), .v (.slice none 0 0)], .row 3 (D.ints (d9 b j).fst.vars), .row 3 (D.ints (d9 b j).fst.arrays), .row 60 (.instrs (x7 b (d9 b j).1.list.length ((d9 b j).1.list, (d9 b j).2 + 1) k).1), .box (pL 3)]) (fun k => [(0, .ptr 0 0), (2, .ptr 2 0), (3, .ptr 6 0), (6, iA ((d9 b j).fst.list.length : Int)), (7, iA k)]) 0 (by omega) (t7.at G _ _) ?_; clear G; intro k ρ a w hp G; replace G := t7.at G (.box [.ref 1, iA (ai1 b j k).snd] :: dY b :: aG6 :: (aF8 b j [.row 60 (D.instrs (ai1 b j k).fst), .box (pL 3)])) (aw6 [(6, aG5 b j), (7, iA k)]); have hjm := bO2 b (d9 b j).1.list.length ((d9 b j).1.list) ((d9 b j).2 + 1) k; refine wp_seq (wp_seq ?_); cases h1 : (decide ((k : Int) + 1 < ((d9 b j).fst.list.length : Int)))
   · have q1 := Z3 h1; refine D0 G (J3 (fc h1 fz) [(5, 0), (6, 0), (1007, 0)]) [(31, bA false)] [wO ((k : Int) + 1)] (o1 (by omega)) fun G => b0 (rF G false (by kernel_rfl) (wp_exit (v9 (v9 (v6 (b0 (wp_seq (i9 G e6 (rg 6) (.box [.ref 1, iA (ai1 b j k).snd] :: dY b :: .box (pL 3) :: (aF8 b j [.row 60 (D.instrs (ai1 b j k).fst)])) [(2, .ptr 2 0)] fun G => b0 (wp_ret ?_))))))))); exact J9 G [0, 1, 3, 4, 5] (by show _ = mR [0, 1, 3, 4, 5] [.box [.ref 1, iA (jpF b (d9 b j).fst ((d9 b j).snd + 1)).snd], dY b, .row 3 (D.ints (jpF b (d9 b j).fst ((d9 b j).snd + 1)).fst.vars), .row 3 (D.ints (jpF b (d9 b j).fst ((d9 b j).snd + 1)).fst.arrays), .row 60 (D.instrs (jpF b (d9 b j).fst ((d9 b j).snd + 1)).fst.list)]; have e2 : ((jpF b (d9 b j).fst ((d9 b j).snd + 1)).fst.vars : List Int) = ((d9 b j).fst.vars) := ((an6 b _ _).2.1); have e3 : ((jpF b (d9 b j).fst ((d9 b j).snd + 1)).fst.arrays : List Int) = ((d9 b j).fst.arrays) := ((an6 b _ _).2.2.1); rw [e2, e3, a56 (k := k) (by omega) (by omega)] <;> rfl)
   ·
    have q1 := Z2 h1; refine rB1 G (J3 (fc h1 fz) [(5, 0), (6, 0), (1007, 0)]) (aw6 [(6, aG5 b j), (7, iA k), (31, bA (decide (((d9 b j).fst.list.length : Int) ≤ 40)))]) [wO ((k : Int) + 1)] (o1 (by omega)) fun G => b0 ?_; cases h2 : (decide (((d9 b j).fst.list.length : Int) ≤ 40))
    · have q2 := Z3 h2; exact False.elim (by omega)
    ·
     have q2 := Z2 h2; refine rT G _ h2 (wp_skip (b0 (wp_seq (wp_block (wp_seq ?_))))); cases h3 : (((x7 b ((d9 b j).fst.list.length : Int) ((d9 b j).fst.list, (d9 b j).snd + 1) k).fst.getD k b71).op != 10)
     · have q3 := bne_eq_false_iff_eq.1 h3; refine D0 G (J3 (fc h3 (fc (b := false) rfl fz)) (us [(8, 14, 0), (1015, 1015, 0), (17, 19, 1), (1020, 1020, 1)])) [(54, bA false)] (iX k k ((x7 b ((d9 b j).fst.list.length : Int) ((d9 b j).fst.list, (d9 b j).snd + 1) k).fst.length) []) (iK (by omega) b84) fun G => b0 (rF G false (by kernel_rfl) (wp_skip (i8 (b0 (D0 G e6 [(7, iA ((k : Int) + 1))] [wO ((k : Int) + 1)] (o1 (by omega)) fun G => b0 ?_))))); exact L0 G (k + 1) (by omega) (by omega) (rg 7) (by have e1 : ((x7 b ((d9 b j).fst.list.length : Int) ((d9 b j).fst.list, (d9 b j).snd + 1) (k + 1)).snd : Int) = ((x7 b ((d9 b j).fst.list.length : Int) ((d9 b j).fst.list, (d9 b j).snd + 1) k).snd) := (by rw [au3 (by omega)]; done); have e2 : ((x7 b ((d9 b j).fst.list.length : Int) ((d9 b j).fst.list, (d9 b j).snd + 1) (k + 1)).fst : List d7) = ((x7 b ((d9 b j).fst.list.length : Int) ((d9 b j).fst.list, (d9 b j).snd + 1) k).fst) := (by rw [au3 (by omega)]; done); (first | rw [e1, e2] | simp only [e1, e2]) <;> rfl)
     ·
      have q3 := bne_iff_ne.1 h3; cases h4 : (((x7 b ((d9 b j).fst.list.length : Int) ((d9 b j).fst.list, (d9 b j).snd + 1) k).fst.getD k b71).op != 1)
      · have q4 := bne_eq_false_iff_eq.1 h4; refine D0 G (J3 (fc h3 (fc h4 fz)) (us [(8, 14, 0), (1015, 1015, 0), (17, 19, 1), (1020, 1020, 1)])) [(54, bA false)] (iX k k ((x7 b ((d9 b j).fst.list.length : Int) ((d9 b j).fst.list, (d9 b j).snd + 1) k).fst.length) (iX k k ((x7 b ((d9 b j).fst.list.length : Int) ((d9 b j).fst.list, (d9 b j).snd + 1) k).fst.length) [])) (iK (by omega) (iK (by omega) b84)) fun G => b0 (rF G false (by kernel_rfl) (wp_skip (i8 (b0 (D0 G e6 [(7, iA ((k : Int) + 1))] [wO ((k : Int) + 1)] (o1 (by omega)) fun G => b0 ?_))))); exact L0 G (k + 1) (by omega) (by omega) (rg 7) (by have e1 : ((x7 b ((d9 b j).fst.list.length : Int) ((d9 b j).fst.list, (d9 b j).snd + 1) (k + 1)).snd : Int) = ((x7 b ((d9 b j).fst.list.length : Int) ((d9 b j).fst.list, (d9 b j).snd + 1) k).snd) := (by rw [au3 (by omega)]; done); have e2 : ((x7 b ((d9 b j).fst.list.length : Int) ((d9 b j).fst.list, (d9 b j).snd + 1) (k + 1)).fst : List d7) = ((x7 b ((d9 b j).fst.list.length : Int) ((d9 b j).fst.list, (d9 b j).snd + 1) k).fst) := (by rw [au3 (by omega)]; done); (first | rw [e1, e2] | simp only [e1, e2]) <;> rfl)
      ·
       have q4 := bne_iff_ne.1 h4; refine K6 G (T4 (F9 18 [0, 1] (s4 b ((x7 b ((d9 b j).fst.list.length : Int) ((d9 b j).fst.list, (d9 b j).snd + 1) k).snd) 4 (by omega) (by omega)) T3) (fc h3 (fc h4 fz)) (us [(8, 14, 0), (1015, 1015, 0), (17, 19, 1), (1020, 1020, 1)])) (rg 7) (.box [.ref 1, iA ((ai1 b j k).snd + 1)] :: dY b :: aG6 :: (aF8 b j [.row 60 (D.instrs (ai1 b j k).fst), .box (pL 3)])) (aw6 [(6, aG5 b j), (7, iA k), (54, bA (pk b (ai1 b j k).snd 4 == 0))]) (iX k k ((x7 b ((d9 b j).fst.list.length : Int) ((d9 b j).fst.list, (d9 b j).snd + 1) k).fst.length) (iX k k ((x7 b ((d9 b j).fst.list.length : Int) ((d9 b j).fst.list, (d9 b j).snd + 1) k).fst.length) [])) (iK (by omega) (iK (by omega) b84)) fun G => b0 (P0 (u := (pk b (x7 b ((d9 b j).fst.list.length : Int) ((d9 b j).fst.list, (d9 b j).snd + 1) k).snd (4 : Int))) (v := (0 : Int)) G (fun h5 q5 => ?_) fun h5 q5 => ?_)
       · refine wp_skip (i8 (b0 (D0 G e6 [(7, iA ((k : Int) + 1))] [wO ((k : Int) + 1)] (o1 (by omega)) fun G => b0 ?_))); exact L0 G (k + 1) (by omega) (by omega) (rg 7) (by have e1 : ((x7 b ((d9 b j).fst.list.length : Int) ((d9 b j).fst.list, (d9 b j).snd + 1) (k + 1)).snd : Int) = ((x7 b ((d9 b j).fst.list.length : Int) ((d9 b j).fst.list, (d9 b j).snd + 1) k).snd + 1) := (by rw [bh8 (by omega) (by omega) (by omega)]; done); have e2 : ((x7 b ((d9 b j).fst.list.length : Int) ((d9 b j).fst.list, (d9 b j).snd + 1) (k + 1)).fst : List d7) = ((x7 b ((d9 b j).fst.list.length : Int) ((d9 b j).fst.list, (d9 b j).snd + 1) k).fst) := (by rw [bh8 (by omega) (by omega) (by omega)]; done); (first | rw [e1, e2] | simp only [e1, e2]) <;> rfl)
       · refine H5 G (v5 10 [0, 1] (s4 b ((x7 b ((d9 b j).fst.list.length : Int) ((d9 b j).fst.list, (d9 b j).snd + 1) k).snd + 1) (((d9 b j).fst.list.length : Int) - (k : Int) - 1) (by omega) (by omega))) [0, 1, 0, 0, 8, 0, 0, 0, 192, 448, 992, 2040, 4088, 8191, 16383] (rg 7) (.box [.ref 1, iA ((ai1 b j k).snd + 1 + 1)] :: dY b :: aG6 :: (aF8 b j [.row 60 (D.instrs ((ai1 b j k).fst.set k (d7.mk 8 ((k : Int) + 1 + pk b ((ai1 b j k).snd + 1) (((d9 b j).fst.list.length : Int) - (k : Int) - 1)) 0 0 0))), .box (pL 3)])) (aw6 [(6, aG5 b j), (7, iA k)]) ((wO ((k : Int) + 1)) :: ((wO (((d9 b j).fst.list.length : Int) - (k : Int))) :: ((wO (((d9 b j).fst.list.length : Int) - (k : Int) - 1)) :: ((wO ((k : Int) + 1 + pk b ((x7 b ((d9 b j).fst.list.length : Int) ((d9 b j).fst.list, (d9 b j).snd + 1) k).snd + 1) (((d9 b j).fst.list.length : Int) - (k : Int) - 1))) :: (iX k k ((x7 b ((d9 b j).fst.list.length : Int) ((d9 b j).fst.list, (d9 b j).snd + 1) k).fst.length) []))))) ⟨oW (by omega), ⟨oW (by omega), ⟨oW (by omega), ⟨(bu1 (by omega) (by omega) (by omega) (by omega)), (iK (by omega) b84)⟩⟩⟩⟩ fun G => i8 (b0 (D0 G e6 [(7, iA ((k : Int) + 1))] [wO ((k : Int) + 1)] (o1 (by omega)) fun G => b0 ?_)); exact L0 G (k + 1) (by omega) (by omega) (rg 7) (by have e1 : ((x7 b ((d9 b j).fst.list.length : Int) ((d9 b j).fst.list, (d9 b j).snd + 1) (k + 1)).snd : Int) = ((x7 b ((d9 b j).fst.list.length : Int) ((d9 b j).fst.list, (d9 b j).snd + 1) k).snd + 1 + 1) := (by rw [bh7 (by omega) (by omega) (by omega)]; done); have e2 : ((x7 b ((d9 b j).fst.list.length : Int) ((d9 b j).fst.list, (d9 b j).snd + 1) (k + 1)).fst : List d7) = ((x7 b ((d9 b j).fst.list.length : Int) ((d9 b j).fst.list, (d9 b j).snd + 1) k).fst.set k (d7.mk 8 ((k : Int) + 1 + pk b ((x7 b ((d9 b j).fst.list.length : Int) ((d9 b j).fst.list, (d9 b j).snd + 1) k).snd + 1) (((d9 b j).fst.list.length : Int) - (k : Int) - 1)) 0 0 0)) := (by rw [bh7 (by omega) (by omega) (by omega)]; done); (first | rw [e1, e2] | simp only [e1, e2]) <;> rfl)
  · have q0 := eq_of_beq h0; exact False.elim (by omega)
abbrev ai0 (b : List UInt8) (j : Int) (k : Nat) := x7 b ((d9 b j).fst.list.length : Int) ((d9 b j).fst.list, (z8 b ((d9 b j).snd + 1)).snd) k
abbrev as1 : It := .box [.v (.slice none 0 0), .v (.slice none 0 0), .v (.slice none 0 0)]
abbrev as0 (b : List UInt8) (j : Int) : It := .row 3 (D.ints (d9 b j).fst.arrays)
abbrev ar9 (b : List UInt8) (j : Int) : It := .row 3 (D.ints (d9 b j).fst.vars)
abbrev aG4 (b : List UInt8) (j : Int) : AV := iA ((d9 b j).fst.list.length : Int)
abbrev al0 (r0 : List (Nat × AV)) : List (Nat × AV) := (0, .ptr 0 0) :: (2, .ptr 2 0) :: (3, .ptr 6 0) :: r0
theorem bp4 (b : List UInt8) (j : Int) (hpk : pk b (d9 b j).2 2 = 0) (hok : okC (r8 b ((d9 b j).2 + 1)) = false) (r0 : 0 ≤ j) (r1 : j ≤ 1000000) : l0.ok Tryz.prog (jpC b j (d9 b j).1 ((z8 b ((d9 b j).2 + 1)).2)) := by
  have hcd := bG5 b r0 (show j ≤ 10000000 by omega); have hbd := bx8 b (j := (d9 b j).2 + 1) (by omega) (by omega); have hsz : (r8 b ((d9 b j).2 + 1)).size ≤ 1048576 := b97 (br4 (b := b) (k := (d9 b j).2 + 1) (by omega) (by omega)) (by omega); have hcp := bJ7 hsz hok; refine J8 70 Tryz.func23 [.box [.ref 1, iA j], dY b] [(0, .ptr 0 0)] fun G => ?_; refine wp_seq (i9 G e6 [0, 1, 2] [.box [.ref 1, iA j], dY b, as1] [(0, .ptr 0 0), (2, .ptr 2 0)] fun G => b0 (wp_seq (i9 G (v5 1 [0, 1] (aC9 b j (by assumption) (by omega))) [0, 1, 2, 11, 12, 13, 19] [.box [.ref 1, iA (d9 b j).snd], dY b, as1, ar9 b j, as0 b j, .row 60 (D.instrs (d9 b j).fst.list), .box (pL 3)] (al0 []) fun G => b0 (wp_seq (wp_seq (i9 G (v5 1 [0, 1] (s4 b ((d9 b j).snd) 2 (by omega) (by omega))) (rg 7) [.box [.ref 1, iA ((d9 b j).snd + 1)], dY b, as1, ar9 b j, as0 b j, .row 60 (D.instrs (d9 b j).fst.list), .box (pL 3)] (al0 [(12, bA (pk b (d9 b j).snd 2 == 0))]) fun G => b0 ?_)))))); cases h0 : (pk b (d9 b j).snd (2 : Int) == 0)
  · have q0 := ne_of_beq_false h0; exact False.elim (by omega)
  ·
   have q0 := eq_of_beq h0; refine rT G _ h0 (wp_seq (i9 G (T4 (F9 1 [0, 1] (af4 b ((d9 b j).snd + 1) (by omega) (by omega)) (F9 2 [15, 16, 17] (l0.lend hcp [.row 3, .row 3, .tree]) T3)) fz []) [0, 1, 2, 3, 4, 5, 6, 23, 24, 25, 55] [.box [.ref 1, iA (z8 b ((d9 b j).snd + 1)).snd], dY b, as1, ar9 b j, as0 b j, .row 60 (D.instrs (d9 b j).fst.list), .box (pL 3), .row 3 (D.ints (cvP (r8 b ((d9 b j).snd + 1)))), .row 3 (D.ints (caP (r8 b ((d9 b j).snd + 1)))), .row 60 (D.instrs (l8 (r8 b ((d9 b j).snd + 1))).fst), .box (pL 7)] (al0 [(4, .ptr 10 0), (5, bA false)]) fun G => b0 (wp_seq (l6 G e6 [(19, bA false)] fun G => b0 (rF G false (by kernel_rfl) (wp_skip (b0 (wp_seq (i9 G e6 (rg 7) [.box [.ref 1, iA (z8 b ((d9 b j).snd + 1)).snd], dY b, as1, ar9 b j, as0 b j, .row 60 (D.instrs (d9 b j).fst.list), .box (pL 3)] (al0 [(6, aG4 b j)]) fun G => b0 (wp_seq (wp_seq (G9 G e6 (al0 [(6, aG4 b j), (7, iA 0)]) fun G => b0 (wp_block ?_))))))))))))); refine x6 (κ := Nat) (fun k => (k = 0 ∨ (k + 1 ≤ (d9 b j).1.list.length ∧ (d9 b j).1.list.length ≤ 40))) (fun k => (d9 b j).1.list.length - k) (fun k => [.box [.ref 1, iA (x7 b (d9 b j).1.list.length ((d9 b j).1.list, (z8 b ((d9 b j).2 + 1)).2) k).2], dY b, .box [.v (.slice none 0 0), .v (.slice none 0 0), .v (.slice none 0 0)], .row 3 (D.ints (d9 b j).fst.vars), .row 3 (D.ints (d9 b j).fst.arrays), .row 60 (.instrs (x7 b (d9 b j).1.list.length ((d9 b j).1.list, (z8 b ((d9 b j).2 + 1)).2) k).1), .box (pL 3)]) (fun k => [(0, .ptr 0 0), (2, .ptr 2 0), (3, .ptr 6 0), (6, iA ((d9 b j).fst.list.length : Int)), (7, iA k)]) 0 (by omega) (t7.at G _ _) ?_; clear G; intro k ρ a w hp G; replace G := t7.at G [.box [.ref 1, iA (ai0 b j k).snd], dY b, as1, ar9 b j, as0 b j, .row 60 (D.instrs (ai0 b j k).fst), .box (pL 3)] (al0 [(6, aG4 b j), (7, iA k)]); have hjm := bO2 b (d9 b j).1.list.length ((d9 b j).1.list) ((z8 b ((d9 b j).2 + 1)).2) k; refine wp_seq (wp_seq ?_); cases h1 : (decide ((k : Int) + 1 < ((d9 b j).fst.list.length : Int)))
   · have q1 := Z3 h1; refine D0 G (J3 (fc h1 fz) [(5, 0), (6, 0), (1007, 0)]) [(31, bA false)] [wO ((k : Int) + 1)] (o1 (by omega)) fun G => b0 (rF G false (by kernel_rfl) (wp_exit (v9 (v9 (v6 (b0 (wp_seq (i9 G e6 (rg 6) [.box [.ref 1, iA (ai0 b j k).snd], dY b, .box (pL 3), ar9 b j, as0 b j, .row 60 (D.instrs (ai0 b j k).fst)] [(2, .ptr 2 0)] fun G => b0 (wp_ret ?_))))))))); exact J9 G [0, 1, 3, 4, 5] (by show _ = mR [0, 1, 3, 4, 5] [.box [.ref 1, iA (jpF b (d9 b j).fst (z8 b ((d9 b j).snd + 1)).snd).snd], dY b, .row 3 (D.ints (jpF b (d9 b j).fst (z8 b ((d9 b j).snd + 1)).snd).fst.vars), .row 3 (D.ints (jpF b (d9 b j).fst (z8 b ((d9 b j).snd + 1)).snd).fst.arrays), .row 60 (D.instrs (jpF b (d9 b j).fst (z8 b ((d9 b j).snd + 1)).snd).fst.list)]; have e2 : ((jpF b (d9 b j).fst (z8 b ((d9 b j).snd + 1)).snd).fst.vars : List Int) = ((d9 b j).fst.vars) := ((an6 b _ _).2.1); have e3 : ((jpF b (d9 b j).fst (z8 b ((d9 b j).snd + 1)).snd).fst.arrays : List Int) = ((d9 b j).fst.arrays) := ((an6 b _ _).2.2.1); rw [e2, e3, a56 (k := k) (by omega) (by omega)] <;> rfl)
   ·
    have q1 := Z2 h1; refine rB1 G (J3 (fc h1 fz) [(5, 0), (6, 0), (1007, 0)]) (al0 [(6, aG4 b j), (7, iA k), (31, bA (decide (((d9 b j).fst.list.length : Int) ≤ 40)))]) [wO ((k : Int) + 1)] (o1 (by omega)) fun G => b0 ?_; cases h2 : (decide (((d9 b j).fst.list.length : Int) ≤ 40))
    · have q2 := Z3 h2; exact False.elim (by omega)
    ·
     have q2 := Z2 h2; refine rT G _ h2 (wp_skip (b0 (wp_seq (wp_block (wp_seq ?_))))); cases h3 : (((x7 b ((d9 b j).fst.list.length : Int) ((d9 b j).fst.list, (z8 b ((d9 b j).snd + 1)).snd) k).fst.getD k b71).op != 10)
     · have q3 := bne_eq_false_iff_eq.1 h3; refine D0 G (J3 (fc h3 (fc (b := false) rfl fz)) (us [(8, 14, 0), (1015, 1015, 0), (17, 19, 1), (1020, 1020, 1)])) [(54, bA false)] (iX k k ((x7 b ((d9 b j).fst.list.length : Int) ((d9 b j).fst.list, (z8 b ((d9 b j).snd + 1)).snd) k).fst.length) []) (iK (by omega) b84) fun G => b0 (rF G false (by kernel_rfl) (wp_skip (i8 (b0 (D0 G e6 [(7, iA ((k : Int) + 1))] [wO ((k : Int) + 1)] (o1 (by omega)) fun G => b0 ?_))))); exact L0 G (k + 1) (by omega) (by omega) (rg 7) (by have e1 : ((x7 b ((d9 b j).fst.list.length : Int) ((d9 b j).fst.list, (z8 b ((d9 b j).snd + 1)).snd) (k + 1)).snd : Int) = ((x7 b ((d9 b j).fst.list.length : Int) ((d9 b j).fst.list, (z8 b ((d9 b j).snd + 1)).snd) k).snd) := (by rw [au3 (by omega)]; done); have e2 : ((x7 b ((d9 b j).fst.list.length : Int) ((d9 b j).fst.list, (z8 b ((d9 b j).snd + 1)).snd) (k + 1)).fst : List d7) = ((x7 b ((d9 b j).fst.list.length : Int) ((d9 b j).fst.list, (z8 b ((d9 b j).snd + 1)).snd) k).fst) := (by rw [au3 (by omega)]; done); (first | rw [e1, e2] | simp only [e1, e2]) <;> rfl)
     ·
      have q3 := bne_iff_ne.1 h3; cases h4 : (((x7 b ((d9 b j).fst.list.length : Int) ((d9 b j).fst.list, (z8 b ((d9 b j).snd + 1)).snd) k).fst.getD k b71).op != 1)
      · have q4 := bne_eq_false_iff_eq.1 h4; refine D0 G (J3 (fc h3 (fc h4 fz)) (us [(8, 14, 0), (1015, 1015, 0), (17, 19, 1), (1020, 1020, 1)])) [(54, bA false)] (iX k k ((x7 b ((d9 b j).fst.list.length : Int) ((d9 b j).fst.list, (z8 b ((d9 b j).snd + 1)).snd) k).fst.length) (iX k k ((x7 b ((d9 b j).fst.list.length : Int) ((d9 b j).fst.list, (z8 b ((d9 b j).snd + 1)).snd) k).fst.length) [])) (iK (by omega) (iK (by omega) b84)) fun G => b0 (rF G false (by kernel_rfl) (wp_skip (i8 (b0 (D0 G e6 [(7, iA ((k : Int) + 1))] [wO ((k : Int) + 1)] (o1 (by omega)) fun G => b0 ?_))))); exact L0 G (k + 1) (by omega) (by omega) (rg 7) (by have e1 : ((x7 b ((d9 b j).fst.list.length : Int) ((d9 b j).fst.list, (z8 b ((d9 b j).snd + 1)).snd) (k + 1)).snd : Int) = ((x7 b ((d9 b j).fst.list.length : Int) ((d9 b j).fst.list, (z8 b ((d9 b j).snd + 1)).snd) k).snd) := (by rw [au3 (by omega)]; done); have e2 : ((x7 b ((d9 b j).fst.list.length : Int) ((d9 b j).fst.list, (z8 b ((d9 b j).snd + 1)).snd) (k + 1)).fst : List d7) = ((x7 b ((d9 b j).fst.list.length : Int) ((d9 b j).fst.list, (z8 b ((d9 b j).snd + 1)).snd) k).fst) := (by rw [au3 (by omega)]; done); (first | rw [e1, e2] | simp only [e1, e2]) <;> rfl)
      ·
       have q4 := bne_iff_ne.1 h4; refine K6 G (T4 (F9 18 [0, 1] (s4 b ((x7 b ((d9 b j).fst.list.length : Int) ((d9 b j).fst.list, (z8 b ((d9 b j).snd + 1)).snd) k).snd) 4 (by omega) (by omega)) T3) (fc h3 (fc h4 fz)) (us [(8, 14, 0), (1015, 1015, 0), (17, 19, 1), (1020, 1020, 1)])) (rg 7) [.box [.ref 1, iA ((ai0 b j k).snd + 1)], dY b, as1, ar9 b j, as0 b j, .row 60 (D.instrs (ai0 b j k).fst), .box (pL 3)] (al0 [(6, aG4 b j), (7, iA k), (54, bA (pk b (ai0 b j k).snd 4 == 0))]) (iX k k ((x7 b ((d9 b j).fst.list.length : Int) ((d9 b j).fst.list, (z8 b ((d9 b j).snd + 1)).snd) k).fst.length) (iX k k ((x7 b ((d9 b j).fst.list.length : Int) ((d9 b j).fst.list, (z8 b ((d9 b j).snd + 1)).snd) k).fst.length) [])) (iK (by omega) (iK (by omega) b84)) fun G => b0 (P0 (u := (pk b (x7 b ((d9 b j).fst.list.length : Int) ((d9 b j).fst.list, (z8 b ((d9 b j).snd + 1)).snd) k).snd (4 : Int))) (v := (0 : Int)) G (fun h5 q5 => ?_) fun h5 q5 => ?_)
       · refine wp_skip (i8 (b0 (D0 G e6 [(7, iA ((k : Int) + 1))] [wO ((k : Int) + 1)] (o1 (by omega)) fun G => b0 ?_))); exact L0 G (k + 1) (by omega) (by omega) (rg 7) (by have e1 : ((x7 b ((d9 b j).fst.list.length : Int) ((d9 b j).fst.list, (z8 b ((d9 b j).snd + 1)).snd) (k + 1)).snd : Int) = ((x7 b ((d9 b j).fst.list.length : Int) ((d9 b j).fst.list, (z8 b ((d9 b j).snd + 1)).snd) k).snd + 1) := (by rw [bh8 (by omega) (by omega) (by omega)]; done); have e2 : ((x7 b ((d9 b j).fst.list.length : Int) ((d9 b j).fst.list, (z8 b ((d9 b j).snd + 1)).snd) (k + 1)).fst : List d7) = ((x7 b ((d9 b j).fst.list.length : Int) ((d9 b j).fst.list, (z8 b ((d9 b j).snd + 1)).snd) k).fst) := (by rw [bh8 (by omega) (by omega) (by omega)]; done); (first | rw [e1, e2] | simp only [e1, e2]) <;> rfl)
       · refine H5 G (v5 10 [0, 1] (s4 b ((x7 b ((d9 b j).fst.list.length : Int) ((d9 b j).fst.list, (z8 b ((d9 b j).snd + 1)).snd) k).snd + 1) (((d9 b j).fst.list.length : Int) - (k : Int) - 1) (by omega) (by omega))) [0, 1, 0, 0, 8, 0, 0, 0, 192, 448, 992, 2040, 4088, 8191, 16383] (rg 7) [.box [.ref 1, iA ((ai0 b j k).snd + 1 + 1)], dY b, as1, ar9 b j, as0 b j, .row 60 (D.instrs ((ai0 b j k).fst.set k (d7.mk 8 ((k : Int) + 1 + pk b ((ai0 b j k).snd + 1) (((d9 b j).fst.list.length : Int) - (k : Int) - 1)) 0 0 0))), .box (pL 3)] (al0 [(6, aG4 b j), (7, iA k)]) ((wO ((k : Int) + 1)) :: ((wO (((d9 b j).fst.list.length : Int) - (k : Int))) :: ((wO (((d9 b j).fst.list.length : Int) - (k : Int) - 1)) :: ((wO ((k : Int) + 1 + pk b ((x7 b ((d9 b j).fst.list.length : Int) ((d9 b j).fst.list, (z8 b ((d9 b j).snd + 1)).snd) k).snd + 1) (((d9 b j).fst.list.length : Int) - (k : Int) - 1))) :: (iX k k ((x7 b ((d9 b j).fst.list.length : Int) ((d9 b j).fst.list, (z8 b ((d9 b j).snd + 1)).snd) k).fst.length) []))))) ⟨oW (by omega), ⟨oW (by omega), ⟨oW (by omega), ⟨(bu1 (by omega) (by omega) (by omega) (by omega)), (iK (by omega) b84)⟩⟩⟩⟩ fun G => i8 (b0 (D0 G e6 [(7, iA ((k : Int) + 1))] [wO ((k : Int) + 1)] (o1 (by omega)) fun G => b0 ?_)); exact L0 G (k + 1) (by omega) (by omega) (rg 7) (by have e1 : ((x7 b ((d9 b j).fst.list.length : Int) ((d9 b j).fst.list, (z8 b ((d9 b j).snd + 1)).snd) (k + 1)).snd : Int) = ((x7 b ((d9 b j).fst.list.length : Int) ((d9 b j).fst.list, (z8 b ((d9 b j).snd + 1)).snd) k).snd + 1 + 1) := (by rw [bh7 (by omega) (by omega) (by omega)]; done); have e2 : ((x7 b ((d9 b j).fst.list.length : Int) ((d9 b j).fst.list, (z8 b ((d9 b j).snd + 1)).snd) (k + 1)).fst : List d7) = ((x7 b ((d9 b j).fst.list.length : Int) ((d9 b j).fst.list, (z8 b ((d9 b j).snd + 1)).snd) k).fst.set k (d7.mk 8 ((k : Int) + 1 + pk b ((x7 b ((d9 b j).fst.list.length : Int) ((d9 b j).fst.list, (z8 b ((d9 b j).snd + 1)).snd) k).snd + 1) (((d9 b j).fst.list.length : Int) - (k : Int) - 1)) 0 0 0)) := (by rw [bh7 (by omega) (by omega) (by omega)]; done); (first | rw [e1, e2] | simp only [e1, e2]) <;> rfl)
theorem bF1 {b : List UInt8} {vs ars : List Int} {l : List d7} {q : Int} {k : Nat} (h : l.length ≤ 40) (hk : k = l.length - 1) : jpF b ⟨vs, ars, l⟩ q = (⟨vs, ars, (x7 b l.length (l, q) k).1⟩, (x7 b l.length (l, q) k).2) := a56 (c := ⟨vs, ars, l⟩) h hk
theorem bF2 {b : List UInt8} {vs ars : List Int} {l : List d7} {q : Int} (h : ¬ l.length ≤ 40) : jpF b ⟨vs, ars, l⟩ q = (⟨vs, ars, l⟩, q) := bO1 (c := ⟨vs, ars, l⟩) h
abbrev ac5 (b : List UInt8) (j : Int) (k : Nat) := x7 b ((l8 (r8 b ((d9 b j).snd + 1))).fst.length : Int) ((l8 (r8 b ((d9 b j).snd + 1))).fst, (z8 b ((d9 b j).snd + 1)).snd) k
abbrev ba1 (b : List UInt8) (j : Int) : List It := [.box [.ref 1, iA (jpF b (b6.mk (cvP (r8 b ((d9 b j).snd + 1))) (caP (r8 b ((d9 b j).snd + 1))) (l8 (r8 b ((d9 b j).snd + 1))).fst) (z8 b ((d9 b j).snd + 1)).snd).snd], dY b, .row 3 (D.ints (jpF b (b6.mk (cvP (r8 b ((d9 b j).snd + 1))) (caP (r8 b ((d9 b j).snd + 1))) (l8 (r8 b ((d9 b j).snd + 1))).fst) (z8 b ((d9 b j).snd + 1)).snd).fst.vars), .row 3 (D.ints (jpF b (b6.mk (cvP (r8 b ((d9 b j).snd + 1))) (caP (r8 b ((d9 b j).snd + 1))) (l8 (r8 b ((d9 b j).snd + 1))).fst) (z8 b ((d9 b j).snd + 1)).snd).fst.arrays), .row 60 (D.instrs (jpF b (b6.mk (cvP (r8 b ((d9 b j).snd + 1))) (caP (r8 b ((d9 b j).snd + 1))) (l8 (r8 b ((d9 b j).snd + 1))).fst) (z8 b ((d9 b j).snd + 1)).snd).fst.list)]
abbrev aG3 : It := .box [.v (.slice none 0 0), .v (.slice none 0 0), .v (.slice none 0 0)]
abbrev ax1 (b : List UInt8) (j : Int) : It := .row 3 (D.ints (cvP (r8 b ((d9 b j).snd + 1))))
abbrev ax0 (b : List UInt8) (j : Int) : It := .row 3 (D.ints (caP (r8 b ((d9 b j).snd + 1))))
abbrev aR7 (b : List UInt8) (j : Int) : AV := iA ((l8 (r8 b ((d9 b j).snd + 1))).fst.length : Int)
abbrev bl8 (b : List UInt8) (j : Int) (r0 : List It) : List It := dY b :: aG3 :: .row 3 (D.ints (d9 b j).fst.vars) :: .row 3 (D.ints (d9 b j).fst.arrays) :: .row 60 (D.instrs (d9 b j).fst.list) :: .box (pL 3) :: r0
theorem bp2 (b : List UInt8) (j : Int) (hpk : pk b (d9 b j).2 2 = 0) (hok : okC (r8 b ((d9 b j).2 + 1)) = true) (r0 : 0 ≤ j) (r1 : j ≤ 1000000) : l0.ok Tryz.prog (jpC b j (⟨cvP (r8 b ((d9 b j).2 + 1)), caP (r8 b ((d9 b j).2 + 1)), (l8 (r8 b ((d9 b j).2 + 1))).1⟩ : b6) ((z8 b ((d9 b j).2 + 1)).2)) := by
  have hcd := bG5 b r0 (show j ≤ 10000000 by omega); have hbd := bx8 b (j := (d9 b j).2 + 1) (by omega) (by omega); have hsz : (r8 b ((d9 b j).2 + 1)).size ≤ 1048576 := b97 (br4 (b := b) (k := (d9 b j).2 + 1) (by omega) (by omega)) (by omega); have hcp := bJ7 hsz hok; refine J8 70 Tryz.func23 [.box [.ref 1, iA j], dY b] [(0, .ptr 0 0)] fun G => ?_; refine wp_seq (i9 G e6 [0, 1, 2] [.box [.ref 1, iA j], dY b, aG3] [(0, .ptr 0 0), (2, .ptr 2 0)] fun G => b0 (wp_seq (i9 G (v5 1 [0, 1] (aC9 b j (by assumption) (by omega))) [0, 1, 2, 11, 12, 13, 19] (.box [.ref 1, iA (d9 b j).snd] :: (bl8 b j [])) [(0, .ptr 0 0), (2, .ptr 2 0), (3, .ptr 6 0)] fun G => b0 (wp_seq (wp_seq (i9 G (v5 1 [0, 1] (s4 b ((d9 b j).snd) 2 (by omega) (by omega))) (rg 7) (.box [.ref 1, iA ((d9 b j).snd + 1)] :: (bl8 b j [])) [(0, .ptr 0 0), (2, .ptr 2 0), (3, .ptr 6 0), (12, bA (pk b (d9 b j).snd 2 == 0))] fun G => b0 ?_)))))); cases h0 : (pk b (d9 b j).snd (2 : Int) == 0)
  · have q0 := ne_of_beq_false h0; exact False.elim (by omega)
  ·
   have q0 := eq_of_beq h0; refine rT G _ h0 (wp_seq (i9 G (T4 (F9 1 [0, 1] (af4 b ((d9 b j).snd + 1) (by omega) (by omega)) (F9 2 [15, 16, 17] (l0.lend hcp [.row 3, .row 3, .tree]) T3)) fz []) [0, 1, 2, 3, 4, 5, 6, 23, 24, 25, 55] (.box [.ref 1, iA (z8 b ((d9 b j).snd + 1)).snd] :: (bl8 b j [ax1 b j, ax0 b j, .row 60 (D.instrs (l8 (r8 b ((d9 b j).snd + 1))).fst), .box (pL 7)])) [(0, .ptr 0 0), (2, .ptr 2 0), (3, .ptr 6 0), (4, .ptr 10 0), (5, bA true)] fun G => b0 (wp_seq (l6 G e6 [(19, bA true)] fun G => b0 (rT G true (by kernel_rfl) (i9 G e6 [0, 1, 2, 6, 7, 8, 9] [.box [.ref 1, iA (z8 b ((d9 b j).snd + 1)).snd], dY b, aG3, .box (pL 4), ax1 b j, ax0 b j, .row 60 (D.instrs (l8 (r8 b ((d9 b j).snd + 1))).fst)] [(0, .ptr 0 0), (2, .ptr 2 0), (3, .ptr 3 0)] fun G => b0 (wp_seq (l6 G e6 [(6, aR7 b j)] fun G => b0 (wp_seq (wp_seq (G9 G e6 [(0, .ptr 0 0), (2, .ptr 2 0), (3, .ptr 3 0), (6, aR7 b j), (7, iA 0)] fun G => b0 (wp_block ?_)))))))))))); refine x6 (κ := Nat) (fun k => (k = 0 ∨ (k + 1 ≤ (l8 (r8 b ((d9 b j).2 + 1))).1.length ∧ (l8 (r8 b ((d9 b j).2 + 1))).1.length ≤ 40))) (fun k => (l8 (r8 b ((d9 b j).2 + 1))).1.length - k) (fun k => [.box [.ref 1, iA (x7 b (l8 (r8 b ((d9 b j).2 + 1))).1.length ((l8 (r8 b ((d9 b j).2 + 1))).1, (z8 b ((d9 b j).2 + 1)).2) k).2], dY b, .box [.v (.slice none 0 0), .v (.slice none 0 0), .v (.slice none 0 0)], .box (pL 4), .row 3 (D.ints (cvP (r8 b ((d9 b j).snd + 1)))), .row 3 (D.ints (caP (r8 b ((d9 b j).snd + 1)))), .row 60 (.instrs (x7 b (l8 (r8 b ((d9 b j).2 + 1))).1.length ((l8 (r8 b ((d9 b j).2 + 1))).1, (z8 b ((d9 b j).2 + 1)).2) k).1)]) (fun k => [(0, .ptr 0 0), (2, .ptr 2 0), (3, .ptr 3 0), (6, iA ((l8 (r8 b ((d9 b j).snd + 1))).fst.length : Int)), (7, iA k)]) 0 (by omega) (t7.at G _ _) ?_; clear G; intro k ρ a w hp G; replace G := t7.at G [.box [.ref 1, iA (ac5 b j k).snd], dY b, aG3, .box (pL 4), ax1 b j, ax0 b j, .row 60 (D.instrs (ac5 b j k).fst)] [(0, .ptr 0 0), (2, .ptr 2 0), (3, .ptr 3 0), (6, aR7 b j), (7, iA k)]; have hjm := bO2 b (l8 (r8 b ((d9 b j).2 + 1))).1.length ((l8 (r8 b ((d9 b j).2 + 1))).1) ((z8 b ((d9 b j).2 + 1)).2) k; refine wp_seq (wp_seq ?_); cases h1 : (decide ((k : Int) + 1 < ((l8 (r8 b ((d9 b j).snd + 1))).fst.length : Int)))
   · have q1 := Z3 h1; refine D0 G (J3 (fc h1 fz) [(5, 0), (6, 0), (1007, 0)]) [(31, bA false)] [wO ((k : Int) + 1)] (o1 (by omega)) fun G => b0 (rF G false (by kernel_rfl) (wp_exit (v9 (v9 (v6 (b0 (wp_seq (i9 G e6 [0, 1, 2, 4, 5, 6] [.box [.ref 1, iA (ac5 b j k).snd], dY b, .box (pL 3), ax1 b j, ax0 b j, .row 60 (D.instrs (ac5 b j k).fst)] [(2, .ptr 2 0)] fun G => b0 (wp_ret ?_))))))))); exact J9 G [0, 1, 3, 4, 5] (by show _ = mR [0, 1, 3, 4, 5] (ba1 b j); unfold ba1; have e2 : ((jpF b (b6.mk (cvP (r8 b ((d9 b j).snd + 1))) (caP (r8 b ((d9 b j).snd + 1))) (l8 (r8 b ((d9 b j).snd + 1))).fst) (z8 b ((d9 b j).snd + 1)).snd).fst.vars : List Int) = (cvP (r8 b ((d9 b j).snd + 1))) := ((an6 b _ _).2.1); have e3 : ((jpF b (b6.mk (cvP (r8 b ((d9 b j).snd + 1))) (caP (r8 b ((d9 b j).snd + 1))) (l8 (r8 b ((d9 b j).snd + 1))).fst) (z8 b ((d9 b j).snd + 1)).snd).fst.arrays : List Int) = (caP (r8 b ((d9 b j).snd + 1))) := ((an6 b _ _).2.2.1); rw [e2, e3, bF1 (k := k) (by omega) (by omega)] <;> rfl)
   ·
    have q1 := Z2 h1; refine D0 G (J3 (fc h1 fz) [(5, 0), (6, 0), (1007, 0)]) [(31, bA (decide (((l8 (r8 b ((d9 b j).snd + 1))).fst.length : Int) ≤ 40)))] [wO ((k : Int) + 1)] (o1 (by omega)) fun G => b0 (rcD G (fun h2 q2 => ?_) fun h2 q2 => ?_)
    · refine wp_exit (v9 (v9 (v6 (b0 (wp_seq (i9 G e6 [0, 1, 2, 4, 5, 6] [.box [.ref 1, iA (ac5 b j k).snd], dY b, .box (pL 3), ax1 b j, ax0 b j, .row 60 (D.instrs (ac5 b j k).fst)] [(2, .ptr 2 0)] fun G => b0 (wp_ret ?_))))))); exact J9 G [0, 1, 3, 4, 5] (by show _ = mR [0, 1, 3, 4, 5] (ba1 b j); unfold ba1; have e2 : ((jpF b (b6.mk (cvP (r8 b ((d9 b j).snd + 1))) (caP (r8 b ((d9 b j).snd + 1))) (l8 (r8 b ((d9 b j).snd + 1))).fst) (z8 b ((d9 b j).snd + 1)).snd).fst.vars : List Int) = (cvP (r8 b ((d9 b j).snd + 1))) := ((an6 b _ _).2.1); have e3 : ((jpF b (b6.mk (cvP (r8 b ((d9 b j).snd + 1))) (caP (r8 b ((d9 b j).snd + 1))) (l8 (r8 b ((d9 b j).snd + 1))).fst) (z8 b ((d9 b j).snd + 1)).snd).fst.arrays : List Int) = (caP (r8 b ((d9 b j).snd + 1))) := ((an6 b _ _).2.2.1); rw [e2, e3, bF2 (by omega), show k = 0 by omega] <;> rfl)
    ·
     refine wp_skip (b0 (wp_seq (wp_block (wp_seq ?_)))); cases h3 : (((x7 b ((l8 (r8 b ((d9 b j).snd + 1))).fst.length : Int) ((l8 (r8 b ((d9 b j).snd + 1))).fst, (z8 b ((d9 b j).snd + 1)).snd) k).fst.getD k b71).op != 10)
     · have q3 := bne_eq_false_iff_eq.1 h3; refine D0 G (J3 (fc h3 (fc (b := false) rfl fz)) (us [(8, 14, 0), (1015, 1015, 0), (17, 19, 1), (1020, 1020, 1)])) [(54, bA false)] (iX k k ((x7 b ((l8 (r8 b ((d9 b j).snd + 1))).fst.length : Int) ((l8 (r8 b ((d9 b j).snd + 1))).fst, (z8 b ((d9 b j).snd + 1)).snd) k).fst.length) []) (iK (by omega) b84) fun G => b0 (rF G false (by kernel_rfl) (wp_skip (i8 (b0 (D0 G e6 [(7, iA ((k : Int) + 1))] [wO ((k : Int) + 1)] (o1 (by omega)) fun G => b0 ?_))))); exact L0 G (k + 1) (by omega) (by omega) (rg 7) (by have e1 : ((x7 b ((l8 (r8 b ((d9 b j).snd + 1))).fst.length : Int) ((l8 (r8 b ((d9 b j).snd + 1))).fst, (z8 b ((d9 b j).snd + 1)).snd) (k + 1)).snd : Int) = ((x7 b ((l8 (r8 b ((d9 b j).snd + 1))).fst.length : Int) ((l8 (r8 b ((d9 b j).snd + 1))).fst, (z8 b ((d9 b j).snd + 1)).snd) k).snd) := (by rw [au3 (by omega)]; done); have e2 : ((x7 b ((l8 (r8 b ((d9 b j).snd + 1))).fst.length : Int) ((l8 (r8 b ((d9 b j).snd + 1))).fst, (z8 b ((d9 b j).snd + 1)).snd) (k + 1)).fst : List d7) = ((x7 b ((l8 (r8 b ((d9 b j).snd + 1))).fst.length : Int) ((l8 (r8 b ((d9 b j).snd + 1))).fst, (z8 b ((d9 b j).snd + 1)).snd) k).fst) := (by rw [au3 (by omega)]; done); (first | rw [e1, e2] | simp only [e1, e2]) <;> rfl)
     ·
      have q3 := bne_iff_ne.1 h3; cases h4 : (((x7 b ((l8 (r8 b ((d9 b j).snd + 1))).fst.length : Int) ((l8 (r8 b ((d9 b j).snd + 1))).fst, (z8 b ((d9 b j).snd + 1)).snd) k).fst.getD k b71).op != 1)
      · have q4 := bne_eq_false_iff_eq.1 h4; refine D0 G (J3 (fc h3 (fc h4 fz)) (us [(8, 14, 0), (1015, 1015, 0), (17, 19, 1), (1020, 1020, 1)])) [(54, bA false)] (iX k k ((x7 b ((l8 (r8 b ((d9 b j).snd + 1))).fst.length : Int) ((l8 (r8 b ((d9 b j).snd + 1))).fst, (z8 b ((d9 b j).snd + 1)).snd) k).fst.length) (iX k k ((x7 b ((l8 (r8 b ((d9 b j).snd + 1))).fst.length : Int) ((l8 (r8 b ((d9 b j).snd + 1))).fst, (z8 b ((d9 b j).snd + 1)).snd) k).fst.length) [])) (iK (by omega) (iK (by omega) b84)) fun G => b0 (rF G false (by kernel_rfl) (wp_skip (i8 (b0 (D0 G e6 [(7, iA ((k : Int) + 1))] [wO ((k : Int) + 1)] (o1 (by omega)) fun G => b0 ?_))))); exact L0 G (k + 1) (by omega) (by omega) (rg 7) (by have e1 : ((x7 b ((l8 (r8 b ((d9 b j).snd + 1))).fst.length : Int) ((l8 (r8 b ((d9 b j).snd + 1))).fst, (z8 b ((d9 b j).snd + 1)).snd) (k + 1)).snd : Int) = ((x7 b ((l8 (r8 b ((d9 b j).snd + 1))).fst.length : Int) ((l8 (r8 b ((d9 b j).snd + 1))).fst, (z8 b ((d9 b j).snd + 1)).snd) k).snd) := (by rw [au3 (by omega)]; done); have e2 : ((x7 b ((l8 (r8 b ((d9 b j).snd + 1))).fst.length : Int) ((l8 (r8 b ((d9 b j).snd + 1))).fst, (z8 b ((d9 b j).snd + 1)).snd) (k + 1)).fst : List d7) = ((x7 b ((l8 (r8 b ((d9 b j).snd + 1))).fst.length : Int) ((l8 (r8 b ((d9 b j).snd + 1))).fst, (z8 b ((d9 b j).snd + 1)).snd) k).fst) := (by rw [au3 (by omega)]; done); (first | rw [e1, e2] | simp only [e1, e2]) <;> rfl)
      ·
       have q4 := bne_iff_ne.1 h4; refine K6 G (T4 (F9 18 [0, 1] (s4 b ((x7 b ((l8 (r8 b ((d9 b j).snd + 1))).fst.length : Int) ((l8 (r8 b ((d9 b j).snd + 1))).fst, (z8 b ((d9 b j).snd + 1)).snd) k).snd) 4 (by omega) (by omega)) T3) (fc h3 (fc h4 fz)) (us [(8, 14, 0), (1015, 1015, 0), (17, 19, 1), (1020, 1020, 1)])) (rg 7) [.box [.ref 1, iA ((ac5 b j k).snd + 1)], dY b, aG3, .box (pL 4), ax1 b j, ax0 b j, .row 60 (D.instrs (ac5 b j k).fst)] [(0, .ptr 0 0), (2, .ptr 2 0), (3, .ptr 3 0), (6, aR7 b j), (7, iA k), (54, bA (pk b (ac5 b j k).snd 4 == 0))] (iX k k ((x7 b ((l8 (r8 b ((d9 b j).snd + 1))).fst.length : Int) ((l8 (r8 b ((d9 b j).snd + 1))).fst, (z8 b ((d9 b j).snd + 1)).snd) k).fst.length) (iX k k ((x7 b ((l8 (r8 b ((d9 b j).snd + 1))).fst.length : Int) ((l8 (r8 b ((d9 b j).snd + 1))).fst, (z8 b ((d9 b j).snd + 1)).snd) k).fst.length) [])) (iK (by omega) (iK (by omega) b84)) fun G => b0 (P0 (u := (pk b (x7 b ((l8 (r8 b ((d9 b j).snd + 1))).fst.length : Int) ((l8 (r8 b ((d9 b j).snd + 1))).fst, (z8 b ((d9 b j).snd + 1)).snd) k).snd (4 : Int))) (v := (0 : Int)) G (fun h5 q5 => ?_) fun h5 q5 => ?_)
       · refine wp_skip (i8 (b0 (D0 G e6 [(7, iA ((k : Int) + 1))] [wO ((k : Int) + 1)] (o1 (by omega)) fun G => b0 ?_))); exact L0 G (k + 1) (by omega) (by omega) (rg 7) (by have e1 : ((x7 b ((l8 (r8 b ((d9 b j).snd + 1))).fst.length : Int) ((l8 (r8 b ((d9 b j).snd + 1))).fst, (z8 b ((d9 b j).snd + 1)).snd) (k + 1)).snd : Int) = ((x7 b ((l8 (r8 b ((d9 b j).snd + 1))).fst.length : Int) ((l8 (r8 b ((d9 b j).snd + 1))).fst, (z8 b ((d9 b j).snd + 1)).snd) k).snd + 1) := (by rw [bh8 (by omega) (by omega) (by omega)]; done); have e2 : ((x7 b ((l8 (r8 b ((d9 b j).snd + 1))).fst.length : Int) ((l8 (r8 b ((d9 b j).snd + 1))).fst, (z8 b ((d9 b j).snd + 1)).snd) (k + 1)).fst : List d7) = ((x7 b ((l8 (r8 b ((d9 b j).snd + 1))).fst.length : Int) ((l8 (r8 b ((d9 b j).snd + 1))).fst, (z8 b ((d9 b j).snd + 1)).snd) k).fst) := (by rw [bh8 (by omega) (by omega) (by omega)]; done); (first | rw [e1, e2] | simp only [e1, e2]) <;> rfl)
       · refine H5 G (v5 10 [0, 1] (s4 b ((x7 b ((l8 (r8 b ((d9 b j).snd + 1))).fst.length : Int) ((l8 (r8 b ((d9 b j).snd + 1))).fst, (z8 b ((d9 b j).snd + 1)).snd) k).snd + 1) (((l8 (r8 b ((d9 b j).snd + 1))).fst.length : Int) - (k : Int) - 1) (by omega) (by omega))) [0, 1, 0, 0, 8, 0, 0, 0, 192, 448, 992, 2040, 4088, 8191, 16383] (rg 7) [.box [.ref 1, iA ((ac5 b j k).snd + 1 + 1)], dY b, aG3, .box (pL 4), ax1 b j, ax0 b j, .row 60 (D.instrs ((ac5 b j k).fst.set k (d7.mk 8 ((k : Int) + 1 + pk b ((ac5 b j k).snd + 1) (((l8 (r8 b ((d9 b j).snd + 1))).fst.length : Int) - (k : Int) - 1)) 0 0 0)))] [(0, .ptr 0 0), (2, .ptr 2 0), (3, .ptr 3 0), (6, aR7 b j), (7, iA k)] ((wO ((k : Int) + 1)) :: ((wO (((l8 (r8 b ((d9 b j).snd + 1))).fst.length : Int) - (k : Int))) :: ((wO (((l8 (r8 b ((d9 b j).snd + 1))).fst.length : Int) - (k : Int) - 1)) :: ((wO ((k : Int) + 1 + pk b ((x7 b ((l8 (r8 b ((d9 b j).snd + 1))).fst.length : Int) ((l8 (r8 b ((d9 b j).snd + 1))).fst, (z8 b ((d9 b j).snd + 1)).snd) k).snd + 1) (((l8 (r8 b ((d9 b j).snd + 1))).fst.length : Int) - (k : Int) - 1))) :: (iX k k ((x7 b ((l8 (r8 b ((d9 b j).snd + 1))).fst.length : Int) ((l8 (r8 b ((d9 b j).snd + 1))).fst, (z8 b ((d9 b j).snd + 1)).snd) k).fst.length) []))))) ⟨oW (by omega), ⟨oW (by omega), ⟨oW (by omega), ⟨(bu1 (by omega) (by omega) (by omega) (by omega)), (iK (by omega) b84)⟩⟩⟩⟩ fun G => i8 (b0 (D0 G e6 [(7, iA ((k : Int) + 1))] [wO ((k : Int) + 1)] (o1 (by omega)) fun G => b0 ?_)); exact L0 G (k + 1) (by omega) (by omega) (rg 7) (by have e1 : ((x7 b ((l8 (r8 b ((d9 b j).snd + 1))).fst.length : Int) ((l8 (r8 b ((d9 b j).snd + 1))).fst, (z8 b ((d9 b j).snd + 1)).snd) (k + 1)).snd : Int) = ((x7 b ((l8 (r8 b ((d9 b j).snd + 1))).fst.length : Int) ((l8 (r8 b ((d9 b j).snd + 1))).fst, (z8 b ((d9 b j).snd + 1)).snd) k).snd + 1 + 1) := (by rw [bh7 (by omega) (by omega) (by omega)]; done); have e2 : ((x7 b ((l8 (r8 b ((d9 b j).snd + 1))).fst.length : Int) ((l8 (r8 b ((d9 b j).snd + 1))).fst, (z8 b ((d9 b j).snd + 1)).snd) (k + 1)).fst : List d7) = ((x7 b ((l8 (r8 b ((d9 b j).snd + 1))).fst.length : Int) ((l8 (r8 b ((d9 b j).snd + 1))).fst, (z8 b ((d9 b j).snd + 1)).snd) k).fst.set k (d7.mk 8 ((k : Int) + 1 + pk b ((x7 b ((l8 (r8 b ((d9 b j).snd + 1))).fst.length : Int) ((l8 (r8 b ((d9 b j).snd + 1))).fst, (z8 b ((d9 b j).snd + 1)).snd) k).snd + 1) (((l8 (r8 b ((d9 b j).snd + 1))).fst.length : Int) - (k : Int) - 1)) 0 0 0)) := (by rw [bh7 (by omega) (by omega) (by omega)]; done); (first | rw [e1, e2] | simp only [e1, e2]) <;> rfl)
theorem bj5 (b : List UInt8) (j : Int) (r0 : 0 ≤ j) (r1 : j ≤ 1000000) : l0.ok Tryz.prog ⟨23, [.ptr 0 0], [.box [.ref 1, iA j], dY b], [.box [.ref 1, iA (jpD b j).2], dY b, rI (jpD b j).1.vars, rI (jpD b j).1.arrays, rN (jpD b j).1.list], .agg [.ref 2, .ref 3, .ref 4]⟩ := by
 by_cases h : pk b (d9 b j).2 2 = 0
 ·cases h2 : okC (r8 b ((d9 b j).2 + 1)) with
  | true => rw [b56 h h2]; exact bp2 b j h h2 r0 r1
  | false => rw [b58 h h2]; exact bp4 b j h h2 r0 r1
 ·rw [b57 h]; exact bp3 b j h r0 r1
theorem jp0 (b : List UInt8) : 0 ≤ (jpD b 0).2 ∧ (jpD b 0).2 ≤ 1000000 ∧ (jpD b 0).1.list.length ≤ 400 ∧ (jpD b 0).1.vars.length ≤ 1000 ∧ (jpD b 0).1.arrays.length ≤ 1000 := by
 obtain ⟨h1, h2, h3, h4, h5⟩ := bV6 b (j := 0) (by omega) (by omega)
 obtain ⟨g1, g2, g3, g4, g5⟩ := an6 b (jpE b 0).1 (jpE b 0).2
 unfold jpD
 rw [g1, g2, g3]
 omega
def zB (bit : Int) (l : Int) : Bool := !(by5 l bit == 0)
section
variable {bit : Int} {p : j9} {m : v7}
theorem bZ9 (h : m.arrs.all R7 = true) {i : Nat} (hi : i < m.arrs.length) : (m.arrs.getD i []).length = 4 := by
 have := b80.1 h (m.arrs.getD i []) (by rw [r7 hi]; exact b91 hi)
 unfold R7 at this
 simp only [b73, decide_eq_true_eq] at this
 exact this.1
end
section
variable {ls xs : List Int} {rs : List (List Int)} {k : Nat} {b : Bool}
end
theorem zbt {bit l : Int} (h : ¬ by5 l bit = 0) : zB bit l = true := by unfold zB; rw [beq_eq_false_iff_ne.2 h]; rfl
theorem zbf {bit l : Int} (h : by5 l bit = 0) : zB bit l = false := by unfold zB; rw [h]; rfl
def A4 (b : List UInt8) (bit : Int) (ls : List Int) (j : Int) (xs : List Int) : Nat → List Int × Int
 | 0 => (xs, j)
 | k + 1 => if zB bit (ls.getD k 0) = true then ((A4 b bit ls j xs k).1.set k (nm b (A4 b bit ls j xs k).2 vaL), (A4 b bit ls j xs k).2 + 1) else A4 b bit ls j xs k
theorem aH7 (b : List UInt8) (bit : Int) (ls : List Int) (j : Int) (xs : List Int) : ∀ k : Nat, (A4 b bit ls j xs k).1.length = xs.length ∧ j ≤ (A4 b bit ls j xs k).2 ∧ (A4 b bit ls j xs k).2 ≤ j + k
 | 0 => ⟨rfl, Int.le_refl _, by simp [A4]⟩
 | k + 1 => by
  have h := aH7 b bit ls j xs k
  rw [A4]
  split
  ·refine ⟨by simp [h.1], ?_, ?_⟩ <;> dsimp only <;> omega
  ·omega
theorem bI6 {b : List UInt8} {bit : Int} {ls : List Int} {j : Int} {xs : List Int} {k : Nat} (h : zB bit (ls.getD k 0) = true) : A4 b bit ls j xs (k + 1) = ((A4 b bit ls j xs k).1.set k (nm b (A4 b bit ls j xs k).2 vaL), (A4 b bit ls j xs k).2 + 1) := by rw [A4, if_pos h]
theorem bI7 {b : List UInt8} {bit : Int} {ls : List Int} {j : Int} {xs : List Int} {k : Nat} (h : zB bit (ls.getD k 0) = false) : A4 b bit ls j xs (k + 1) = A4 b bit ls j xs k := by rw [A4, if_neg (by rw [h]; decide)]
theorem aL9 (b : List UInt8) (bit : Int) (ls : List Int) {j : Int} (xs : List Int) (hx : F5 xs = true) (r0 : 0 ≤ j) : ∀ k : Nat, j + k ≤ 1000000000 → F5 (A4 b bit ls j xs k).1 = true
 | 0, _ => hx
 | k + 1, r1 => by
  have ih := aL9 b bit ls xs hx r0 k (by omega)
  have hb := aH7 b bit ls j xs k
  rw [A4]
  split
  ·unfold F5 at ih ⊢
   rw [b80] at ih ⊢
   intro x hx
   rcases List.mem_or_eq_of_mem_set hx with h | h
   ·exact ih x h
   ·subst h; exact va_in b (by omega) (by omega)
  ·exact ih
where
 va_in (b : List UInt8) {j : Int} (r0 : 0 ≤ j) (r1 : j ≤ 1000000000) : (decide (0 ≤ nm b j vaL) && decide (nm b j vaL ≤ 255)) = true := by
  have h := aj9 b r0 r1 (l := vaL) (List.cons_ne_nil _ _)
  have key : ∀ x ∈ vaL, (decide (0 ≤ x) && decide (x ≤ 255)) = true := by decide
  exact key _ h
theorem bK7 (b : List UInt8) {j : Int} (r0 : 0 ≤ j) (r1 : j ≤ 1000000000) : (decide (0 ≤ nm b j vaL) && decide (nm b j vaL ≤ 255)) = true := aL9.va_in b r0 r1
theorem a14 (b : List UInt8) {j : Int} (r0 : 0 ≤ j) (n : Nat) (r1 : j + n ≤ 1000000000) : F5 (vlD b j n) = true := by
 unfold F5
 rw [b80]
 intro x hx
 unfold vlD at hx
 obtain ⟨i, hi, rfl⟩ := List.mem_map.1 hx
 have hi := ca9.1 hi
 exact bK7 b (by omega) (by omega)
def scA (b : List UInt8) (bit : Int) (ls : List Int) (j : Int) (rs : List (List Int)) : Nat → List (List Int) × Int
 | 0 => (rs, j)
 | i + 1 => if zB bit (ls.getD i 0) = true then ((scA b bit ls j rs i).1.set i (vlD b (scA b bit ls j rs i).2 4), (scA b bit ls j rs i).2 + 4) else scA b bit ls j rs i
theorem ay3 (b : List UInt8) (bit : Int) (ls : List Int) (j : Int) (rs : List (List Int)) : ∀ k : Nat, (scA b bit ls j rs k).1.length = rs.length ∧ j ≤ (scA b bit ls j rs k).2 ∧ (scA b bit ls j rs k).2 ≤ j + 4 * k
 | 0 => ⟨rfl, Int.le_refl _, by simp [scA]⟩
 | k + 1 => by
  have h := ay3 b bit ls j rs k
  rw [scA]
  split
  ·refine ⟨by simp [h.1], ?_, ?_⟩ <;> dsimp only <;> omega
  ·omega
theorem a27 (b : List UInt8) (bit : Int) (ls : List Int) (j : Int) (rs : List (List Int)) (i : Nat) : ∀ k : Nat, k ≤ i ∨ zB bit (ls.getD i 0) = false → (scA b bit ls j rs k).1.getD i [] = rs.getD i []
 | 0, _ => rfl
 | k + 1, h => by
  have ih := a27 b bit ls j rs i k (h.elim (fun h => .inl (by omega)) .inr)
  rw [scA]
  split
  ·rename_i hk
   have : k ≠ i := fun e => by
    rcases h with h | h
    ·omega
    ·rw [e, h] at hk; cases hk
   dsimp only
   rw [b75, List.getElem?_set_ne this, ← b75]; exact ih
  ·exact ih
theorem bb6 (b : List UInt8) (bit : Int) (ls : List Int) {j : Int} (rs : List (List Int)) (hx : rs.all R7 = true) (r0 : 0 ≤ j) : ∀ k : Nat, j + 4 * k ≤ 1000000000 → (scA b bit ls j rs k).1.all R7 = true
 | 0, _ => hx
 | k + 1, r1 => by
  have ih := bb6 b bit ls rs hx r0 k (by omega)
  have hb := ay3 b bit ls j rs k
  rw [scA]
  split
  ·rw [b80] at ih ⊢
   intro x hx
   rcases List.mem_or_eq_of_mem_set hx with h | h
   ·exact ih x h
   ·subst h
    unfold R7
    rw [aj0, a14 b (by omega) 4 (by omega)]; rfl
  ·exact ih
def J2 (b : List UInt8) (bit : Int) (ls : List Int) (j : Int) (rs : List (List Int)) (i k : Nat) : List (List Int) × Int :=
 if zB bit (ls.getD i 0) = true then ((scA b bit ls j rs i).1.set i (vlD b (scA b bit ls j rs i).2 k ++ (rs.getD i []).drop k), (scA b bit ls j rs i).2 + k) else scA b bit ls j rs i
section
variable {b : List UInt8} {bit : Int} {ls : List Int} {j : Int} {rs : List (List Int)} {i k : Nat}
theorem bT2 : (J2 b bit ls j rs i k).1.length = rs.length ∧ j ≤ (J2 b bit ls j rs i k).2 ∧ (J2 b bit ls j rs i k).2 ≤ j + 4 * i + k := by
 have h := ay3 b bit ls j rs i
 unfold J2
 split
 ·refine ⟨by simp [h.1], ?_, ?_⟩ <;> dsimp only <;> omega
 ·omega
theorem bJ0 (hi : i < rs.length) : J2 b bit ls j rs i 0 = scA b bit ls j rs i := by
 have h := ay3 b bit ls j rs i
 have h2 := a27 b bit ls j rs i i (.inl (b76 _))
 unfold J2
 split
 ·rw [b12, cb8, List.drop_zero, ← h2, r7 (by omega)]
  rw [List.set_getElem_self]; simp
 ·rfl
theorem bo4 (hi : i < rs.length) : (J2 b bit ls j rs i k).1.getD i [] = if zB bit (ls.getD i 0) = true then vlD b (scA b bit ls j rs i).2 k ++ (rs.getD i []).drop k else rs.getD i [] := by
 have h := ay3 b bit ls j rs i
 unfold J2
 split
 ·dsimp only
  rw [b75, List.getElem?_set_self (by omega)]; rfl
 ·exact a27 b bit ls j rs i i (.inl (b76 _))
theorem bB3 (hi : i < rs.length) (hr : (rs.getD i []).length = 4) (hk : k ≤ 4) : ((J2 b bit ls j rs i k).1.getD i []).length = 4 := by
 rw [bo4 hi]; split
 ·simp only [b74, aj0, List.length_drop]; omega
 ·exact hr
theorem bI8 (hi : i < rs.length) (hr : (rs.getD i []).length = 4) (hk : k < 4) (h : zB bit (ls.getD i 0) = true) : J2 b bit ls j rs i (k + 1) = ((J2 b bit ls j rs i k).1.set i (((J2 b bit ls j rs i k).1.getD i []).set k (nm b (J2 b bit ls j rs i k).2 vaL)), (J2 b bit ls j rs i k).2 + 1) := by
 rw [bo4 hi, if_pos h]
 unfold J2
 rw [if_pos h, if_pos h]
 dsimp only
 rw [List.set_set, mk_set' (aj0 _ _ _) (by omega), aK9]
 exact Prod.ext rfl (by dsimp only; omega)
where
 mk_set' {l m : List Int} {j : Nat} {y : Int} (hl : l.length = j) (hj : j < m.length) : (l ++ m.drop j).set j y = (l ++ [y]) ++ m.drop (j + 1) := by
  rw [List.set_append_right _ _ (by omega), hl, Nat.sub_self, List.drop_eq_getElem_cons hj, List.set_cons_zero, cb7]
  rfl
theorem bI9 (h : zB bit (ls.getD i 0) = false) : J2 b bit ls j rs i (k + 1) = J2 b bit ls j rs i k := by
 unfold J2; rw [if_neg (by rw [h]; decide), if_neg (by rw [h]; decide)]
theorem bb5 (hi : i < rs.length) (hr : (rs.getD i []).length = 4) : J2 b bit ls j rs i 4 = scA b bit ls j rs (i + 1) := by
 unfold J2
 rw [scA]
 split
 ·rw [List.drop_eq_nil_of_le (by omega), List.append_nil]; rfl
 ·rfl
end
def scM (b : List UInt8) (bit : Int) (p : j9) (m : v7) (j : Int) : v7 × Int :=
 (⟨(A4 b bit p.vars j m.vals m.vals.length).1, (scA b bit p.arrays (A4 b bit p.vars j m.vals m.vals.length).2 m.arrs m.arrs.length).1⟩, (scA b bit p.arrays (A4 b bit p.vars j m.vals m.vals.length).2 m.arrs m.arrs.length).2)
theorem bE4 (v1 v2 : Value) (xs : List Int) (rs : List (List Int)) (w : World) (h1 : F8 w v1 xs.length 1 (ints xs)) (h2 : Y4 w v2 rs) (hx : xs.length ≤ 1048576) (hr : rs.length ≤ 1048576) (hi : ∀ r ∈ rs, r.length ≤ 1048576) :
  Calls Tryz.prog 98 #[.agg #[v1, v2]] w fun e w' => ∃ u1 u2 mid, w.heap.size ≤ mid ∧ e = .returned (.agg #[u1, u2]) ∧ A6 w' w.heap.size mid 3 1 u1 xs.length (ints xs) ∧ K5 w' mid w'.heap.size u2 rs ∧ Below w.heap.size w w' := by
 obtain ⟨vs, hv, hrows⟩ := h2
 have hvl : vs.length = rs.length := by have := hv.1; omega
 have hone : ∀ u ∈ vs, u.oneCell' = true := by
  intro u hu
  obtain ⟨i, hi, rfl⟩ := List.mem_iff_getElem.1 hu
  obtain ⟨a', c', e⟩ := (hrows i _ _ (b72 hi) (b72 (by omega))).form
  rw [e]; rfl
 obtain ⟨n, hn⟩ : ∃ n, n = w.heap.size := ⟨_, rfl⟩
 obtain ⟨W, hW⟩ : ∃ W, W = (w.alloc (.cells #[v1, v2] 29)).alloc (.cells #[.slice none 0 0, .slice none 0 0] 29) := ⟨_, rfl⟩
 have B0 : Below n w W := by rw [hW, hn]; go_grown
 have sW : W.heap.size = n + 1 + 1 := by rw [hW, hn]; simp
 have L1 : A1 W n [v1, v2] := by rw [hW, hn]; exact (A1.new w [v1, v2] _).alloc _
 have L2 : A1 W (n + 1) [.slice none 0 0, .slice none 0 0] := by rw [hW, hn]; exact A1.new' (w.alloc _) [.slice none 0 0, .slice none 0 0] _ (by simp)
 have HR1 := show Hid (∀ W', Below n w W' → F8 W' v1 xs.length 1 (ints xs)) from fun W' g => h1.below (by rw [← hn]; exact g)
 have HR2 := show Hid (∀ W', Below n w W' → F8 W' v2 rs.length 1 vs) from fun W' g => hv.below (by rw [← hn]; exact g)
 have HR3 := show Hid (∀ W', Below n w W' → ∀ (i : Nat) (u : Value) (r : List Int), vs[i]? = some u → rs[i]? = some r → F8 W' u r.length 1 (ints r)) from fun W' g i u r a b => (hrows i u r a b).below (by rw [← hn]; exact g)
 have HA := show Hid (∀ W', Below (n + 1 + 1) W W' → Below n w W') from fun W' g => B0.trans (g.mono (by omega))
 have HT := show Hid (∀ W', Below (n + 1 + 1) W W' → W'.cell? ⟨n, 0, none⟩ = some v1 ∧ W'.cell? ⟨n, 1, none⟩ = some v2 ∧ W'.frozen? ⟨n, 0, none⟩ = false ∧ W'.frozen? ⟨n, 1, none⟩ = false) from by
  intro W' hb
  have L' := L1.below hb (by omega)
  exact ⟨by simpa using L'.cell 0, by simpa using L'.cell 1, L'.free 0, L'.free 1⟩
 have HQ := show Hid (∀ W' W'', Below (n + 1 + 1) W W' → Below W'.heap.size W' W'' → Below (n + 1 + 1) W W'') from fun W' W'' g k => g.trans (k.mono (by have := g.size; omega))
 have hb0 : Below (n + 1 + 1) W W.drew := (Below.refl _ W).drew
 obtain ⟨c0, c1, f0, f1⟩ := HT.out _ hb0
 have HN := show Hid (n = w.heap.size) from hn
 have HB0 := show Hid _ from B0
 have HL2 := show Hid _ from L2
 have HL1 := show Hid _ from L1
 have HO := show Hid _ from hone
 have HVL := show Hid _ from hvl
 clear h1 hv hrows B0 L1 L2 hone hvl
 go_enter Tryz.func98, Tryz.ntmps98
 go_wp2_with fail
 rw [← HN.out]
 rw [← hW]
 clear hn hW
 go_region_with (first
  | (go_at_call 71; refine (aC5 v1 xs _ (HR1.out _ (HA.out _ hb0)) (by omega)).mono ?_; rintro e w7 ⟨u1, rfl, o1, b7⟩; obtain ⟨x1, k1, rfl⟩ := o1.form; have q7 := HQ.out _ _ hb0 b7; obtain ⟨c2, c3, f2, f3⟩ := HT.out _ q7)
  | (go_at_call 108; refine (a71 v2 rs.length vs _ (HR2.out _ (HA.out _ q7)) HO.out (by omega)).mono ?_; rintro e w8 ⟨u2, rfl, o2, b8⟩; obtain ⟨x2, k2, rfl⟩ := o2.form; have q8 := HQ.out _ _ q7 b8; obtain ⟨c4, c5, f4, f5⟩ := HT.out _ q8))
 all_goals
  have s7 := b7.size
  have s8 := b8.size
  have sd : W.drew.heap.size = n + 1 + 1 := sW
  have LX := ((A1.below HL1.out q8 (by omega)).set (j := 0) (.slice x1 xs.length k1)).set (j := 1) (.slice x2 rs.length k2)
  have MX := ((A1.below HL2.out q8 (by omega)).other (p := ⟨n, 0, none⟩) (by show n + 1 ≠ n; omega) (.slice x1 xs.length k1)).other (p := ⟨n, 1, none⟩) (by show n + 1 ≠ n; omega) (.slice x2 rs.length k2)
  have OX := ((o1.keep b8 (b76 _)).other (b := n) (by omega) 0 (.slice x1 xs.length k1)).other (b := n) (by omega) 1 (.slice x2 rs.length k2)
  have PX := (o2.other (b := n) (by omega) 0 (.slice x1 xs.length k1)).other (b := n) (by omega) 1 (.slice x2 rs.length k2)
  have BX := ((HB0.out.trans (q8.mono (by omega))).setCell (p := ⟨n, 0, none⟩) (b76 _) (.slice x1 xs.length k1)).setCell (p := ⟨n, 1, none⟩) (b76 _) (.slice x2 rs.length k2)
  have SX : ((w8.setCell ⟨n, 0, none⟩ (.slice x1 xs.length k1)).setCell ⟨n, 1, none⟩ (.slice x2 rs.length k2)).heap.size = w8.heap.size := by simp
  generalize (w8.setCell ⟨n, 0, none⟩ (.slice x1 xs.length k1)).setCell ⟨n, 1, none⟩ (.slice x2 rs.length k2) = wX at *
  clear c0 c1 c2 c3 c4 c5 f0 f1 f2 f3 f4 f5 hb0 q7 q8 HQ HT HA HL1 HL2 HB0 b7 b8 o1 o2
  have r0 := LX.cell 0
  have r1 := LX.cell 1
  simp at r0 r1
  obtain ⟨A, hA⟩ : ∃ A, A = w7.heap.size := ⟨_, rfl⟩
  obtain ⟨B, hB⟩ : ∃ B, B = w8.heap.size := ⟨_, rfl⟩
  rw [← hA] at OX PX s7 s8
  rw [← hB] at PX s8 SX
  rw [sd] at OX s7
  have HLX := show Hid _ from LX
  have HMX := show Hid _ from MX
  clear hA hB LX MX sd sW
  go_wp2_with fail
  clear r0 r1
  go_loopw [3, 4, 16] (fun _ _ i wr => ∃ (k : Nat) (cs : List Value), k ≤ rs.length ∧ i = .int .i64 k ∧ A6 wr A B 23 1 (.slice x2 rs.length k2) rs.length cs ∧ (∀ (i : Nat) (u : Value) (r : List Int), i < k → cs[i]? = some u → rs[i]? = some r → A6 wr B wr.heap.size 3 1 u r.length (ints r)) ∧
    (∀ (i j : Nat) (u u' : Value), i < j → j < k → cs[i]? = some u → cs[j]? = some u' → R8 u u') ∧ (∀ i, k ≤ i → cs[i]? = vs[i]?) ∧ A6 wr (n + 1 + 1) A 3 1 (.slice x1 xs.length k1) xs.length (ints xs) ∧ A1 wr n [.slice x1 xs.length k1, .slice x2 rs.length k2] ∧ A1 wr (n + 1) [.slice none 0 0, .slice none 0 0] ∧ Below n w wr ∧ B ≤ wr.heap.size) (fun _ _ i _ => rs.length - (intOf i).toNat)
  case atStart => exact ⟨0, vs, b92 _, rfl, PX, fun i u r h => by omega, fun i j u u' _ h => by omega, fun i _ => rfl, OX, HLX.out, HMX.out, BX, Nat.le_of_eq SX.symm⟩
  case round =>
   obtain ⟨k, cs, hk, rfl, ho, hrow, hdis, hrest, hvals, hL, hM, hb, hsz⟩ := hrel
   have HROW := show Hid _ from hrow
   have HDIS := show Hid _ from hdis
   have HREST := show Hid _ from hrest
   have HLL := show Hid _ from hL
   have HMM := show Hid _ from hM
   have hcl : cs.length = rs.length := by have := ho.1.1; omega
   clear hrow hdis hrest OX PX BX SX HLX HMX
   have r1 := hL.cell 1
   simp at r1
   by_cases hlt : k < rs.length
   ·obtain ⟨g, cap, hv, hg1, hg2, hg3, -, -, hfz, hcc⟩ := ho.open (by omega)
    cases hv
    have hkc : k < cs.length := by omega
    obtain ⟨u0, hu0⟩ : ∃ u0, u0 = cs[k] := ⟨_, rfl⟩
    have hcu : cs[k]? = some u0 := by rw [hu0]; exact b72 hkc
    have hvu : vs[k]? = some u0 := by rw [← HREST.out k (b76 _)]; exact hcu
    have hrk : rs[k]? = some rs[k] := b72 hlt
    have hrow := HR3.out wr hb k u0 rs[k] hvu hrk
    obtain ⟨au, cu, rfl⟩ := hrow.form
    have hx := hcc k _ hcu
    have f0 := hfz k
    have hlen := hi rs[k] (b91 hlt)
    have HCU := show Hid _ from hcu
    have HHR := show Hid _ from hrow
    have HHO := show Hid _ from ho
    have HVA := show Hid _ from hvals
    have HB := show Hid _ from hb
    have HRK := show Hid _ from hrk
    have hm1 : rs.length ≤ 9223372036854775807 := by omega
    have HRR := show Hid (F8 wr.drew (.slice au rs[k].length cu) rs[k].length 1 (ints rs[k])) from HR3.out wr.drew hb.drew k _ rs[k] hvu hrk
    have h0g : n + 1 < g := by omega
    clear hu0 hcc hfz hcu hvu hrow ho hvals hb hL hM hrk
    go_wp2_with fail
    go_region_with (go_at_call 71; refine (aC5 _ rs[k] _ HRR.out (by omega)).mono ?_; rintro e w9 ⟨u9, rfl, o9, b9⟩; obtain ⟨x9, k9, rfl⟩ := o9.form; have q9 := ak6 b9 (Below.refl _ wr).drew (b76 _); have f9 := ((J1 q9).2 g k hg3).trans f0; have c9 := ((J1 q9).1 g k hg3).trans hx; have r9 := ((J1 q9).1 n 1 (by omega)).trans r1)
    all_goals
     have s9 := q9.size
     have sz9 : wr.drew.heap.size = wr.heap.size := rfl
     rw [sz9] at o9 b9
     clear f0 hx r1 f9 c9 r9 HRR
     go_wp2_with fail
     refine ⟨⟨k + 1, cs.set k (.slice x9 rs[k].length k9), by omega, by go_num, A6.setCell (A6.keep HHO.out q9 (by omega)) hkc _, ?_, ?_, ?_, (A6.other (A6.keep HVA.out q9 (by omega)) (b := g) (by omega) _ _), (A1.other (A1.below HLL.out q9 (by omega)) (p := ⟨g, k, none⟩) (by show n ≠ g; omega) _), (A1.other (A1.below HMM.out q9 (by omega)) (p := ⟨g, k, none⟩) (by show n + 1 ≠ g; omega) _), (HB.out.trans (q9.mono (by omega))).setCell (p := ⟨g, k, none⟩) (by show n ≤ g; omega) _, by simp; omega⟩, by simp [intOf]; omega⟩
     ·intro i u r hik hu hr'
      by_cases e : i = k
      ·subst e
       rw [List.getElem?_set_self hkc] at hu
       cases hu
       rw [HRK.out] at hr'
       cases hr'
       exact (o9.other (b := g) (by omega) _ _).wide (by omega) (by simp)
      ·rw [List.getElem?_set_ne (by omega)] at hu
       exact (((HROW.out i u r (by omega) hu hr').keep q9 (b76 _)).other (b := g) (by omega) _ _).wide (b76 _) (by simpa using s9)
     ·intro i j u u' hij hj hu hu'
      rw [List.getElem?_set_ne (by omega)] at hu
      by_cases e : j = k
      ·subst e
       rw [List.getElem?_set_self hkc] at hu'
       cases hu'
       exact ah0 (HROW.out i u _ (by omega) hu (b72 (by omega))) o9 (by omega)
      ·rw [List.getElem?_set_ne (by omega)] at hu'
       exact HDIS.out i j u u' hij (by omega) hu hu'
     ·intro i hik
      rw [List.getElem?_set_ne (by omega)]
      exact HREST.out i (by omega)
   ·have hke : k = rs.length := by omega
    subst hke
    have r0 := hL.cell 0
    have m0 := hM.cell 0
    have m1 := hM.cell 1
    have fm0 := hM.free 0
    have fm1 := hM.free 1
    simp at r0 m0 m1
    have hF := ((hM.set (j := 0) (.slice x1 xs.length k1)).set (j := 1) (.slice x2 rs.length k2))
    have BF := (hb.setCell (p := ⟨n + 1, 0, none⟩) (by show n ≤ n + 1; omega) (.slice x1 xs.length k1)).setCell (p := ⟨n + 1, 1, none⟩) (by show n ≤ n + 1; omega) (.slice x2 rs.length k2)
    have OF := (hvals.other (b := n + 1) (by omega) 0 (.slice x1 xs.length k1)).other (b := n + 1) (by omega) 1 (.slice x2 rs.length k2)
    have PF := (ho.other (b := n + 1) (by omega) 0 (.slice x1 xs.length k1)).other (b := n + 1) (by omega) 1 (.slice x2 rs.length k2)
    have HRF := show Hid (∀ (i : Nat) (u : Value) (r : List Int), cs[i]? = some u → rs[i]? = some r → A6 ((wr.setCell ⟨n + 1, 0, none⟩ (.slice x1 xs.length k1)).setCell ⟨n + 1, 1, none⟩ (.slice x2 rs.length k2)) B wr.heap.size 3 1 u r.length (ints r)) from fun i u r hu hr' =>
     ((HROW.out i u r (by have := (b77.1 hr').1; omega) hu hr').other (b := n + 1) (by omega) 0 _).other (b := n + 1) (by omega) 1 _
    have zF : ((wr.setCell ⟨n + 1, 0, none⟩ (.slice x1 xs.length k1)).setCell ⟨n + 1, 1, none⟩ (.slice x2 rs.length k2)).heap.size = wr.heap.size := by simp
    have y0 := hF.cell 0
    have y1 := hF.cell 1
    simp at y0 y1
    have HBF := show Hid _ from BF
    have HOF := show Hid _ from OF
    have HPF := show Hid _ from PF
    have HZF := show Hid _ from zF
    clear hF BF OF PF zF ho hvals hL hM hb
    go_wp2_with fail
    refine bodyPost_ret (v := .agg #[.slice x1 xs.length k1, .slice x2 rs.length k2]) (by simp [results, Tryz.results98, go_sem, y0, y1]) rfl ⟨_, _, A, by rw [← HN.out]; omega, rfl, ?_, ⟨cs, ?_, ?_, ?_, ?_⟩, ?_⟩
    ·rw [← HN.out]; exact A6.wide HOF.out (by omega) (b76 _)
    ·exact A6.wide HPF.out (b76 _) (by rw [HZF.out]; omega)
    ·intro i u r hu hr'
     exact (HRF.out i u r hu hr').wide (by omega) (by rw [HZF.out]; exact b76 _)
    ·intro i j u u' hij hu hu'
     exact HDIS.out i j u u' hij (by have := (b77.1 hu').1; omega) hu hu'
    ·intro i u hu
     have hil : i < rs.length := by have := (b77.1 hu).1; omega
     exact ah0 (HRF.out i u _ hu (b72 hil)) HPF.out (by omega)
    ·rw [← HN.out]; exact HBF.out
theorem bC4 {w : World} {φ : Nat → Prop} {v : Value} {m : List (List Int)} (h : RD w φ (.rows m) v) : Y4 w v m := by
 obtain ⟨vs, h1, h2⟩ := h
 refine ⟨vs, m6.row h1, fun i u r hu hr => ?_⟩
 have hi : i < m.length := (b77.1 hr).1
 obtain ⟨u', a, b⟩ := h2 i hi
 rw [hu] at a; cases a
 rw [b72 hi] at hr; cases hr
 exact m6.row b
theorem bt0 {w : World} {lo hi : Nat} {v : Value} {m : List (List Int)} (h : K5 w lo hi v m) : C3 w (fun b => lo ≤ b ∧ b < hi) (.rows m) v := by
 obtain ⟨vs, h1, h2, h3, h4⟩ := h
 have hl : vs.length = m.length := by have := h1.1.1; omega
 refine ⟨_, vs, fun b => ∃ (i : Nat) (u : Value), vs[i]? = some u ∧ u.ownBlock = some b, rfl, A5 h1.1 (b92 _), fun g hg => ⟨⟨(h1.lt g hg).1, (h1.lt g hg).2.1⟩, ?_⟩, ?_, aE0.tree ⟨hl, fun i hi' => ?_, fun i j u u' hij hu hu' g hg => ?_⟩⟩
 ·rintro ⟨i, u, hu, hb⟩
  exact h4 i u hu g hb hg
 ·rintro b ⟨i, u, hu, hb⟩
  have hi' : i < m.length := by have := (b77.1 hu).1; omega
  have := (h2 i u _ hu (b72 hi')).lt b hb
  exact ⟨this.1, this.2.1⟩
 ·have hv : i < vs.length := by omega
  exact ⟨vs[i], b72 hv, fun _ => A5 (h2 i _ _ (b72 hv) (b72 hi')).1 (b92 _), fun g hg => ⟨i, _, b72 hv, hg⟩⟩
 ·exact h3 i j u u' hij hu hu' g hg
theorem bR9 (m : v7) (hx : m.vals.length ≤ 1048576) (hr : m.arrs.length ≤ 1048576) (hi : ∀ r ∈ m.arrs, r.length ≤ 1048576) : l0.ok Tryz.prog ⟨98, [mA 0], mS m, mS m ++ mO m, mT 2⟩ := by
 intro ι φ ψ w0 w F ρ M
 have r1 := M.datAt (id := 0) (d := .ints m.vals) rfl
 have r2 := M.datAt (id := 1) (d := .rows m.arrs) rfl
 refine (bE4 (ρ 0) (ρ 1) m.vals m.arrs w (m6.row r1) (bC4 r2) hx hr hi).mono ?_
 rintro e w' ⟨u1, u2, mid, hmid, rfl, o1, o2, hbl⟩
 obtain ⟨z, hz1, hz2⟩ := ak5 u2 (fun b => mid ≤ b ∧ b < w'.heap.size) w'.heap.size fun b h => h.2
 refine ⟨fun i => if i = 2 then u1 else if i = 3 then z else ρ i, fun i hi => ?_, by simp [AV.val, AV.vals, hz1], ?_⟩
 ·have : i < 2 := hi
  simp only [if_neg (show ¬ i = 2 by omega), if_neg (show ¬ i = 3 by omega)]
 ·refine M.grow hbl (fun k => k = .inr 2 ∨ k = .inr 3) (fun k hk => ?_) ?_ ?_ ?_
  ·cases k with
   | inl i => rfl
   | inr j =>
    match j, hk with
    | 0, _ => rfl
    | 1, _ => rfl
    | 2, h => exact absurd (.inl rfl) h
    | 3, h => exact absurd (.inr rfl) h
    | j + 4, _ => rfl
  ·rintro k (rfl | rfl) b hb
   ·exact (o1.lt b hb).1
   ·exact b97 hmid ((hz2 b).1 hb).1
  ·rintro j k b hjk (rfl | rfl) (rfl | rfl) hj hk
   ·exact hjk rfl
   ·have h1 := (o1.lt b hj).2.1
    have h2 := ((hz2 b).1 hk).1
    omega
   ·have h1 := (o1.lt b hk).2.1
    have h2 := ((hz2 b).1 hj).1
    omega
   ·exact hjk rfl
  ·rintro k (rfl | rfl)
   ·exact ap4 (A5 o1.1 (b92 _))
   ·have e : z3 z = fun b => mid ≤ b ∧ b < w'.heap.size := funext fun b => propext (hz2 b)
    show (Rs.own (z3 z) fun w => C3 w (z3 z) (.rows m.arrs) (D8 z)).holds _ _
    rw [hz1, e]
    exact ⟨fun _ _ h hs => h.same hs, bt0 o2, fun b hb => hb.2⟩
abbrev al2 : It := .box [.v (.slice none 0 0), .v (.slice none 0 0)]
abbrev aG0 (b : List UInt8) (j : Int) (bit : Int) (p : j9) (m : v7) : It := .row 3 (D.ints (A4 b bit p.vars j m.vals m.vals.length).fst)
abbrev S6 (bit : Int) (r0 : List (Nat × AV)) : List (Nat × AV) := (0, .ptr 0 0) :: (3, iA bit) :: (5, .ptr 7 0) :: (8, .ptr 8 0) :: (9, .ptr 11 0) :: r0
abbrev ad3 (b : List UInt8) (p : j9) (m : v7) (r0 : List It) : List It := dY b :: dI p.vars :: dI p.arrays :: dT p.body :: dI m.vals :: dR m.arrs :: .box (pL 2) :: r0
theorem aT8 (b : List UInt8) (j bit : Int) (p : j9) (m : v7) (hv : m.vals.length = p.vars.length) (ha : m.arrs.length = p.arrays.length) (hr : m.arrs.all R7 = true) (r0 : 0 ≤ j) (r1 : j ≤ 100000000) (r2 : m.vals.length ≤ 1000000 ∧ m.arrs.length ≤ 1000000) (hi : ∀ l ∈ m.arrs, l.length ≤ 1048576) : l0.ok Tryz.prog ⟨26, [.ptr 0 0, pA 2, mA 5, iA bit], [.box [.ref 1, iA j], dY b] ++ pS p ++ mS m, [.box [.ref 1, iA (scM b bit p m j).2], dY b] ++ pS p ++ mS m ++ mO (scM b bit p m j).1, mT 7⟩ := by
  refine J8 85 Tryz.func26 [.box [.ref 1, iA j], dY b, dI p.vars, dI p.arrays, dT p.body, dI m.vals, dR m.arrs] [(0, .ptr 0 0), (1, pA 2), (2, .agg [.ref 5, .ref 6]), (3, iA bit)] fun G => ?_
  have hvb := fun k : Nat => aH7 b bit p.vars j m.vals k
  have hvl := aH7 b bit p.vars j m.vals m.vals.length; refine wp_seq (i9 G e6 [0, 1, 2, 3, 4, 5, 6, 7, 15, 23] (.box [.ref 1, iA j] :: (ad3 b p m [.box [.ref 5, .ref 6], al2])) [(0, .ptr 0 0), (3, iA bit), (5, .ptr 7 0), (6, .ptr 8 0), (8, .ptr 9 0)] fun G => b0 (wp_seq (i9 G (v5 1 [5, 6] (bx0 m.vals m.arrs (by omega) (by omega) (by assumption))) [0, 1, 2, 3, 4, 5, 6, 7, 9, 18, 19, 26] (.box [.ref 1, iA j] :: (ad3 b p m [al2, .row 3 (D.ints m.vals), .tree (D.rows m.arrs), .box [.ref 9, .tref 10]])) (S6 bit []) fun G => b0 (wp_seq (wp_seq (G9 G e6 (S6 bit [(10, iA 0)]) fun G => b0 (wp_block ?_))))))); refine x6 (κ := Nat) (fun i => i ≤ m.vals.length) (fun i => m.vals.length - i) (fun i => [.box [.ref 1, iA (A4 b bit p.vars j m.vals i).2], dY b, dI p.vars, dI p.arrays, dT p.body, dI m.vals, dR m.arrs, .box (pL 2), .box [.v (.slice none 0 0), .v (.slice none 0 0)], .row 3 (.ints (A4 b bit p.vars j m.vals i).1), .tree (D.rows m.arrs), .box [.ref 9, .tref 10]]) (fun i => [(0, .ptr 0 0), (3, iA bit), (5, .ptr 7 0), (8, .ptr 8 0), (9, .ptr 11 0), (10, iA i)]) 0 (by omega) (t7.at G _ _) ?_; clear G; intro i ρ a w hp G; replace G := t7.at G (.box [.ref 1, iA (A4 b bit p.vars j m.vals i).snd] :: (ad3 b p m [al2, .row 3 (D.ints (A4 b bit p.vars j m.vals i).fst), .tree (D.rows m.arrs), .box [.ref 9, .tref 10]])) (S6 bit [(10, iA i)]); have hs1 := aH7 b bit p.vars j m.vals i; refine wp_seq (wp_seq ?_); cases h0 : (decide ((i : Int) < ((A4 b bit p.vars j m.vals i).fst.length : Int)))
  ·
   have q0 := Z3 h0
   obtain rfl : i = m.vals.length := by omega
   refine l6 G (J3 (fc (a := decide ((m.vals.length : Int) < ((A4 b bit p.vars j m.vals m.vals.length).fst.length : Int))) (b := false) (by assumption) fz) (us [(6, 10, 0), (1011, 1011, 0)])) [(10, iA (m.vals.length : Int)), (26, bA false)] fun G => b0 (rF G false (by kernel_rfl) (wp_exit (v9 (v9 (v6 (b0 (wp_seq (wp_seq (G9 G e6 (S6 bit [(11, iA 0)]) fun G => b0 (wp_block ?_)))))))))); refine x6 (κ := Nat) (fun i2 => i2 ≤ m.arrs.length) (fun i2 => m.arrs.length - i2) (fun i2 => [.box [.ref 1, iA (scA b bit p.arrays (A4 b bit p.vars j m.vals m.vals.length).2 m.arrs i2).2], dY b, dI p.vars, dI p.arrays, dT p.body, dI m.vals, dR m.arrs, .box (pL 2), .box [.v (.slice none 0 0), .v (.slice none 0 0)], .row 3 (D.ints (A4 b bit p.vars j m.vals m.vals.length).fst), .tree (.rows (scA b bit p.arrays (A4 b bit p.vars j m.vals m.vals.length).2 m.arrs i2).1), .box [.ref 9, .tref 10]]) (fun i2 => [(0, .ptr 0 0), (3, iA bit), (5, .ptr 7 0), (8, .ptr 8 0), (9, .ptr 11 0), (11, iA i2)]) 0 (by omega) (t7.at G _ _) ?_; clear G; intro i2 ρ a w hp G; replace G := t7.at G (.box [.ref 1, iA (scA b bit p.arrays (A4 b bit p.vars j m.vals m.vals.length).snd m.arrs i2).snd] :: (ad3 b p m [al2, aG0 b j bit p m, .tree (D.rows (scA b bit p.arrays (A4 b bit p.vars j m.vals m.vals.length).snd m.arrs i2).fst), .box [.ref 9, .tref 10]])) (S6 bit [(11, iA i2)]); have hs2 := ay3 b bit p.arrays (A4 b bit p.vars j m.vals m.vals.length).2 m.arrs i2; refine wp_seq (wp_seq ?_); cases h3 : (decide ((i2 : Int) < ((scA b bit p.arrays (A4 b bit p.vars j m.vals m.vals.length).snd m.arrs i2).fst.length : Int)))
   ·
    have q3 := Z3 h3
    obtain rfl : i2 = m.arrs.length := by omega
    refine l6 G (J3 (fc (a := decide ((m.arrs.length : Int) < ((scA b bit p.arrays (A4 b bit p.vars j m.vals m.vals.length).snd m.arrs m.arrs.length).fst.length : Int))) (b := false) (by assumption) fz) (us [(6, 10, 0), (1011, 1011, 0)])) [(11, iA (m.arrs.length : Int)), (54, bA false)] fun G => b0 (rF G false (by kernel_rfl) (wp_exit (v9 (v9 (v6 (b0 (wp_seq (i9 G e6 [0, 1, 2, 3, 4, 5, 6, 8, 9, 10] [.box [.ref 1, iA (scA b bit p.arrays (A4 b bit p.vars j m.vals m.vals.length).snd m.arrs m.arrs.length).snd], dY b, dI p.vars, dI p.arrays, dT p.body, dI m.vals, dR m.arrs, .box [.ref 8, .tref 9], aG0 b j bit p m, .tree (D.rows (scA b bit p.arrays (A4 b bit p.vars j m.vals m.vals.length).snd m.arrs m.arrs.length).fst)] [(8, .ptr 7 0)] fun G => b0 (wp_ret ?_))))))))); exact J9 G [0, 1, 2, 3, 4, 5, 6, 8, 9]
   ·
    have q3 := Z2 h3; refine G9 G (J3 (fc h3 fz) (us [(6, 10, 0), (1011, 1011, 0)])) (S6 bit [(11, iA i2), (54, bA (decide ((i2 : Int) < p.arrays.length)))]) fun G => b0 ?_; cases h4 : (decide ((i2 : Int) < p.arrays.length))
    · have q4 := Z3 h4; exact False.elim (by omega)
    ·
     have q4 := Z2 h4; refine rT G _ h4 (wp_skip (b0 (wp_seq (wp_block (wp_seq (G9 G e6 (S6 bit [(11, iA i2), (12, iA 0)]) fun G => b0 (wp_block ?_))))))); replace G := G.as (.box [.ref 1, iA (J2 b bit p.arrays (A4 b bit p.vars j m.vals m.vals.length).snd m.arrs i2 0).snd] :: (ad3 b p m [.box [.v (.slice none 0 0), .v (.slice none 0 0)], .row 3 (D.ints (A4 b bit p.vars j m.vals m.vals.length).fst), .tree (D.rows (J2 b bit p.arrays (A4 b bit p.vars j m.vals m.vals.length).snd m.arrs i2 0).fst), .box [.ref 9, .tref 10]])) (S6 bit [(11, iA i2), (12, iA 0)]) (by have e1 : ((J2 b bit p.arrays (A4 b bit p.vars j m.vals m.vals.length).snd m.arrs i2 0).snd : Int) = ((scA b bit p.arrays (A4 b bit p.vars j m.vals m.vals.length).snd m.arrs i2).snd) := (by rw [bJ0 (by omega)]; done); have e2 : ((J2 b bit p.arrays (A4 b bit p.vars j m.vals m.vals.length).snd m.arrs i2 0).fst : List (List Int)) = ((scA b bit p.arrays (A4 b bit p.vars j m.vals m.vals.length).snd m.arrs i2).fst) := (by rw [bJ0 (by omega)]; done); (first | rw [e1, e2] | simp only [e1, e2]) <;> rfl) (by kernel_rfl); refine x6 (κ := Nat) (fun k2 => k2 ≤ 4) (fun k2 => 4 - k2) (fun k2 => [.box [.ref 1, iA (J2 b bit p.arrays (A4 b bit p.vars j m.vals m.vals.length).2 m.arrs i2 k2).2], dY b, dI p.vars, dI p.arrays, dT p.body, dI m.vals, dR m.arrs, .box (pL 2), .box [.v (.slice none 0 0), .v (.slice none 0 0)], .row 3 (D.ints (A4 b bit p.vars j m.vals m.vals.length).fst), .tree (.rows (J2 b bit p.arrays (A4 b bit p.vars j m.vals m.vals.length).2 m.arrs i2 k2).1), .box [.ref 9, .tref 10]]) (fun k2 => [(0, .ptr 0 0), (3, iA bit), (5, .ptr 7 0), (8, .ptr 8 0), (9, .ptr 11 0), (11, iA i2), (12, iA k2)]) 0 (by omega) (t7.at G _ _) ?_; clear G; intro k2 ρ a w hp G; replace G := t7.at G (.box [.ref 1, iA (J2 b bit p.arrays (A4 b bit p.vars j m.vals m.vals.length).snd m.arrs i2 k2).snd] :: (ad3 b p m [al2, aG0 b j bit p m, .tree (D.rows (J2 b bit p.arrays (A4 b bit p.vars j m.vals m.vals.length).snd m.arrs i2 k2).fst), .box [.ref 9, .tref 10]])) (S6 bit [(11, iA i2), (12, iA k2)]); have ha4 := bZ9 (m := m) hr (i := i2) (by omega); have hs3 := bT2 (b := b) (bit := bit) (ls := p.arrays) (j := (A4 b bit p.vars j m.vals m.vals.length).2) (rs := m.arrs) (i := i2) (k := k2); have hs4 := bB3 (b := b) (bit := bit) (ls := p.arrays) (j := (A4 b bit p.vars j m.vals m.vals.length).2) (rs := m.arrs) (i := i2) (k := k2) (by omega) ha4 (by omega); refine wp_seq (wp_seq (K6 G e6 [0, 1, 2, 3, 4, 5, 6, 7, 8, 9, 10, 11, 52] [.box [.ref 1, iA (J2 b bit p.arrays (A4 b bit p.vars j m.vals m.vals.length).snd m.arrs i2 k2).snd], dY b, dI p.vars, dI p.arrays, dT p.body, dI m.vals, dR m.arrs, .box (pL 2), .box [.v (.slice none 0 0), .v (.slice none 0 0)], .row 3 (D.ints (A4 b bit p.vars j m.vals m.vals.length).fst), .hole 12 i2 (J2 b bit p.arrays (A4 b bit p.vars j m.vals m.vals.length).snd m.arrs i2 k2).fst, .box [.ref 9, .tref 10], .row 3 (D.ints ((J2 b bit p.arrays (A4 b bit p.vars j m.vals m.vals.length).snd m.arrs i2 k2).fst.getD i2 []))] (S6 bit [(11, iA i2), (12, iA k2), (64, bA (decide ((k2 : Int) < (((J2 b bit p.arrays (A4 b bit p.vars j m.vals m.vals.length).snd m.arrs i2 k2).fst.getD i2 []).length : Int))))]) (iX i2 i2 ((J2 b bit p.arrays (A4 b bit p.vars j m.vals m.vals.length).snd m.arrs i2 k2).fst.length) []) (iK (by omega) b84) fun G => ?_))
     replace G := G.heal0 10 12 i2 ((J2 b bit p.arrays (A4 b bit p.vars j m.vals m.vals.length).snd m.arrs i2 k2).fst) [.box [.ref 1, iA (J2 b bit p.arrays (A4 b bit p.vars j m.vals m.vals.length).snd m.arrs i2 k2).snd], dY b, dI p.vars, dI p.arrays, dT p.body, dI m.vals, dR m.arrs, .box (pL 2), .box [.v (.slice none 0 0), .v (.slice none 0 0)], .row 3 (D.ints (A4 b bit p.vars j m.vals m.vals.length).fst), .tree (D.rows (J2 b bit p.arrays (A4 b bit p.vars j m.vals m.vals.length).snd m.arrs i2 k2).fst), .box [.ref 9, .tref 10], .dead]; refine b0 ?_; cases h5 : (decide ((k2 : Int) < (((J2 b bit p.arrays (A4 b bit p.vars j m.vals m.vals.length).snd m.arrs i2 k2).fst.getD i2 []).length : Int)))
     ·
      have q5 := Z3 h5
      obtain rfl : k2 = 4 := by omega
      refine rF G (decide ((↑(4 : Nat) : Int) < (((J2 b bit p.arrays (A4 b bit p.vars j m.vals m.vals.length).snd m.arrs i2 (4 : Nat)).fst.getD i2 []).length : Int))) (by assumption) (wp_exit (v9 (v9 (v6 (i8 (b0 (K6 G e6 (rg 12) (.box [.ref 1, iA (J2 b bit p.arrays (A4 b bit p.vars j m.vals m.vals.length).snd m.arrs i2 4).snd] :: (ad3 b p m [al2, aG0 b j bit p m, .tree (D.rows (J2 b bit p.arrays (A4 b bit p.vars j m.vals m.vals.length).snd m.arrs i2 4).fst), .box [.ref 9, .tref 10]])) (S6 bit [(11, iA ((i2 : Int) + 1))]) [wO ((i2 : Int) + 1)] (o1 (by omega)) fun G => b0 ?_))))))); exact L0 G (i2 + 1) (by omega) (by omega) (rg 12) (by have e1 : ((scA b bit p.arrays (A4 b bit p.vars j m.vals m.vals.length).snd m.arrs (i2 + 1)).snd : Int) = ((J2 b bit p.arrays (A4 b bit p.vars j m.vals m.vals.length).snd m.arrs i2 4).snd) := (by rw [← bb5 (by omega) ha4]; done); have e2 : ((scA b bit p.arrays (A4 b bit p.vars j m.vals m.vals.length).snd m.arrs (i2 + 1)).fst : List (List Int)) = ((J2 b bit p.arrays (A4 b bit p.vars j m.vals m.vals.length).snd m.arrs i2 4).fst) := (by rw [← bb5 (by omega) ha4]; done); (first | rw [e1, e2] | simp only [e1, e2]) <;> rfl)
     ·
      have q5 := Z2 h5; refine rT G _ h5 (wp_skip (b0 (wp_seq (wp_block (wp_seq (K6 G e6 (rg 12) (.box [.ref 1, iA (J2 b bit p.arrays (A4 b bit p.vars j m.vals m.vals.length).snd m.arrs i2 k2).snd] :: (ad3 b p m [al2, aG0 b j bit p m, .tree (D.rows (J2 b bit p.arrays (A4 b bit p.vars j m.vals m.vals.length).snd m.arrs i2 k2).fst), .box [.ref 9, .tref 10]])) (S6 bit [(11, iA i2), (12, iA k2), (74, bA (by5 (p.arrays.getD i2 0) bit != 0))]) (iX i2 i2 p.arrays.length []) (iK (by omega) b84) fun G => b0 (rcN G (fun h6 q6 => ?_) fun h6 q6 => ?_)))))))
      · refine wp_skip (i8 (b0 (D0 G e6 [(12, iA ((k2 : Int) + 1))] [wO ((k2 : Int) + 1)] (o1 (by omega)) fun G => b0 ?_))); exact L0 G (k2 + 1) (by omega) (by omega) (rg 12) (by have e1 : ((J2 b bit p.arrays (A4 b bit p.vars j m.vals m.vals.length).snd m.arrs i2 (k2 + 1)).snd : Int) = ((J2 b bit p.arrays (A4 b bit p.vars j m.vals m.vals.length).snd m.arrs i2 k2).snd) := (by rw [bI9 (zbf (by omega))]; done); have e2 : ((J2 b bit p.arrays (A4 b bit p.vars j m.vals m.vals.length).snd m.arrs i2 (k2 + 1)).fst : List (List Int)) = ((J2 b bit p.arrays (A4 b bit p.vars j m.vals m.vals.length).snd m.arrs i2 k2).fst) := (by rw [bI9 (zbf (by omega))]; done); (first | rw [e1, e2] | simp only [e1, e2]) <;> rfl)
      · refine H5 G (v5 7 [0, 1] (N4 b ((J2 b bit p.arrays (A4 b bit p.vars j m.vals m.vals.length).snd m.arrs i2 k2).snd) (by omega) (by omega))) [0, 1, 0, 7, 15, 0, 0, 64, 255, 511] [0, 1, 2, 3, 4, 5, 6, 7, 8, 9, 10, 11, 44] [.box [.ref 1, iA ((J2 b bit p.arrays (A4 b bit p.vars j m.vals m.vals.length).snd m.arrs i2 k2).snd + 1)], dY b, dI p.vars, dI p.arrays, dT p.body, dI m.vals, dR m.arrs, .box (pL 2), .box [.v (.slice none 0 0), .v (.slice none 0 0)], .row 3 (D.ints (A4 b bit p.vars j m.vals m.vals.length).fst), .hole 12 i2 (J2 b bit p.arrays (A4 b bit p.vars j m.vals m.vals.length).snd m.arrs i2 k2).fst, .box [.ref 9, .tref 10], .row 3 (D.ints (((J2 b bit p.arrays (A4 b bit p.vars j m.vals m.vals.length).snd m.arrs i2 k2).fst.getD i2 []).set k2 (nm b (J2 b bit p.arrays (A4 b bit p.vars j m.vals m.vals.length).snd m.arrs i2 k2).snd vaL)))] (S6 bit [(11, iA i2), (12, iA k2)]) (iX i2 i2 ((J2 b bit p.arrays (A4 b bit p.vars j m.vals m.vals.length).snd m.arrs i2 k2).fst.length) (iX k2 k2 (((J2 b bit p.arrays (A4 b bit p.vars j m.vals m.vals.length).snd m.arrs i2 k2).fst.getD i2 []).length) [])) (iK (by omega) (iK (by omega) b84)) fun G => ?_; replace G := G.heal 10 12 i2 ((J2 b bit p.arrays (A4 b bit p.vars j m.vals m.vals.length).snd m.arrs i2 k2).fst) (((J2 b bit p.arrays (A4 b bit p.vars j m.vals m.vals.length).snd m.arrs i2 k2).fst.getD i2 []).set k2 (nm b (J2 b bit p.arrays (A4 b bit p.vars j m.vals m.vals.length).snd m.arrs i2 k2).snd vaL)) (.box [.ref 1, iA ((J2 b bit p.arrays (A4 b bit p.vars j m.vals m.vals.length).snd m.arrs i2 k2).snd + 1)] :: (ad3 b p m [.box [.v (.slice none 0 0), .v (.slice none 0 0)], .row 3 (D.ints (A4 b bit p.vars j m.vals m.vals.length).fst), .tree (D.rows ((J2 b bit p.arrays (A4 b bit p.vars j m.vals m.vals.length).snd m.arrs i2 k2).fst.set i2 (((J2 b bit p.arrays (A4 b bit p.vars j m.vals m.vals.length).snd m.arrs i2 k2).fst.getD i2 []).set k2 (nm b (J2 b bit p.arrays (A4 b bit p.vars j m.vals m.vals.length).snd m.arrs i2 k2).snd vaL)))), .box [.ref 9, .tref 10], .dead])); refine i8 (b0 (K6 G e6 (rg 12) (.box [.ref 1, iA ((J2 b bit p.arrays (A4 b bit p.vars j m.vals m.vals.length).snd m.arrs i2 k2).snd + 1)] :: (ad3 b p m [al2, aG0 b j bit p m, .tree (D.rows ((J2 b bit p.arrays (A4 b bit p.vars j m.vals m.vals.length).snd m.arrs i2 k2).fst.set i2 (((J2 b bit p.arrays (A4 b bit p.vars j m.vals m.vals.length).snd m.arrs i2 k2).fst.getD i2 []).set k2 (nm b (J2 b bit p.arrays (A4 b bit p.vars j m.vals m.vals.length).snd m.arrs i2 k2).snd vaL)))), .box [.ref 9, .tref 10]])) (S6 bit [(11, iA i2), (12, iA ((k2 : Int) + 1))]) [wO ((k2 : Int) + 1)] (o1 (by omega)) fun G => b0 ?_)); exact L0 G (k2 + 1) (by omega) (by omega) (rg 12) (by have e1 : ((J2 b bit p.arrays (A4 b bit p.vars j m.vals m.vals.length).snd m.arrs i2 (k2 + 1)).snd : Int) = ((J2 b bit p.arrays (A4 b bit p.vars j m.vals m.vals.length).snd m.arrs i2 k2).snd + 1) := (by rw [bI8 (by omega) ha4 (by omega) (zbt (by omega))]; done); have e2 : ((J2 b bit p.arrays (A4 b bit p.vars j m.vals m.vals.length).snd m.arrs i2 (k2 + 1)).fst : List (List Int)) = ((J2 b bit p.arrays (A4 b bit p.vars j m.vals m.vals.length).snd m.arrs i2 k2).fst.set i2 (((J2 b bit p.arrays (A4 b bit p.vars j m.vals m.vals.length).snd m.arrs i2 k2).fst.getD i2 []).set k2 (nm b (J2 b bit p.arrays (A4 b bit p.vars j m.vals m.vals.length).snd m.arrs i2 k2).snd vaL))) := (by rw [bI8 (by omega) ha4 (by omega) (zbt (by omega))]; done); (first | rw [e1, e2] | simp only [e1, e2]) <;> rfl)
  ·
   have q0 := Z2 h0; refine G9 G (J3 (fc h0 fz) (us [(6, 10, 0), (1011, 1011, 0)])) (S6 bit [(10, iA i), (26, bA (decide ((i : Int) < p.vars.length)))]) fun G => b0 ?_; cases h1 : (decide ((i : Int) < p.vars.length))
   · have q1 := Z3 h1; exact False.elim (by omega)
   ·
    have q1 := Z2 h1; refine rT G _ h1 (wp_skip (b0 (wp_seq (wp_block (wp_seq (D0 G e6 [(36, bA (by5 (p.vars.getD i 0) bit != 0))] (iX i i p.vars.length []) (iK (by omega) b84) fun G => b0 (rcN G (fun h2 q2 => ?_) fun h2 q2 => ?_)))))))
    · refine wp_skip (i8 (b0 (D0 G e6 [(10, iA ((i : Int) + 1))] [wO ((i : Int) + 1)] (o1 (by omega)) fun G => b0 ?_))); exact L0 G (i + 1) (by omega) (by omega) (rg 12) (by have e1 : ((A4 b bit p.vars j m.vals (i + 1)).snd : Int) = ((A4 b bit p.vars j m.vals i).snd) := (by rw [bI7 (zbf (by omega))]; done); have e2 : ((A4 b bit p.vars j m.vals (i + 1)).fst : List Int) = ((A4 b bit p.vars j m.vals i).fst) := (by rw [bI7 (zbf (by omega))]; done); (first | rw [e1, e2] | simp only [e1, e2]) <;> rfl)
    · refine H5 G (v5 4 [0, 1] (N4 b ((A4 b bit p.vars j m.vals i).snd) (by omega) (by omega))) [0, 1, 0, 0, 8, 31, 63] (rg 12) (.box [.ref 1, iA ((A4 b bit p.vars j m.vals i).snd + 1)] :: (ad3 b p m [al2, .row 3 (D.ints ((A4 b bit p.vars j m.vals i).fst.set i (nm b (A4 b bit p.vars j m.vals i).snd vaL))), .tree (D.rows m.arrs), .box [.ref 9, .tref 10]])) (S6 bit [(10, iA i)]) (iX i i ((A4 b bit p.vars j m.vals i).fst.length) []) (iK (by omega) b84) fun G => i8 (b0 (D0 G e6 [(10, iA ((i : Int) + 1))] [wO ((i : Int) + 1)] (o1 (by omega)) fun G => b0 ?_)); exact L0 G (i + 1) (by omega) (by omega) (rg 12) (by have e1 : ((A4 b bit p.vars j m.vals (i + 1)).snd : Int) = ((A4 b bit p.vars j m.vals i).snd + 1) := (by rw [bI6 (zbt (by omega))]; done); have e2 : ((A4 b bit p.vars j m.vals (i + 1)).fst : List Int) = ((A4 b bit p.vars j m.vals i).fst.set i (nm b (A4 b bit p.vars j m.vals i).snd vaL)) := (by rw [bI6 (zbt (by omega))]; done); (first | rw [e1, e2] | simp only [e1, e2]) <;> rfl)
theorem aZ2 (b : List UInt8) (j bit : Int) (vs ars : List Int) (bd : List c8) (xs : List Int) (rs : List (List Int)) (hv : xs.length = vs.length) (ha : rs.length = ars.length) (hr : rs.all R7 = true) (r0 : 0 ≤ j) (r1 : j ≤ 100000000) (r2 : xs.length ≤ 1000000 ∧ rs.length ≤ 1000000) (hi : ∀ l ∈ rs, l.length ≤ 1048576) : l0.ok Tryz.prog ⟨26, [.ptr 0 0, pA 2, mA 5, iA bit], [.box [.ref 1, iA j], dY b, dI vs, dI ars, dT bd, dI xs, dR rs], [.box [.ref 1, iA (scM b bit ⟨vs, ars, bd⟩ ⟨xs, rs⟩ j).2], dY b, dI vs, dI ars, dT bd, dI xs, dR rs] ++ mO (scM b bit ⟨vs, ars, bd⟩ ⟨xs, rs⟩ j).1, mT 7⟩ :=
 aT8 b j bit ⟨vs, ars, bd⟩ ⟨xs, rs⟩ hv ha hr r0 r1 r2 hi
def gX (nv na : Nat) (L : Int) (x : d7) : Prop :=
 (x.op = 1 ∧ (0 ≤ x.a ∧ x.a ≤ 13) ∧ (0 ≤ x.b ∧ x.b ≤ 255) ∧ x.c = 0 ∧ x.d = 0) ∨
 (x.op = 2 ∧ (0 ≤ x.a ∧ x.a ≤ 13) ∧ (0 ≤ x.b ∧ x.b < nv) ∧ x.c = 0 ∧ x.d = 0) ∨
 (x.op = 3 ∧ (0 ≤ x.a ∧ x.a < nv) ∧ (0 ≤ x.b ∧ x.b ≤ 13) ∧ x.c = 0 ∧ x.d = 0) ∨
 (x.op = 4 ∧ (0 ≤ x.a ∧ x.a ≤ 13) ∧ (0 ≤ x.b ∧ x.b < na) ∧ (0 ≤ x.c ∧ x.c ≤ 13) ∧ x.d = 0) ∨
 (x.op = 5 ∧ (0 ≤ x.a ∧ x.a < na) ∧ (0 ≤ x.b ∧ x.b ≤ 13) ∧ (0 ≤ x.c ∧ x.c ≤ 13) ∧ x.d = 0) ∨
 (x.op = 6 ∧ (0 ≤ x.a ∧ x.a ≤ 13) ∧ (4 ≤ x.b ∧ x.b ≤ 10) ∧ (0 ≤ x.c ∧ x.c ≤ 13) ∧ (0 ≤ x.d ∧ x.d ≤ 13)) ∨
 (x.op = 7 ∧ (0 ≤ x.a ∧ x.a ≤ 13) ∧ (0 ≤ x.b ∧ x.b ≤ 13) ∧ (0 ≤ x.c ∧ x.c ≤ 13) ∧ (0 ≤ x.d ∧ x.d ≤ 13)) ∨
 (x.op = 8 ∧ (0 ≤ x.a ∧ x.a < L) ∧ x.b = 0 ∧ x.c = 0 ∧ x.d = 0) ∨
 (x.op = 9 ∧ (0 ≤ x.a ∧ x.a ≤ 13) ∧ (0 ≤ x.b ∧ x.b < L) ∧ x.c = 0 ∧ x.d = 0) ∨
 (x.op = 10 ∧ (0 ≤ x.a ∧ x.a ≤ 13) ∧ (0 ≤ x.b ∧ x.b < L) ∧ x.c = 0 ∧ x.d = 0) ∨
 (x.op = 11 ∧ (0 ≤ x.a ∧ x.a ≤ 13) ∧ x.b = 0 ∧ x.c = 0 ∧ x.d = 0)
def gL (nv na : Nat) (L : Int) (l : List d7) : Prop := ∀ x ∈ l, gX nv na L x
theorem bO6 {nv na : Nat} {L : Int} {a b : List d7} (h : gL nv na L a) (k : gL nv na L b) : gL nv na L (a ++ b) := by
 intro x hx
 rcases b87.1 hx with hx | hx
 ·exact h x hx
 ·exact k x hx
theorem aO5 {nv na : Nat} {L : Int} {a : d7} (h : gX nv na L a) : gL nv na L [a] := by
 intro x hx
 rw [b94] at hx
 subst hx; exact h
def Gd (nv na : Nat) (L : Int) (x y : H8) : Prop := ∃ ys, y.1 = x.1 ++ ys ∧ gL nv na L ys
theorem Gd.refl {nv na : Nat} {L : Int} (x : H8) : Gd nv na L x x := ⟨[], by simp, fun x hx => by cases hx⟩
theorem Gd.trans {nv na : Nat} {L : Int} {x y z : H8} (h : Gd nv na L x y) (k : Gd nv na L y z) : Gd nv na L x z := by
 obtain ⟨a, a1, a2⟩ := h
 obtain ⟨b, b1, b2⟩ := k
 exact ⟨a ++ b, by rw [b1, a1, cb7], bO6 a2 b2⟩
theorem Gd.add {nv na : Nat} {L : Int} {x : H8} {n : Int} {c : List d7} (h : gL nv na L c) : Gd nv na L x (F7 x n c) := ⟨c, rfl, h⟩
theorem bM3 : (0 : Int) ≤ 0 ∧ (0 : Int) ≤ 13 := by decide
theorem b25 : (0 : Int) ≤ 1 ∧ (1 : Int) ≤ 13 := by decide
theorem g1 {nv na : Nat} {L a b : Int} (h1 : 0 ≤ a ∧ a ≤ 13) (h2 : 0 ≤ b ∧ b ≤ 255) : gL nv na L [⟨1, a, b, 0, 0⟩] := aO5 (.inl ⟨rfl, h1, h2, rfl, rfl⟩)
theorem g3 {nv na : Nat} {L a : Int} (h1 : 0 ≤ a ∧ a < nv) : gL nv na L [⟨3, a, 0, 0, 0⟩] := aO5 (.inr (.inr (.inl ⟨rfl, h1, bM3, rfl, rfl⟩)))
theorem g5 {nv na : Nat} {L a : Int} (h1 : 0 ≤ a ∧ a < na) : gL nv na L [⟨5, a, 1, 0, 0⟩] := aO5 (.inr (.inr (.inr (.inr (.inl ⟨rfl, h1, b25, bM3, rfl⟩)))))
theorem g8 {nv na : Nat} {L a : Int} (h1 : 0 ≤ a ∧ a < L) : gX nv na L ⟨8, a, 0, 0, 0⟩ := .inr (.inr (.inr (.inr (.inr (.inr (.inr (.inl ⟨rfl, h1, rfl, rfl, rfl⟩)))))))
theorem g9 {nv na : Nat} {L b : Int} (h1 : 0 ≤ b ∧ b < L) : gX nv na L ⟨9, 0, b, 0, 0⟩ := .inr (.inr (.inr (.inr (.inr (.inr (.inr (.inr (.inl ⟨rfl, bM3, h1, rfl, rfl⟩))))))))
theorem g10 {nv na : Nat} {L a b : Int} (h0 : 0 ≤ a ∧ a ≤ 13) (h1 : 0 ≤ b ∧ b < L) : gL nv na L [⟨10, a, b, 0, 0⟩] := aO5 (.inr (.inr (.inr (.inr (.inr (.inr (.inr (.inr (.inr (.inl ⟨rfl, h0, h1, rfl, rfl⟩))))))))))
def inV (x : Int) : Prop := 0 ≤ x ∧ x ≤ 255
theorem bW3 {l : List Int} (h : ∀ x ∈ l, inV x) (i : Nat) : inV (l.getD i 0) := by
 rw [b75]
 cases hx : l[i]? with
 | none => exact ⟨Int.le_refl _, by decide⟩
 | some x => exact h x (b86 hx)
theorem bK6 {l : List Int} (h : F5 l = true) : ∀ x ∈ l, inV x := fun x hx => by
 have := b80.1 h x hx
 simpa [inV] using this
theorem b21 {l : List (List Int)} (h : l.all R7 = true) (i : Nat) : ∀ x ∈ l.getD i [], inV x := by
 rw [b75]
 cases hx : l[i]? with
 | none => intro x hx; simp at hx
 | some r =>
  have := b80.1 h r (b86 hx)
  unfold R7 at this
  rw [b73] at this
  exact bK6 this.2
structure s6 where
 pc : Int
 regs : List Int
 mem : v7
def stR (m : v7) (x : d7) (r : List Int) : List Int :=
 if x.op = 1 then r.set x.a.toNat x.b
 else if x.op = 2 then r.set x.a.toNat (m.vals.getD x.b.toNat 0)
 else if x.op = 4 then r.set x.a.toNat ((m.arrs.getD x.b.toNat []).getD ((r.getD x.c.toNat 0).tmod 4).toNat 0)
 else if x.op = 6 then r.set x.a.toNat (J5 x.b (r.getD x.c.toNat 0) (r.getD x.d.toNat 0))
 else if x.op = 7 then r.set x.a.toNat (if r.getD x.b.toNat 0 = 0 then r.getD x.d.toNat 0 else r.getD x.c.toNat 0)
 else if x.op = 10 then r.set x.a.toNat ((r.getD x.a.toNat 0 + 255).tmod 256)
 else r
def stM (m : v7) (x : d7) (r : List Int) : v7 :=
 if x.op = 3 then ⟨m.vals.set x.a.toNat (r.getD x.b.toNat 0), m.arrs⟩
 else if x.op = 5 then ⟨m.vals, m.arrs.set x.a.toNat ((m.arrs.getD x.a.toNat []).set ((r.getD x.b.toNat 0).tmod 4).toNat (r.getD x.c.toNat 0))⟩
 else m
def stE (x : d7) (r : List Int) : List (Int × Int) :=
 if x.op = 4 then [(2, x.b * 4 + (r.getD x.c.toNat 0).tmod 4)]
 else if x.op = 5 then [(3, x.a * 4 + (r.getD x.b.toNat 0).tmod 4)]
 else if x.op = 11 then [(4, r.getD x.a.toNat 0)]
 else []
def stP (x : d7) (r : List Int) (pc : Int) : Int :=
 if x.op = 8 then x.a
 else if x.op = 9 then (if r.getD x.a.toNat 0 = 0 then x.b else pc + 1)
 else if x.op = 10 then (if (r.getD x.a.toNat 0 + 255).tmod 256 = 0 then pc + 1 else x.b)
 else if x.op = 13 then pc
 else pc + 1
def H6 (c : b6) (s : s6) : d7 := C0 c s.pc.toNat
def i6 (c : b6) (s : s6) : s6 := ⟨stP (H6 c s) s.regs s.pc, stR s.mem (H6 c s) s.regs, stM s.mem (H6 c s) s.regs⟩
def D9 (c : b6) (s : s6) : List (Int × Int) := (5, s.pc) :: stE (H6 c s) s.regs
def M9 (c : b6) (s : s6) : Bool := decide ((H6 c s).op = 13)
def n6 (c : b6) (s : s6) : Nat → s6
 | 0 => s
 | n + 1 => i6 c (n6 c s n)
def H4 (c : b6) (s : s6) : Nat → List (Int × Int)
 | 0 => []
 | n + 1 => H4 c s n ++ D9 c (n6 c s n)
def P6 (c : b6) (s : s6) : Bool := decide (0 ≤ s.pc) && (decide (s.pc < c.list.length) && (decide (s.regs.length = 14) && (F5 s.regs && I6 c.vars.length c.arrays.length s.mem)))
theorem ab4 {c : b6} {s : s6} (h : P6 c s = true) : 0 ≤ s.pc ∧ s.pc < c.list.length ∧ s.regs.length = 14 ∧ F5 s.regs = true ∧ I6 c.vars.length c.arrays.length s.mem = true := by
 unfold P6 at h
 simpa [b73] using h
theorem bd3 {c : b6} {s : s6} (h1 : 0 ≤ s.pc) (h2 : s.pc < c.list.length) (h3 : s.regs.length = 14) (h4 : F5 s.regs = true) (h5 : I6 c.vars.length c.arrays.length s.mem = true) : P6 c s = true := by
 unfold P6
 simp [*]
theorem bK5 {l : List Int} (h : ∀ x ∈ l, inV x) : F5 l = true := by
 unfold F5
 rw [b80]
 intro x hx
 have := h x hx
 unfold inV at this
 simp [this]
theorem X3 {l : List Int} (h : F5 l = true) {x : Int} (hx : inV x) (i : Nat) : F5 (l.set i x) = true := by
 refine bK5 fun y hy => ?_
 rcases List.mem_or_eq_of_mem_set hy with h1 | h1
 ·exact bK6 h y h1
 ·exact h1 ▸ hx
theorem X4 {l : List Int} (h : F5 l = true) (i : Nat) : inV (l.getD i 0) := bW3 (bK6 h) i
theorem bR6 {x n : Int} (h : 0 ≤ x) (hn : 0 < n) (h2 : n ≤ 256) : inV (x.tmod n) := by
 have := Int.tmod_lt_of_pos x hn
 have := Int.tmod_nonneg n h
 unfold inV; omega
theorem bA0 (m : v7) (x : d7) (r : List Int) : (stR m x r).length = r.length := by
 unfold stR
 repeat' split
 all_goals simp
theorem bz9 {c : b6} {m : v7} {x : d7} {r : List Int} (hx : y6 c x = true) (hm : I6 c.vars.length c.arrays.length m = true) (hr : F5 r = true) : F5 (stR m x r) = true := by
 obtain ⟨f1, f2, f3, f4⟩ := aB6 hm
 unfold stR
 split
 ·rename_i e
  refine X3 hr ?_ _
  unfold y6 at hx
  simp only [b73, decide_eq_true_eq] at hx
  obtain ⟨_, ⟨⟨_, hb⟩, _⟩, _⟩ := hx
  rw [e] at hb
  simp [f8, D5, K1] at hb
  exact hb
 split
 ·exact X3 hr (X4 f3 _) _
 split
 ·exact X3 hr (bW3 (b21 f4 _) _) _
 split
 ·have a := X4 hr x.c.toNat
  have b := X4 hr x.d.toNat
  exact X3 hr (aX3 a.1 a.2 b.1 b.2) _
 split
 ·refine X3 hr ?_ _
  split <;> exact X4 hr _
 split
 ·have a := X4 hr x.a.toNat
  exact X3 hr (bR6 (by have := a.1; omega) (by decide) (by decide)) _
 ·exact hr
theorem bQ7 {a : List Int} (h1 : a.length = 4) (h2 : F5 a = true) : R7 a = true := by unfold R7; simp [h1, h2]
theorem by3 {a : List Int} (h : R7 a = true) : a.length = 4 ∧ F5 a = true := by
 unfold R7 at h; simpa [b73] using h
theorem bA2 {nv na : Nat} {m : v7} {r : List Int} (x : d7) (hm : I6 nv na m = true) (hr : F5 r = true) : I6 nv na (stM m x r) = true := by
 obtain ⟨f1, f2, f3, f4⟩ := aB6 hm
 have key : ∀ m' : v7, m'.vals.length = nv → m'.arrs.length = na → F5 m'.vals = true → m'.arrs.all R7 = true → I6 nv na m' = true := by
  intro m' h1 h2 h3 h4
  unfold I6; simp [h1, h2, h3]; simpa using h4
 unfold stM
 split
 ·exact key _ (by simp [f1]) f2 (X3 f3 (X4 hr _) _) f4
 split
 ·refine key _ f1 (by simp [f2]) f3 ?_
  rw [b80] at f4 ⊢
  intro a ha
  rcases List.mem_or_eq_of_mem_set ha with h | h
  ·exact f4 a h
  ·subst h
   by_cases hl : x.a.toNat < m.arrs.length
   ·have := by3 (f4 (m.arrs.getD x.a.toNat []) (by rw [b75, b72 hl]; exact b91 hl))
    exact bQ7 (by simp only [b95]; exact this.1) (X3 this.2 (X4 hr _) _)
   ·rw [List.set_eq_of_length_le (by omega)] at ha
    exact f4 _ ha
 ·exact hm
theorem aW6 {c : b6} {s : s6} (h0 : 0 ≤ s.pc) (h1 : s.pc < c.list.length) : H6 c s = c.list[s.pc.toNat]'(by omega) := E4 (by omega)
theorem aN7 {c : b6} {s : s6} (hc : i5 c = true) (h0 : 0 ≤ s.pc) (h1 : s.pc < c.list.length) : y6 c (H6 c s) = true := by
 rw [aW6 h0 h1]; exact (l9 hc).2.2.2.1 _ (by omega)
theorem b41 {c : b6} {s : s6} (h0 : 0 ≤ s.pc) (h1 : s.pc < c.list.length) : nx c s.pc = E1 (H6 c s) s.pc := by
 rw [aW6 h0 h1]; exact az7 (by omega)
theorem bn5 {x : d7} {r : List Int} {pc : Int} (h : x.op ≠ 13) : stP x r pc ∈ E1 x pc := by
 unfold stP E1
 rw [if_neg h]
 by_cases h8 : x.op = 8
 ·simp [h8]
 rw [if_neg h8, if_neg h8]
 by_cases h9 : x.op = 9
 ·rw [if_pos h9, if_pos (.inl h9)]; split <;> simp
 rw [if_neg h9]
 by_cases h10 : x.op = 10
 ·rw [if_pos h10, if_pos (.inr h10)]; split <;> simp
 rw [if_neg h10, if_neg h, if_neg (by omega)]; simp
theorem bA1 {x : d7} {r : List Int} {pc : Int} (h : x.op = 13) : stP x r pc = pc := by
 unfold stP
 rw [if_neg (by omega), if_neg (by omega), if_neg (by omega), if_pos h]
theorem ba8 {c : b6} {s : s6} (hc : i5 c = true) (h0 : 0 ≤ s.pc) (h1 : s.pc < c.list.length) : (0 ≤ (i6 c s).pc ∧ (i6 c s).pc < c.list.length) ∧ ((i6 c s).pc = s.pc ∨ (i6 c s).pc ∈ nx c s.pc) := by
 by_cases h : (H6 c s).op = 13
 ·have : (i6 c s).pc = s.pc := bA1 h
  rw [this]; exact ⟨⟨h0, h1⟩, .inl rfl⟩
 ·have hn : (i6 c s).pc ∈ nx c s.pc := by rw [b41 h0 h1]; exact bn5 h
  exact ⟨az6 hc h0 hn, .inr hn⟩
theorem bz8 {c : b6} {s : s6} (hc : i5 c = true) (h : P6 c s = true) : P6 c (i6 c s) = true := by
 obtain ⟨h1, h2, h3, h4, h5⟩ := ab4 h
 have hp := (ba8 hc h1 h2).1
 exact bd3 hp.1 hp.2 ((bA0 _ _ _).trans h3) (bz9 (aN7 hc h1 h2) h5 h4) (bA2 _ h5 h4)
theorem ae2 {c : b6} {s : s6} (hc : i5 c = true) (h : P6 c s = true) : ∀ n, P6 c (n6 c s n) = true
 | 0 => h
 | n + 1 => bz8 hc (ae2 hc h n)
theorem bA3 (x : d7) (r : List Int) : (stE x r).length ≤ 1 := by
 unfold stE
 repeat' split
 all_goals simp
theorem aH5 (c : b6) (s : s6) : (D9 c s).length ≤ 2 := by
 have := bA3 (H6 c s) s.regs
 unfold D9; simp; omega
theorem ay7 (c : b6) (s : s6) : ∀ n, (H4 c s n).length ≤ 2 * n
 | 0 => by simp [H4]
 | n + 1 => by
  have := ay7 c s n
  have := aH5 c (n6 c s n)
  rw [H4, b74]; omega
theorem bz7 {c : b6} {s : s6} (hc : i5 c = true) (h0 : 0 ≤ s.pc) (h1 : s.pc < c.list.length) (hr : Rc c s.pc) : Rc c (i6 c s).pc := by
 rcases (ba8 hc h0 h1).2 with h | h
 ·rw [h]; exact hr
 ·exact .step hr h
def l5 (m : v7) : s6 := ⟨0, b70 14 0, m⟩
theorem U6 {c : b6} {m : v7} (hc : i5 c = true) (h : I6 c.vars.length c.arrays.length m = true) : P6 c (l5 m) = true := by
 have hn := (l9 hc).2.1
 exact bd3 (Int.le_refl _) (by show (0 : Int) < _; omega) rfl (show F5 (b70 14 0) = true by decide) h
structure aF3 (c : b6) (m : v7) (n : Nat) : Prop where
 lt : n < 20000
 fin : M9 c (n6 c (l5 m) n) = true
 no : ∀ k, k < n → M9 c (n6 c (l5 m) k) = false
def bq3 (c : b6) (m : v7) (n : Nat) : v7 := (n6 c (l5 m) (n + 1)).mem
def at9 (c : b6) (m : v7) (n : Nat) : List (Int × Int) := H4 c (l5 m) (n + 1)
theorem bC1 {c : b6} {m : v7} {n : Nat} (hn : n < 20000) (h : M9 c (n6 c (l5 m) n) = true) : ∃ k, k ≤ n ∧ aF3 c m k := by
 induction n using Nat.strongRecOn with
 | _ n ih =>
  by_cases hk : ∃ k, k < n ∧ M9 c (n6 c (l5 m) k) = true
  ·obtain ⟨k, h1, h2⟩ := hk
   obtain ⟨j, h3, h4⟩ := ih k h1 (by omega) h2
   exact ⟨j, by omega, h4⟩
  ·refine ⟨n, b76 _, hn, h, fun k h1 => ?_⟩
   cases he : M9 c (n6 c (l5 m) k) with
   | false => rfl
   | true => exact absurd ⟨k, h1, he⟩ hk
theorem bp9 {c : b6} {m : v7} {n k : Nat} (h : aF3 c m n) (g : aF3 c m k) : n = k := by
 rcases Nat.lt_trichotomy n k with h1 | h1 | h1
 ·have := g.no n h1; rw [h.fin] at this; cases this
 ·exact h1
 ·have := h.no k h1; rw [g.fin] at this; cases this
theorem bC0 (c : b6) (m : v7) : (∃ n, aF3 c m n) ∨ ∀ k, k < 20000 → M9 c (n6 c (l5 m) k) = false := by
 by_cases h : ∃ k, k < 20000 ∧ M9 c (n6 c (l5 m) k) = true
 ·obtain ⟨k, h1, h2⟩ := h
  obtain ⟨j, _, h4⟩ := bC1 h1 h2
  exact .inl ⟨j, h4⟩
 ·right
  intro k h1
  cases he : M9 c (n6 c (l5 m) k) with
  | false => rfl
  | true => exact absurd ⟨k, h1, he⟩ h
def z5 (l : List (Int × Int)) : List (Int × Int) := l.filter fun e => decide (2 ≤ e.1) && decide (e.1 ≤ 4)
theorem K2 (l m : List (Int × Int)) : z5 (l ++ m) = z5 l ++ z5 m := List.filter_append ..
theorem U9 (c : b6) (s : s6) : z5 (D9 c s) = stE (H6 c s) s.regs := by
 unfold D9 z5 stE
 repeat' split
 all_goals rfl
theorem bb9 {c : b6} {m : v7} (hc : i5 c = true) (h : I6 c.vars.length c.arrays.length m = true) (n : Nat) : Rc c (n6 c (l5 m) n).pc := by
 induction n with
 | zero => exact .zero
 | succ n ih =>
  obtain ⟨h1, h2, -⟩ := ab4 (ae2 hc (U6 hc h) n)
  exact bz7 hc h1 h2 ih
section
variable {c : b6} {s : s6}
theorem C5 : i6 c s = ⟨stP (c.list.getD s.pc.toNat b71) s.regs s.pc, stR s.mem (c.list.getD s.pc.toNat b71) s.regs, stM s.mem (c.list.getD s.pc.toNat b71) s.regs⟩ ∧ D9 c s = (5, s.pc) :: stE (c.list.getD s.pc.toNat b71) s.regs := ⟨rfl, rfl⟩
theorem b10 (h : (c.list.getD s.pc.toNat b71).op = 1) : i6 c s = ⟨s.pc + 1, s.regs.set (c.list.getD s.pc.toNat b71).a.toNat (c.list.getD s.pc.toNat b71).b, s.mem⟩ ∧ D9 c s = [(5, s.pc)] := by
 rw [C5.1, C5.2]; generalize (c.list.getD s.pc.toNat b71) = x at *; simp [stP, stR, stM, stE, h]
theorem b09 (h : (c.list.getD s.pc.toNat b71).op = 2) : i6 c s = ⟨s.pc + 1, s.regs.set (c.list.getD s.pc.toNat b71).a.toNat (s.mem.vals.getD (c.list.getD s.pc.toNat b71).b.toNat 0), s.mem⟩ ∧ D9 c s = [(5, s.pc)] := by
 rw [C5.1, C5.2]; generalize (c.list.getD s.pc.toNat b71) = x at *; simp [stP, stR, stM, stE, h]
theorem b08 (h : (c.list.getD s.pc.toNat b71).op = 3) : i6 c s = ⟨s.pc + 1, s.regs, ⟨s.mem.vals.set (c.list.getD s.pc.toNat b71).a.toNat (s.regs.getD (c.list.getD s.pc.toNat b71).b.toNat 0), s.mem.arrs⟩⟩ ∧ D9 c s = [(5, s.pc)] := by
 rw [C5.1, C5.2]; generalize (c.list.getD s.pc.toNat b71) = x at *; simp [stP, stR, stM, stE, h]
theorem b07 (h : (c.list.getD s.pc.toNat b71).op = 4) : i6 c s = ⟨s.pc + 1, s.regs.set (c.list.getD s.pc.toNat b71).a.toNat ((s.mem.arrs.getD (c.list.getD s.pc.toNat b71).b.toNat []).getD ((s.regs.getD (c.list.getD s.pc.toNat b71).c.toNat 0).tmod 4).toNat 0), s.mem⟩ ∧ D9 c s = [(5, s.pc)] ++ [(2, (c.list.getD s.pc.toNat b71).b * 4 + (s.regs.getD (c.list.getD s.pc.toNat b71).c.toNat 0).tmod 4)] := by
 rw [C5.1, C5.2]; generalize (c.list.getD s.pc.toNat b71) = x at *; simp [stP, stR, stM, stE, h]
theorem b06 (h : (c.list.getD s.pc.toNat b71).op = 5) : i6 c s = ⟨s.pc + 1, s.regs, ⟨s.mem.vals, s.mem.arrs.set (c.list.getD s.pc.toNat b71).a.toNat ((s.mem.arrs.getD (c.list.getD s.pc.toNat b71).a.toNat []).set ((s.regs.getD (c.list.getD s.pc.toNat b71).b.toNat 0).tmod 4).toNat (s.regs.getD (c.list.getD s.pc.toNat b71).c.toNat 0))⟩⟩ ∧ D9 c s = [(5, s.pc)] ++ [(3, (c.list.getD s.pc.toNat b71).a * 4 + (s.regs.getD (c.list.getD s.pc.toNat b71).b.toNat 0).tmod 4)] := by
 rw [C5.1, C5.2]; generalize (c.list.getD s.pc.toNat b71) = x at *; simp [stP, stR, stM, stE, h]
theorem b05 (h : (c.list.getD s.pc.toNat b71).op = 6) : i6 c s = ⟨s.pc + 1, s.regs.set (c.list.getD s.pc.toNat b71).a.toNat (J5 (c.list.getD s.pc.toNat b71).b (s.regs.getD (c.list.getD s.pc.toNat b71).c.toNat 0) (s.regs.getD (c.list.getD s.pc.toNat b71).d.toNat 0)), s.mem⟩ ∧ D9 c s = [(5, s.pc)] := by
 rw [C5.1, C5.2]; generalize (c.list.getD s.pc.toNat b71) = x at *; simp [stP, stR, stM, stE, h]
theorem aQ6 (h : (c.list.getD s.pc.toNat b71).op = 7) (h2 : ¬ s.regs.getD (c.list.getD s.pc.toNat b71).b.toNat 0 = 0) : i6 c s = ⟨s.pc + 1, s.regs.set (c.list.getD s.pc.toNat b71).a.toNat (s.regs.getD (c.list.getD s.pc.toNat b71).c.toNat 0), s.mem⟩ ∧ D9 c s = [(5, s.pc)] := by
 rw [C5.1, C5.2]; generalize (c.list.getD s.pc.toNat b71) = x at *; simp only [stP, stR, stM, stE, h, h2]; simp
theorem aQ7 (h : (c.list.getD s.pc.toNat b71).op = 7) (h2 : s.regs.getD (c.list.getD s.pc.toNat b71).b.toNat 0 = 0) : i6 c s = ⟨s.pc + 1, s.regs.set (c.list.getD s.pc.toNat b71).a.toNat (s.regs.getD (c.list.getD s.pc.toNat b71).d.toNat 0), s.mem⟩ ∧ D9 c s = [(5, s.pc)] := by
 rw [C5.1, C5.2]; generalize (c.list.getD s.pc.toNat b71) = x at *; simp only [stP, stR, stM, stE, h, h2]; simp
theorem b04 (h : (c.list.getD s.pc.toNat b71).op = 8) : i6 c s = ⟨(c.list.getD s.pc.toNat b71).a, s.regs, s.mem⟩ ∧ D9 c s = [(5, s.pc)] := by
 rw [C5.1, C5.2]; generalize (c.list.getD s.pc.toNat b71) = x at *; simp [stP, stR, stM, stE, h]
theorem aQ4 (h : (c.list.getD s.pc.toNat b71).op = 9) (h2 : s.regs.getD (c.list.getD s.pc.toNat b71).a.toNat 0 = 0) : i6 c s = ⟨(c.list.getD s.pc.toNat b71).b, s.regs, s.mem⟩ ∧ D9 c s = [(5, s.pc)] := by
 rw [C5.1, C5.2]; generalize (c.list.getD s.pc.toNat b71) = x at *; simp only [stP, stR, stM, stE, h, h2]; simp
theorem aQ5 (h : (c.list.getD s.pc.toNat b71).op = 9) (h2 : ¬ s.regs.getD (c.list.getD s.pc.toNat b71).a.toNat 0 = 0) : i6 c s = ⟨s.pc + 1, s.regs, s.mem⟩ ∧ D9 c s = [(5, s.pc)] := by
 rw [C5.1, C5.2]; generalize (c.list.getD s.pc.toNat b71) = x at *; simp only [stP, stR, stM, stE, h, h2]; simp
theorem aw2 (h : (c.list.getD s.pc.toNat b71).op = 10) (h2 : ¬ (s.regs.getD (c.list.getD s.pc.toNat b71).a.toNat 0 + 255).tmod 256 = 0) : i6 c s = ⟨(c.list.getD s.pc.toNat b71).b, s.regs.set (c.list.getD s.pc.toNat b71).a.toNat ((s.regs.getD (c.list.getD s.pc.toNat b71).a.toNat 0 + 255).tmod 256), s.mem⟩ ∧ D9 c s = [(5, s.pc)] := by
 rw [C5.1, C5.2]; generalize (c.list.getD s.pc.toNat b71) = x at *; simp only [stP, stR, stM, stE, h, h2]; simp
theorem aw3 (h : (c.list.getD s.pc.toNat b71).op = 10) (h2 : (s.regs.getD (c.list.getD s.pc.toNat b71).a.toNat 0 + 255).tmod 256 = 0) : i6 c s = ⟨s.pc + 1, s.regs.set (c.list.getD s.pc.toNat b71).a.toNat ((s.regs.getD (c.list.getD s.pc.toNat b71).a.toNat 0 + 255).tmod 256), s.mem⟩ ∧ D9 c s = [(5, s.pc)] := by
 rw [C5.1, C5.2]; generalize (c.list.getD s.pc.toNat b71) = x at *; simp only [stP, stR, stM, stE, h, h2]; simp
theorem bR4 (h : (c.list.getD s.pc.toNat b71).op = 11) : i6 c s = ⟨s.pc + 1, s.regs, s.mem⟩ ∧ D9 c s = [(5, s.pc)] ++ [(4, s.regs.getD (c.list.getD s.pc.toNat b71).a.toNat 0)] := by
 rw [C5.1, C5.2]; generalize (c.list.getD s.pc.toNat b71) = x at *; simp [stP, stR, stM, stE, h]
theorem bR3 (h : (c.list.getD s.pc.toNat b71).op = 12) : i6 c s = ⟨s.pc + 1, s.regs, s.mem⟩ ∧ D9 c s = [(5, s.pc)] := by
 rw [C5.1, C5.2]; generalize (c.list.getD s.pc.toNat b71) = x at *; simp [stP, stR, stM, stE, h]
theorem bR2 (h : (c.list.getD s.pc.toNat b71).op = 13) : i6 c s = ⟨s.pc, s.regs, s.mem⟩ ∧ D9 c s = [(5, s.pc)] := by
 rw [C5.1, C5.2]; generalize (c.list.getD s.pc.toNat b71) = x at *; simp [stP, stR, stM, stE, h]
theorem bH4 (hc : i5 c = true) (h : P6 c s = true) : y6 c (c.list.getD s.pc.toNat b71) = true := by
 obtain ⟨h1, h2, -⟩ := ab4 h
 exact aN7 hc h1 h2
theorem bR0 (hc : i5 c = true) (h : P6 c s = true) : 1 ≤ (c.list.getD s.pc.toNat b71).op ∧ (c.list.getD s.pc.toNat b71).op ≤ 13 := by
 have hx := bH4 hc h
 unfold y6 at hx
 simp only [b73, decide_eq_true_eq] at hx
 exact hx.1
theorem bR1 (hc : i5 c = true) : c.arrays.length ≤ 2 ∧ c.vars.length ≤ 12 := by
 obtain ⟨h1, -⟩ := l9 hc
 unfold E7 at h1
 simp only [b73, decide_eq_true_eq] at h1
 omega
theorem bK3 {l : List Int} {i : Nat} {v : Int} (h : i < l.length) : (l.set i v).getD i 0 = v := by
 rw [b75, List.getElem?_set, if_pos rfl, if_pos h]; rfl
end
theorem bj4 (k x y : Int) (r0 : inV x) (r1 : inV y) : l0.ok Tryz.prog (Z1 100 [iA k, iA x, iA y] [] (iA (J5 k x y))) :=
 aj8 fun φ w ρ h => (aO0 k x y w r0.1 r0.2 r1.1 r1.2).mono fun e w' ⟨h1, h2⟩ => ⟨h1, h2 ▸ Below.refl _ _⟩
theorem tmV {x : Int} (h : inV x) : 0 ≤ x.tmod 4 ∧ x.tmod 4 < 4 := by
 have h1 : 0 ≤ x ∧ x ≤ 255 := h
 rw [Int.tmod_eq_emod_of_nonneg (by omega)]; omega
theorem aJ5 (x y : Int) (r0 : 0 ≤ x ∧ x ≤ 1000) (r1 : inV y) : l0.ok Tryz.prog (Z1 99 [iA x, iA y] [] (iA (x * 4 + y.tmod 4))) := by
 refine J8 10 Tryz.func99 [] [(0, iA x), (1, iA y)] fun G => ?_; have htm := tmV r1; have hyy : 0 ≤ y ∧ y ≤ 255 := r1; refine wp_seq (l6 G e6 [(4, iA 0)] fun G => b0 (wp_seq (D0 G e6 [(4, iA (x * 4 + y.tmod 4))] [wO (x * 4), (4 : Int) ≠ 0, wO (x * 4 + y.tmod (4 : Int))] ⟨oW (by omega), (by omega), (oW (by omega)), b84⟩ fun G => b0 (wp_ret ?_)))); exact J9 G []
section
variable {nv na d : Nat} {m : v7} {e : d8}
end
section
variable {m : v7} {e : d8}
theorem bT8 {nv na : Nat} (hm : I6 nv na m = true) {i : Int} (h0 : 0 ≤ i) (h1 : i < na) : (m.arrs.getD i.toNat []).length = 4 := by
 obtain ⟨f1, f2, f3, f4⟩ := aB6 hm
 have hi : i.toNat < m.arrs.length := by omega
 have := b80.1 f4 (m.arrs.getD i.toNat []) (by rw [r7 hi]; exact b91 hi)
 unfold R7 at this
 simp only [b73, decide_eq_true_eq] at this
 exact this.1
end
abbrev kcS (c : b6) : List It := [dI c.vars, dI c.arrays, .dat (.instrs c.list)]
abbrev stI (s : s6) : List It := [.box [iA s.pc, .ref 1, .ref 2, .tref 3], .row 3 (.ints s.regs), .row 3 (.ints s.mem.vals), .tree (.rows s.mem.arrs)]
abbrev aR5 (c : b6) (s : s6) := s.regs.set (c.list.getD s.pc.toNat b71).a.toNat ((s.regs.getD (c.list.getD s.pc.toNat b71).a.toNat 0 + 255).tmod 256)
abbrev al1 (c : b6) (s : s6) := s.regs.getD (c.list.getD s.pc.toNat b71).c.toNat 0
abbrev aw8 (c : b6) (s : s6) := s.regs.getD (c.list.getD s.pc.toNat b71).b.toNat 0
abbrev C7 (c : b6) (s : s6) (E : List (Int × Int)) : List It := [.box [iA (i6 c s).pc, .ref 1, .ref 2, .tref 3], .row 3 (D.ints (i6 c s).regs), .row 3 (D.ints (i6 c s).mem.vals), .tree (D.rows (i6 c s).mem.arrs), dI c.vars, dI c.arrays, dN c.list, .row 71 (D.events E)]
abbrev aR4 (c : b6) (s : s6) : It := .box [iA (c.list.getD s.pc.toNat b71).op, iA (c.list.getD s.pc.toNat b71).a, iA (c.list.getD s.pc.toNat b71).b, iA (c.list.getD s.pc.toNat b71).c, iA (c.list.getD s.pc.toNat b71).d]
abbrev I8 (s : s6) : It := .row 71 (D.events ([(5, s.pc)] ++ []))
abbrev P4 (s : s6) : It := .box [iA s.pc, .ref 1, .ref 2, .tref 3]
abbrev ac4 (s : s6) : It := .box [iA (s.pc + 1), .ref 1, .ref 2, .tref 3]
abbrev ac3 (c : b6) (s : s6) : AV := iA (c.list.getD s.pc.toNat b71).op
abbrev bH5 (c : b6) (s : s6) : It := .row 3 (D.ints (s.regs.set (c.list.getD s.pc.toNat b71).a.toNat (J5 (c.list.getD s.pc.toNat b71).b (al1 c s) (s.regs.getD (c.list.getD s.pc.toNat b71).d.toNat 0))))
abbrev D2 (c : b6) (s : s6) (r0 : List It) : List It := .row 3 (D.ints s.mem.vals) :: .tree (D.rows s.mem.arrs) :: dI c.vars :: dI c.arrays :: dN c.list :: r0
abbrev W8 (s : s6) (r0 : List (Nat × AV)) : List (Nat × AV) := (0, .ptr 0 0) :: (4, .v (.slice none 0 0)) :: (5, .ptr 7 0) :: (6, .ref 1) :: (7, .ref 8) :: (8, iA (s.pc + 1)) :: r0
abbrev E8 (r0 : List (Nat × AV)) : List (Nat × AV) := (4, .v (.slice none 0 0)) :: (7, .ref 7) :: r0
theorem bL6 (c : b6) (s : s6) (hc : i5 c = true) (hs : P6 c s = true) (E : List (Int × Int)) (hE : D9 c s = E) : l0.ok Tryz.prog ⟨84, [.ptr 0 0, pA 4], stI s ++ kcS c, stI (i6 c s) ++ kcS c ++ [.row 71 (.events E)], .ref 7⟩ := by
  refine J8 240 Tryz.func84 (P4 s :: .row 3 (D.ints s.regs) :: (D2 c s [])) [(0, .ptr 0 0), (1, pA 4)] fun G => ?_; obtain ⟨m1, m2, m3, m4, m5⟩ := ab4 hs; have hop : 1 ≤ (c.list.getD s.pc.toNat b71).op ∧ (c.list.getD s.pc.toNat b71).op ≤ 13 := bR0 hc hs; have hn := (l9 hc).2.2.1; obtain ⟨f1, f11, f2, f3, f4, f5, f6, f7, f9, f10⟩ := a57 (x := c.list.getD s.pc.toNat b71) (bH4 hc hs); obtain ⟨w1, w2, w3, w4⟩ := aB6 m5; have hna := bR1 hc
  have hrv := fun i => X4 m4 i
  refine wp_seq (i9 G e6 (rg 8) (P4 s :: .row 3 (D.ints s.regs) :: (D2 c s [.box (pL 4)])) [(0, .ptr 0 0), (3, .ptr 7 0), (4, .v (.slice none 0 0))] fun G => b0 (wp_seq (H5 G e6 [0, 1, 0, 4, 12, 28, 63, 127, 0, 256, 768, 1792, 0, 4351, 16383] [0, 1, 2, 3, 4, 5, 6, 104] (P4 s :: .row 3 (D.ints s.regs) :: (D2 c s [aR4 c s])) [(0, .ptr 0 0), (4, .v (.slice none 0 0)), (5, .ptr 7 0), (6, .ref 1)] (iX s.pc s.pc.toNat c.list.length []) (iK (by omega) b84) fun G => b0 (wp_seq (i9 G e6 [0, 1, 2, 3, 4, 5, 6, 7, 48] (P4 s :: .row 3 (D.ints s.regs) :: (D2 c s [aR4 c s, I8 s])) [(0, .ptr 0 0), (4, .v (.slice none 0 0)), (5, .ptr 7 0), (6, .ref 1), (7, .ref 8)] fun G => b0 (wp_seq (D0 G e6 [(8, iA (s.pc + 1))] [wO (s.pc + 1)] (o1 (by omega)) fun G => b0 (wp_seq (wp_seq (l6 G e6 [(35, ac3 c s)] fun G => b0 (wp_block (wp_seq (G9 G e6 (W8 s [(35, ac3 c s), (36, bA ((c.list.getD s.pc.toNat b71).op == 1))]) fun G => b0 ?_))))))))))))); cases h0 : ((c.list.getD s.pc.toNat b71).op == 1)
  ·
   have q0 := ne_of_beq_false h0; refine rF G _ h0 (wp_seq (G9 G e6 (W8 s [(35, ac3 c s), (44, bA ((c.list.getD s.pc.toNat b71).op == 2))]) fun G => b0 ?_)); cases h1 : ((c.list.getD s.pc.toNat b71).op == 2)
   ·
    have q1 := ne_of_beq_false h1; refine rF G _ h1 (wp_seq (G9 G e6 (W8 s [(35, ac3 c s), (59, bA ((c.list.getD s.pc.toNat b71).op == 3))]) fun G => b0 ?_)); cases h2 : ((c.list.getD s.pc.toNat b71).op == 3)
    ·
     have q2 := ne_of_beq_false h2; refine rF G _ h2 (wp_seq (G9 G e6 (W8 s [(35, ac3 c s), (74, bA ((c.list.getD s.pc.toNat b71).op == 4))]) fun G => b0 ?_)); cases h3 : ((c.list.getD s.pc.toNat b71).op == 4)
     ·
      have q3 := ne_of_beq_false h3; refine rF G _ h3 (wp_seq (G9 G e6 (W8 s [(35, ac3 c s), (106, bA ((c.list.getD s.pc.toNat b71).op == 5))]) fun G => b0 ?_)); cases h4 : ((c.list.getD s.pc.toNat b71).op == 5)
      ·
       have q4 := ne_of_beq_false h4; refine rF G _ h4 (wp_seq (G9 G e6 (W8 s [(35, ac3 c s), (138, bA ((c.list.getD s.pc.toNat b71).op == 6))]) fun G => b0 ?_)); cases h5 : ((c.list.getD s.pc.toNat b71).op == 6)
       ·
        have q5 := ne_of_beq_false h5; refine rF G _ h5 (wp_seq (G9 G e6 (W8 s [(35, ac3 c s), (157, bA ((c.list.getD s.pc.toNat b71).op == 7))]) fun G => b0 ?_)); cases h6 : ((c.list.getD s.pc.toNat b71).op == 7)
        ·
         have q6 := ne_of_beq_false h6; refine rF G _ h6 (wp_seq (G9 G e6 (W8 s [(35, ac3 c s), (183, bA ((c.list.getD s.pc.toNat b71).op == 8))]) fun G => b0 ?_)); cases h7 : ((c.list.getD s.pc.toNat b71).op == 8)
         ·
          have q7 := ne_of_beq_false h7; refine rF G _ h7 (wp_seq (G9 G e6 (W8 s [(35, ac3 c s), (187, bA ((c.list.getD s.pc.toNat b71).op == 9))]) fun G => b0 ?_)); cases h8 : ((c.list.getD s.pc.toNat b71).op == 9)
          ·
           have q8 := ne_of_beq_false h8; refine rF G _ h8 (wp_seq (G9 G e6 (W8 s [(35, ac3 c s), (197, bA ((c.list.getD s.pc.toNat b71).op == 10))]) fun G => b0 ?_)); cases h9 : ((c.list.getD s.pc.toNat b71).op == 10)
           ·
            have q9 := ne_of_beq_false h9; refine rF G _ h9 (wp_seq (G9 G e6 (W8 s [(35, ac3 c s), (218, bA ((c.list.getD s.pc.toNat b71).op == 11))]) fun G => b0 ?_)); cases h10 : ((c.list.getD s.pc.toNat b71).op == 11)
            ·
             have q10 := ne_of_beq_false h10; refine rF G _ h10 (wp_seq (i9 G e6 [0, 1, 2, 3, 4, 5, 6, 8] (P4 s :: .row 3 (D.ints s.regs) :: (D2 c s [I8 s])) ((0, .ptr 0 0) :: (E8 [(8, iA (s.pc + 1)), (229, bA ((c.list.getD s.pc.toNat b71).op == 13))])) fun G => b0 ?_)); cases h11 : ((c.list.getD s.pc.toNat b71).op == 13)
             · have q11 := ne_of_beq_false h11; have hst := bR3 (c := c) (s := s) (show (c.list.getD s.pc.toNat b71).op = 12 by omega); refine rF G _ h11 (wp_skip (i8 (b0 (wp_seq (i9 G e6 (rg 8) (ac4 s :: .row 3 (D.ints s.regs) :: (D2 c s [I8 s])) (E8 []) fun G => b0 (wp_seq (l6 G e6 [(4, .ref 7)] fun G => b0 (wp_ret ?_)))))))); exact J9 G (rg 8) (by show _ = mR (rg 8) (C7 c s E); unfold C7; have e1 : ((i6 c s).pc : Int) = (s.pc + 1) := (by rw [hst.1]); have e2 : ((i6 c s).regs : List Int) = (s.regs) := (by rw [hst.1]); have e3 : ((i6 c s).mem.vals : List Int) = (s.mem.vals) := (by rw [hst.1]); have e4 : ((i6 c s).mem.arrs : List (List Int)) = (s.mem.arrs) := (by rw [hst.1]); rw [e1, e2, e3, e4, ← hE, hst.2] <;> rfl)
             · have q11 := eq_of_beq h11; have hst := bR2 (c := c) (s := s) (show (c.list.getD s.pc.toNat b71).op = 13 by omega); refine rT G _ h11 (l6 G e6 [(8, iA s.pc)] fun G => i8 (b0 (wp_seq (l6 G e6 [] fun G => b0 (wp_seq (l6 G e6 [(4, .ref 7)] fun G => b0 (wp_ret ?_))))))); exact J9 G (rg 8) (by show _ = mR (rg 8) (C7 c s E); unfold C7; have e1 : ((i6 c s).pc : Int) = (s.pc) := (by rw [hst.1]); have e2 : ((i6 c s).regs : List Int) = (s.regs) := (by rw [hst.1]); have e3 : ((i6 c s).mem.vals : List Int) = (s.mem.vals) := (by rw [hst.1]); have e4 : ((i6 c s).mem.arrs : List (List Int)) = (s.mem.arrs) := (by rw [hst.1]); rw [e1, e2, e3, e4, ← hE, hst.2] <;> rfl)
            · have q10 := eq_of_beq h10; have hst := bR4 (c := c) (s := s) (show (c.list.getD s.pc.toNat b71).op = 11 by omega); have hfi := f11 (by omega); refine rT G _ h10 (K6 G e6 [0, 1, 2, 3, 4, 5, 6, 73] (P4 s :: .row 3 (D.ints s.regs) :: (D2 c s [.row 71 (D.events ([(5, s.pc)] ++ [] ++ ([(4, s.regs.getD (c.list.getD s.pc.toNat b71).a.toNat 0)] ++ [])))])) ((0, .ptr 0 0) :: (E8 [(8, iA (s.pc + 1))])) (iX ((c.list.getD s.pc.toNat b71).a) ((c.list.getD s.pc.toNat b71).a.toNat) s.regs.length ((([((5 : Int), s.pc)] ++ []).length + ([((4 : Int), s.regs.getD (c.list.getD s.pc.toNat b71).a.toNat (0 : Int))] ++ []).length ≤ (9223372036854775807 : Nat)) :: (((([((5 : Int), s.pc)] ++ []).length + ([((4 : Int), s.regs.getD (c.list.getD s.pc.toNat b71).a.toNat (0 : Int))] ++ []).length) * (16 : Nat) ≤ (140737488355328 : Nat)) :: []))) (iK (by omega) ⟨(by simp [hc, hs, m4, m5, w3, w4, h0, h1, h2, h3, h4, h5, h6, h7, h8, h9, h10]), ⟨(by simp [hc, hs, m4, m5, w3, w4, h0, h1, h2, h3, h4, h5, h6, h7, h8, h9, h10]), b84⟩⟩) fun G => i8 (b0 (wp_seq (i9 G e6 (rg 8) (ac4 s :: .row 3 (D.ints s.regs) :: (D2 c s [.row 71 (D.events ([(5, s.pc)] ++ [] ++ ([(4, s.regs.getD (c.list.getD s.pc.toNat b71).a.toNat 0)] ++ [])))])) (E8 []) fun G => b0 (wp_seq (l6 G e6 [(4, .ref 7)] fun G => b0 (wp_ret ?_))))))); exact J9 G (rg 8) (by show _ = mR (rg 8) (C7 c s E); unfold C7; have e1 : ((i6 c s).pc : Int) = (s.pc + 1) := (by rw [hst.1]); have e2 : ((i6 c s).regs : List Int) = (s.regs) := (by rw [hst.1]); have e3 : ((i6 c s).mem.vals : List Int) = (s.mem.vals) := (by rw [hst.1]); have e4 : ((i6 c s).mem.arrs : List (List Int)) = (s.mem.arrs) := (by rw [hst.1]); rw [e1, e2, e3, e4, ← hE, hst.2] <;> rfl)
           ·
            have q9 := eq_of_beq h9; have hfi := f10 (by omega); have hv10 : 0 ≤ s.regs.getD (c.list.getD s.pc.toNat b71).a.toNat 0 ∧ s.regs.getD (c.list.getD s.pc.toNat b71).a.toNat 0 ≤ 255 := hrv _; have hgs := bK3 (l := s.regs) (i := (c.list.getD s.pc.toNat b71).a.toNat) (v := (s.regs.getD (c.list.getD s.pc.toNat b71).a.toNat 0 + 255).tmod 256) (by omega); refine rT G _ h9 (wp_seq (H5 G e6 [0, 0, 2, 0, 0, 16, 56, 120, 248, 504, 1023, 2047] (rg 9) (P4 s :: .row 3 (D.ints (aR5 c s)) :: (D2 c s [aR4 c s, I8 s])) (W8 s []) (iX ((c.list.getD s.pc.toNat b71).a) ((c.list.getD s.pc.toNat b71).a.toNat) s.regs.length ((wO (s.regs.getD (c.list.getD s.pc.toNat b71).a.toNat (0 : Int) + 255)) :: (((256 : Int) ≠ 0) :: (iX ((c.list.getD s.pc.toNat b71).a) ((c.list.getD s.pc.toNat b71).a.toNat) s.regs.length [])))) (iK (by omega) ⟨oW (by omega), ⟨(by omega), (iK (by omega) b84)⟩⟩) fun G => b0 (wp_seq (D0 G e6 [(215, bA ((aR5 c s).getD (c.list.getD s.pc.toNat b71).a.toNat 0 != 0))] (iX ((c.list.getD s.pc.toNat b71).a) ((c.list.getD s.pc.toNat b71).a.toNat) ((s.regs.set (c.list.getD s.pc.toNat b71).a.toNat ((s.regs.getD (c.list.getD s.pc.toNat b71).a.toNat (0 : Int) + 255).tmod (256 : Int))).length) []) (iK (by rw [b95]; omega) b84) fun G => b0 (rcN (u := ((s.regs.set (c.list.getD s.pc.toNat b71).a.toNat ((s.regs.getD (c.list.getD s.pc.toNat b71).a.toNat (0 : Int) + 255).tmod (256 : Int))).getD (c.list.getD s.pc.toNat b71).a.toNat (0 : Int))) (v := (0 : Int)) G (fun h12 q12 => ?_) fun h12 q12 => ?_)))))
            · refine wp_skip (i8 (b0 (wp_seq (i9 G e6 [0, 1, 2, 3, 4, 5, 6, 8] (ac4 s :: .row 3 (D.ints (aR5 c s)) :: (D2 c s [I8 s])) (E8 []) fun G => b0 (wp_seq (l6 G e6 [(4, .ref 7)] fun G => b0 (wp_ret ?_))))))); exact J9 G (rg 8) (by show _ = mR (rg 8) (C7 c s E); unfold C7; have e1 : ((i6 c s).pc : Int) = (s.pc + 1) := (by rw [(aw3 (by omega) (by omega)).1]); have e2 : ((i6 c s).regs : List Int) = (s.regs.set (c.list.getD s.pc.toNat b71).a.toNat ((s.regs.getD (c.list.getD s.pc.toNat b71).a.toNat 0 + 255).tmod 256)) := (by rw [(aw3 (by omega) (by omega)).1]); have e3 : ((i6 c s).mem.vals : List Int) = (s.mem.vals) := (by rw [(aw3 (by omega) (by omega)).1]); have e4 : ((i6 c s).mem.arrs : List (List Int)) = (s.mem.arrs) := (by rw [(aw3 (by omega) (by omega)).1]); rw [e1, e2, e3, e4, ← hE, (aw3 (by omega) (by omega)).2] <;> rfl)
            · refine i9 G e6 [0, 1, 2, 3, 4, 5, 6, 8] (P4 s :: .row 3 (D.ints (aR5 c s)) :: (D2 c s [I8 s])) ((0, .ptr 0 0) :: (E8 [(8, iA (c.list.getD s.pc.toNat b71).b)])) fun G => i8 (b0 (wp_seq (i9 G e6 (rg 8) (.box [iA (c.list.getD s.pc.toNat b71).b, .ref 1, .ref 2, .tref 3] :: .row 3 (D.ints (aR5 c s)) :: (D2 c s [I8 s])) (E8 []) fun G => b0 (wp_seq (l6 G e6 [(4, .ref 7)] fun G => b0 (wp_ret ?_)))))); exact J9 G (rg 8) (by show _ = mR (rg 8) (C7 c s E); unfold C7; have e1 : ((i6 c s).pc : Int) = ((c.list.getD s.pc.toNat b71).b) := (by rw [(aw2 (by omega) (by omega)).1]); have e2 : ((i6 c s).regs : List Int) = (s.regs.set (c.list.getD s.pc.toNat b71).a.toNat ((s.regs.getD (c.list.getD s.pc.toNat b71).a.toNat 0 + 255).tmod 256)) := (by rw [(aw2 (by omega) (by omega)).1]); have e3 : ((i6 c s).mem.vals : List Int) = (s.mem.vals) := (by rw [(aw2 (by omega) (by omega)).1]); have e4 : ((i6 c s).mem.arrs : List (List Int)) = (s.mem.arrs) := (by rw [(aw2 (by omega) (by omega)).1]); rw [e1, e2, e3, e4, ← hE, (aw2 (by omega) (by omega)).2] <;> rfl)
          ·
           have q8 := eq_of_beq h8; have hfi := f9 (by omega); refine rT G _ h8 (wp_seq (D0 G e6 [(194, bA (s.regs.getD (c.list.getD s.pc.toNat b71).a.toNat 0 == 0))] (iX ((c.list.getD s.pc.toNat b71).a) ((c.list.getD s.pc.toNat b71).a.toNat) s.regs.length []) (iK (by omega) b84) fun G => b0 (P0 G (fun h13 q13 => ?_) fun h13 q13 => ?_)))
           · refine wp_skip (i8 (b0 (wp_seq (i9 G e6 [0, 1, 2, 3, 4, 5, 6, 8] (ac4 s :: .row 3 (D.ints s.regs) :: (D2 c s [I8 s])) (E8 []) fun G => b0 (wp_seq (l6 G e6 [(4, .ref 7)] fun G => b0 (wp_ret ?_))))))); exact J9 G (rg 8) (by show _ = mR (rg 8) (C7 c s E); unfold C7; have e1 : ((i6 c s).pc : Int) = (s.pc + 1) := (by rw [(aQ5 (by omega) (by omega)).1]); have e2 : ((i6 c s).regs : List Int) = (s.regs) := (by rw [(aQ5 (by omega) (by omega)).1]); have e3 : ((i6 c s).mem.vals : List Int) = (s.mem.vals) := (by rw [(aQ5 (by omega) (by omega)).1]); have e4 : ((i6 c s).mem.arrs : List (List Int)) = (s.mem.arrs) := (by rw [(aQ5 (by omega) (by omega)).1]); rw [e1, e2, e3, e4, ← hE, (aQ5 (by omega) (by omega)).2] <;> rfl)
           · refine i9 G e6 [0, 1, 2, 3, 4, 5, 6, 8] (P4 s :: .row 3 (D.ints s.regs) :: (D2 c s [I8 s])) ((0, .ptr 0 0) :: (E8 [(8, iA (c.list.getD s.pc.toNat b71).b)])) fun G => i8 (b0 (wp_seq (i9 G e6 (rg 8) (.box [iA (c.list.getD s.pc.toNat b71).b, .ref 1, .ref 2, .tref 3] :: .row 3 (D.ints s.regs) :: (D2 c s [I8 s])) (E8 []) fun G => b0 (wp_seq (l6 G e6 [(4, .ref 7)] fun G => b0 (wp_ret ?_)))))); exact J9 G (rg 8) (by show _ = mR (rg 8) (C7 c s E); unfold C7; have e1 : ((i6 c s).pc : Int) = ((c.list.getD s.pc.toNat b71).b) := (by rw [(aQ4 (by omega) (by omega)).1]); have e2 : ((i6 c s).regs : List Int) = (s.regs) := (by rw [(aQ4 (by omega) (by omega)).1]); have e3 : ((i6 c s).mem.vals : List Int) = (s.mem.vals) := (by rw [(aQ4 (by omega) (by omega)).1]); have e4 : ((i6 c s).mem.arrs : List (List Int)) = (s.mem.arrs) := (by rw [(aQ4 (by omega) (by omega)).1]); rw [e1, e2, e3, e4, ← hE, (aQ4 (by omega) (by omega)).2] <;> rfl)
         · have q7 := eq_of_beq h7; have hst := b04 (c := c) (s := s) (show (c.list.getD s.pc.toNat b71).op = 8 by omega); refine rT G _ h7 (i9 G e6 [0, 1, 2, 3, 4, 5, 6, 8] (P4 s :: .row 3 (D.ints s.regs) :: (D2 c s [I8 s])) ((0, .ptr 0 0) :: (E8 [(8, iA (c.list.getD s.pc.toNat b71).a)])) fun G => i8 (b0 (wp_seq (i9 G e6 (rg 8) (.box [iA (c.list.getD s.pc.toNat b71).a, .ref 1, .ref 2, .tref 3] :: .row 3 (D.ints s.regs) :: (D2 c s [I8 s])) (E8 []) fun G => b0 (wp_seq (l6 G e6 [(4, .ref 7)] fun G => b0 (wp_ret ?_))))))); exact J9 G (rg 8) (by show _ = mR (rg 8) (C7 c s E); unfold C7; have e1 : ((i6 c s).pc : Int) = ((c.list.getD s.pc.toNat b71).a) := (by rw [hst.1]); have e2 : ((i6 c s).regs : List Int) = (s.regs) := (by rw [hst.1]); have e3 : ((i6 c s).mem.vals : List Int) = (s.mem.vals) := (by rw [hst.1]); have e4 : ((i6 c s).mem.arrs : List (List Int)) = (s.mem.arrs) := (by rw [hst.1]); rw [e1, e2, e3, e4, ← hE, hst.2] <;> rfl)
        ·
         have q6 := eq_of_beq h6; have hfi := f7 (by omega); refine rT G _ h6 (wp_seq (D0 G e6 [(164, bA (s.regs.getD (c.list.getD s.pc.toNat b71).b.toNat 0 != 0))] (iX ((c.list.getD s.pc.toNat b71).b) ((c.list.getD s.pc.toNat b71).b.toNat) s.regs.length []) (iK (by omega) b84) fun G => b0 (rcN G (fun h14 q14 => ?_) fun h14 q14 => ?_)))
         · refine H5 G e6 [0, 0, 2, 0, 0, 16, 56, 120, 255, 511] [0, 1, 2, 3, 4, 5, 6, 8] (P4 s :: .row 3 (D.ints (s.regs.set (c.list.getD s.pc.toNat b71).a.toNat (s.regs.getD (c.list.getD s.pc.toNat b71).d.toNat 0))) :: (D2 c s [I8 s])) ((0, .ptr 0 0) :: (E8 [(8, iA (s.pc + 1))])) (iX ((c.list.getD s.pc.toNat b71).d) ((c.list.getD s.pc.toNat b71).d.toNat) s.regs.length (iX ((c.list.getD s.pc.toNat b71).a) ((c.list.getD s.pc.toNat b71).a.toNat) s.regs.length [])) (iK (by omega) (iK (by omega) b84)) fun G => i8 (b0 (wp_seq (i9 G e6 (rg 8) (ac4 s :: .row 3 (D.ints (s.regs.set (c.list.getD s.pc.toNat b71).a.toNat (s.regs.getD (c.list.getD s.pc.toNat b71).d.toNat 0))) :: (D2 c s [I8 s])) (E8 []) fun G => b0 (wp_seq (l6 G e6 [(4, .ref 7)] fun G => b0 (wp_ret ?_)))))); exact J9 G (rg 8) (by show _ = mR (rg 8) (C7 c s E); unfold C7; have e1 : ((i6 c s).pc : Int) = (s.pc + 1) := (by rw [(aQ7 (by omega) (by omega)).1]); have e2 : ((i6 c s).regs : List Int) = (s.regs.set (c.list.getD s.pc.toNat b71).a.toNat (s.regs.getD (c.list.getD s.pc.toNat b71).d.toNat 0)) := (by rw [(aQ7 (by omega) (by omega)).1]); have e3 : ((i6 c s).mem.vals : List Int) = (s.mem.vals) := (by rw [(aQ7 (by omega) (by omega)).1]); have e4 : ((i6 c s).mem.arrs : List (List Int)) = (s.mem.arrs) := (by rw [(aQ7 (by omega) (by omega)).1]); rw [e1, e2, e3, e4, ← hE, (aQ7 (by omega) (by omega)).2] <;> rfl)
         · refine H5 G e6 [0, 0, 2, 0, 0, 16, 56, 120, 255, 511] [0, 1, 2, 3, 4, 5, 6, 8] (P4 s :: .row 3 (D.ints (s.regs.set (c.list.getD s.pc.toNat b71).a.toNat (al1 c s))) :: (D2 c s [I8 s])) ((0, .ptr 0 0) :: (E8 [(8, iA (s.pc + 1))])) (iX ((c.list.getD s.pc.toNat b71).c) ((c.list.getD s.pc.toNat b71).c.toNat) s.regs.length (iX ((c.list.getD s.pc.toNat b71).a) ((c.list.getD s.pc.toNat b71).a.toNat) s.regs.length [])) (iK (by omega) (iK (by omega) b84)) fun G => i8 (b0 (wp_seq (i9 G e6 (rg 8) (ac4 s :: .row 3 (D.ints (s.regs.set (c.list.getD s.pc.toNat b71).a.toNat (al1 c s))) :: (D2 c s [I8 s])) (E8 []) fun G => b0 (wp_seq (l6 G e6 [(4, .ref 7)] fun G => b0 (wp_ret ?_)))))); exact J9 G (rg 8) (by show _ = mR (rg 8) (C7 c s E); unfold C7; have e1 : ((i6 c s).pc : Int) = (s.pc + 1) := (by rw [(aQ6 (by omega) (by omega)).1]); have e2 : ((i6 c s).regs : List Int) = (s.regs.set (c.list.getD s.pc.toNat b71).a.toNat (s.regs.getD (c.list.getD s.pc.toNat b71).c.toNat 0)) := (by rw [(aQ6 (by omega) (by omega)).1]); have e3 : ((i6 c s).mem.vals : List Int) = (s.mem.vals) := (by rw [(aQ6 (by omega) (by omega)).1]); have e4 : ((i6 c s).mem.arrs : List (List Int)) = (s.mem.arrs) := (by rw [(aQ6 (by omega) (by omega)).1]); rw [e1, e2, e3, e4, ← hE, (aQ6 (by omega) (by omega)).2] <;> rfl)
       · have q5 := eq_of_beq h5; have hst := b05 (c := c) (s := s) (show (c.list.getD s.pc.toNat b71).op = 6 by omega); have hfi := f6 (by omega); refine rT G _ h5 (H5 G (v5 15 [] (bj4 ((c.list.getD s.pc.toNat b71).b) (s.regs.getD (c.list.getD s.pc.toNat b71).c.toNat 0) (s.regs.getD (c.list.getD s.pc.toNat b71).d.toNat 0) (hrv _) (hrv _))) [0, 0, 2, 0, 8, 0, 0, 64, 224, 480, 0, 0, 2048, 7168, 15360, 32760, 65535, 131071] [0, 1, 2, 3, 4, 5, 6, 8] (P4 s :: bH5 c s :: (D2 c s [I8 s])) ((0, .ptr 0 0) :: (E8 [(8, iA (s.pc + 1))])) (iX ((c.list.getD s.pc.toNat b71).c) ((c.list.getD s.pc.toNat b71).c.toNat) s.regs.length (iX ((c.list.getD s.pc.toNat b71).d) ((c.list.getD s.pc.toNat b71).d.toNat) s.regs.length (iX ((c.list.getD s.pc.toNat b71).a) ((c.list.getD s.pc.toNat b71).a.toNat) s.regs.length []))) (iK (by omega) (iK (by omega) (iK (by omega) b84))) fun G => i8 (b0 (wp_seq (i9 G e6 (rg 8) (ac4 s :: bH5 c s :: (D2 c s [I8 s])) (E8 []) fun G => b0 (wp_seq (l6 G e6 [(4, .ref 7)] fun G => b0 (wp_ret ?_))))))); exact J9 G (rg 8) (by show _ = mR (rg 8) (C7 c s E); unfold C7; have e1 : ((i6 c s).pc : Int) = (s.pc + 1) := (by rw [hst.1]); have e2 : ((i6 c s).regs : List Int) = (s.regs.set (c.list.getD s.pc.toNat b71).a.toNat (J5 (c.list.getD s.pc.toNat b71).b (s.regs.getD (c.list.getD s.pc.toNat b71).c.toNat 0) (s.regs.getD (c.list.getD s.pc.toNat b71).d.toNat 0))) := (by rw [hst.1]); have e3 : ((i6 c s).mem.vals : List Int) = (s.mem.vals) := (by rw [hst.1]); have e4 : ((i6 c s).mem.arrs : List (List Int)) = (s.mem.arrs) := (by rw [hst.1]); rw [e1, e2, e3, e4, ← hE, hst.2] <;> rfl)
      ·
       have q4 := eq_of_beq h4; have hst := b06 (c := c) (s := s) (show (c.list.getD s.pc.toNat b71).op = 5 by omega); have hfi := f5 (by omega); have hr4 := bT8 m5 (i := (c.list.getD s.pc.toNat b71).a) (by omega) (by omega); have htm := tmV (hrv (c.list.getD s.pc.toNat b71).b.toNat); refine rT G _ h4 (wp_seq (D0 G e6 [(10, iA (aw8 c s))] (iX ((c.list.getD s.pc.toNat b71).b) ((c.list.getD s.pc.toNat b71).b.toNat) s.regs.length []) (iK (by omega) b84) fun G => b0 (wp_seq (K6 G (v5 4 [] (aJ5 ((c.list.getD s.pc.toNat b71).a) (s.regs.getD (c.list.getD s.pc.toNat b71).b.toNat 0) (by omega) (hrv _))) [0, 1, 2, 3, 4, 5, 6, 7, 65] (P4 s :: .row 3 (D.ints s.regs) :: (D2 c s [aR4 c s, .row 71 (D.events ([(5, s.pc)] ++ [] ++ ([(3, (c.list.getD s.pc.toNat b71).a * 4 + (aw8 c s).tmod 4)] ++ [])))])) (W8 s [(10, iA (aw8 c s))]) [([((5 : Int), s.pc)] ++ []).length + ([((3 : Int), (c.list.getD s.pc.toNat b71).a * 4 + (s.regs.getD (c.list.getD s.pc.toNat b71).b.toNat (0 : Int)).tmod (4 : Int))] ++ []).length ≤ (9223372036854775807 : Nat), (([((5 : Int), s.pc)] ++ []).length + ([((3 : Int), (c.list.getD s.pc.toNat b71).a * 4 + (s.regs.getD (c.list.getD s.pc.toNat b71).b.toNat (0 : Int)).tmod (4 : Int))] ++ []).length) * (16 : Nat) ≤ (140737488355328 : Nat)] ⟨(by simp [hc, hs, m4, m5, w3, w4, h0, h1, h2, h3, h4]), (by simp [hc, hs, m4, m5, w3, w4, h0, h1, h2, h3, h4]), b84⟩ fun G => b0 (H5 G e6 [0, 1, 3, 7, 15, 0, 32, 127, 255, 0, 512, 0, 0, 4096, 14336, 30720, 65535, 131071] [0, 1, 2, 3, 4, 5, 6, 8, 73] [.box [iA s.pc, .ref 1, .ref 2, .tref 3], .row 3 (D.ints s.regs), .row 3 (D.ints s.mem.vals), .hole 8 (c.list.getD s.pc.toNat b71).a.toNat s.mem.arrs, dI c.vars, dI c.arrays, dN c.list, .row 71 (D.events ([(5, s.pc)] ++ [] ++ ([(3, (c.list.getD s.pc.toNat b71).a * 4 + (s.regs.getD (c.list.getD s.pc.toNat b71).b.toNat 0).tmod 4)] ++ []))), .row 3 (D.ints ((s.mem.arrs.getD (c.list.getD s.pc.toNat b71).a.toNat []).set ((s.regs.getD (c.list.getD s.pc.toNat b71).b.toNat 0).tmod 4).toNat (s.regs.getD (c.list.getD s.pc.toNat b71).c.toNat 0)))] ((0, .ptr 0 0) :: (E8 [(8, iA (s.pc + 1))])) (iX ((c.list.getD s.pc.toNat b71).a) ((c.list.getD s.pc.toNat b71).a.toNat) s.mem.arrs.length (((4 : Int) ≠ 0) :: (iX ((c.list.getD s.pc.toNat b71).c) ((c.list.getD s.pc.toNat b71).c.toNat) s.regs.length (iX ((s.regs.getD (c.list.getD s.pc.toNat b71).b.toNat (0 : Int)).tmod (4 : Int)) (((s.regs.getD (c.list.getD s.pc.toNat b71).b.toNat (0 : Int)).tmod (4 : Int)).toNat) ((s.mem.arrs.getD (c.list.getD s.pc.toNat b71).a.toNat []).length) [])))) (iK (by omega) ⟨(by omega), (iK (by omega) (iK (by omega) b84))⟩) fun G => ?_))))); replace G := G.heal 3 8 ((c.list.getD s.pc.toNat b71).a.toNat) s.mem.arrs ((s.mem.arrs.getD (c.list.getD s.pc.toNat b71).a.toNat []).set ((s.regs.getD (c.list.getD s.pc.toNat b71).b.toNat 0).tmod 4).toNat (s.regs.getD (c.list.getD s.pc.toNat b71).c.toNat 0)) [.box [iA s.pc, .ref 1, .ref 2, .tref 3], .row 3 (D.ints s.regs), .row 3 (D.ints s.mem.vals), .tree (D.rows (s.mem.arrs.set (c.list.getD s.pc.toNat b71).a.toNat ((s.mem.arrs.getD (c.list.getD s.pc.toNat b71).a.toNat []).set ((s.regs.getD (c.list.getD s.pc.toNat b71).b.toNat 0).tmod 4).toNat (s.regs.getD (c.list.getD s.pc.toNat b71).c.toNat 0)))), dI c.vars, dI c.arrays, dN c.list, .row 71 (D.events ([(5, s.pc)] ++ [] ++ ([(3, (c.list.getD s.pc.toNat b71).a * 4 + (s.regs.getD (c.list.getD s.pc.toNat b71).b.toNat 0).tmod 4)] ++ []))), .dead]
       refine i8 (b0 (wp_seq (i9 G e6 (rg 8) [ac4 s, .row 3 (D.ints s.regs), .row 3 (D.ints s.mem.vals), .tree (D.rows (s.mem.arrs.set (c.list.getD s.pc.toNat b71).a.toNat ((s.mem.arrs.getD (c.list.getD s.pc.toNat b71).a.toNat []).set ((aw8 c s).tmod 4).toNat (al1 c s)))), dI c.vars, dI c.arrays, dN c.list, .row 71 (D.events ([(5, s.pc)] ++ [] ++ ([(3, (c.list.getD s.pc.toNat b71).a * 4 + (aw8 c s).tmod 4)] ++ [])))] (E8 []) fun G => b0 (wp_seq (l6 G e6 [(4, .ref 7)] fun G => b0 (wp_ret ?_)))))); exact J9 G (rg 8) (by show _ = mR (rg 8) (C7 c s E); unfold C7; have e1 : ((i6 c s).pc : Int) = (s.pc + 1) := (by rw [hst.1]); have e2 : ((i6 c s).regs : List Int) = (s.regs) := (by rw [hst.1]); have e3 : ((i6 c s).mem.vals : List Int) = (s.mem.vals) := (by rw [hst.1]); have e4 : ((i6 c s).mem.arrs : List (List Int)) = (s.mem.arrs.set (c.list.getD s.pc.toNat b71).a.toNat ((s.mem.arrs.getD (c.list.getD s.pc.toNat b71).a.toNat []).set ((s.regs.getD (c.list.getD s.pc.toNat b71).b.toNat 0).tmod 4).toNat (s.regs.getD (c.list.getD s.pc.toNat b71).c.toNat 0))) := (by rw [hst.1]); rw [e1, e2, e3, e4, ← hE, hst.2] <;> rfl)
     ·
      have q3 := eq_of_beq h3; have hst := b07 (c := c) (s := s) (show (c.list.getD s.pc.toNat b71).op = 4 by omega); have hfi := f4 (by omega); have hr4 := bT8 m5 (i := (c.list.getD s.pc.toNat b71).b) (by omega) (by omega); have htm := tmV (hrv (c.list.getD s.pc.toNat b71).c.toNat); refine rT G _ h3 (wp_seq (D0 G e6 [(9, iA (al1 c s))] (iX ((c.list.getD s.pc.toNat b71).c) ((c.list.getD s.pc.toNat b71).c.toNat) s.regs.length []) (iK (by omega) b84) fun G => b0 (wp_seq (K6 G (v5 4 [] (aJ5 ((c.list.getD s.pc.toNat b71).b) (s.regs.getD (c.list.getD s.pc.toNat b71).c.toNat 0) (by omega) (hrv _))) [0, 1, 2, 3, 4, 5, 6, 7, 65] (P4 s :: .row 3 (D.ints s.regs) :: (D2 c s [aR4 c s, .row 71 (D.events ([(5, s.pc)] ++ [] ++ ([(2, (c.list.getD s.pc.toNat b71).b * 4 + (al1 c s).tmod 4)] ++ [])))])) (W8 s [(9, iA (al1 c s))]) [([((5 : Int), s.pc)] ++ []).length + ([((2 : Int), (c.list.getD s.pc.toNat b71).b * 4 + (s.regs.getD (c.list.getD s.pc.toNat b71).c.toNat (0 : Int)).tmod (4 : Int))] ++ []).length ≤ (9223372036854775807 : Nat), (([((5 : Int), s.pc)] ++ []).length + ([((2 : Int), (c.list.getD s.pc.toNat b71).b * 4 + (s.regs.getD (c.list.getD s.pc.toNat b71).c.toNat (0 : Int)).tmod (4 : Int))] ++ []).length) * (16 : Nat) ≤ (140737488355328 : Nat)] ⟨(by simp [hc, hs, m4, m5, w3, w4, h0, h1, h2, h3]), (by simp [hc, hs, m4, m5, w3, w4, h0, h1, h2, h3]), b84⟩ fun G => b0 (H5 G e6 [0, 0, 2, 0, 8, 24, 56, 120, 0, 256, 1016, 2040, 0, 4096, 16376, 32760, 65535, 131071] [0, 1, 2, 3, 4, 5, 6, 8, 97] [.box [iA s.pc, .ref 1, .ref 2, .tref 3], .row 3 (D.ints (s.regs.set (c.list.getD s.pc.toNat b71).a.toNat ((s.mem.arrs.getD (c.list.getD s.pc.toNat b71).b.toNat []).getD ((s.regs.getD (c.list.getD s.pc.toNat b71).c.toNat 0).tmod 4).toNat 0))), .row 3 (D.ints s.mem.vals), .hole 8 (c.list.getD s.pc.toNat b71).b.toNat s.mem.arrs, dI c.vars, dI c.arrays, dN c.list, .row 71 (D.events ([(5, s.pc)] ++ [] ++ ([(2, (c.list.getD s.pc.toNat b71).b * 4 + (s.regs.getD (c.list.getD s.pc.toNat b71).c.toNat 0).tmod 4)] ++ []))), .row 3 (D.ints (s.mem.arrs.getD (c.list.getD s.pc.toNat b71).b.toNat []))] ((0, .ptr 0 0) :: (E8 [(8, iA (s.pc + 1))])) (iX ((c.list.getD s.pc.toNat b71).b) ((c.list.getD s.pc.toNat b71).b.toNat) s.mem.arrs.length (((4 : Int) ≠ 0) :: (iX ((s.regs.getD (c.list.getD s.pc.toNat b71).c.toNat (0 : Int)).tmod (4 : Int)) (((s.regs.getD (c.list.getD s.pc.toNat b71).c.toNat (0 : Int)).tmod (4 : Int)).toNat) ((s.mem.arrs.getD (c.list.getD s.pc.toNat b71).b.toNat []).length) (iX ((c.list.getD s.pc.toNat b71).a) ((c.list.getD s.pc.toNat b71).a.toNat) s.regs.length [])))) (iK (by omega) ⟨(by omega), (iK (by omega) (iK (by omega) b84))⟩) fun G => ?_))))); replace G := G.heal0 3 8 ((c.list.getD s.pc.toNat b71).b.toNat) s.mem.arrs (.box [iA s.pc, .ref 1, .ref 2, .tref 3] :: .row 3 (D.ints (s.regs.set (c.list.getD s.pc.toNat b71).a.toNat ((s.mem.arrs.getD (c.list.getD s.pc.toNat b71).b.toNat []).getD ((s.regs.getD (c.list.getD s.pc.toNat b71).c.toNat 0).tmod 4).toNat 0))) :: (D2 c s [.row 71 (D.events ([(5, s.pc)] ++ [] ++ ([(2, (c.list.getD s.pc.toNat b71).b * 4 + (s.regs.getD (c.list.getD s.pc.toNat b71).c.toNat 0).tmod 4)] ++ []))), .dead]))
      refine i8 (b0 (wp_seq (i9 G e6 (rg 8) (ac4 s :: .row 3 (D.ints (s.regs.set (c.list.getD s.pc.toNat b71).a.toNat ((s.mem.arrs.getD (c.list.getD s.pc.toNat b71).b.toNat []).getD ((al1 c s).tmod 4).toNat 0))) :: (D2 c s [.row 71 (D.events ([(5, s.pc)] ++ [] ++ ([(2, (c.list.getD s.pc.toNat b71).b * 4 + (al1 c s).tmod 4)] ++ [])))])) (E8 []) fun G => b0 (wp_seq (l6 G e6 [(4, .ref 7)] fun G => b0 (wp_ret ?_)))))); exact J9 G (rg 8) (by show _ = mR (rg 8) (C7 c s E); unfold C7; have e1 : ((i6 c s).pc : Int) = (s.pc + 1) := (by rw [hst.1]); have e2 : ((i6 c s).regs : List Int) = (s.regs.set (c.list.getD s.pc.toNat b71).a.toNat ((s.mem.arrs.getD (c.list.getD s.pc.toNat b71).b.toNat []).getD ((s.regs.getD (c.list.getD s.pc.toNat b71).c.toNat 0).tmod 4).toNat 0)) := (by rw [hst.1]); have e3 : ((i6 c s).mem.vals : List Int) = (s.mem.vals) := (by rw [hst.1]); have e4 : ((i6 c s).mem.arrs : List (List Int)) = (s.mem.arrs) := (by rw [hst.1]); rw [e1, e2, e3, e4, ← hE, hst.2] <;> rfl)
    · have q2 := eq_of_beq h2; have hst := b08 (c := c) (s := s) (show (c.list.getD s.pc.toNat b71).op = 3 by omega); have hfi := f3 (by omega); refine rT G _ h2 (H5 G e6 [0, 1, 3, 7, 15, 0, 32, 0, 0, 256, 896, 1920, 4095, 8191] [0, 1, 2, 3, 4, 5, 6, 8] [P4 s, .row 3 (D.ints s.regs), .row 3 (D.ints (s.mem.vals.set (c.list.getD s.pc.toNat b71).a.toNat (aw8 c s))), .tree (D.rows s.mem.arrs), dI c.vars, dI c.arrays, dN c.list, I8 s] ((0, .ptr 0 0) :: (E8 [(8, iA (s.pc + 1))])) (iX ((c.list.getD s.pc.toNat b71).b) ((c.list.getD s.pc.toNat b71).b.toNat) s.regs.length (iX ((c.list.getD s.pc.toNat b71).a) ((c.list.getD s.pc.toNat b71).a.toNat) s.mem.vals.length [])) (iK (by omega) (iK (by omega) b84)) fun G => i8 (b0 (wp_seq (i9 G e6 (rg 8) [ac4 s, .row 3 (D.ints s.regs), .row 3 (D.ints (s.mem.vals.set (c.list.getD s.pc.toNat b71).a.toNat (aw8 c s))), .tree (D.rows s.mem.arrs), dI c.vars, dI c.arrays, dN c.list, I8 s] (E8 []) fun G => b0 (wp_seq (l6 G e6 [(4, .ref 7)] fun G => b0 (wp_ret ?_))))))); exact J9 G (rg 8) (by show _ = mR (rg 8) (C7 c s E); unfold C7; have e1 : ((i6 c s).pc : Int) = (s.pc + 1) := (by rw [hst.1]); have e2 : ((i6 c s).regs : List Int) = (s.regs) := (by rw [hst.1]); have e3 : ((i6 c s).mem.vals : List Int) = (s.mem.vals.set (c.list.getD s.pc.toNat b71).a.toNat (s.regs.getD (c.list.getD s.pc.toNat b71).b.toNat 0)) := (by rw [hst.1]); have e4 : ((i6 c s).mem.arrs : List (List Int)) = (s.mem.arrs) := (by rw [hst.1]); rw [e1, e2, e3, e4, ← hE, hst.2] <;> rfl)
   · have q1 := eq_of_beq h1; have hst := b09 (c := c) (s := s) (show (c.list.getD s.pc.toNat b71).op = 2 by omega); have hfi := f2 (by omega); refine rT G _ h1 (H5 G e6 [0, 0, 2, 0, 8, 24, 56, 120, 0, 256, 1016, 2040, 4095, 8191] [0, 1, 2, 3, 4, 5, 6, 8] (P4 s :: .row 3 (D.ints (s.regs.set (c.list.getD s.pc.toNat b71).a.toNat (s.mem.vals.getD (c.list.getD s.pc.toNat b71).b.toNat 0))) :: (D2 c s [I8 s])) ((0, .ptr 0 0) :: (E8 [(8, iA (s.pc + 1))])) (iX ((c.list.getD s.pc.toNat b71).b) ((c.list.getD s.pc.toNat b71).b.toNat) s.mem.vals.length (iX ((c.list.getD s.pc.toNat b71).a) ((c.list.getD s.pc.toNat b71).a.toNat) s.regs.length [])) (iK (by omega) (iK (by omega) b84)) fun G => i8 (b0 (wp_seq (i9 G e6 (rg 8) (ac4 s :: .row 3 (D.ints (s.regs.set (c.list.getD s.pc.toNat b71).a.toNat (s.mem.vals.getD (c.list.getD s.pc.toNat b71).b.toNat 0))) :: (D2 c s [I8 s])) (E8 []) fun G => b0 (wp_seq (l6 G e6 [(4, .ref 7)] fun G => b0 (wp_ret ?_))))))); exact J9 G (rg 8) (by show _ = mR (rg 8) (C7 c s E); unfold C7; have e1 : ((i6 c s).pc : Int) = (s.pc + 1) := (by rw [hst.1]); have e2 : ((i6 c s).regs : List Int) = (s.regs.set (c.list.getD s.pc.toNat b71).a.toNat (s.mem.vals.getD (c.list.getD s.pc.toNat b71).b.toNat 0)) := (by rw [hst.1]); have e3 : ((i6 c s).mem.vals : List Int) = (s.mem.vals) := (by rw [hst.1]); have e4 : ((i6 c s).mem.arrs : List (List Int)) = (s.mem.arrs) := (by rw [hst.1]); rw [e1, e2, e3, e4, ← hE, hst.2] <;> rfl)
  · have q0 := eq_of_beq h0; have hst := b10 (c := c) (s := s) (show (c.list.getD s.pc.toNat b71).op = 1 by omega); have hfi := f1 (by omega); refine rT G _ h0 (K6 G e6 [0, 1, 2, 3, 4, 5, 6, 8] (P4 s :: .row 3 (D.ints (s.regs.set (c.list.getD s.pc.toNat b71).a.toNat (c.list.getD s.pc.toNat b71).b)) :: (D2 c s [I8 s])) ((0, .ptr 0 0) :: (E8 [(8, iA (s.pc + 1))])) (iX ((c.list.getD s.pc.toNat b71).a) ((c.list.getD s.pc.toNat b71).a.toNat) s.regs.length []) (iK (by omega) b84) fun G => i8 (b0 (wp_seq (i9 G e6 (rg 8) (ac4 s :: .row 3 (D.ints (s.regs.set (c.list.getD s.pc.toNat b71).a.toNat (c.list.getD s.pc.toNat b71).b)) :: (D2 c s [I8 s])) (E8 []) fun G => b0 (wp_seq (l6 G e6 [(4, .ref 7)] fun G => b0 (wp_ret ?_))))))); exact J9 G (rg 8) (by show _ = mR (rg 8) (C7 c s E); unfold C7; have e1 : ((i6 c s).pc : Int) = (s.pc + 1) := (by rw [hst.1]); have e2 : ((i6 c s).regs : List Int) = (s.regs.set (c.list.getD s.pc.toNat b71).a.toNat (c.list.getD s.pc.toNat b71).b) := (by rw [hst.1]); have e3 : ((i6 c s).mem.vals : List Int) = (s.mem.vals) := (by rw [hst.1]); have e4 : ((i6 c s).mem.arrs : List (List Int)) = (s.mem.arrs) := (by rw [hst.1]); rw [e1, e2, e3, e4, ← hE, hst.2] <;> rfl)
theorem bQ2 (c : b6) (s : s6) (hc : i5 c = true) (hs : P6 c s = true) : l0.ok Tryz.prog ⟨84, [.ptr 0 0, pA 4], stI s ++ kcS c, stI (i6 c s) ++ kcS c ++ [.row 71 (.events (D9 c s))], .ref 7⟩ := bL6 c s hc hs _ rfl
theorem bK1 (c : b6) : l0.ok Tryz.prog (Z1 12 [pA 0] (kcS c) (bA (i5 c))) :=
 aj8 fun φ w ρ h => (V8 _ c w ⟨ρ 0, ρ 1, ρ 2, rfl, m6.row (h 0 _ rfl), m6.row (h 1 _ rfl), m6.row (h 2 _ rfl)⟩).mono fun e w' h => h
abbrev smO (s : s6) : List It := [.row 3 (.ints s.regs), .row 3 (.ints s.mem.vals), .tree (.rows s.mem.arrs)]
theorem bx2 (c : b6) (m : v7) : l0.ok Tryz.prog (Z1 82 [.ref 0, .ref 1, mA 2] [dI c.vars, dI c.arrays, dI m.vals, dR m.arrs] (bA (I6 c.vars.length c.arrays.length m))) := a83 c.vars c.arrays m.vals m.arrs
structure Pub (vs ars : List Int) (a b : v7) : Prop where
 v : ∀ i : Nat, zB 1 (vs.getD i 0) = false → a.vals.getD i 0 = b.vals.getD i 0
 a : ∀ i : Nat, zB 1 (ars.getD i 0) = false → a.arrs.getD i [] = b.arrs.getD i []
theorem bL5 (b : List UInt8) {bit : Int} (p : j9) (m : v7) {j : Int} (hv : m.vals.length = p.vars.length) (ha : m.arrs.length = p.arrays.length) (h1 : F5 m.vals = true) (h2 : m.arrs.all R7 = true) (r0 : 0 ≤ j) (r1 : j + m.vals.length + 4 * m.arrs.length ≤ 1000000000) : I6 p.vars.length p.arrays.length (scM b bit p m j).1 = true := by
 have a1 := aH7 b bit p.vars j m.vals m.vals.length
 have a2 := ay3 b bit p.arrays (A4 b bit p.vars j m.vals m.vals.length).2 m.arrs m.arrs.length
 unfold I6 scM
 dsimp only
 rw [aL9 b bit p.vars m.vals h1 r0 _ (by omega), bb6 b bit p.arrays m.arrs h2 (by omega) _ (by omega), a1.1, a2.1, decide_eq_true hv, decide_eq_true ha]
 rfl
theorem bh4 (w : World) : i7 (fun _ => True) (fun _ => True) w w (l7 (fun _ : Empty => Rs.none) (fun _ => undef) (o5 [])) := by
 refine (i7.start (ι := Empty ⊕ Nat) (w0 := w) (φ := fun _ => True) (ψ := fun _ => True) fun _ _ => trivial).map (fun k => some k) (fun k k' i a b => by cases a; cases b; rfl) fun k => ?_
 cases k with
 | inl e => exact e.elim
 | inr j => exact .inr rfl
theorem bl0 (w : World) : Agr (fun _ => True) (W6 (fun _ => True) (l7 (fun _ : Empty => Rs.none) (fun _ => undef) (o5 []))) w w := Agr.mono fun b _ _ => ⟨b84, fun i => by
 cases i with
 | inl e => exact e.elim
 | inr j => exact fun h => h.elim⟩
abbrev u8s (c : List UInt8) : List Value := c.map fun b => Value.int .u8 (b.toNat : Int)
theorem bk4 {P : Program} {f : FuncId} {x : Value} {c : List UInt8} {post : List It} (hc : l0.ok P ⟨f, [.ref 0], [dY c], post, .v x⟩) (u : Value) (w : World) (hp : m6 w (fun _ => True) u c.length 1 (u8s c)) :
  Calls P f #[u] w fun e w' => e = .returned x ∧ Below w.heap.size w w' := by
 obtain ⟨ρ', g1, M2, g2⟩ := i7.dats [.sl (.bytes c)] [u] 0 (bh4 w) ⟨RD.nice (.bytes c) _ _ _ _ _ (bl0 w) hp, b84⟩ (fun _ _ => rfl) (fun _ _ _ => rfl)
 have e : m7 (o5 []) (S0 [.sl (.bytes c)] 0) = o5 [dY c] := by
  funext j
  match j with
  | 0 => rfl
  | j + 1 => simp [S0, m7, o5]
 rw [e] at M2
 simp only [xav, AV.vals, AV.val, List.cons.injEq, and_true] at g2
 subst g2
 refine (hc Empty _ _ w w _ ρ' M2).mono ?_
 rintro e w' ⟨ρ2, -, rfl, M3⟩
 exact ⟨rfl, M3.below fun _ _ => trivial⟩
structure Okd (p q : j9) (m : v7) : Prop where
 bp : t9 p.body ≤ 1048576
 bq : t9 q.body ≤ 1048576
 qv : q.vars.length ≤ 1000000
 mv : m.vals.length ≤ 1000000
 ma : m.arrs.length ≤ 1000000
 mi : ∀ l ∈ m.arrs, l.length ≤ 1000
section
variable {p : j9} {e : d8}
end
theorem bs7 (b : List UInt8) {j : Int} (nv na : Nat) (r0 : 0 ≤ j) (r1 : j + nv + 4 * na ≤ 100000000) : (mmD b j nv na).vals.length = nv ∧ (mmD b j nv na).arrs.length = na ∧ F5 (mmD b j nv na).vals = true ∧ (mmD b j nv na).arrs.all R7 = true := by
 refine ⟨aj0 _ _ _, by4 _ _ _, a14 b r0 nv (by omega), ?_⟩
 rw [b80]
 intro x hx
 unfold R7
 rw [b73]
 refine ⟨by rw [b01 _ _ _ x hx]; rfl, ?_⟩
 obtain ⟨k, hk, rfl⟩ := ar_mem hx
 exact a14 b (by omega) 4 (by omega)
where
 ar_mem {b : List UInt8} {j : Int} {n : Nat} {x : List Int} (h : x ∈ arD b j n) : ∃ k : Nat, k < n ∧ vlD b (j + 4 * k) 4 = x := by
  unfold arD at h
  obtain ⟨i, hi, rfl⟩ := List.mem_map.1 h
  exact ⟨i, ca9.1 hi, rfl⟩
theorem bj6 (xs ys : List Int) (l : List d7) : l0.ok Tryz.prog ⟨24, [pA 0], [dI xs, dI ys, dN l], [dI xs, dI ys, dN l], .agg [.ref 0, .ref 1, .v (.slice none 0 0)]⟩ := by
 refine J8 8 Tryz.func24 [dI xs, dI ys, dN l] [(0, pA 0)] fun G => ?_; refine wp_seq (i9 G e6 [0, 1, 2, 3, 11] [dI xs, dI ys, dN l, .box (pL 0), .box [.v (.slice none 0 0), .v (.slice none 0 0), .v (.slice none 0 0)]] [(1, .ptr 3 0), (2, .ptr 4 0)] fun G => b0 (wp_seq (i9 G e6 [0, 1, 2, 4] [dI xs, dI ys, dN l, .box [.ref 0, .ref 1, .v (.slice none 0 0)]] [(2, .ptr 3 0)] fun G => b0 (wp_ret ?_)))); exact J9 G [0, 1, 2]
abbrev crC (f : FuncId) (c : List UInt8) (k : b6) (m m2 : v7) : l0 := ⟨f, [.ref 0], [dY c], [dY c] ++ kcS k ++ mS m ++ mS m2, .tup [pA 1, mA 4, mA 6]⟩
abbrev ah8 : It := .box [.v (.slice none 0 0), .v (.slice none 0 0)]
abbrev aR3 : It := .box [.v (.slice none 0 0), .v (.slice none 0 0), .v (.slice none 0 0)]
abbrev bl2 (j2 : Int) (r0 : List It) : List It := .box [.v (.slice none 0 0), .v (.slice none 0 0), .v (.slice none 0 0)] :: .box [.v (.slice none 0 0), .v (.slice none 0 0)] :: .box [.v (.slice none 0 0), .v (.slice none 0 0)] :: .box [.ref 5, iA j2] :: r0
abbrev aF6 (r0 : List (Nat × AV)) : List (Nat × AV) := (2, .ptr 1 0) :: (3, .ptr 2 0) :: (4, .ptr 3 0) :: (5, .ptr 4 0) :: (6, .ptr 9 0) :: r0
theorem bp5 (c b : List UInt8) (kv ka v u : List Int) (kl l : List d7) (xs : List Int) (rs : List (List Int)) (m2 : v7) (j1 j2 j3 j4 : Int)
  (h0 : l0.ok Tryz.prog ⟨21, [.ref 0], [dY c], [dY c, .box [.ref 2, iA 0], dY b], .ptr 1 0⟩)
  (h1 : l0.ok Tryz.prog ⟨23, [.ptr 0 0], [.box [.ref 1, iA 0], dY b], [.box [.ref 1, iA j1], dY b, rI kv, rI ka, rN kl], pA 2⟩)
  (h2 : l0.ok Tryz.prog ⟨22, [.ptr 0 0, pA 2], [.box [.ref 1, iA j1], dY b, dI kv, dI ka, dN kl], [.box [.ref 1, iA j2], dY b, dI kv, dI ka, dN kl, rI v, rI u, rN l], pA 5⟩)
  (h3 : l0.ok Tryz.prog ⟨25, [.ptr 0 0, pA 2], [.box [.ref 1, iA j2], dY b, dI v, dI u, dT []], [.box [.ref 1, iA j3], dY b, dI v, dI u, dT [], dI xs, dR rs], mA 5⟩)
  (h4 : l0.ok Tryz.prog ⟨26, [.ptr 0 0, pA 2, mA 5, iA 1], [.box [.ref 1, iA j3], dY b, dI v, dI u, dT [], dI xs, dR rs], [.box [.ref 1, iA j4], dY b, dI v, dI u, dT [], dI xs, dR rs] ++ mO m2, mT 7⟩) : l0.ok Tryz.prog (crC 7 c ⟨v, u, l⟩ ⟨xs, rs⟩ m2) := by
 have ho := h0; have hju := h1; have hmu := h2; have hme := h3; have hse := h4; refine J8 26 Tryz.func7 [dY c] [(0, .ref 0)] fun G => ?_; refine wp_seq (i9 G e6 [0, 1, 9, 17] [dY c, aR3, ah8, ah8] [(0, .ref 0), (2, .ptr 1 0), (3, .ptr 2 0), (4, .ptr 3 0)] fun G => b0 (wp_seq (i9 G (v5 1 [0] ho) [0, 1, 2, 3, 12, 13] [dY c, aR3, ah8, ah8, .box [.ref 5, iA 0], dY b] [(2, .ptr 1 0), (3, .ptr 2 0), (4, .ptr 3 0), (5, .ptr 4 0)] fun G => b0 (wp_seq (i9 G (T4 (F9 2 [4, 5] hju (F9 3 [4, 5, 22, 23, 24] (l0.lend hmu [.no, .no, .row 3, .row 3, .row 60]) T3)) fz []) [0, 1, 2, 3, 4, 5, 30, 31, 32, 38] [dY c, aR3, ah8, ah8, .box [.ref 5, iA j2], dY b, .row 3 (D.ints v), .row 3 (D.ints u), .row 60 (D.instrs l), .box (pL 6)] (aF6 []) fun G => b0 (wp_seq ?_)))))); obtain ⟨ρ, G⟩ := G.frz [.no, .no, .no, .no, .no, .no, .row 3, .row 3, .row 60] (dY c :: (bl2 j2 [dY b, dI v, dI u, dN l, .box (pL 6)])) (aF6 []); refine i9 G (v5 1 [6, 7, 8] (bj6 v u l)) [0, 1, 2, 3, 4, 5, 6, 7, 8, 9, 26] [dY c, aR3, ah8, ah8, .box [.ref 5, iA j2], dY b, dI v, dI u, dN l, .box (pL 6), .box [.ref 6, .ref 7, .v (.slice none 0 0)]] (aF6 [(7, .ptr 10 0)]) fun G => b0 (wp_seq ?_); obtain ⟨ρ, G⟩ := G.nilT 11 (.stmts []) (dY c :: (bl2 j2 [dY b, dI v, dI u, dN l, .box (pL 6), .box [.ref 6, .ref 7, .tref 11]])) (aF6 [(7, .ptr 10 0)]); obtain ⟨ρ, G⟩ := G.frz [.no, .no, .no, .no, .no, .no, .no, .no, .no, .no, .no, .tree] (dY c :: (bl2 j2 [dY b, dI v, dI u, dN l, .box (pL 6), .box [.ref 6, .ref 7, .ref 11], dT []])) (aF6 [(7, .ptr 10 0)]); refine i9 G (v5 2 [4, 5, 6, 7, 11] hme) [0, 1, 2, 3, 4, 5, 6, 7, 8, 9, 10, 11, 28, 29, 36] [dY c, aR3, ah8, ah8, .box [.ref 5, iA j3], dY b, dI v, dI u, dN l, .box (pL 6), .box [.ref 6, .ref 7, .ref 11], dT [], dI xs, dR rs, .box [.ref 12, .ref 13]] (aF6 [(7, .ptr 10 0), (8, .ptr 14 0)]) fun G => b0 (wp_seq (bq4 G (v5 5 [4, 5, 6, 7, 11, 12, 13] hse) [0, 0, 0, 0, 0, 28, 61, 127, 255] [0, 1, 2, 3, 6, 7, 8, 12, 13, 55, 56] [dY c, .box (pL 4), .box [.ref 7, .ref 8], .box [.ref 9, .tref 10], dI v, dI u, dN l, dI xs, dR rs, .row 3 (D.ints m2.vals), .tree (D.rows m2.arrs)] [(2, .ptr 1 0), (3, .ptr 2 0), (4, .ptr 3 0)] fun G => b0 (wp_ret ?_))); obtain ⟨ρ, G⟩ := G.frz [.no, .no, .no, .no, .no, .no, .no, .no, .no, .row 3, .tree] [dY c, .box (pL 4), .box [.ref 7, .ref 8], .box [.ref 9, .ref 10], dI v, dI u, dN l, dI xs, dR rs, dI m2.vals, dR m2.arrs] [(2, .ptr 1 0), (3, .ptr 2 0), (4, .ptr 3 0)]
 exact J9 G [0, 4, 5, 6, 7, 8, 9, 10]
theorem bV1 (b : List UInt8) {j : Int} (nv na : Nat) (r0 : 0 ≤ j) (r1 : j + nv + 4 * na ≤ 100000000) : I6 nv na (mmD b j nv na) = true := by
 obtain ⟨h1, h2, h3, h4⟩ := bs7 b (j := j) nv na r0 r1
 unfold I6
 rw [h3, h4, decide_eq_true h1, decide_eq_true h2]; rfl
theorem bv8 (c : List UInt8) : ∃ (k : b6) (m m2 : v7), (k.vars.length ≤ 1000 ∧ k.arrays.length ≤ 1000 ∧ k.list.length ≤ 400) ∧ I6 k.vars.length k.arrays.length m = true ∧ I6 k.vars.length k.arrays.length m2 = true ∧ l0.ok Tryz.prog (crC 7 c k m m2) := by
 have h0 := bk3 c
 have h1 := bj5 (bsD c) 0 (by omega) (by omega)
 have hj := jp0 (bsD c)
 generalize jpD (bsD c) 0 = x at *
 obtain ⟨⟨kv, ka, kl⟩, j1⟩ := x
 dsimp only at h1 hj
 have h2 := a75 (bsD c) j1 kv ka kl ⟨by omega, by omega, by omega⟩ (by omega) (by omega)
 have hm := b48 (bsD c) j1 ⟨kv, ka, kl⟩
 unfold muC at h2
 generalize muD (bsD c) j1 ⟨kv, ka, kl⟩ = y at *
 obtain ⟨⟨v, u, l⟩, j2⟩ := y
 dsimp only at h2 hm
 have h3 := a76 (bsD c) j2 v u [] (by omega) (by omega) (by omega) (by omega)
 have hf := bs7 (bsD c) (j := j2) v.length u.length (by omega) (by omega)
 have hok := bV1 (bsD c) (j := j2) v.length u.length (by omega) (by omega)
 have h4 := fun hi => aZ2 (bsD c) (j2 + v.length + 4 * u.length) 1 v u [] (mmD (bsD c) j2 v.length u.length).vals (mmD (bsD c) j2 v.length u.length).arrs hf.1 hf.2.1 hf.2.2.2 (by omega) (by omega) ⟨by omega, by omega⟩ hi
 have h4 := h4 fun a ha => by
  have := b80.1 hf.2.2.2 a ha
  unfold R7 at this
  rw [b73, decide_eq_true_eq] at this
  omega
 have hs := bL5 (bsD c) (bit := 1) ⟨v, u, []⟩ (mmD (bsD c) j2 v.length u.length) (j := j2 + v.length + 4 * u.length) hf.1 hf.2.1 hf.2.2.1 hf.2.2.2 (by omega) (by omega)
 exact ⟨⟨v, u, l⟩, _, _, ⟨by dsimp only; omega, by dsimp only; omega, by dsimp only; omega⟩, hok, hs, bp5 c (bsD c) kv ka v u kl l _ _ _ j1 j2 _ _ h0 h1 h2 h3 h4⟩
theorem bQ3 (l e : List (Int × Int)) (pc : Int) (h1 : l.length ≤ 1000000) (h2 : e.length ≤ 1000000) : l0.ok Tryz.prog ⟨62, [iA pc, .ref 2, .ptr 0 0], [.box [.ref 1], .row 71 (.events l), .dat (.events e)], [.box [.ref 3], .dead, .dat (.events e), .row 71 (.events (l ++ e))], .tup []⟩ := by
 refine J8 8 Tryz.func62 [.box [.ref 1], .row 71 (D.events l), dV e] [(0, iA pc), (1, .ref 2), (2, .ptr 0 0)] fun G => ?_; refine K6 G e6 [0, 1, 2, 19] [.box [.ref 3], .dead, dV e, .row 71 (D.events (l ++ e))] [] (aP (l.length + e.length) 16 []) (aK (by omega) b84) fun G => ?_; exact b18 G (rg 4)
structure a88 (c : b6) (s : s6) (n : Nat) (b : Bool) : Prop where
 le : n ≤ 20000
 no : ∀ k, k + 1 < n → M9 c (n6 c s k) = false
 yes : b = true → ∃ k, n = k + 1 ∧ M9 c (n6 c s k) = true
 non : b = false → n = 20000 ∧ ∀ k, k < 20000 → M9 c (n6 c s k) = false
theorem bP0 {c : b6} {s : s6} {n k : Nat} {b : Bool} (h : a88 c s n b) (hk : k < 20000) (hp : ∀ j, j < k → M9 c (n6 c s j) = false) (he : M9 c (n6 c s k) = true) : n = k + 1 ∧ b = true := by
 cases b with
 | false => have := (h.non rfl).2 k hk; rw [he] at this; cases this
 | true =>
  obtain ⟨j, h1, h2⟩ := h.yes rfl
  refine ⟨?_, rfl⟩
  rcases Nat.lt_trichotomy j k with h3 | h3 | h3
  ·rw [hp j h3] at h2; cases h2
  ·omega
  ·have := h.no k (by omega); rw [he] at this; cases this
theorem bP1 {c : b6} {s : s6} {n : Nat} {b : Bool} (h : a88 c s n b) (hp : ∀ j, j < 20000 → M9 c (n6 c s j) = false) : n = 20000 ∧ b = false := by
 cases b with
 | false => exact ⟨(h.non rfl).1, rfl⟩
 | true =>
  obtain ⟨j, h1, h2⟩ := h.yes rfl
  have := hp j (by have := h.le; omega)
  rw [h2] at this; cases this
theorem bP3 {c : b6} {s : s6} (h : (c.list.getD s.pc.toNat b71).op = 13) : M9 c s = true := decide_eq_true h
theorem bP2 {c : b6} {s : s6} (h : ¬ (c.list.getD s.pc.toNat b71).op = 13) : M9 c s = false := decide_eq_false h
theorem bE1 {c : b6} {s : s6} {k : Nat} (hp : ∀ j, j < k → M9 c (n6 c s j) = false) (h : ¬ (c.list.getD (n6 c s k).pc.toNat b71).op = 13) : ∀ j, j < k + 1 → M9 c (n6 c s j) = false := by
 intro j hj
 by_cases e : j = k
 ·subst e; exact bP2 h
 ·exact hp j (by omega)
theorem bi2 {c : b6} {s : s6} {n k : Nat} {b : Bool} (h : a88 c s n b) (hp : ∀ j, j < k → M9 c (n6 c s j) = false) (h1 : k ≤ 20000) (h2 : 20000 ≤ k) : n6 c s n = n6 c s k ∧ H4 c s n = H4 c s k ∧ b = false := by
 obtain rfl : k = 20000 := by omega
 obtain ⟨rfl, rfl⟩ := bP1 h hp
 exact ⟨rfl, rfl, rfl⟩
theorem bi1 {c : b6} {s : s6} {n k : Nat} {b : Bool} (h : a88 c s n b) (hp : ∀ j, j < k → M9 c (n6 c s j) = false) (hk : k < 20000) (he : (c.list.getD (n6 c s k).pc.toNat b71).op = 13) : n6 c s n = i6 c (n6 c s k) ∧ H4 c s n = H4 c s k ++ D9 c (n6 c s k) ∧ b = true := by
 obtain ⟨rfl, rfl⟩ := bP0 h hk hp (bP3 he)
 exact ⟨rfl, rfl, rfl⟩
abbrev a95 (c : b6) (s : s6) (n : Nat) : List It := [.box [iA (n6 c s n).pc, .ref 1, .ref 2, .tref 3], .row 3 (D.ints (n6 c s n).regs), .row 3 (D.ints (n6 c s n).mem.vals), .tree (D.rows (n6 c s n).mem.arrs), dI c.vars, dI c.arrays, dN c.list, .box [.ref 9], .dead, .row 71 (D.events (H4 c s n))]
abbrev aF7 (r0 : List (Nat × AV)) : List (Nat × AV) := (1, .ptr 0 0) :: (2, .fn 62 [.ptr 7 0]) :: (3, .ptr 9 0) :: (6, bA false) :: r0
abbrev bl7 (c : b6) (s : s6) (r0 : List It) : List It := .box [iA s.pc, .ref 1, .ref 2, .tref 3] :: .row 3 (D.ints s.regs) :: .row 3 (D.ints s.mem.vals) :: .tree (D.rows s.mem.arrs) :: dI c.vars :: dI c.arrays :: dN c.list :: r0
theorem aJ4 (c : b6) (s : s6) (n : Nat) (b : Bool) (hc : i5 c = true) (hs : P6 c s = true) (hE : a88 c s n b) : l0.ok Tryz.prog ⟨61, [pA 4, .ptr 0 0, .fn 62 [.ptr 7 0]], stI s ++ kcS c ++ [.box [.ref 8], .row 71 (.events [])], stI (n6 c s n) ++ kcS c ++ [.box [.ref 9], .dead, .row 71 (.events (H4 c s n))], bA b⟩ := by
  refine J8 28 Tryz.func61 (bl7 c s [.box [.ref 8], .row 71 (D.events [])]) [(0, pA 4), (1, .ptr 0 0), (2, .fn 62 [.ptr 7 0])] fun G => ?_; refine wp_seq (i9 G e6 (rg 10) (bl7 c s [.box [.ref 8], .row 71 (D.events []), .box (pL 4)]) (aF7 []) fun G => b0 (wp_seq (wp_seq (G9 G e6 (aF7 [(8, iA 0)]) fun G => b0 (wp_block ?_))))); obtain ⟨ρ, G⟩ := G.shift 8 10 (bl7 c s [.box [.ref 10], .dead, .box (pL 4), .row 71 (D.events [])]) (aF7 [(8, iA 0)]); refine x6 (κ := Nat) (fun k => k ≤ 20000 ∧ ∀ j, j < k → M9 c (n6 c s j) = false) (fun k => 20000 - k) (fun k => [.box [iA (n6 c s k).pc, .ref 1, .ref 2, .tref 3], .row 3 (.ints (n6 c s k).regs), .row 3 (.ints (n6 c s k).mem.vals), .tree (.rows (n6 c s k).mem.arrs), dI c.vars, dI c.arrays, dN c.list, .box [.ref 10], .dead, .box (pL 4), .row 71 (.events (H4 c s k))]) (fun k => (aF7 [(8, iA k)])) 0 (by simp [hc, hs]) (t7.at G _ _) ?_; clear G; intro k ρ a w hp G; replace G := t7.at G [.box [iA (n6 c s k).pc, .ref 1, .ref 2, .tref 3], .row 3 (D.ints (n6 c s k).regs), .row 3 (D.ints (n6 c s k).mem.vals), .tree (D.rows (n6 c s k).mem.arrs), dI c.vars, dI c.arrays, dN c.list, .box [.ref 10], .dead, .box (pL 4), .row 71 (D.events (H4 c s k))] (aF7 [(8, iA k)]); have hpc := ab4 (ae2 hc hs k); have hel := ay7 c s k; have hen := aH5 c (n6 c s k); refine wp_seq (l6 G e6 [(9, bA (decide ((k : Int) < 20000)))] fun G => b0 (wp_seq (rcD G (fun h0 q0 => ?_) fun h0 q0 => ?_)))
  · refine wp_exit (v9 (v9 (v6 (b0 (wp_seq (i9 G e6 [0, 1, 2, 3, 4, 5, 6, 7, 8, 10] [.box [iA (n6 c s k).pc, .ref 1, .ref 2, .tref 3], .row 3 (D.ints (n6 c s k).regs), .row 3 (D.ints (n6 c s k).mem.vals), .tree (D.rows (n6 c s k).mem.arrs), dI c.vars, dI c.arrays, dN c.list, .box [.ref 9], .dead, .row 71 (D.events (H4 c s k))] [(6, bA false)] fun G => b0 (wp_ret ?_))))))); exact M0 false G (rg 10) ((bi2 hE hp.2 (by omega) (by omega)).2.2) (by show _ = mR (rg 10) (a95 c s n); unfold a95; have e1 : ((n6 c s n).pc : Int) = ((n6 c s k).pc) := (by rw [(bi2 hE hp.2 (by omega) (by omega)).1]); have e2 : ((n6 c s n).regs : List Int) = ((n6 c s k).regs) := (by rw [(bi2 hE hp.2 (by omega) (by omega)).1]); have e3 : ((n6 c s n).mem.vals : List Int) = ((n6 c s k).mem.vals) := (by rw [(bi2 hE hp.2 (by omega) (by omega)).1]); have e4 : ((n6 c s n).mem.arrs : List (List Int)) = ((n6 c s k).mem.arrs) := (by rw [(bi2 hE hp.2 (by omega) (by omega)).1]); have e5 : (H4 c s n : List (Int × Int)) = (H4 c s k) := (by rw [(bi2 hE hp.2 (by omega) (by omega)).2.1]); (first | rw [e1, e2, e3, e4, e5] | simp only [e1, e2, e3, e4, e5]) <;> rfl)
  ·
   refine wp_skip (b0 (wp_seq (wp_block (wp_seq (l6 G e6 [(7, iA (n6 c s k).pc)] fun G => b0 (wp_seq (i9 G (T4 (F9 4 (rg 7) (bQ2 c (n6 c s k) (by assumption) (ae2 hc hs _)) (F9 5 [7, 10, 43] (l0.lend (bQ3 (H4 c s k) (D9 c (n6 c s k)) ((n6 c s k).pc) (by omega) (by omega)) [.no, .no, .row 71]) T3)) fz []) [0, 1, 2, 3, 4, 5, 6, 7, 8, 9, 51] [.box [iA (i6 c (n6 c s k)).pc, .ref 1, .ref 2, .tref 3], .row 3 (D.ints (i6 c (n6 c s k)).regs), .row 3 (D.ints (i6 c (n6 c s k)).mem.vals), .tree (D.rows (i6 c (n6 c s k)).mem.arrs), dI c.vars, dI c.arrays, dN c.list, .box [.ref 10], .dead, .box (pL 4), .row 71 (D.events (H4 c s k ++ D9 c (n6 c s k)))] (aF7 [(7, iA (n6 c s k).pc), (8, iA k)]) fun G => b0 (wp_seq (D0 G e6 [(26, bA ((c.list.getD (n6 c s k).pc.toNat b71).op == 13))] (iX ((n6 c s k).pc) ((n6 c s k).pc.toNat) c.list.length []) (iK (by omega) b84) fun G => b0 (P0 G (fun h1 q1 => ?_) fun h1 q1 => ?_))))))))))
   · refine wp_skip (i8 (b0 (D0 G e6 [(8, iA ((k : Int) + 1))] [wO ((k : Int) + 1)] (o1 (by omega)) fun G => b0 ?_))); exact L0 G (k + 1) (⟨by omega, bE1 hp.2 (by omega)⟩) (by omega) (rg 11)
   · refine wp_seq (l6 G e6 [(6, bA true)] fun G => b0 (wp_ret (E3 (o8 (o8 (E3 (o8 ?_))))))); exact M0 true G [0, 1, 2, 3, 4, 5, 6, 7, 8, 10] ((bi1 hE hp.2 (by omega) (by with_reducible assumption)).2.2) (by show _ = mR [0, 1, 2, 3, 4, 5, 6, 7, 8, 10] (a95 c s n); unfold a95; have e1 : ((n6 c s n).pc : Int) = ((i6 c (n6 c s k)).pc) := (by rw [(bi1 hE hp.2 (by omega) (by with_reducible assumption)).1]); have e2 : ((n6 c s n).regs : List Int) = ((i6 c (n6 c s k)).regs) := (by rw [(bi1 hE hp.2 (by omega) (by with_reducible assumption)).1]); have e3 : ((n6 c s n).mem.vals : List Int) = ((i6 c (n6 c s k)).mem.vals) := (by rw [(bi1 hE hp.2 (by omega) (by with_reducible assumption)).1]); have e4 : ((n6 c s n).mem.arrs : List (List Int)) = ((i6 c (n6 c s k)).mem.arrs) := (by rw [(bi1 hE hp.2 (by omega) (by with_reducible assumption)).1]); have e5 : (H4 c s n : List (Int × Int)) = (H4 c s k ++ D9 c (n6 c s k)) := (by rw [(bi1 hE hp.2 (by omega) (by with_reducible assumption)).2.1]); (first | rw [e1, e2, e3, e4, e5] | simp only [e1, e2, e3, e4, e5]) <;> rfl)
theorem bf7 (m : v7) (hx : m.vals.length ≤ 1048576) (hr : m.arrs.length ≤ 1048576) (hi : ∀ r ∈ m.arrs, r.length ≤ 1048576) : l0.ok Tryz.prog ⟨83, [mA 0], mS m, mS m ++ [.row 3 (.ints (b70 14 0)), .row 3 (.ints m.vals), .tree (.rows m.arrs)], .agg [iA 0, .ref 2, .ref 3, .tref 4]⟩ := by
 have how := bR9 m hx hr hi; refine J8 7 Tryz.func83 [dI m.vals, dR m.arrs] [(0, .agg [.ref 0, .ref 1])] fun G => ?_; refine wp_seq (i9 G e6 [0, 1, 2, 10] [dI m.vals, dR m.arrs, .box [.ref 0, .ref 1], .box [iA 0, .v (.slice none 0 0), .v (.slice none 0 0), .v (.slice none 0 0)]] [(1, .ptr 2 0), (2, .ptr 3 0)] fun G => b0 (wp_seq (H5 G (v5 2 [0, 1] how) [0, 0, 2, 7, 15] [0, 1, 3, 4, 20, 21] [dI m.vals, dR m.arrs, .box [iA 0, .ref 3, .ref 4, .tref 5], .row 3 (D.ints (b70 (Int.toNat 14) 0)), .row 3 (D.ints m.vals), .tree (D.rows m.arrs)] [(2, .ptr 2 0)] [(14 : Int) = 14, (0 : Int) ≤ 14, (↑(8 : Nat) : Int) * 14 ≤ 281474976710656, (14 : Int) ≤ 9223372036854775807, ((.int .i64 (0 : Int)) : Value) = (.int .i64 (0 : Int))] ⟨(by kernel_rfl), (by omega), (by omega), (by omega), (by kernel_rfl), b84⟩ fun G => b0 (wp_ret ?_)))); exact J9 G [0, 1, 3, 4, 5]
def ssD (c : b6) (m : v7) : s6 := if (i5 c && I6 c.vars.length c.arrays.length m) = true then l5 m else ⟨0, [], ⟨[], []⟩⟩
theorem bb1 {c : b6} {m : v7} (h : i5 c = false) : ssD c m = ⟨0, [], ⟨[], []⟩⟩ ∧ (i5 c && I6 c.vars.length c.arrays.length m) = false := by
 have : (i5 c && I6 c.vars.length c.arrays.length m) = false := by rw [h]; rfl
 exact ⟨by unfold ssD; rw [this]; rfl, this⟩
theorem bb0 {c : b6} {m : v7} (h : I6 c.vars.length c.arrays.length m = false) : ssD c m = ⟨0, [], ⟨[], []⟩⟩ ∧ (i5 c && I6 c.vars.length c.arrays.length m) = false := by
 have : (i5 c && I6 c.vars.length c.arrays.length m) = false := by rw [h]; simp
 exact ⟨by unfold ssD; rw [this]; rfl, this⟩
theorem bf9 {c : b6} {m : v7} (h : i5 c = true) (h2 : I6 c.vars.length c.arrays.length m = true) : ssD c m = l5 m ∧ (i5 c && I6 c.vars.length c.arrays.length m) = true := by
 have : (i5 c && I6 c.vars.length c.arrays.length m) = true := by rw [h, h2]; rfl
 exact ⟨by unfold ssD; rw [this]; rfl, this⟩
abbrev aF9 (c : b6) (m : v7) (T : s6) : List It := [dI c.vars, dI c.arrays, dN c.list, dI m.vals, dR m.arrs, .row 3 (D.ints T.regs), .row 3 (D.ints T.mem.vals), .tree (D.rows T.mem.arrs)]
abbrev bm0 : It := .box [iA 0, .v (.slice none 0 0), .v (.slice none 0 0), .v (.slice none 0 0)]
abbrev ar4 (c : b6) (m : v7) (r0 : List It) : List It := dI c.vars :: dI c.arrays :: dN c.list :: dI m.vals :: dR m.arrs :: .box [.ref 3, .ref 4] :: r0
abbrev ah6 (r0 : List (Nat × AV)) : List (Nat × AV) := (3, .ptr 5 0) :: (4, .ptr 6 0) :: (5, bA false) :: r0
theorem U7 (c : b6) (m : v7) (T : s6) (hT : ssD c m = T) (hx : m.vals.length ≤ 1048576) (hr : m.arrs.length ≤ 1048576) (hi : ∀ r ∈ m.arrs, r.length ≤ 1048576) : l0.ok Tryz.prog ⟨60, [pA 0, mA 3], kcS c ++ mS m, kcS c ++ mS m ++ smO T, .tup [.agg [iA T.pc, .ref 5, .ref 6, .tref 7], bA (i5 c && I6 c.vars.length c.arrays.length m)]⟩ := by
  have hcv := bK1 c; have him := bx2 c m; have hst := bf7 m hx hr hi; refine J8 21 Tryz.func60 [dI c.vars, dI c.arrays, dN c.list, dI m.vals, dR m.arrs] [(0, pA 0), (1, .agg [.ref 3, .ref 4])] fun G => ?_; refine wp_seq (i9 G e6 [0, 1, 2, 3, 4, 5, 13, 21] [dI c.vars, dI c.arrays, dN c.list, dI m.vals, dR m.arrs, .box (pL 0), .box [.ref 3, .ref 4], bm0] [(2, .ptr 5 0), (3, .ptr 6 0), (4, .ptr 7 0), (5, bA false)] fun G => b0 (wp_seq (wp_seq ?_))); cases h0 : (!i5 c)
  ·
   have q0 : (i5 c) = true := (Eq.mp (cb4 _) h0); refine i9 G (T4 (F9 1 [0, 1, 2] hcv (F9 9 [0, 1, 3, 4] him T3)) (fc h0 fz) (us [(4, 10, 0), (1011, 1011, 0)])) [0, 1, 2, 3, 4, 6, 7] (ar4 c m [bm0]) (ah6 [(17, .v (.bool !I6 c.vars.length c.arrays.length m))]) fun G => b0 ?_; cases h1 : (!I6 c.vars.length c.arrays.length m)
   · have q1 : (I6 c.vars.length c.arrays.length m) = true := (Eq.mp (cb4 _) h1); refine rF G _ h1 (wp_skip (b0 (wp_seq (i9 G (v5 1 [3, 4] hst) [0, 1, 2, 3, 4, 6, 15, 16, 17] [dI c.vars, dI c.arrays, dN c.list, dI m.vals, dR m.arrs, .box [iA 0, .ref 6, .ref 7, .tref 8], .row 3 (D.ints (b70 14 0)), .row 3 (D.ints m.vals), .tree (D.rows m.arrs)] [(4, .ptr 5 0), (5, bA true)] fun G => b0 (wp_ret ?_))))); exact rxv (.tup [.agg [iA 0, .ref 6, .ref 7, .tref 8], bA true]) G [0, 1, 2, 3, 4, 6, 7, 8] (by have e1 : (T.pc : Int) = (0) := (by rw [← hT, (bf9 (by with_reducible assumption) (by with_reducible assumption)).1]; rfl); have e2 : (i5 c && I6 c.vars.length c.arrays.length m : Bool) = (true) := (by simp [h0, q0, h1, q1]); (first | rw [e1, e2] | simp only [e1, e2]) <;> rfl) (by show _ = mR [0, 1, 2, 3, 4, 6, 7, 8] (aF9 c m T); unfold aF9; rw [← hT, (bf9 (by with_reducible assumption) (by with_reducible assumption)).1] <;> rfl)
   · have q1 : (I6 c.vars.length c.arrays.length m) = false := (Eq.mp (ca5 _) h1); refine rT G _ h1 (wp_seq (G9 G e6 (ah6 []) fun G => b0 (wp_ret (o8 ?_)))); obtain ⟨ρ, G⟩ := G.nil 7 3 (.ints []) 1 (ar4 c m [.box [iA 0, .ref 7, .v (.slice none 0 0), .v (.slice none 0 0)]]) (ah6 []); obtain ⟨ρ, G⟩ := G.nil 8 3 (.ints []) 1 (ar4 c m [.box [iA 0, .ref 7, .ref 8, .v (.slice none 0 0)], .row 3 (D.ints [])]) (ah6 []); obtain ⟨ρ, G⟩ := G.nilT 9 (.rows []) (ar4 c m [.box [iA 0, .ref 7, .ref 8, .tref 9], .row 3 (D.ints []), .row 3 (D.ints [])]) (ah6 []); exact rxv (.tup [.agg [iA 0, .ref 7, .ref 8, .tref 9], bA false]) G [0, 1, 2, 3, 4, 7, 8, 9] (by have e1 : (T.pc : Int) = (0) := (by rw [← hT, (bb0 (by with_reducible assumption)).1]); have e2 : (i5 c && I6 c.vars.length c.arrays.length m : Bool) = (false) := (by simp [h0, q0, h1, q1]); (first | rw [e1, e2] | simp only [e1, e2]) <;> rfl) (by show _ = mR [0, 1, 2, 3, 4, 7, 8, 9] (aF9 c m T); unfold aF9; have e1 : (T.regs : List Int) = ([]) := (by rw [← hT, (bb0 (by with_reducible assumption)).1]); have e2 : (T.mem.vals : List Int) = ([]) := (by rw [← hT, (bb0 (by with_reducible assumption)).1]); have e3 : (T.mem.arrs : List (List Int)) = ([]) := (by rw [← hT, (bb0 (by with_reducible assumption)).1]); (first | rw [e1, e2, e3] | simp only [e1, e2, e3]) <;> rfl)
  · have q0 : (i5 c) = false := (Eq.mp (ca5 _) h0); refine i9 G (T4 (F9 1 [0, 1, 2] hcv T3) (fc h0 fz) (us [(4, 10, 0), (1011, 1011, 0)])) [0, 1, 2, 3, 4, 6, 7] (ar4 c m [bm0]) (ah6 [(17, bA true)]) fun G => b0 (rT G true (by kernel_rfl) (wp_seq (G9 G e6 (ah6 []) fun G => b0 (wp_ret (o8 ?_))))); obtain ⟨ρ, G⟩ := G.nil 7 3 (.ints []) 1 (ar4 c m [.box [iA 0, .ref 7, .v (.slice none 0 0), .v (.slice none 0 0)]]) (ah6 []); obtain ⟨ρ, G⟩ := G.nil 8 3 (.ints []) 1 (ar4 c m [.box [iA 0, .ref 7, .ref 8, .v (.slice none 0 0)], .row 3 (D.ints [])]) (ah6 []); obtain ⟨ρ, G⟩ := G.nilT 9 (.rows []) (ar4 c m [.box [iA 0, .ref 7, .ref 8, .tref 9], .row 3 (D.ints []), .row 3 (D.ints [])]) (ah6 []); exact rxv (.tup [.agg [iA 0, .ref 7, .ref 8, .tref 9], bA false]) G [0, 1, 2, 3, 4, 7, 8, 9] (by have e1 : (T.pc : Int) = (0) := (by rw [← hT, (bb1 (by with_reducible assumption)).1]); have e2 : (i5 c && I6 c.vars.length c.arrays.length m : Bool) = (false) := (by rw [q0]; rfl); (first | rw [e1, e2] | simp only [e1, e2]) <;> rfl) (by show _ = mR [0, 1, 2, 3, 4, 7, 8, 9] (aF9 c m T); unfold aF9; have e1 : (T.regs : List Int) = ([]) := (by rw [← hT, (bb1 (by with_reducible assumption)).1]); have e2 : (T.mem.vals : List Int) = ([]) := (by rw [← hT, (bb1 (by with_reducible assumption)).1]); have e3 : (T.mem.arrs : List (List Int)) = ([]) := (by rw [← hT, (bb1 (by with_reducible assumption)).1]); (first | rw [e1, e2, e3] | simp only [e1, e2, e3]) <;> rfl)
abbrev rnO (s : s6) : List It := [.box [iA s.pc, .ref 6, .ref 7, .tref 8], .row 3 (.ints s.regs), .row 3 (.ints s.mem.vals), .tree (.rows s.mem.arrs)]
abbrev bl6 (c : b6) (m : v7) (r0 : List It) : List It := dI c.vars :: dI c.arrays :: dN c.list :: dI m.vals :: dR m.arrs :: .box (pL 0) :: .row 3 (D.ints (l5 m).regs) :: .row 3 (D.ints (l5 m).mem.vals) :: .tree (D.rows (l5 m).mem.arrs) :: .box [iA (l5 m).pc, .ref 6, .ref 7, .tref 8] :: r0
abbrev bl5 (c : b6) (m : v7) (r0 : List (Nat × AV)) : List (Nat × AV) := (2, .ptr 5 0) :: (4, .v (.pointer none)) :: (5, .v (.slice none 0 0)) :: (6, bA false) :: (7, .ptr 9 0) :: (8, bA (i5 c && I6 c.vars.length c.arrays.length m)) :: r0
theorem bL7 (c : b6) (m : v7) (n : Nat) (hc : i5 c = true) (hm : I6 c.vars.length c.arrays.length m = true) (hE : a88 c (l5 m) n true) (hx : m.vals.length ≤ 1048576) (hr : m.arrs.length ≤ 1048576) (hi : ∀ r ∈ m.arrs, r.length ≤ 1048576) : l0.ok Tryz.prog ⟨32, [pA 0, mA 3], kcS c ++ mS m, kcS c ++ mS m ++ rnO (n6 c (l5 m) n) ++ [.row 71 (.events (H4 c (l5 m) n))], .tup [.ptr 5 0, .ref 9, bA true]⟩ := by
 have hst := U7 c m (l5 m) (bf9 hc hm).1 hx hr hi; have hex := aJ4 c (l5 m) n true hc (U6 hc hm) hE; refine J8 24 Tryz.func32 [dI c.vars, dI c.arrays, dN c.list, dI m.vals, dR m.arrs] [(0, pA 0), (1, .agg [.ref 3, .ref 4])] fun G => ?_; have hok : (i5 c && I6 c.vars.length c.arrays.length m) = true := (bf9 hc hm).2; refine wp_seq (i9 G e6 [0, 1, 2, 3, 4, 5, 13] [dI c.vars, dI c.arrays, dN c.list, dI m.vals, dR m.arrs, .box (pL 0), .box [.ref 3, .ref 4]] [(2, .ptr 5 0), (3, .ptr 6 0), (4, .v (.pointer none)), (5, .v (.slice none 0 0)), (6, bA false)] fun G => b0 (wp_seq (i9 G (v5 2 (rg 5) hst) [0, 1, 2, 3, 4, 5, 23, 24, 25, 55] (bl6 c m []) (bl5 c m []) fun G => b0 (wp_seq (wp_seq (l6 G e6 [(17, .v (.bool !(i5 c && I6 c.vars.length c.arrays.length m)))] fun G => b0 (rF G (!(i5 c && I6 c.vars.length c.arrays.length m)) (by rw [hok]; rfl) (wp_skip (b0 (wp_seq (i9 G e6 (rg 11) (bl6 c m [.box [.v (.slice none 0 0)]]) (bl5 c m [(9, .ptr 10 0)]) fun G => b0 (wp_seq ?_)))))))))))); obtain ⟨ρ, G⟩ := G.nil 11 71 (.events []) 6 (bl6 c m [.box [.ref 11]]) (bl5 c m [(9, .ptr 10 0)]); refine i9 G (v5 2 [9, 6, 7, 8, 0, 1, 2, 10, 11] hex) [0, 1, 2, 3, 4, 6, 7, 8, 9, 10, 28] [dI c.vars, dI c.arrays, dN c.list, dI m.vals, dR m.arrs, .row 3 (D.ints (n6 c (l5 m) n).regs), .row 3 (D.ints (n6 c (l5 m) n).mem.vals), .tree (D.rows (n6 c (l5 m) n).mem.arrs), .box [iA (n6 c (l5 m) n).pc, .ref 5, .ref 6, .tref 7], .box [.ref 10], .row 71 (D.events (H4 c (l5 m) n))] [(4, .v (.pointer none)), (5, .v (.slice none 0 0)), (6, bA false), (7, .ptr 8 0), (8, bA true), (9, .ptr 9 0)] fun G => b0 (wp_seq (wp_seq (l6 G e6 [(22, bA false)] fun G => b0 (rF G false (by kernel_rfl) (wp_skip (b0 (wp_seq (bq4 G e6 [0, 0, 3, 7] [0, 1, 2, 3, 4, 5, 6, 7, 8, 10] [dI c.vars, dI c.arrays, dN c.list, dI m.vals, dR m.arrs, .row 3 (D.ints (n6 c (l5 m) n).regs), .row 3 (D.ints (n6 c (l5 m) n).mem.vals), .tree (D.rows (n6 c (l5 m) n).mem.arrs), .box [iA (n6 c (l5 m) n).pc, .ref 5, .ref 6, .tref 7], .row 71 (D.events (H4 c (l5 m) n))] [(4, .ptr 8 0), (5, .ref 9), (6, bA true)] fun G => b0 (wp_ret ?_))))))))); exact J9 G [0, 1, 2, 3, 4, 8, 5, 6, 7, 9]
theorem bB5 (c : b6) (m : v7) (hok : (i5 c && I6 c.vars.length c.arrays.length m) = false) (hx : m.vals.length ≤ 1048576) (hr : m.arrs.length ≤ 1048576) (hi : ∀ r ∈ m.arrs, r.length ≤ 1048576) : l0.ok Tryz.prog ⟨32, [pA 0, mA 3], kcS c ++ mS m, kcS c ++ mS m, .tup [.v (.pointer none), .v (.slice none 0 0), bA false]⟩ := by
 have hst := U7 c m (ssD c m) rfl hx hr hi; refine J8 24 Tryz.func32 [dI c.vars, dI c.arrays, dN c.list, dI m.vals, dR m.arrs] [(0, pA 0), (1, .agg [.ref 3, .ref 4])] fun G => ?_; refine wp_seq (i9 G e6 [0, 1, 2, 3, 4, 5, 13] [dI c.vars, dI c.arrays, dN c.list, dI m.vals, dR m.arrs, .box (pL 0), .box [.ref 3, .ref 4]] [(2, .ptr 5 0), (3, .ptr 6 0), (4, .v (.pointer none)), (5, .v (.slice none 0 0)), (6, bA false)] fun G => b0 (wp_seq (i9 G (v5 2 (rg 5) hst) [0, 1, 2, 3, 4, 5, 23, 24, 25, 55] [dI c.vars, dI c.arrays, dN c.list, dI m.vals, dR m.arrs, .box (pL 0), .row 3 (D.ints (ssD c m).regs), .row 3 (D.ints (ssD c m).mem.vals), .tree (D.rows (ssD c m).mem.arrs), .box [iA (ssD c m).pc, .ref 6, .ref 7, .tref 8]] [(2, .ptr 5 0), (4, .v (.pointer none)), (5, .v (.slice none 0 0)), (6, bA false), (7, .ptr 9 0), (8, bA (i5 c && I6 c.vars.length c.arrays.length m))] fun G => b0 (wp_seq (wp_seq (l6 G e6 [(17, .v (.bool !(i5 c && I6 c.vars.length c.arrays.length m)))] fun G => b0 (rT G (!(i5 c && I6 c.vars.length c.arrays.length m)) (by rw [hok]; rfl) (wp_seq (l6 G e6 [] fun G => b0 (wp_ret (o8 ?_))))))))))); exact J9 G (rg 5)
abbrev bl4 (c : b6) (m : v7) (r0 : List It) : List It := dI c.vars :: dI c.arrays :: dN c.list :: dI m.vals :: dR m.arrs :: .box (pL 0) :: .row 3 (D.ints (l5 m).regs) :: .row 3 (D.ints (l5 m).mem.vals) :: .tree (D.rows (l5 m).mem.arrs) :: .box [iA (l5 m).pc, .ref 6, .ref 7, .tref 8] :: r0
abbrev bl3 (c : b6) (m : v7) (r0 : List (Nat × AV)) : List (Nat × AV) := (2, .ptr 5 0) :: (4, .v (.pointer none)) :: (5, .v (.slice none 0 0)) :: (6, bA false) :: (7, .ptr 9 0) :: (8, bA (i5 c && I6 c.vars.length c.arrays.length m)) :: r0
theorem bB4 (c : b6) (m : v7) (hc : i5 c = true) (hm : I6 c.vars.length c.arrays.length m = true) (hE : a88 c (l5 m) 20000 false) (hx : m.vals.length ≤ 1048576) (hr : m.arrs.length ≤ 1048576) (hi : ∀ r ∈ m.arrs, r.length ≤ 1048576) : l0.ok Tryz.prog ⟨32, [pA 0, mA 3], kcS c ++ mS m, kcS c ++ mS m, .tup [.v (.pointer none), .v (.slice none 0 0), bA false]⟩ := by
 have hst := U7 c m (l5 m) (bf9 hc hm).1 hx hr hi; have hex := aJ4 c (l5 m) 20000 false hc (U6 hc hm) hE; refine J8 24 Tryz.func32 [dI c.vars, dI c.arrays, dN c.list, dI m.vals, dR m.arrs] [(0, pA 0), (1, .agg [.ref 3, .ref 4])] fun G => ?_; have hok : (i5 c && I6 c.vars.length c.arrays.length m) = true := (bf9 hc hm).2; refine wp_seq (i9 G e6 [0, 1, 2, 3, 4, 5, 13] [dI c.vars, dI c.arrays, dN c.list, dI m.vals, dR m.arrs, .box (pL 0), .box [.ref 3, .ref 4]] [(2, .ptr 5 0), (3, .ptr 6 0), (4, .v (.pointer none)), (5, .v (.slice none 0 0)), (6, bA false)] fun G => b0 (wp_seq (i9 G (v5 2 (rg 5) hst) [0, 1, 2, 3, 4, 5, 23, 24, 25, 55] (bl4 c m []) (bl3 c m []) fun G => b0 (wp_seq (wp_seq (l6 G e6 [(17, .v (.bool !(i5 c && I6 c.vars.length c.arrays.length m)))] fun G => b0 (rF G (!(i5 c && I6 c.vars.length c.arrays.length m)) (by rw [hok]; rfl) (wp_skip (b0 (wp_seq (i9 G e6 (rg 11) (bl4 c m [.box [.v (.slice none 0 0)]]) (bl3 c m [(9, .ptr 10 0)]) fun G => b0 (wp_seq ?_)))))))))))); obtain ⟨ρ, G⟩ := G.nil 11 71 (.events []) 6 (bl4 c m [.box [.ref 11]]) (bl3 c m [(9, .ptr 10 0)]); refine i9 G (v5 2 [9, 6, 7, 8, 0, 1, 2, 10, 11] hex) [0, 1, 2, 3, 4, 6, 7, 8, 9, 10, 28] [dI c.vars, dI c.arrays, dN c.list, dI m.vals, dR m.arrs, .row 3 (D.ints (n6 c (l5 m) 20000).regs), .row 3 (D.ints (n6 c (l5 m) 20000).mem.vals), .tree (D.rows (n6 c (l5 m) 20000).mem.arrs), .box [iA (n6 c (l5 m) 20000).pc, .ref 5, .ref 6, .tref 7], .box [.ref 10], .row 71 (D.events (H4 c (l5 m) 20000))] [(4, .v (.pointer none)), (5, .v (.slice none 0 0)), (6, bA false), (7, .ptr 8 0), (8, bA false), (9, .ptr 9 0)] fun G => b0 (wp_seq (wp_seq (l6 G e6 [(22, bA true)] fun G => b0 (rT G true (by kernel_rfl) (wp_seq (l6 G e6 [] fun G => b0 (wp_ret (o8 ?_)))))))); exact J9 G (rg 5)
abbrev rcC (c : b6) (m x : v7) (v : List (Int × Int)) (b : Bool) : l0 := ⟨11, [pA 0, mA 3], kcS c ++ mS m, kcS c ++ mS m ++ mO x ++ [.row 71 (.events v)], .tup [mT 5, .ref 7, bA b]⟩
theorem a30 (c : b6) (m : v7) (s : s6) (v : List (Int × Int)) (hran : l0.ok Tryz.prog ⟨32, [pA 0, mA 3], kcS c ++ mS m, kcS c ++ mS m ++ rnO s ++ [.row 71 (.events v)], .tup [.ptr 5 0, .ref 9, bA true]⟩) : l0.ok Tryz.prog (rcC c m s.mem v true) := by
 have hrn := hran; refine J8 25 Tryz.func11 [dI c.vars, dI c.arrays, dN c.list, dI m.vals, dR m.arrs] [(0, pA 0), (1, .agg [.ref 3, .ref 4])] fun G => ?_; refine wp_seq (i9 G e6 [0, 1, 2, 3, 4, 5, 13, 21] [dI c.vars, dI c.arrays, dN c.list, dI m.vals, dR m.arrs, .box (pL 0), .box [.ref 3, .ref 4], .box [.v (.slice none 0 0), .v (.slice none 0 0)]] [(2, .ptr 5 0), (3, .ptr 6 0), (4, .ptr 7 0), (5, .v (.slice none 0 0)), (6, bA false)] fun G => b0 (wp_seq (i9 G (v5 2 (rg 5) hrn) [0, 1, 2, 3, 4, 7, 24, 25, 26, 27, 28] [dI c.vars, dI c.arrays, dN c.list, dI m.vals, dR m.arrs, .box [.v (.slice none 0 0), .v (.slice none 0 0)], .box [iA s.pc, .ref 7, .ref 8, .tref 9], .row 3 (D.ints s.regs), .row 3 (D.ints s.mem.vals), .tree (D.rows s.mem.arrs), .row 71 (D.events v)] [(4, .ptr 5 0), (5, .v (.slice none 0 0)), (6, bA false), (7, .ptr 6 0), (8, .ref 10), (9, bA true)] fun G => b0 (wp_seq (wp_seq (l6 G e6 [(18, bA false)] fun G => b0 (rF G false (by kernel_rfl) (wp_skip (b0 (wp_seq (i9 G e6 [0, 1, 2, 3, 4, 5, 8, 9, 10] [dI c.vars, dI c.arrays, dN c.list, dI m.vals, dR m.arrs, .box [.ref 6, .tref 7], .row 3 (D.ints s.mem.vals), .tree (D.rows s.mem.arrs), .row 71 (D.events v)] [(4, .ptr 5 0), (5, .ref 8), (6, bA true)] fun G => b0 (wp_ret ?_)))))))))))); exact J9 G [0, 1, 2, 3, 4, 6, 7, 8]
abbrev a89 (r0 : List (Nat × AV)) : List (Nat × AV) := (4, .ptr 5 0) :: (5, .v (.slice none 0 0)) :: (6, bA false) :: (7, .v (.pointer none)) :: (8, .v (.slice none 0 0)) :: r0
theorem ay5 (c : b6) (m : v7) (hran : l0.ok Tryz.prog ⟨32, [pA 0, mA 3], kcS c ++ mS m, kcS c ++ mS m, .tup [.v (.pointer none), .v (.slice none 0 0), bA false]⟩) : l0.ok Tryz.prog (rcC c m ⟨[], []⟩ [] false) := by
 have hrn := hran; refine J8 25 Tryz.func11 [dI c.vars, dI c.arrays, dN c.list, dI m.vals, dR m.arrs] [(0, pA 0), (1, .agg [.ref 3, .ref 4])] fun G => ?_; refine wp_seq (i9 G e6 [0, 1, 2, 3, 4, 5, 13, 21] [dI c.vars, dI c.arrays, dN c.list, dI m.vals, dR m.arrs, .box (pL 0), .box [.ref 3, .ref 4], .box [.v (.slice none 0 0), .v (.slice none 0 0)]] [(2, .ptr 5 0), (3, .ptr 6 0), (4, .ptr 7 0), (5, .v (.slice none 0 0)), (6, bA false)] fun G => b0 (wp_seq (i9 G (v5 2 (rg 5) hrn) [0, 1, 2, 3, 4, 7] [dI c.vars, dI c.arrays, dN c.list, dI m.vals, dR m.arrs, .box [.v (.slice none 0 0), .v (.slice none 0 0)]] (a89 [(9, bA false)]) fun G => b0 (wp_seq (wp_seq (l6 G e6 [(18, bA true)] fun G => b0 (rT G true (by kernel_rfl) (wp_seq (G9 G e6 (a89 []) fun G => b0 (wp_ret (o8 ?_))))))))))); obtain ⟨ρ, G⟩ := G.nil 6 3 (.ints []) 1 [dI c.vars, dI c.arrays, dN c.list, dI m.vals, dR m.arrs, .box [.ref 6, .v (.slice none 0 0)]] (a89 []); obtain ⟨ρ, G⟩ := G.nilT 7 (.rows []) [dI c.vars, dI c.arrays, dN c.list, dI m.vals, dR m.arrs, .box [.ref 6, .tref 7], .row 3 (D.ints [])] (a89 []); obtain ⟨ρ, G⟩ := G.nil 8 71 (.events []) 6 [dI c.vars, dI c.arrays, dN c.list, dI m.vals, dR m.arrs, .box [.ref 6, .tref 7], .row 3 (D.ints []), .tree (D.rows [])] [(4, .ptr 5 0), (5, .ref 8), (6, bA false), (7, .v (.pointer none)), (8, .v (.slice none 0 0))]; exact J9 G [0, 1, 2, 3, 4, 6, 7, 8]
def aQ2 (c : b6) (m x : v7) (v : List (Int × Int)) (b : Bool) : Prop :=
 (b = true ∧ i5 c = true ∧ I6 c.vars.length c.arrays.length m = true ∧ ∃ n, aF3 c m n ∧ x = bq3 c m n ∧ v = at9 c m n) ∨
 (b = false ∧ x = ⟨[], []⟩ ∧ v = [] ∧ ∀ n, ¬ (i5 c = true ∧ I6 c.vars.length c.arrays.length m = true ∧ aF3 c m n))
theorem aJ6 (c : b6) (m : v7) (hx : m.vals.length ≤ 1048576) (hr : m.arrs.length ≤ 1048576) (hi : ∀ r ∈ m.arrs, r.length ≤ 1048576) : ∃ x v b, aQ2 c m x v b ∧ l0.ok Tryz.prog (rcC c m x v b) := by
 cases hok : (i5 c && I6 c.vars.length c.arrays.length m) with
 | false =>
  refine ⟨_, _, _, .inr ⟨rfl, rfl, rfl, fun n h => ?_⟩, ay5 c m (bB5 c m hok hx hr hi)⟩
  rw [h.1, h.2.1] at hok; cases hok
 | true =>
  rw [b73] at hok
  obtain ⟨hc, hm⟩ := hok
  rcases bC0 c m with ⟨n, h⟩ | h
  ·refine ⟨_, _, _, .inl ⟨rfl, hc, hm, n, h, rfl, rfl⟩, a30 c m (n6 c (l5 m) (n + 1)) _ (bL7 c m (n + 1) hc hm ⟨?_, fun k hk => ?_, fun _ => ⟨n, rfl, h.fin⟩, fun e => by cases e⟩ hx hr hi)⟩
   ·have := h.lt; omega
   ·exact h.no k (by omega)
  ·refine ⟨_, _, _, .inr ⟨rfl, rfl, rfl, fun n h2 => ?_⟩, ay5 c m (bB4 c m hc hm ⟨b76 _, fun k hk => h k (by omega), (fun e => by cases e), fun _ => ⟨rfl, h⟩⟩ hx hr hi)⟩
   have := h n h2.2.2.lt
   rw [h2.2.2.fin] at this; cases this
theorem bq0 {c : b6} {m x : v7} {v : List (Int × Int)} {b : Bool} (h : aQ2 c m x v b) : v.length ≤ 100000 := by
 rcases h with ⟨_, _, _, n, h1, _, rfl⟩ | ⟨_, _, rfl, _⟩
 ·have := ay7 c (l5 m) (n + 1)
  have := h1.lt
  unfold at9; omega
 ·exact b92 _
structure aD9 (x y : d7) : Prop where
 r : ∀ m r, stR m y r = stR m x r
 m : ∀ m r, stM m y r = stM m x r
 e : ∀ r, stE y r = stE x r
 o : y.op = x.op
theorem same_refl (x : d7) : aD9 x x := ⟨fun _ _ => rfl, fun _ _ => rfl, fun _ => rfl, rfl⟩
theorem bo5 {x : d7} (h : 0 ≤ j6 x) (t : Int) : aD9 x (G0 x t) := by
 have ho : x.op = 8 ∨ x.op = 9 ∨ x.op = 10 := by
  unfold j6 at h
  by_cases h8 : x.op = 8
  ·exact .inl h8
  ·by_cases h9 : x.op = 9 ∨ x.op = 10
   ·exact .inr h9
   ·rw [if_neg h8, if_neg h9] at h; omega
 rcases ho with e | e | e
 ·have ha : G0 x t = { x with a := t } := by unfold G0; rw [if_pos e]
  rw [ha]
  refine ⟨fun m r => ?_, fun m r => ?_, fun r => ?_, rfl⟩
  ·simp [stR, e]
  ·simp [stM, e]
  ·simp [stE, e]
 ·have ha : G0 x t = { x with b := t } := by unfold G0; rw [if_neg (by omega), if_pos (.inl e)]
  rw [ha]
  refine ⟨fun m r => ?_, fun m r => ?_, fun r => ?_, rfl⟩
  ·simp [stR, e]
  ·simp [stM, e]
  ·simp [stE, e]
 ·have ha : G0 x t = { x with b := t } := by unfold G0; rw [if_neg (by omega), if_pos (.inr e)]
  rw [ha]
  refine ⟨fun m r => ?_, fun m r => ?_, fun r => ?_, rfl⟩
  ·simp [stR, e]
  ·simp [stM, e]
  ·simp [stE, e]
theorem bO5 {x : d7} (h : 0 ≤ j6 x) (t : Int) (r : List Int) (p q : Int) : (stP x r p = j6 x ∧ stP (G0 x t) r q = t) ∨ (x.op ≠ 8 ∧ stP x r p = p + 1 ∧ stP (G0 x t) r q = q + 1) := by
 unfold j6 at h ⊢
 by_cases e8 : x.op = 8
 ·left
  have ha : G0 x t = { x with a := t } := by unfold G0; rw [if_pos e8]
  rw [ha]; simp [stP, e8]
 rw [if_neg e8] at h ⊢
 by_cases e9 : x.op = 9
 ·have ha : G0 x t = { x with b := t } := by unfold G0; rw [if_neg e8, if_pos (.inl e9)]
  rw [ha, if_pos (.inl e9)]
  simp only [stP]
  rw [if_neg e8, if_neg e8, if_pos e9, if_pos e9]
  split
  ·exact .inl ⟨rfl, rfl⟩
  ·exact .inr ⟨e8, rfl, rfl⟩
 by_cases e10 : x.op = 10
 ·have ha : G0 x t = { x with b := t } := by unfold G0; rw [if_neg e8, if_pos (.inr e10)]
  rw [ha, if_pos (.inr e10)]
  simp only [stP]
  rw [if_neg e8, if_neg e8, if_neg e9, if_neg e9, if_pos e10, if_pos e10]
  split
  ·exact .inr ⟨e8, rfl, rfl⟩
  ·exact .inl ⟨rfl, rfl⟩
 ·rw [if_neg (by omega)] at h; omega
theorem aX1 {c : b6} {x : d7} (hx : y6 c x = true) (h : ¬ 0 ≤ j6 x) (h13 : x.op ≠ 13) (r : List Int) (p : Int) : stP x r p = p + 1 := by
 have := bs4 hx h
 unfold stP
 rw [if_neg this.1, if_neg this.2.1, if_neg this.2.2, if_neg h13]
theorem bu0 {c : b6} {s : s6} (h : isJ c s.pc = true) : i6 c s = ⟨(C0 c s.pc.toNat).a, s.regs, s.mem⟩ ∧ stE (H6 c s) s.regs = [] ∧ M9 c s = false := by
 unfold isJ at h
 have h8 : (C0 c s.pc.toNat).op = 8 := by simpa using h
 unfold i6 M9 H6
 simp [stP, stR, stM, stE, h8]
structure Sim (c d : b6) (R : Int → Int → Prop) : Prop where
 zero : R 0 0
 go : ∀ (s t : s6), P6 c s = true → Rc c s.pc → P6 d t = true → R s.pc t.pc → t.regs = s.regs → t.mem = s.mem → M9 c s = false →
  (R (i6 c s).pc t.pc ∧ (i6 c s).regs = s.regs ∧ (i6 c s).mem = s.mem ∧ stE (H6 c s) s.regs = []) ∨
  (aD9 (H6 c s) (H6 d t) ∧ R (i6 c s).pc (i6 d t).pc)
 fin : ∀ (s t : s6), P6 c s = true → Rc c s.pc → P6 d t = true → R s.pc t.pc → M9 c s = true → aD9 (H6 c s) (H6 d t)
theorem aY0 {c d : b6} {s t : s6} (h : aD9 (H6 c s) (H6 d t)) : M9 d t = M9 c s := by
 unfold M9; rw [h.o]
theorem aH4 {c d : b6} {s t : s6} (h : aD9 (H6 c s) (H6 d t)) (hr : t.regs = s.regs) (hm : t.mem = s.mem) : (i6 d t).regs = (i6 c s).regs ∧ (i6 d t).mem = (i6 c s).mem ∧ stE (H6 d t) t.regs = stE (H6 c s) s.regs := by
 unfold i6
 dsimp only
 rw [hr, hm, h.r, h.m, h.e]
 exact ⟨rfl, rfl, rfl⟩
section
variable {c d : b6} {R : Int → Int → Prop} {m : v7}
theorem bb4 (S : Sim c d R) (hc : i5 c = true) (hd : i5 d = true) (hm : I6 c.vars.length c.arrays.length m = true) (hm2 : I6 d.vars.length d.arrays.length m = true) : ∀ n : Nat, (∀ k, k < n → M9 c (n6 c (l5 m) k) = false) →
  ∃ i, i ≤ n ∧ R (n6 c (l5 m) n).pc (n6 d (l5 m) i).pc ∧ (n6 d (l5 m) i).regs = (n6 c (l5 m) n).regs ∧ (n6 d (l5 m) i).mem = (n6 c (l5 m) n).mem ∧
   z5 (H4 d (l5 m) i) = z5 (H4 c (l5 m) n) ∧ (H4 d (l5 m) i).length ≤ (H4 c (l5 m) n).length ∧ ∀ k, k < i → M9 d (n6 d (l5 m) k) = false
 | 0, _ => ⟨0, b76 _, S.zero, rfl, rfl, rfl, b76 _, fun k hk => absurd hk (Nat.not_lt_zero _)⟩
 | n + 1, hno => by
  obtain ⟨i, h0, h1, h2, h3, h4, h5, h6⟩ := bb4 S hc hd hm hm2 n fun k hk => hno k (by omega)
  have hs := ae2 hc (U6 hc hm) n
  have ht := ae2 hd (U6 hd hm2) i
  have hr := bb9 hc hm n
  have he := hno n (by omega)
  rcases S.go _ _ hs hr ht h1 h2 h3 he with ⟨g1, g2, g3, g4⟩ | ⟨g1, g2⟩
  ·refine ⟨i, by omega, g1, ?_, ?_, ?_, ?_, h6⟩
   ·rw [h2]; exact g2.symm
   ·rw [h3]; exact g3.symm
   ·rw [H4, K2, U9, g4, h4, List.append_nil]
   ·rw [H4, b74]; omega
  ·obtain ⟨k1, k2, k3⟩ := aH4 g1 h2 h3
   refine ⟨i + 1, by omega, g2, k1, k2, ?_, ?_, fun k hk => ?_⟩
   ·rw [H4, H4, K2, K2, U9, U9, k3, h4]
   ·rw [H4, H4, b74, b74]
    unfold D9
    rw [k3, b79, b79]; omega
   ·by_cases e : k = i
    ·subst e; rw [aY0 g1]; exact he
    ·exact h6 k (by omega)
theorem bA5 (S : Sim c d R) (hc : i5 c = true) (hd : i5 d = true) (hm : I6 c.vars.length c.arrays.length m = true) (hm2 : I6 d.vars.length d.arrays.length m = true) {n : Nat} (h : aF3 c m n) :
  ∃ i, aF3 d m i ∧ bq3 d m i = bq3 c m n ∧ z5 (at9 d m i) = z5 (at9 c m n) ∧ (at9 d m i).length ≤ (at9 c m n).length := by
 obtain ⟨i, h0, h1, h2, h3, h4, h5, h6⟩ := bb4 S hc hd hm hm2 n h.no
 have g := S.fin _ _ (ae2 hc (U6 hc hm) n) (bb9 hc hm n) (ae2 hd (U6 hd hm2) i) h1 h.fin
 obtain ⟨k1, k2, k3⟩ := aH4 g h2 h3
 have hlt := h.lt
 refine ⟨i, ⟨by omega, ?_, h6⟩, k2, ?_, ?_⟩
 ·rw [aY0 g]; exact h.fin
 ·unfold at9
  rw [H4, H4, K2, K2, U9, U9, k3, h4]
 ·unfold at9
  rw [H4, H4, b74, b74]
  unfold D9
  rw [k3, b79, b79]; omega
end
theorem aB0 {c : b6} {j : Nat} (hj : j < c.list.length) (hk : (A0 c).getD j false = true) : C0 (n5 c) (L5 (A0 c) j) = trI (A0 c) (C0 c j) := by
 have h1 := bt7 (fun i => trI (A0 c) (C0 c i)) (A0 c) hk c.list.length hj (by rw [O2]; exact b76 _)
 show (j5 c (A0 c) c.list.length).getD _ _ = _
 rw [b75]
 have e : j5 c (A0 c) c.list.length = ai8 (fun i => trI (A0 c) (C0 c i)) (A0 c) c.list.length := rfl
 rw [e, h1]; rfl
theorem aS4 (ks : List Bool) (x : d7) : aD9 x (trI ks x) := by
 unfold trI
 split
 ·rename_i h; exact bo5 h _
 ·exact same_refl x
theorem az8 {c : b6} {j : Nat} (hj : j < c.list.length) (hr : Rc c (j : Int)) (hk : (A0 c).getD j false = false) : isJ c j = true ∧ (C0 c j).a = (j : Int) + 1 := by
 rw [ag7 c j hj] at hk
 unfold kpB at hk
 rw [(ag4 hj).2 hr] at hk
 simp only [Bool.true_and, cb4] at hk
 unfold aB3 at hk
 simp only [b73, decide_eq_true_eq] at hk
 unfold isJ
 rw [cb0]
 exact ⟨by simp [hk.1], hk.2⟩
theorem bo1 {c : b6} (hc : i5 c = true) : Sim c (n5 c) fun p q => q = (L5 (A0 c) p.toNat : Int) where
 zero := by simp [V0]
 go := by
  rintro s t hs hr ht hR0 hR hM he
  obtain ⟨a1, a2, -⟩ := ab4 hs
  have hl : s.pc.toNat < c.list.length := by omega
  have hn : ((s.pc.toNat : Nat) : Int) = s.pc := by omega
  have hs1 := R5 (A0 c) s.pc.toNat (by rw [O2]; exact hl)
  cases hk : (A0 c).getD s.pc.toNat false with
  | true =>
   right
   have hi : H6 (n5 c) t = trI (A0 c) (H6 c s) := by
    show C0 (n5 c) t.pc.toNat = _
    rw [hR0, cb0, aB0 hl hk]; rfl
   have hx := aN7 hc a1 a2
   have h13 : (H6 c s).op ≠ 13 := by unfold M9 at he; simpa using he
   refine ⟨hi ▸ aS4 _ _, ?_⟩
   show stP (H6 (n5 c) t) t.regs t.pc = (L5 (A0 c) (stP (H6 c s) s.regs s.pc).toNat : Int)
   have hnext : (L5 (A0 c) (s.pc + 1).toNat : Int) = t.pc + 1 := by
    rw [show (s.pc + 1).toNat = s.pc.toNat + 1 by omega, hs1, hk, hR0]; simp
   rw [hi, hR]
   by_cases ht : 0 ≤ j6 (H6 c s)
   ·have e : trI (A0 c) (H6 c s) = G0 (H6 c s) (L5 (A0 c) (j6 (H6 c s)).toNat : Int) := by unfold trI; rw [if_pos ht]
    rw [e]
    rcases bO5 ht (L5 (A0 c) (j6 (H6 c s)).toNat : Int) s.regs s.pc t.pc with ⟨g1, g2⟩ | ⟨_, g1, g2⟩
    ·rw [g1, g2]
    ·rw [g1, g2, hnext]
   ·have e : trI (A0 c) (H6 c s) = H6 c s := by unfold trI; rw [if_neg ht]
    rw [e, aX1 hx ht h13, aX1 hx ht h13, hnext]
  | false =>
   left
   obtain ⟨hj, ha⟩ := az8 hl (by rw [hn]; exact hr) hk
   rw [hn] at hj
   obtain ⟨g1, g2, _⟩ := bu0 (c := c) (s := s) hj
   rw [g1]
   refine ⟨?_, rfl, rfl, g2⟩
   dsimp only
   rw [hR0, ha, show ((s.pc.toNat : Int) + 1).toNat = s.pc.toNat + 1 by omega, hs1, hk]; simp
 fin := by
  rintro s t hs hr ht hR0 he
  obtain ⟨a1, a2, -⟩ := ab4 hs
  have hl : s.pc.toNat < c.list.length := by omega
  have hn : ((s.pc.toNat : Nat) : Int) = s.pc := by omega
  cases hk : (A0 c).getD s.pc.toNat false with
  | true =>
   have hi : H6 (n5 c) t = trI (A0 c) (H6 c s) := by
    show C0 (n5 c) t.pc.toNat = _
    rw [hR0, cb0, aB0 hl hk]; rfl
   rw [hi]; exact aS4 _ _
  | false =>
   obtain ⟨hj, ha⟩ := az8 hl (by rw [hn]; exact hr) hk
   rw [hn] at hj
   rw [(bu0 (c := c) (s := s) hj).2.2] at he; cases he
theorem bC6 {c : b6} (hc : i5 c = true) {p : Int} (h : Rc c p) : Rc (n5 c) (L5 (A0 c) p.toNat : Int) := by
 induction h with
 | zero => rw [show (L5 (A0 c) (0 : Int).toNat : Int) = 0 by simp [V0]]; exact .zero
 | @step i t hi ht ih =>
  have h0 := Rc.nonneg hc hi
  have hl : i.toNat < c.list.length := by
   have hh := ht
   rcases b93 i.toNat c.list.length with h1 | h1
   ·exact h1
   ·unfold nx at hh; rw [b98 h1] at hh; simp at hh
  have hn : ((i.toNat : Nat) : Int) = i := by omega
  have hs1 := R5 (A0 c) i.toNat (by rw [O2]; exact hl)
  have hit : nx c i = E1 (C0 c i.toNat) i := by rw [E4 hl]; exact az7 hl
  cases hk : (A0 c).getD i.toNat false with
  | false =>
   obtain ⟨hj, ha⟩ := az8 hl (by rw [hn]; exact hi) hk
   have h8 : (C0 c i.toNat).op = 8 := by unfold isJ at hj; rw [cb0] at hj; simpa using hj
   rw [hit] at ht
   unfold E1 at ht
   simp [h8] at ht
   subst ht
   rw [ha, show ((i.toNat : Int) + 1).toNat = i.toNat + 1 by omega, hs1, hk]
   simpa using ih
  | true =>
   have hi2 := aB0 hl hk
   have hlt : L5 (A0 c) i.toNat < (n5 c).list.length := by
    show _ < (j5 c (A0 c) c.list.length).length
    rw [ap0 c _ _ (by rw [O2]; exact b76 _)]
    exact a44 (b76 _) hl (by rw [O2]; exact b76 _) hk
   refine .step ih ?_
   have hnx : nx (n5 c) (L5 (A0 c) i.toNat : Int) = E1 (trI (A0 c) (C0 c i.toNat)) (L5 (A0 c) i.toNat : Int) := by
    rw [az7 (by simpa using hlt)]
    congr 1
    rw [← hi2]
    simp only [cb0]
    exact (E4 hlt).symm
   rw [hnx]
   rw [hit] at ht
   have hnext : (L5 (A0 c) (i + 1).toNat : Int) = (L5 (A0 c) i.toNat : Int) + 1 := by
    rw [show (i + 1).toNat = i.toNat + 1 by omega, hs1, hk]; simp
   unfold trI
   split
   ·rename_i hx
    obtain ⟨T, hT⟩ : ∃ T, j6 (C0 c i.toNat) = T := ⟨_, rfl⟩
    obtain ⟨P, hP⟩ : ∃ P : Int, (L5 (A0 c) T.toNat : Int) = P := ⟨_, rfl⟩
    have htg := bH2 hx P
    rw [hT, hP]
    rw [hT] at hx
    unfold j6 at hT htg
    unfold E1 at ht ⊢
    rw [a86] at htg ⊢
    by_cases h13 : (C0 c i.toNat).op = 13
    ·rw [if_pos h13] at ht; simp at ht
    rw [if_neg h13] at ht ⊢
    by_cases h8 : (C0 c i.toNat).op = 8
    ·rw [if_pos h8] at ht htg hT ⊢
     rw [b94] at ht ⊢
     rw [htg, ht, hT, hP]
    ·rw [if_neg h8] at ht htg hT ⊢
     by_cases h9 : (C0 c i.toNat).op = 9 ∨ (C0 c i.toNat).op = 10
     ·rw [if_pos h9] at ht htg hT ⊢
      simp only [ca4, List.not_mem_nil, or_false] at ht ⊢
      rcases ht with rfl | rfl
      ·exact .inl hnext
      ·right; rw [htg, hT, hP]
     ·rw [if_neg h9] at hT; omega
   ·rename_i hx
    have hx' := bs4 ((l9 hc).2.2.2.1 i.toNat hl) (by rw [← E4 hl]; exact hx)
    rw [← E4 hl] at hx'
    unfold E1 at ht ⊢
    by_cases h13 : (C0 c i.toNat).op = 13
    ·rw [if_pos h13] at ht; simp at ht
    rw [if_neg h13, if_neg hx'.1, if_neg (by omega)] at ht ⊢
    rw [b94] at ht ⊢
    rw [ht]; exact hnext
theorem bm7 {c : b6} (hc : i5 c = true) {q : Nat} (hq : q < (n5 c).list.length) : Rc (n5 c) (q : Int) := by
 have hlen : (n5 c).list.length = L5 (A0 c) c.list.length := ap0 c _ _ (by rw [O2]; exact b76 _)
 obtain ⟨j, h1, h2, h3⟩ := br2 (A0 c) c.list.length (by rw [O2]; exact b76 _) q (by omega)
 have := bC6 hc (aN2 h1 h2)
 rw [cb0, h3] at this
 exact this
theorem ba5 {c : b6} {m : v7} (h : I6 c.vars.length c.arrays.length m = true) : I6 (n5 c).vars.length (n5 c).arrays.length m = true := h
def aJ9 (c d : b6) (m : v7) : Prop := ∀ n, aF3 c m n → ∃ i, aF3 d m i ∧ bq3 d m i = bq3 c m n ∧ z5 (at9 d m i) = z5 (at9 c m n) ∧ (at9 d m i).length ≤ (at9 c m n).length
theorem aJ9.trans {c d e : b6} {m : v7} (h : aJ9 c d m) (g : aJ9 d e m) : aJ9 c e m := by
 intro n hn
 obtain ⟨i, h1, h2, h3, h4⟩ := h n hn
 obtain ⟨j, g1, g2, g3, g4⟩ := g i h1
 exact ⟨j, g1, g2.trans h2, g3.trans h3, b97 g4 h4⟩
theorem a15 {c : b6} {m : v7} (hc : i5 c = true) (hm : I6 c.vars.length c.arrays.length m = true) : aJ9 c (n5 c) m := fun _ h => bA5 (bo1 hc) hc (av3 hc) hm (ba5 hm) h
theorem bC2 {c d : b6} {m x y : v7} {v w : List (Int × Int)} {b e : Bool} (hd : i5 d = true) (hm : I6 c.vars.length c.arrays.length m = true → I6 d.vars.length d.arrays.length m = true) (hA : i5 c = true → I6 c.vars.length c.arrays.length m = true → aJ9 c d m) (h : aQ2 c m x v b) (g : aQ2 d m y w e) (hb : b = true) : e = true ∧ y = x ∧ z5 w = z5 v ∧ w.length ≤ v.length := by
 rcases h with ⟨_, hc, hf, n, h1, rfl, rfl⟩ | ⟨h, _⟩
 ·obtain ⟨i, k1, k2, k3, k4⟩ := hA hc hf n h1
  rcases g with ⟨ge, _, _, j, g1, rfl, rfl⟩ | ⟨_, _, _, g4⟩
  ·obtain rfl := bp9 k1 g1
   exact ⟨ge, k2, k3, k4⟩
  ·exact absurd ⟨hd, hm hf, k1⟩ (g4 i)
 ·rw [h] at hb; cases hb
theorem bM1 {k : b6} (h : i5 k = true) : (B6 k).length = k.list.length := by
 unfold B6; rw [if_pos h]; exact ae4 k
theorem bT6 {k : b6} (h : i5 k = true) {i : Int} (h0 : 0 ≤ i) (h1 : i < k.list.length) : (B6 k).getD i.toNat false = true ↔ Rc k i := by
 have hl : i.toNat < k.list.length := by omega
 have e : ((i.toNat : Nat) : Int) = i := by omega
 unfold B6
 rw [if_pos h, ag4 hl, e]
theorem bT5 {k : b6} : (B6 k).length ≤ k.list.length := a36 k
theorem bc5 {l : List (Int × Int)} {k : Nat} (hk : k < l.length) : z5 (l.take (k + 1)) = z5 (l.take k) ++ z5 [l.getD k (0, 0)] := by
 rw [t2 _ _ hk, K2, r7 hk]
theorem b36 {l : List (Int × Int)} {k : Nat} (hk : k < l.length) (h1 : 2 ≤ (l.getD k (0, 0)).1) (h2 : (l.getD k (0, 0)).1 ≤ 4) : z5 (l.take (k + 1)) = z5 (l.take k) ++ [((l.getD k (0, 0)).1, (l.getD k (0, 0)).2)] := by
 rw [bc5 hk]
 generalize l.getD k (0, 0) = x at *
 unfold z5
 rw [List.filter_cons, decide_eq_true h1, decide_eq_true h2]; rfl
theorem b37 {l : List (Int × Int)} {k : Nat} (hk : k < l.length) (h : (l.getD k (0, 0)).1 < 2 ∨ 4 < (l.getD k (0, 0)).1) : z5 (l.take (k + 1)) = z5 (l.take k) := by
 rw [bc5 hk]
 generalize l.getD k (0, 0) = x at *
 unfold z5
 rw [List.filter_cons]
 rcases h with h | h
 ·rw [decide_eq_false (p := 2 ≤ x.1) (by omega)]; simp
 ·rw [decide_eq_false (p := x.1 ≤ 4) (by omega)]; simp
theorem bM9 {l : List (Int × Int)} {k : Nat} (hk : l.length ≤ k) : z5 (l.take k) = z5 l := by rw [b89 hk]
theorem bM8 (l : List (Int × Int)) : (z5 l).length ≤ l.length := List.length_filter_le ..
theorem bK0 (l : List (Int × Int)) (h1 : l.length ≤ 1000000) : l0.ok Tryz.prog ⟨15, [.ref 0], [.dat (.events l)], [.dat (.events l), .row 71 (.events (z5 l))], .ref 1⟩ := by
  refine J8 21 Tryz.func15 [dV l] [(0, .ref 0)] fun G => ?_; refine wp_seq (l6 G e6 [(2, .v (.slice none 0 0))] fun G => b0 (wp_seq (l6 G e6 [(3, .v (.slice none 0 0))] fun G => b0 (wp_seq (wp_seq (G9 G e6 [(2, .v (.slice none 0 0)), (3, .v (.slice none 0 0)), (6, .ref 0), (7, iA (l.length : Int)), (8, iA 0)] fun G => b0 (wp_block ?_))))))); obtain ⟨ρ, G⟩ := G.nil 1 71 (.events []) 6 [dV l] [(2, .v (.slice none 0 0)), (3, .ref 1), (6, .ref 0), (7, iA (l.length : Int)), (8, iA 0)]; refine x6 (κ := Nat) (fun k => k ≤ l.length) (fun k => l.length - k) (fun k => [dV l, .row 71 (.events (z5 (l.take k)))]) (fun k => [(2, .v (.slice none 0 0)), (3, .ref 1), (6, .ref 0), (7, iA (l.length : Int)), (8, iA k)]) 0 (by omega) (t7.at G _ _) ?_; clear G; intro k ρ a w hp G; replace G := t7.at G [dV l, .row 71 (D.events (z5 (b83 k l)))] [(2, .v (.slice none 0 0)), (3, .ref 1), (6, .ref 0), (7, iA (l.length : Int)), (8, iA k)]; have hpl := bM8 (l.take k)
  have hpm : (l.take k).length ≤ l.length := by rw [List.length_take]; exact Nat.min_le_right _ _
  refine wp_seq (l6 G e6 [(9, bA (decide ((k : Int) < l.length)))] fun G => b0 (wp_seq (rcD G (fun h0 q0 => ?_) fun h0 q0 => ?_)))
  · refine wp_exit (v9 (v9 (v6 (b0 (wp_seq (l6 G e6 [(2, .ref 1)] fun G => b0 (wp_ret ?_))))))); exact J9 G [0, 1] (by show _ = mR [0, 1] [dV l, .row 71 (D.events (z5 l))]; have e1 : (z5 l : List (Int × Int)) = (z5 (b83 k l)) := ((bM9 (by omega)).symm); (first | rw [e1] | simp only [e1]) <;> rfl)
  ·
   refine wp_skip (b0 (wp_seq (wp_block (wp_seq (K6 G e6 [0, 1, 18] [dV l, .row 71 (D.events (z5 (b83 k l))), .box [iA (l.getD k (0, 0)).fst, iA (l.getD k (0, 0)).snd]] [(2, .v (.slice none 0 0)), (3, .ref 1), (5, .ptr 2 0), (6, .ref 0), (7, iA (l.length : Int)), (8, iA k)] (iX k k l.length []) (iK (by omega) b84) fun G => b0 (wp_seq (l6 G (v5 2 [] (aY9 ((l.getD k (0, 0)).fst) 2 4)) [(14, bA (decide (2 ≤ (l.getD k (0, 0)).fst) && decide ((l.getD k (0, 0)).fst ≤ 4)))] fun G => b0 ?_))))))); cases h1 : (decide ((2 : Int) ≤ (l.getD k ((0 : Int), (0 : Int))).fst) && decide ((l.getD k ((0 : Int), (0 : Int))).fst ≤ 4))
   · have q1 : (¬ (2 ≤ (l.getD k (0, 0)).fst)) ∨ (¬ ((l.getD k (0, 0)).fst ≤ 4)) := Or.imp (fun hq => of_decide_eq_false hq) (fun hq => of_decide_eq_false hq) (Bool.and_eq_false_iff.1 h1); refine rF G _ h1 (wp_skip (i8 (b0 (K6 G e6 [0, 1] [dV l, .row 71 (D.events (z5 (b83 k l)))] [(2, .v (.slice none 0 0)), (3, .ref 1), (6, .ref 0), (7, iA (l.length : Int)), (8, iA ((k : Int) + 1))] [wO ((k : Int) + 1)] (o1 (by omega)) fun G => b0 ?_)))); exact L0 G (k + 1) (by omega) (by omega) [0, 1] (by have e1 : (z5 (b83 (k + 1) l) : List (Int × Int)) = (z5 (b83 k l)) := (b37 (by omega) (by omega)); (first | rw [e1] | simp only [e1]) <;> rfl)
   · have q1 : (2 ≤ (l.getD k (0, 0)).fst) ∧ ((l.getD k (0, 0)).fst ≤ 4) := And.imp (fun hq => of_decide_eq_true hq) (fun hq => of_decide_eq_true hq) (Bool.and_eq_true_iff.1 h1); refine rT G _ h1 (K6 G e6 [0, 27] [dV l, .row 71 (D.events (z5 (b83 k l) ++ ([(l.getD k (0, 0))] ++ [])))] [(2, .v (.slice none 0 0)), (3, .ref 1), (6, .ref 0), (7, iA (l.length : Int)), (8, iA k)] (aP ((z5 (b83 k l)).length + ([(l.getD k ((0 : Int), (0 : Int)))] ++ []).length) 16 []) (aK (by simp; omega) b84) fun G => i8 (b0 (D0 G e6 [(8, iA ((k : Int) + 1))] [wO ((k : Int) + 1)] (o1 (by omega)) fun G => b0 ?_))); exact L0 G (k + 1) (by omega) (by omega) [0, 1] (by have e1 : (z5 (b83 (k + 1) l) : List (Int × Int)) = (z5 (b83 k l) ++ ([(l.getD k (0, 0))] ++ [])) := (b36 (by omega) (by omega) (by omega)); (first | rw [e1] | simp only [e1]) <;> rfl)
abbrev evF (l : List (Int × Int)) : List Value := l.flatMap fun x => [Value.int .i64 x.1, .int .i64 x.2]
theorem F8.ev {w : World} {v : Value} {l : List (Int × Int)} (h : F8 w v l.length 2 (evF l)) : ∃ a cap, v = .slice a l.length cap ∧ l.length ≤ cap ∧ l.length ≤ 9223372036854775807 ∧ cap ≤ 9223372036854775807 ∧
  ∀ i (hi : i < l.length), ∃ b off, a = some ⟨b, off, none⟩ ∧ b < w.heap.size ∧ w.cell? ⟨b, off + i * 2, none⟩ = some (.int .i64 l[i].1) ∧ w.cell? ⟨b, off + i * 2 + 1, none⟩ = some (.int .i64 l[i].2) := by
 obtain ⟨a, cap, h0, h1, h2, h3, h4⟩ := h.open
 refine ⟨a, cap, h0, h1, h2, h3, fun i hi => ?_⟩
 obtain ⟨b, off, e, hb, hc⟩ := h4 i hi
 have c0 := hc 0 (by omega)
 have c1 := hc 1 (by omega)
 obtain ⟨y0, e0, g0⟩ := be2 l (j := 0) (x := .v (.int .i64 l[i].1)) hi (by rw [r7 hi]; rfl)
 obtain ⟨y1, e1, g1⟩ := be2 l (j := 1) (x := .v (.int .i64 l[i].2)) hi (by rw [r7 hi]; rfl)
 cases e0
 cases e1
 simp only [Nat.add_zero] at c0 g0
 exact ⟨b, off, e, hb, by rw [c0]; exact g0, by rw [c1]; exact g1⟩
theorem bO9 (x y : Int × Int) (w : World) : (binOp .neq 71 (.agg #[.int .i64 x.1, .int .i64 x.2]) (.agg #[.int .i64 y.1, .int .i64 y.2])).run Tryz.prog w = .ok (.bool (!decide (x = y))) w := by
 rw [run_neq_struct, run_equalIn_struct _ _ _ _ _ (by kernel_rfl) (by kernel_rfl)]
 rw [show (Tryz.prog.fieldsOf 71).toList = [⟨"Kind", 3, 0, false, "", "", 0⟩, ⟨"Value", 3, 1, false, "", "", 8⟩] from by kernel_rfl]
 simp only [Prod.ext_iff]
 simp [go_sem, Op.eqFields]
 (repeat' split) <;> simp_all
theorem bv0 (v1 v2 : Value) (xs ys : List (Int × Int)) (w : World) (h1 : F8 w v1 xs.length 2 (evF xs)) (h2 : F8 w v2 ys.length 2 (evF ys)) :
  Calls Tryz.prog 39 #[v1, v2] w fun e w' => e = .returned (.bool (decide (xs = ys))) ∧ ∃ n, w' = w.drewN n := by
 obtain ⟨a1, c1, rfl, -, hm1, -, hc1⟩ := h1.ev
 obtain ⟨a2, c2, rfl, -, hm2, -, hc2⟩ := h2.ev
 by_cases hl : xs.length = ys.length
 ·have heq : ((xs.length : Int) == (ys.length : Int)) = true := by simp; omega
  have HL : Hid (xs.length = ys.length) := hl
  clear h1 h2 hl
  go_enter Tryz.func39, Tryz.ntmps39
  go_wp2
  go_loopw [5, 13] (fun _ i wr => ∃ k : Nat, k ≤ xs.length ∧ i = .int .i64 k ∧ xs.take k = ys.take k ∧ ∃ n, wr = w.drewN n) (fun _ i _ => xs.length - (intOf i).toNat)
  case atStart => exact ⟨0, b92 _, rfl, rfl, 0, rfl⟩
  case round =>
   obtain ⟨k, hk, rfl, ht, nd, rfl⟩ := hrel
   have HT : Hid (xs.take k = ys.take k) := ht
   clear ht
   by_cases hlt : k < xs.length
   ·have hlt2 : k < ys.length := by have := HL.out; omega
    obtain ⟨b1, o1, e1, hb1, i0, i1⟩ := hc1 k hlt
    obtain ⟨b2, o2, e2, hb2, j0, j1⟩ := hc2 k hlt2
    have hq := fun w => bO9 xs[k] ys[k] w
    have HE := show Hid _ from (fun (h : xs[k] = ys[k]) => aa7 HT.out hlt hlt2 h)
    obtain ⟨q, hq0⟩ : ∃ q, q = !decide (xs[k] = ys[k]) := ⟨_, rfl⟩
    rw [← hq0] at hq
    have HQ0 := show Hid _ from hq0
    obtain ⟨x, hx⟩ : ∃ x, x = xs[k] := ⟨_, rfl⟩
    obtain ⟨y, hy⟩ : ∃ y, y = ys[k] := ⟨_, rfl⟩
    rw [← hx] at i0 i1
    rw [← hy] at j0 j1
    simp only [← hx, ← hy] at hq
    subst e1 e2
    clear hc1 hc2 hq0 hx hy
    cases q
    ·go_wp2
     go_quiet (fail)
     go_wp2
     refine ⟨⟨k + 1, by omega, by go_num, HE.out (by have := HQ0.out; simpa using this), _, by first | rfl | exact World.drewN_drewN _ _ _⟩, by simp [intOf]; omega⟩
    ·go_wp2
     go_quiet (fail)
     go_wp2
     go_ret
     exact ⟨j7 (by symm; simp; intro h; subst h; simpa using HQ0.out), _, by first | rfl | exact World.drewN_drewN _ _ _⟩
   ·go_wp2
    go_ret
    exact ⟨j7 (by symm; simp; exact ad6 HT.out (by omega) (by have := HL.out; omega)), _, rfl⟩
 ·have hne : ((xs.length : Int) == (ys.length : Int)) = false := by simp; omega
  clear hc1 hc2
  go_enter Tryz.func39, Tryz.ntmps39
  go_wp2
  go_ret
  exact ⟨j7 (by symm; simp; intro h; exact hl (by rw [h])), 0, rfl⟩
theorem bx6 (l m : List (Int × Int)) : l0.ok Tryz.prog (Z1 39 [.ref 0, .ref 1] [.dat (.events l), .dat (.events m)] (bA (decide (l = m)))) :=
 aj8 fun φ w ρ h => (bv0 _ _ l m w (m6.row (h 0 _ rfl)) (m6.row (h 1 _ rfl))).mono fun e w' ⟨h1, n, h2⟩ => ⟨h1, h2 ▸ below_drewN (Below.refl _ _) n⟩
theorem bZ1 (l m : List (Int × Int)) : l0.ok Tryz.prog (Z1 14 [.ref 0, .ref 1] [.dat (.events l), .dat (.events m)] (bA (decide (l = m)))) := by
 refine J8 8 Tryz.func14 [dV l, dV m] [(0, .ref 0), (1, .ref 1)] fun G => ?_; refine wp_seq (l6 G e6 [(4, bA false)] fun G => b0 (wp_seq (l6 G (v5 2 [0, 1] (bx6 l m)) [(4, bA (decide (l = m)))] fun G => b0 (wp_ret ?_)))); exact J9 G [0, 1]
theorem a32 {w : World} {φ : Nat → Prop} {v : Value} {l : List d7} (h : w.ownsRow 0 60 5 v l.length (ints (A8 l))) : (Rs.row 60 (D.instrs l).sz v (D.instrs l).len fun xs w φ => RW w φ (.instrs l) xs).holds w φ := by
 refine ⟨fun xs => RW.nice (.instrs l) xs, ints (A8 l), h, fun i hi j x hx => ?_⟩
 have hi' : i < l.length := hi
 obtain ⟨y, rfl, hy⟩ := bu8 l hi' hx
 exact ⟨y, hy, rfl⟩
theorem bG0 {f : FuncId} {c d : b6} {b : Bool} (h : ∀ (v : Value) (w : World), t6 w v c → Calls Tryz.prog f #[v] w fun e w' => ∃ u, e = .returned (.tuple #[u, .bool b]) ∧ D7 w' w.heap.size w'.heap.size u d ∧ Below w.heap.size w w') : l0.ok Tryz.prog ⟨f, [.agg [.ref 0, .ref 1, .ref 2]], [.dat (.ints c.vars), .dat (.ints c.arrays), .dat (.instrs c.list)], [.dat (.ints c.vars), .dat (.ints c.arrays), .dat (.instrs c.list), .row 3 (.ints d.vars), .row 3 (.ints d.arrays), .row 60 (.instrs d.list)], .tup [.agg [.ref 3, .ref 4, .ref 5], .v (.bool b)]⟩ := by
 intro ι φ ψ w0 w F ρ M
 have r0 := M.datAt (id := 0) (d := .ints c.vars) rfl
 have r1 := M.datAt (id := 1) (d := .ints c.arrays) rfl
 have r2 := M.datAt (id := 2) (d := .instrs c.list) rfl
 refine (h (.agg #[ρ 0, ρ 1, ρ 2]) w ⟨_, _, _, rfl, m6.row r0, m6.row r1, m6.row r2⟩).mono ?_
 rintro e w' ⟨u, rfl, ⟨v1, v2, v3, rfl, ⟨o1, g1⟩, ⟨o2, g2⟩, ⟨o3, g3⟩, d12, d13, d23⟩, hbl⟩
 refine ⟨fun i => if i = 3 then v1 else if i = 4 then v2 else if i = 5 then v3 else ρ i, fun i hi => ?_, by simp [AV.val, AV.vals], ?_⟩
 ·have hi' : i < 3 := hi
  simp only [if_neg (show ¬ i = 3 by omega), if_neg (show ¬ i = 4 by omega), if_neg (show ¬ i = 5 by omega)]
 ·refine M.grow hbl (fun k => k = .inr 3 ∨ k = .inr 4 ∨ k = .inr 5) (fun k hk => ?_) ?_ ?_ ?_
  ·cases k with
   | inl i => rfl
   | inr j =>
    match j, hk with
    | 0, _ => rfl
    | 1, _ => rfl
    | 2, _ => rfl
    | 3, h => exact absurd (.inl rfl) h
    | 4, h => exact absurd (.inr (.inl rfl)) h
    | 5, h => exact absurd (.inr (.inr rfl)) h
    | j + 6, _ => rfl
  ·rintro k (rfl | rfl | rfl) b hb
   ·exact (World.ownsRow.lt o1 b hb).1
   ·exact (World.ownsRow.lt o2 b hb).1
   ·exact (World.ownsRow.lt o3 b hb).1
  ·rintro j k b hjk (rfl | rfl | rfl) (rfl | rfl | rfl) h1 h2
   ·exact absurd rfl hjk
   ·exact d12 b h1 h2
   ·exact d13 b h1 h2
   ·exact d12 b h2 h1
   ·exact absurd rfl hjk
   ·exact d23 b h1 h2
   ·exact d13 b h2 h1
   ·exact d23 b h2 h1
   ·exact absurd rfl hjk
  ·rintro k (rfl | rfl | rfl)
   ·exact ap4 (A5 o1 (b92 _))
   ·exact ap4 (A5 o2 (b92 _))
   ·exact a32 (A5 o3 (b92 _))
theorem bE3 {ι : Type} {φ ψ : Nat → Prop} {w0 w w' : World} {F : ι → Rs} {ρ : Nat → Value} {a b c d : D} {u : Value} (M : i7 φ ψ w0 w (l7 F ρ (o5 [.dat a, .dat b, .dat c]))) (hbl : Below w.heap.size w w') (hr : ∀ φ' : Nat → Prop, (∀ g, w.heap.size ≤ g → φ' g) → RD w' φ' d u) : i7 φ ψ w0 w' (l7 F (fun i => if i = 3 then u else ρ i) (o5 [.dat a, .dat b, .dat c, .dat d])) := by
 have ho' : ∀ k, ¬ k = Sum.inr 3 → l7 F (fun i => if i = 3 then u else ρ i) (o5 [.dat a, .dat b, .dat c, .dat d]) k = l7 F ρ (o5 [.dat a, .dat b, .dat c]) k := by
  intro k hk
  cases k with
  | inl i => rfl
  | inr j =>
   match j, hk with
   | 0, _ => rfl
   | 1, _ => rfl
   | 2, _ => rfl
   | 3, h => exact absurd rfl h
   | j + 4, _ => rfl
 refine M.grow hbl (fun k => k = .inr 3) ho' (by rintro k rfl b hb; cases hb) (by rintro j k b hjk rfl rfl; exact absurd rfl hjk) ?_
 rintro k rfl
 refine ⟨RD.nice _ _, hr _ fun g h1 => ⟨M.fresh g (by have := M.kept.size; omega), fun k hk => ?_⟩⟩
 by_cases e : k = .inr 3
 ·subst e; cases hk
 ·rw [ho' k e] at hk
  have := M.lt hk
  omega
section
variable {f : FuncId} {c : b6}
theorem bx7 {m : List Bool} (h : ∀ (v : Value) (w : World), t6 w v c → Calls Tryz.prog f #[v] w fun e w' => ∃ u, e = .returned u ∧ A6 w' w.heap.size w'.heap.size 4 1 u m.length (bools m) ∧ Below w.heap.size w w') : l0.ok Tryz.prog ⟨f, [.agg [.ref 0, .ref 1, .ref 2]], [.dat (.ints c.vars), .dat (.ints c.arrays), .dat (.instrs c.list)], [.dat (.ints c.vars), .dat (.ints c.arrays), .dat (.instrs c.list), .dat (.bools m)], .ref 3⟩ := by
 intro ι φ ψ w0 w F ρ M
 refine (h (.agg #[ρ 0, ρ 1, ρ 2]) w ⟨_, _, _, rfl, m6.row (M.datAt (id := 0) (d := .ints c.vars) rfl), m6.row (M.datAt (id := 1) (d := .ints c.arrays) rfl), m6.row (M.datAt (id := 2) (d := .instrs c.list) rfl)⟩).mono ?_
 rintro e w' ⟨u, rfl, ho, hbl⟩
 exact ⟨_, fun i (hi : i < 3) => if_neg (show ¬ i = 3 by omega), by simp [AV.val], bE3 (u := u) M hbl fun _ hf => z6 ho.1 fun g hg => hf g (ho.lt g hg).1⟩
end
theorem a68 {f : FuncId} {c d : b6} {b : Bool} (h : ∀ (v : Value) (w : World), t6 w v c → Calls Tryz.prog f #[v] w fun e w' => ∃ u, e = .returned (.tuple #[u, .bool b]) ∧ H2 w' w.heap.size w'.heap.size u d ∧ Below w.heap.size w w') : l0.ok Tryz.prog ⟨f, [.agg [.ref 0, .ref 1, .ref 2]], [.dat (.ints c.vars), .dat (.ints c.arrays), .dat (.instrs c.list)], [.dat (.ints c.vars), .dat (.ints c.arrays), .dat (.instrs c.list), .dat (.ints d.vars), .dat (.ints d.arrays), .dat (.instrs d.list)], .tup [.agg [.ref 3, .ref 4, .ref 5], .v (.bool b)]⟩ := by
 intro ι φ ψ w0 w F ρ M
 have r0 := M.datAt (id := 0) (d := .ints c.vars) rfl
 have r1 := M.datAt (id := 1) (d := .ints c.arrays) rfl
 have r2 := M.datAt (id := 2) (d := .instrs c.list) rfl
 refine (h (.agg #[ρ 0, ρ 1, ρ 2]) w ⟨_, _, _, rfl, m6.row r0, m6.row r1, m6.row r2⟩).mono ?_
 rintro e w' ⟨u, rfl, ⟨v1, v2, v3, rfl, g1, g2, g3⟩, hbl⟩
 have ho' : ∀ k, ¬ (k = Sum.inr 3 ∨ k = Sum.inr 4 ∨ k = Sum.inr 5) → l7 F (fun i => if i = 3 then v1 else if i = 4 then v2 else if i = 5 then v3 else ρ i) (o5 [.dat (.ints c.vars), .dat (.ints c.arrays), .dat (.instrs c.list), .dat (.ints d.vars), .dat (.ints d.arrays), .dat (.instrs d.list)]) k = l7 F ρ (o5 [.dat (.ints c.vars), .dat (.ints c.arrays), .dat (.instrs c.list)]) k := by
  intro k hk
  cases k with
  | inl i => rfl
  | inr j =>
   match j, hk with
   | 0, _ => rfl
   | 1, _ => rfl
   | 2, _ => rfl
   | 3, h => exact absurd (.inl rfl) h
   | 4, h => exact absurd (.inr (.inl rfl)) h
   | 5, h => exact absurd (.inr (.inr rfl)) h
   | j + 6, _ => rfl
 have hfr : ∀ g, w.heap.size ≤ g ∧ g < w'.heap.size → W6 φ (l7 F (fun i => if i = 3 then v1 else if i = 4 then v2 else if i = 5 then v3 else ρ i) (o5 [.dat (.ints c.vars), .dat (.ints c.arrays), .dat (.instrs c.list), .dat (.ints d.vars), .dat (.ints d.arrays), .dat (.instrs d.list)])) g := by
  rintro g ⟨h1, -⟩
  refine ⟨M.fresh g (by have := M.kept.size; omega), fun k hk => ?_⟩
  by_cases e : k = Sum.inr 3 ∨ k = Sum.inr 4 ∨ k = Sum.inr 5
  ·rcases e with rfl | rfl | rfl <;> cases hk
  ·rw [ho' k e] at hk
   have := M.lt hk
   omega
 have hag : ∀ {v : Value} {n sz : Nat} {xs : List Value}, m6 w' (fun b => w.heap.size ≤ b ∧ b < w'.heap.size) v n sz xs → m6 w' (W6 φ (l7 F (fun i => if i = 3 then v1 else if i = 4 then v2 else if i = 5 then v3 else ρ i) (o5 [.dat (.ints c.vars), .dat (.ints c.arrays), .dat (.instrs c.list), .dat (.ints d.vars), .dat (.ints d.arrays), .dat (.instrs d.list)]))) v n sz xs :=
  fun h => m6.nice _ _ _ _ _ _ _ _ (Agr.mono fun b _ hp => hfr b hp) h
 refine ⟨fun i => if i = 3 then v1 else if i = 4 then v2 else if i = 5 then v3 else ρ i, fun i hi => ?_, by simp [AV.val, AV.vals], ?_⟩
 ·have hi' : i < 3 := hi
  simp only [if_neg (show ¬ i = 3 by omega), if_neg (show ¬ i = 4 by omega), if_neg (show ¬ i = 5 by omega)]
 ·refine M.grow hbl (fun k => k = .inr 3 ∨ k = .inr 4 ∨ k = .inr 5) ho' ?_ ?_ ?_
  ·rintro k (rfl | rfl | rfl) b hb <;> cases hb
  ·rintro j k b hjk (rfl | rfl | rfl) _ h1 _ <;> cases h1
  ·rintro k (rfl | rfl | rfl)
   ·exact ⟨RD.nice _ _, hag g1⟩
   ·exact ⟨RD.nice _ _, hag g2⟩
   ·exact ⟨RD.nice _ _, hag g3⟩
theorem aZ4 (v ar : List Int) (l : List d7) : l0.ok Tryz.prog (Z1 10 [.agg [.ref 0, .ref 1, .ref 2], .agg [.ref 3, .ref 4, .ref 5]] [.dat (.ints v), .dat (.ints ar), .dat (.instrs l), .dat (.ints v), .dat (.ints ar), .dat (.instrs l)] (bA true)) :=
 aj8 fun φ w ρ h => (aE7 _ _ ⟨v, ar, l⟩ ⟨v, ar, l⟩ w ⟨ρ 0, ρ 1, ρ 2, rfl, m6.row (h 0 _ rfl), m6.row (h 1 _ rfl), m6.row (h 2 _ rfl)⟩ ⟨ρ 3, ρ 4, ρ 5, rfl, m6.row (h 3 _ rfl), m6.row (h 4 _ rfl), m6.row (h 5 _ rfl)⟩).mono fun e w' h => ⟨by rw [h.1, b6.same_refl], h.2⟩
end Go.Proofs.YtmokkddidcmglaaGreat
