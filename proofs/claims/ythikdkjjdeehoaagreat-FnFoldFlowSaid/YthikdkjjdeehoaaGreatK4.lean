/-
  Texts of this claim, part 4: what the functions on the way do, and plain laws. Conditions: as each statement says.
-/
import Derived.WalkSpells
import Derived.Lib.SliceRun
import Derived.Test.YthikdkjjdeehoaaGreatK3
set_option maxRecDepth 100000
set_option maxHeartbeats 16000000
open Bool renaming and_eq_false_iff → bT9, and_eq_true → bR1, and_eq_true_iff → bU0, not_eq_false' → bS3, not_eq_true' → bS1
open Inhabited renaming default → bR0
open List renaming all_eq_true → bR9, eq_nil_of_length_eq_zero → bT3, foldl → bT8, getD_eq_getElem?_getD → bR6, getElem?_append_left → bU2, getElem?_eq_getElem → bR5, getElem?_eq_none → bU7, getElem_mem → bS7, length_append → bS5, length_cons → bR7, length_nil → bS2, map_cons → bU4, mem_append → bT2, mem_cons → bU8, mem_cons_of_mem → bS9, mem_cons_self → bS4, mem_of_getElem? → bR3, mem_singleton → bV0, range → bT4, take → bR4, take_of_length_le → bS6
open Nat renaming le_refl → bS8, le_trans → bU1, lt_or_ge → bU6, zero_add → bU9, zero_le → bU3
open Option renaming isSome_iff_exists → bV2
open True renaming intro → bR2

namespace Go.Proofs.YthikdkjjdeehoaaGreat
set_option linter.unusedVariables false
set_option linter.unusedSimpArgs false
open Go Go.RowKit
theorem a64 (p : f5) (strict : Bool) : ∀ (d : Nat) (ss : List b6) (pc : Int) (c : Nat), ss.all (i5 p.vars.length p.arrays.length d) = true → c + I8 ss ≤ 4000000 → l7.ok Tryz.prog (bA3 p d ss pc c strict) := by
 intro d
 induction d with
 | zero =>
  intro ss pc c h hc
  cases ss with
  | nil => exact a65 p pc c strict
  | cons s r => simp [i5] at h
 | succ d ih => intro ss pc c h hc; exact a63 p d strict ih ss pc c h hc
theorem K0 {p : f5} (h : m0 p = true) : p.body.all (i5 p.vars.length p.arrays.length 5) = true ∧ I8 p.body ≤ 60 := by
 simp only [m0, Q4, bR1, decide_eq_true_eq] at h
 exact ⟨h.1.2, h.2⟩
theorem bt5 (p : f5) (strict : Bool) (h : m0 p = true) : l7.ok Tryz.prog (I7 201 [pA 0, .ref 2, iA 0, iA 0, bA strict] (pS p) (.tup [iA (t9 p strict 5 0 0 p.body).1, iA (t9 p strict 5 0 0 p.body).2])) :=
 l7.dup (S := pS p) (S' := pS p) (d := .stmts p.body) (i := 2) (a64 p strict 5 p.body 0 0 (K0 h).1 (by have := (K0 h).2; omega)) rfl rfl rfl (fun ρ h => by simp only [AV.vals, AV.val]; rw [show ρ 3 = ρ 2 from h]; rfl) rfl
def H3 (p : f5) (strict : Bool) : Int × Int := if m0 p then (if (t9 p strict 5 0 0 p.body).1 = 0 then (0, -1) else ((t9 p strict 5 0 0 p.body).1, ((t9 p strict 5 0 0 p.body).2 : Int))) else (5, -1)
def ctR (p : f5) : Int × Int := if (H3 p false).1 = 0 then H3 p true else H3 p false
section
variable {p : f5} {strict : Bool}
theorem bc5 (h : m0 p = false) : H3 p strict = (5, -1) := by rw [H3, h]; rfl
theorem bc8 (h : m0 p = true) (h1 : (t9 p strict 5 0 0 p.body).1 = 0) : H3 p strict = (0, -1) := by rw [H3, h, h1]; rfl
theorem bs9 (h : m0 p = true) (h1 : ¬ (t9 p strict 5 0 0 p.body).1 = 0) : H3 p strict = ((t9 p strict 5 0 0 p.body).1, ((t9 p strict 5 0 0 p.body).2 : Int)) := by rw [H3, h, if_neg h1]; rfl
theorem bM0 (h : (H3 p false).1 = 0) : ctR p = H3 p true := if_pos h
theorem bL9 (h : ¬ (H3 p false).1 = 0) : ctR p = H3 p false := if_neg h
end
theorem bh1 (p : f5) (strict : Bool) (hb : r6 p.body ≤ 1048576) : l7.ok Tryz.prog (I7 150 [pA 0, bA strict] (pS p) (.tup [iA (H3 p strict).1, iA (H3 p strict).2])) := by
  refine G3 24 Tryz.func150 [dI p.vars, dI p.arrays, dT p.body] [(0, pA 0), (1, bA strict)] fun G => ?_; refine wp_seq (m6 G f9 (rg 4) [dI p.vars, dI p.arrays, dT p.body, .box (pL 0)] [(1, bA strict), (2, .ptr 3 0), (4, iA 0), (5, iA 0)] fun G => b5 (wp_seq (wp_seq (l5 G (A0 1 [0, 1, 2] (O6 p (by assumption))) [(10, .v (.bool !m0 p))] fun G => b5 ?_)))); cases h0 : (!m0 p)
  ·
   have q0 : (m0 p) = true := (Eq.mp (bS3 _) h0); refine rF G _ h0 (wp_skip (b5 (wp_seq (m6 G (A0 4 [0, 1, 2] (bt5 p strict (by assumption))) [0, 1, 2] [dI p.vars, dI p.arrays, dT p.body] [(4, iA 0), (5, iA 0), (6, iA (t9 p strict 5 0 0 p.body).fst), (7, iA ((t9 p strict 5 0 0 p.body).snd : Int))] fun G => b5 (wp_seq (wp_seq (l5 G f9 [(20, bA ((t9 p strict 5 0 0 p.body).fst == 0))] fun G => b5 (U9 G (fun h1 q1 => ?_) fun h1 q1 => ?_))))))))
   · refine wp_skip (b5 (wp_seq (l5 G f9 [(4, iA (t9 p strict 5 0 0 p.body).fst), (5, iA ((t9 p strict 5 0 0 p.body).snd : Int))] fun G => b5 (wp_ret ?_)))); exact rxv (.tup [iA (t9 p strict 5 0 0 p.body).fst, iA ((t9 p strict 5 0 0 p.body).snd : Int)]) G [0, 1, 2] (by have e1 : ((H3 p strict).fst : Int) = ((t9 p strict 5 0 0 p.body).fst) := (by rw [bs9 (by assumption) (by assumption)]; done); have e2 : ((H3 p strict).snd : Int) = (((t9 p strict 5 0 0 p.body).snd : Int)) := (by rw [bs9 (by assumption) (by assumption)]; done); (first | rw [e1, e2] | simp only [e1, e2]) <;> rfl)
   · refine wp_seq (l5 G f9 [(4, iA (t9 p strict 5 0 0 p.body).fst), (5, iA (-1))] fun G => b5 (wp_ret (m8 ?_))); exact rxv (.tup [iA (t9 p strict 5 0 0 p.body).fst, iA (-1)]) G [0, 1, 2] (by have e1 : ((H3 p strict).fst : Int) = ((t9 p strict 5 0 0 p.body).fst) := ((congrArg Prod.fst (bc8 (by assumption) (by assumption))).trans (Eq.symm (by assumption))); have e2 : ((H3 p strict).snd : Int) = (-1) := (by rw [bc8 (by assumption) (by assumption)]; done); (first | rw [e1, e2] | simp only [e1, e2]) <;> rfl)
  · have q0 : (m0 p) = false := (Eq.mp (bS1 _) h0); refine rT G _ h0 (wp_seq (l5 G f9 [(4, iA 5), (5, iA (-1))] fun G => b5 (wp_ret (m8 ?_)))); exact rxv (.tup [iA 5, iA (-1)]) G [0, 1, 2] (by have e1 : ((H3 p strict).fst : Int) = (5) := (by rw [bc5 (by assumption)]; done); have e2 : ((H3 p strict).snd : Int) = (-1) := (by rw [bc5 (by assumption)]; done); (first | rw [e1, e2] | simp only [e1, e2]) <;> rfl)
theorem aZ6 (p : f5) (hb : r6 p.body ≤ 1048576) : l7.ok Tryz.prog (I7 77 [pA 0] (pS p) (.tup [iA (H3 p false).1, iA (H3 p false).2])) := by
 refine G3 8 Tryz.func77 [dI p.vars, dI p.arrays, dT p.body] [(0, pA 0)] fun G => ?_; refine wp_seq (m6 G f9 (rg 4) [dI p.vars, dI p.arrays, dT p.body, .box (pL 0)] [(1, .ptr 3 0), (2, iA 0), (3, iA 0)] fun G => b5 (wp_seq (m6 G (A0 1 [0, 1, 2] (bh1 p false (by assumption))) [0, 1, 2] [dI p.vars, dI p.arrays, dT p.body] [(2, iA (H3 p false).fst), (3, iA (H3 p false).snd)] fun G => b5 (wp_ret ?_)))); exact M6 G [0, 1, 2]
theorem U0 (p : f5) (e : b9) (he : l0 p.vars.length p.arrays.length 5 e = true) : l7.ok Tryz.prog (I7 141 [pA 0, eA e 3] (pS p ++ eS e) (iA (i7 p e))) := aY5 p 5 e he
def ae5 (p : f5) (s : b6) (cx : Int) : Int := if s.kind = 2 then o7 (o7 (i7 p s.value) cx) (i7 p s.index) else o7 (i7 p s.value) cx
def O2 (p : f5) (s : b6) (cx : Int) : Int :=
 if s.kind = 1 then if anI (o7 (i7 p s.value) cx) (p.vars.getD s.target.toNat 0) = 0 then 0 else 1
 else if s.kind = 2 then if anI (o7 (o7 (i7 p s.value) cx) (i7 p s.index)) (p.arrays.getD s.target.toNat 0) = 0 then 0 else 1
 else if s.kind = 5 then if (f7 (i7 p s.value) && decide (i7 p s.value ≤ 1)) = true ∧ cx = 0 then 0 else 2
 else 0
theorem bk5 {p : f5} {s : b6} {cx : Int} (k : ¬ s.kind = 2) : ae5 p s cx = o7 (i7 p s.value) cx := if_neg k
theorem bk4 {p : f5} {s : b6} {cx : Int} (k : s.kind = 2) : ae5 p s cx = o7 (o7 (i7 p s.value) cx) (i7 p s.index) := if_pos k
section
variable {p : f5} {s : b6} {cx : Int}
theorem bQ1 (k : s.kind = 1) (h : (!(anI (ae5 p s cx) (p.vars.getD s.target.toNat 0) == 0)) = false) : O2 p s cx = 0 := by
 rw [bk5 (by omega)] at h
 rw [O2, if_pos k, if_pos (by simpa using h)]
theorem bQ2 (k : s.kind = 1) (h : (!(anI (ae5 p s cx) (p.vars.getD s.target.toNat 0) == 0)) = true) : O2 p s cx = 1 := by
 rw [bk5 (by omega)] at h
 rw [O2, if_pos k, if_neg (by simpa using h)]
theorem bP9 (k : s.kind = 2) (h : (!(anI (ae5 p s cx) (p.arrays.getD s.target.toNat 0) == 0)) = false) : O2 p s cx = 0 := by
 rw [bk4 k] at h
 rw [O2, if_neg (by omega), if_pos k, if_pos (by simpa using h)]
theorem bQ0 (k : s.kind = 2) (h : (!(anI (ae5 p s cx) (p.arrays.getD s.target.toNat 0) == 0)) = true) : O2 p s cx = 1 := by
 rw [bk4 k] at h
 rw [O2, if_neg (by omega), if_pos k, if_neg (by simpa using h)]
theorem bP8 (k : s.kind = 5) (h : (!(f7 (i7 p s.value) && decide (i7 p s.value ≤ 1))) = false) (h2 : cx = 0) : O2 p s cx = 0 := by
 rw [bS3] at h
 rw [O2, if_neg (by omega), if_neg (by omega), if_pos k, if_pos ⟨h, h2⟩]
theorem bK7 (k : s.kind = 5) (h : (!(f7 (i7 p s.value) && decide (i7 p s.value ≤ 1))) = true ∨ ¬ cx = 0) : O2 p s cx = 2 := by
 rw [O2, if_neg (by omega), if_neg (by omega), if_pos k, if_neg]
 rintro ⟨a, b⟩
 rcases h with h | h
 ·rw [a] at h; cases h
 ·exact h b
theorem if0 (k : ¬ s.kind = 1 ∧ ¬ s.kind = 2 ∧ ¬ s.kind = 5) : O2 p s cx = 0 := by rw [O2, if_neg k.1, if_neg k.2.1, if_neg k.2.2]
end
theorem aY2 (p : f5) (s : b6) (cx : Int) (h : C1 p.vars.length p.arrays.length s = true) (h4 : ¬ s.kind = 4) : l7.ok Tryz.prog (I7 139 [pA 0, sA s 3, iA cx] (pS p ++ sS s) (iA (ae5 p s cx))) := by
 refine G3 24 Tryz.func139 [dI p.vars, dI p.arrays, dT p.body, dE s.index.kids, dE s.value.kids, dT s.body, dT s.els] [(0, pA 0), (1, sA s 3), (2, iA cx)] fun G => ?_; refine wp_seq (m6 G f9 [0, 1, 2, 3, 4, 5, 6, 7, 15] [dI p.vars, dI p.arrays, dT p.body, dE s.index.kids, dE s.value.kids, dT s.body, dT s.els, .box (pL 0), .box (sL s 3)] [(2, iA cx), (3, .ptr 7 0), (4, .ptr 8 0), (6, iA 0)] fun G => b5 (wp_seq (l5 G (A0 3 [0, 1, 2, 4] (U0 p s.value (v6 h (by omega)))) [(7, iA (o7 (i7 p s.value) cx))] fun G => b5 (wp_seq (wp_seq (l5 G f9 [(16, bA (s.kind == 2))] fun G => b5 (U9 G (fun h0 q0 => ?_) fun h0 q0 => ?_)))))))
 ·refine wp_skip (b5 (wp_seq (m6 G f9 (rg 7) [dI p.vars, dI p.arrays, dT p.body, dE s.index.kids, dE s.value.kids, dT s.body, dT s.els] [(6, iA (o7 (i7 p s.value) cx))] fun G => b5 (wp_ret ?_)))); exact N1 (o7 (i7 p s.value) cx) G (rg 7) (bk5 (by assumption))
 ·refine m6 G (A0 4 (rg 4) (U0 p s.index (aa0 h (by assumption)))) (rg 7) [dI p.vars, dI p.arrays, dT p.body, dE s.index.kids, dE s.value.kids, dT s.body, dT s.els] [(6, iA 0), (7, iA (o7 (o7 (i7 p s.value) cx) (i7 p s.index)))] fun G => b5 (wp_seq (l5 G f9 [(6, iA (o7 (o7 (i7 p s.value) cx) (i7 p s.index)))] fun G => b5 (wp_ret ?_))); exact N1 (o7 (o7 (i7 p s.value) cx) (i7 p s.index)) G (rg 7) (bk4 (by assumption))
abbrev am8 (p : f5) (s : b6) (r0 : List It) : List It := dI p.vars :: dI p.arrays :: dT p.body :: dE s.index.kids :: dE s.value.kids :: dT s.body :: dT s.els :: r0
theorem bG7 (p : f5) (s : b6) (cx : Int) (h : C1 p.vars.length p.arrays.length s = true) : l7.ok Tryz.prog (I7 67 [pA 0, sA s 3, iA cx] (pS p ++ sS s) (iA (O2 p s cx))) := by
  refine G3 59 Tryz.func67 (am8 p s []) [(0, pA 0), (1, sA s 3), (2, iA cx)] fun G => ?_; refine wp_seq (m6 G f9 [0, 1, 2, 3, 4, 5, 6, 7, 15] (am8 p s [.box (pL 0), .box (sL s 3)]) [(2, iA cx), (3, .ptr 7 0), (4, .ptr 8 0), (6, iA 0)] fun G => b5 (wp_seq (wp_block (wp_seq ?_)))); cases h0 : (s.kind == 1)
  ·
   have q0 := ne_of_beq_false h0; refine bD9 G (F8 (fc h0 fz) (us [(4, 15, 0), (1016, 1016, 0)])) [0, 1, 3, 7, 15, 15, 15, 127, 15, 271, 15, 1039, 3855, 7951, 16383, 32767, 65535, 131071] [(7, bA false)] fun G => b5 (rF G false (by kernel_rfl) (wp_seq ?_)); cases h1 : (s.kind == 2)
   ·
    have q1 := ne_of_beq_false h1; refine bD9 G (F8 (fc h1 fz) (us [(4, 15, 0), (1016, 1016, 0)])) [0, 1, 3, 7, 15, 15, 15, 127, 15, 271, 15, 1039, 3855, 7951, 16383, 32767, 65535, 131071] [(25, bA false)] fun G => b5 (rF G false (by kernel_rfl) (wp_seq ?_)); cases h2 : (s.kind == 5)
    · have q2 := ne_of_beq_false h2; refine m6 G (F8 (fc h2 fz) (us [(4, 10, 0), (13, 13, 0), (1014, 1014, 0)])) (rg 7) (am8 p s []) [(6, iA 0), (43, bA false)] fun G => b5 (rF G false (by kernel_rfl) (wp_skip (o5 (b5 (wp_seq (l5 G f9 [] fun G => b5 (wp_ret ?_))))))); exact N1 0 G (rg 7) (if0 (by omega))
    ·
     have q2 := eq_of_beq h2; cases h3 : (!(f7 (i7 p s.value) && decide (i7 p s.value ≤ 1)))
     ·
      have q3 : ((f7 (i7 p s.value)) = true) ∧ (i7 p s.value ≤ 1) := (fun hq => And.imp (fun hq => (hq)) (fun hq => of_decide_eq_true hq) (bU0.1 hq)) (Eq.mp (bS3 _) h3); refine m6 G (B1 ⟨[(7, _, [0, 1, 2, 4]), (8, _, [])], [(s.kind == 5, true), (!(f7 (i7 p s.value) && decide (i7 p s.value ≤ 1)), false)], us [(4, 10, 0), (11, 12, 1), (13, 13, 0), (1013, 1013, 1), (1014, 1014, 0)]⟩ (b8 (U0 p s.value (v6 h (by omega))) (b8 (ad0 (i7 p s.value)) d7)) ⟨(by assumption), (by assumption), bR2⟩) (rg 7) (am8 p s []) [(6, iA 0), (43, bA (cx != 0))] fun G => b5 (rcN G (fun h4 q4 => ?_) fun h4 q4 => ?_)
      · refine wp_skip (o5 (b5 (wp_seq (l5 G f9 [] fun G => b5 (wp_ret ?_))))); exact N1 0 G (rg 7) (bP8 (by with_reducible assumption) (by with_reducible assumption) (by with_reducible assumption))
      · refine wp_seq (l5 G f9 [(6, iA 2)] fun G => b5 (wp_ret (C9 (m8 ?_)))); exact N1 2 G (rg 7) (bK7 (by with_reducible assumption) (.inr (by with_reducible assumption)))
     · have q3 : ((f7 (i7 p s.value)) = false) ∨ (¬ (i7 p s.value ≤ 1)) := (fun hq => Or.imp (fun hq => (hq)) (fun hq => of_decide_eq_false hq) (bT9.1 hq)) (Eq.mp (bS1 _) h3); refine m6 G (B1 ⟨[(7, _, [0, 1, 2, 4]), (8, _, [])], [(s.kind == 5, true), (!(f7 (i7 p s.value) && decide (i7 p s.value ≤ 1)), true)], us [(4, 10, 0), (11, 12, 1), (13, 13, 0), (1013, 1013, 1), (1014, 1014, 0)]⟩ (b8 (U0 p s.value (v6 h (by omega))) (b8 (ad0 (i7 p s.value)) d7)) ⟨(by assumption), (by assumption), bR2⟩) (rg 7) (am8 p s []) [(6, iA 0), (43, bA true)] fun G => b5 (rT G true (by kernel_rfl) (wp_seq (l5 G f9 [(6, iA 2)] fun G => b5 (wp_ret (C9 (m8 ?_)))))); exact N1 2 G (rg 7) (bK7 (by with_reducible assumption) (.inl (by with_reducible assumption)))
   ·
    have q1 := eq_of_beq h1; refine bm8 G (B1 ⟨[(7, _, (rg 7)), (14, _, [])], [(s.kind == 2, true)], us [(4, 15, 0), (1016, 1016, 0)]⟩ (b8 (aY2 p s cx (by assumption) (by omega)) (b8 (bd3 (ae5 p s cx) (p.arrays.getD s.target.toNat 0)) d7)) ⟨(by assumption), bR2⟩) [0, 1, 3, 7, 15, 15, 15, 127, 15, 271, 15, 1039, 3855, 7951, 16383, 32767, 65535, 131071] [(2, iA cx), (3, .ptr 7 0), (4, .ptr 8 0), (6, iA 0), (25, .v (.bool !anI (ae5 p s cx) (p.arrays.getD s.target.toNat 0) == 0))] [(0 : Int) ≤ s.target, s.target < (p.arrays.length : Int), s.target.toNat < p.arrays.length] ⟨((O4 h (by omega)).1), ((O4 h (by omega)).2.1), ((O4 h (by omega)).2.2), bR2⟩ fun G => b5 ?_; cases h5 : (!anI (ae5 p s cx) (p.arrays.getD s.target.toNat (0 : Int)) == 0)
    ·
     have q5 : anI (ae5 p s cx) (p.arrays.getD s.target.toNat 0) = 0 := (fun hq => eq_of_beq hq) (Eq.mp (bS3 _) h5); refine rF G _ h5 (wp_seq ?_); cases h6 : (s.kind == 5)
     · have q6 := ne_of_beq_false h6; refine m6 G (F8 (fc h6 fz) (us [(4, 10, 0), (13, 13, 0), (1014, 1014, 0)])) (rg 7) (am8 p s []) [(6, iA 0), (43, bA false)] fun G => b5 (rF G false (by kernel_rfl) (wp_skip (o5 (b5 (wp_seq (l5 G f9 [] fun G => b5 (wp_ret ?_))))))); exact N1 0 G (rg 7) (bP9 (by with_reducible assumption) (by with_reducible assumption))
     · have q6 := eq_of_beq h6; exact False.elim (by omega)
    · have q5 : ¬ (anI (ae5 p s cx) (p.arrays.getD s.target.toNat 0) = 0) := (fun hq => ne_of_beq_false hq) (Eq.mp (bS1 _) h5); refine rT G _ h5 (wp_seq (m6 G f9 (rg 7) (am8 p s []) [(6, iA 1)] fun G => b5 (wp_ret (C9 (m8 ?_))))); exact N1 1 G (rg 7) (bQ0 (by with_reducible assumption) (by with_reducible assumption))
  ·
   have q0 := eq_of_beq h0; refine bm8 G (B1 ⟨[(7, _, (rg 7)), (14, _, [])], [(s.kind == 1, true)], us [(4, 15, 0), (1016, 1016, 0)]⟩ (b8 (aY2 p s cx (by assumption) (by omega)) (b8 (bd3 (ae5 p s cx) (p.vars.getD s.target.toNat 0)) d7)) ⟨(by assumption), bR2⟩) [0, 1, 3, 7, 15, 15, 15, 127, 15, 271, 15, 1039, 3855, 7951, 16383, 32767, 65535, 131071] [(2, iA cx), (3, .ptr 7 0), (4, .ptr 8 0), (6, iA 0), (7, .v (.bool !anI (ae5 p s cx) (p.vars.getD s.target.toNat 0) == 0))] [(0 : Int) ≤ s.target, s.target < (p.vars.length : Int), s.target.toNat < p.vars.length] ⟨((O3 h (by omega)).1), ((O3 h (by omega)).2.1), ((O3 h (by omega)).2.2), bR2⟩ fun G => b5 ?_; cases h7 : (!anI (ae5 p s cx) (p.vars.getD s.target.toNat (0 : Int)) == 0)
   ·
    have q7 : anI (ae5 p s cx) (p.vars.getD s.target.toNat 0) = 0 := (fun hq => eq_of_beq hq) (Eq.mp (bS3 _) h7); refine rF G _ h7 (wp_seq ?_); cases h8 : (s.kind == 2)
    ·
     have q8 := ne_of_beq_false h8; refine bN9 G (F8 (fc h8 fz) (us [(4, 15, 0), (1016, 1016, 0)])) [0, 1, 3, 7, 15, 15, 15, 127, 15, 271, 15, 1039, 3855, 7951, 16383, 32767, 65535, 131071] [(2, iA cx), (3, .ptr 7 0), (4, .ptr 8 0), (6, iA 0), (25, bA false)] fun G => b5 (rF G false (by kernel_rfl) (wp_seq ?_)); cases h9 : (s.kind == 5)
     · have q9 := ne_of_beq_false h9; refine m6 G (F8 (fc h9 fz) (us [(4, 10, 0), (13, 13, 0), (1014, 1014, 0)])) (rg 7) (am8 p s []) [(6, iA 0), (43, bA false)] fun G => b5 (rF G false (by kernel_rfl) (wp_skip (o5 (b5 (wp_seq (l5 G f9 [] fun G => b5 (wp_ret ?_))))))); exact N1 0 G (rg 7) (bQ1 (by with_reducible assumption) (by with_reducible assumption))
     · have q9 := eq_of_beq h9; exact False.elim (by omega)
    · have q8 := eq_of_beq h8; exact False.elim (by omega)
   · have q7 : ¬ (anI (ae5 p s cx) (p.vars.getD s.target.toNat 0) = 0) := (fun hq => ne_of_beq_false hq) (Eq.mp (bS1 _) h7); refine rT G _ h7 (wp_seq (m6 G f9 (rg 7) (am8 p s []) [(6, iA 1)] fun G => b5 (wp_ret (C9 (m8 ?_))))); exact N1 1 G (rg 7) (bQ2 (by with_reducible assumption) (by with_reducible assumption))
def B3 (p : f5) : Nat → Int → List b6 → List (b6 × Int)
 | 0, _, _ => []
 | d + 1, cx, ss => ss.flatMap fun s => (s, cx) :: (B3 p d (F7 p s cx) s.body ++ B3 p d (F7 p s cx) s.els)
theorem aF1 (p : f5) (d : Nat) (cx : Int) (s : b6) (r : List b6) : B3 p (d + 1) cx (s :: r) = (s, cx) :: (B3 p d (F7 p s cx) s.body ++ B3 p d (F7 p s cx) s.els) ++ B3 p (d + 1) cx r := by
 simp only [B3, List.flatMap_cons]
theorem by7 (p : f5) (d : Nat) (cx : Int) : B3 p d cx [] = [] := by cases d <;> rfl
theorem a55 (p : f5) (d : Nat) (cx : Int) (a b : List b6) : B3 p d cx (a ++ b) = B3 p d cx a ++ B3 p d cx b := by
 cases d with
 | zero => rfl
 | succ d => simp [B3]
theorem br9 (p : f5) (d : Nat) (cx : Int) {ss : List b6} {k : Nat} (hk : k < ss.length) :
  B3 p (d + 1) cx (ss.take (k + 1)) = B3 p (d + 1) cx (ss.take k) ++ ((ss.getD k bR0, cx) :: (B3 p d (F7 p (ss.getD k bR0) cx) (ss.getD k bR0).body ++ B3 p d (F7 p (ss.getD k bR0) cx) (ss.getD k bR0).els)) := by
 rw [s5 _ _ hk, a55, s4 hk, aF1, by7, List.append_nil]
theorem ap6 (p : f5) : ∀ (d : Nat) (cx : Int) (ss : List b6), (B3 p d cx ss).length ≤ I8 ss
 | 0, _, _ => bU3 _
 | d + 1, cx, [] => by simp [B3]
 | d + 1, cx, s :: r => by
  rw [aF1, bS5, bR7, bS5, I8, ar9]
  have h1 := ap6 p d (F7 p s cx) s.body
  have h2 := ap6 p d (F7 p s cx) s.els
  have h3 := ap6 p (d + 1) cx r
  omega
def C8 (R : b6 × Int → Int) : Nat → List (b6 × Int) → Int × Nat
 | c, [] => (0, c)
 | c, x :: r => if R x = 0 then C8 R (c + 1) r else (R x, c)
theorem Y5 (R : b6 × Int → Int) : ∀ (a b : List (b6 × Int)) (c : Nat), C8 R c (a ++ b) = if (C8 R c a).1 = 0 then C8 R (C8 R c a).2 b else C8 R c a
 | [], b, c => by simp [C8]
 | x :: r, b, c => by
  simp only [List.cons_append, C8]
  by_cases h : R x = 0
  ·simp only [h, if_true]; exact Y5 R r b _
  ·simp [h]
theorem ab6 {R R' : b6 × Int → Int} : ∀ {l : List (b6 × Int)} {c : Nat}, (∀ x ∈ l, R x = R' x) → C8 R c l = C8 R' c l
 | [], c, _ => rfl
 | x :: r, c, h => by
  simp only [C8]
  rw [h x bS4, ab6 fun y hy => h y (bS9 _ hy)]
theorem av9 {R : b6 × Int → Int} : ∀ {l : List (b6 × Int)} {c : Nat}, (C8 R c l).1 = 0 ↔ ∀ x ∈ l, R x = 0
 | [], c => by simp [C8]
 | x :: r, c => by
  simp only [C8, bU8, forall_eq_or_imp]
  by_cases h : R x = 0
  ·rw [if_pos h, av9]; simp [h]
  ·rw [if_neg h]; simp [h]
theorem bv5 (p : f5) (strict : Bool) (d : Nat) (ih : ∀ (cx : Int) (c : Nat) (ss : List b6), t9 p strict d cx c ss = C8 (fun x => L5 p x.1 x.2 strict) c (B3 p d cx ss)) (cx : Int) (c : Nat) (s : b6) :
  stC p strict (d + 1) cx c s = C8 (fun x => L5 p x.1 x.2 strict) c ((s, cx) :: (B3 p d (F7 p s cx) s.body ++ B3 p d (F7 p s cx) s.els)) := by
 have h1 := ih (F7 p s cx) (c + 1) s.body
 unfold t9 at h1
 rw [stC, C8]
 simp only
 split
 ·rw [Y5, h1]
  split
  ·exact ih _ _ _
  ·rfl
 ·rfl
theorem ay4 (p : f5) (strict : Bool) : ∀ (d : Nat) (cx : Int) (c : Nat) (ss : List b6), t9 p strict d cx c ss = C8 (fun x => L5 p x.1 x.2 strict) c (B3 p d cx ss)
 | 0, cx, c, ss => by
  induction ss with
  | nil => rfl
  | cons s r ih => unfold t9 at ih ⊢; rw [D5]; simp only [stC, if_true]; exact ih
 | d + 1, cx, c, ss => by
  induction ss generalizing c with
  | nil => simp [D5, B3, C8]
  | cons s r ih =>
   unfold t9 at ih ⊢
   rw [D5, aF1, Y5, ← bv5 p strict d (ay4 p strict d)]
   split
   ·exact ih _
   ·rfl
def i6 (R : b6 × Int → Int) (σ : Int × Int × Nat) (x : b6 × Int) : Int × Int × Nat :=
 if σ.1 = 0 then (R x, if R x = 0 then σ.2.1 else (σ.2.2 : Int), σ.2.2 + 1) else (σ.1, σ.2.1, σ.2.2 + 1)
theorem ar2 (R : b6 × Int → Int) : ∀ (l : List (b6 × Int)) (σ : Int × Int × Nat), (l.foldl (i6 R) σ).2.2 = σ.2.2 + l.length
 | [], σ => rfl
 | x :: r, σ => by
  rw [List.foldl_cons, ar2 R r, bR7]
  unfold i6
  split <;> simp only <;> omega
theorem aB2 {R : b6 × Int → Int} : ∀ (l : List (b6 × Int)) {σ : Int × Int × Nat}, ¬ σ.1 = 0 → (l.foldl (i6 R) σ).1 = σ.1 ∧ (l.foldl (i6 R) σ).2.1 = σ.2.1
 | [], σ, h => ⟨rfl, rfl⟩
 | x :: r, σ, h => by
  rw [List.foldl_cons]
  have e : i6 R σ x = (σ.1, σ.2.1, σ.2.2 + 1) := by unfold i6; rw [if_neg h]
  rw [e]
  exact aB2 r (σ := (σ.1, σ.2.1, σ.2.2 + 1)) h
theorem ae6 {R : b6 × Int → Int} : ∀ (l : List (b6 × Int)) (n : Nat), ((l.foldl (i6 R) (0, -1, n)).1, (l.foldl (i6 R) (0, -1, n)).2.1) = if (C8 R n l).1 = 0 then ((0 : Int), (-1 : Int)) else ((C8 R n l).1, ((C8 R n l).2 : Int))
 | [], n => rfl
 | x :: r, n => by
  rw [List.foldl_cons, C8]
  by_cases h : R x = 0
  ·have e : i6 R (0, -1, n) x = (0, -1, n + 1) := by unfold i6; simp [h]
   rw [e, if_pos h]; exact ae6 r (n + 1)
  ·have e : i6 R (0, -1, n) x = (R x, (n : Int), n + 1) := by unfold i6; simp [h]
   rw [e, if_neg h, if_neg h]
   obtain ⟨h1, h2⟩ := aB2 (R := R) r (σ := (R x, (n : Int), n + 1)) h
   rw [h1, h2]
theorem aJ8 {R : b6 × Int → Int} {p : f5} {d : Nat} {cx : Int} {ss : List b6} {k : Nat} (hk : k < ss.length) (σ : Int × Int × Nat) :
  (B3 p (d + 1) cx (ss.take (k + 1))).foldl (i6 R) σ =
   (B3 p d (F7 p (ss.getD k bR0) cx) (ss.getD k bR0).els).foldl (i6 R) ((B3 p d (F7 p (ss.getD k bR0) cx) (ss.getD k bR0).body).foldl (i6 R) (i6 R ((B3 p (d + 1) cx (ss.take k)).foldl (i6 R) σ) (ss.getD k bR0, cx))) := by
 rw [br9 p d cx hk, List.foldl_append, List.foldl_cons, List.foldl_append]
theorem bE1 : ∀ x : Fin 4, ∀ y : Fin 4, ∃ z : Fin 4, o7 x.val y.val = (z.val : Int) := by decide +kernel
theorem T0 {x y : Int} (hx : f7 x = true) (hy : f7 y = true) : f7 (o7 x y) = true := by
 obtain ⟨a, rfl⟩ := E9 hx
 obtain ⟨b, rfl⟩ := E9 hy
 obtain ⟨c, h⟩ := bE1 a b
 rw [h]
 simp [f7]; omega
theorem aV1 : ∀ x : Fin 4, ∀ y : Fin 4, o7 x.val y.val = o7 y.val x.val := by decide +kernel
theorem aO7 : ∀ x : Fin 4, ∀ y : Fin 4, ∀ z : Fin 4, o7 (o7 x.val y.val) z.val = o7 x.val (o7 y.val z.val) := by decide +kernel
theorem or_comm {x y : Int} (hx : f7 x = true) (hy : f7 y = true) : o7 x y = o7 y x := by
 obtain ⟨a, rfl⟩ := E9 hx
 obtain ⟨b, rfl⟩ := E9 hy
 exact aV1 a b
theorem or_assoc {x y z : Int} (hx : f7 x = true) (hy : f7 y = true) (hz : f7 z = true) : o7 (o7 x y) z = o7 x (o7 y z) := by
 obtain ⟨a, rfl⟩ := E9 hx
 obtain ⟨b, rfl⟩ := E9 hy
 obtain ⟨c, rfl⟩ := E9 hz
 exact aO7 a b c
theorem X3 {l : List Int} (h : l.all f7 = true) (i : Nat) : f7 (l.getD i 0) = true := by
 rcases bU6 i l.length with hi | hi
 ·rw [s4 hi]; exact bR9.1 h _ (bS7 hi)
 ·rw [bR6, bU7 hi]; rfl
theorem T7 {vs ars : List Int} (h1 : vs.all f7 = true) (h2 : ars.all f7 = true) : ∀ (d : Nat) (e : b9), f7 (m7 vs ars d e) = true
 | 0, _ => rfl
 | d + 1, e => by
  rw [m7]
  have key : ∀ (ks : List b9) (a : Int), f7 a = true → f7 (ks.foldl (fun a k => o7 a (m7 vs ars d k)) a) = true := by
   intro ks
   induction ks with
   | nil => intro a ha; exact ha
   | cons x r ih => intro a ha; rw [List.foldl_cons]; exact ih _ (T0 ha (T7 h1 h2 d x))
  refine key _ _ ?_
  unfold al3
  split
  ·exact X3 h1 _
  ·split
   ·exact X3 h2 _
   ·rfl
def ao9 (p : f5) : Bool := p.vars.all f7 && p.arrays.all f7
theorem al1 {p : f5} (h : m0 p = true) : ao9 p = true := by
 unfold m0 D3 at h
 simp only [bR1] at h
 unfold ao9
 rw [h.1.1.1.1.1.1, h.1.1.1.1.1.2]; rfl
theorem aP6 {p : f5} (h : ao9 p = true) (e : b9) : f7 (i7 p e) = true := by
 simp only [ao9, bR1] at h
 exact T7 h.1 h.2 5 e
theorem bb0 {p : f5} (h : ao9 p = true) {cx : Int} (hc : f7 cx = true) (s : b6) : f7 (F7 p s cx) = true := by
 unfold F7
 split
 ·exact T0 hc (aP6 h _)
 ·exact hc
theorem ax9 {p : f5} (hp : ao9 p = true) : ∀ (d : Nat) (cx : Int) (ss : List b6), f7 cx = true → ss.all (i5 p.vars.length p.arrays.length d) = true → ∀ x ∈ B3 p d cx ss, C1 p.vars.length p.arrays.length x.1 = true ∧ f7 x.2 = true ∧ (x.1.kind = 4 → x.1.value.kind = 0 ∧ x.1.value.kids = [])
 | 0, cx, ss, _, _, x, hx => by simp [B3] at hx
 | d + 1, cx, ss, hc, hs, x, hx => by
  rw [B3] at hx
  obtain ⟨s, hss, hx⟩ := List.mem_flatMap.1 hx
  have h0 := bR9.1 hs s hss
  have h1 := h0
  rw [F2, bR1, bR1] at h1
  rw [bU8, bT2] at hx
  rcases hx with rfl | hx | hx
  ·refine ⟨h1.1, hc, fun k4 => ?_⟩
   rw [i5, bR1] at h0
   have h2 := h0.1
   unfold B6 at h2
   rw [if_pos (.inr k4), if_pos k4] at h2
   simp only [bR1, decide_eq_true_eq, noneB] at h2
   exact ⟨h2.2.2.1.1, bT3 h2.2.2.2⟩
  ·exact ax9 hp d _ _ (bb0 hp hc s) h1.2.1 x hx
  ·exact ax9 hp d _ _ (bb0 hp hc s) h1.2.2 x hx
theorem by5 {p : f5} (hp : ao9 p = true) {s : b6} {cx : Int} (hc : f7 cx = true) : O2 p s cx = J5 p s cx := by
 have hv := aP6 hp s.value
 have hi := aP6 hp s.index
 simp only [ao9, bR1] at hp
 unfold O2 J5
 by_cases k1 : s.kind = 1
 ·rw [if_pos k1, if_pos k1]
  have hx := T0 hv hc
  have hy := X3 hp.1 s.target.toNat
  have := aX0 hx hy
  unfold flB
  rw [hx, hy]
  by_cases h : anI (o7 (i7 p s.value) cx) (p.vars.getD s.target.toNat 0) = 0
  ·rw [if_pos h, if_pos]
   rw [beq_iff_eq.2 h] at this
   rw [← this]; rfl
  ·rw [if_neg h, if_neg]
   rw [beq_eq_false_iff_ne.2 h] at this
   rw [← this]; simp
 rw [if_neg k1, if_neg k1]
 by_cases k2 : s.kind = 2
 ·rw [if_pos k2, if_pos k2]
  have e : o7 (o7 (i7 p s.value) cx) (i7 p s.index) = o7 (o7 (i7 p s.value) (i7 p s.index)) cx := by
   rw [or_assoc hv hc hi, or_comm hc hi, ← or_assoc hv hi hc]
  rw [e]
  have hx := T0 (T0 hv hi) hc
  have hy := X3 hp.2 s.target.toNat
  have := aX0 hx hy
  unfold flB
  rw [hx, hy]
  by_cases h : anI (o7 (o7 (i7 p s.value) (i7 p s.index)) cx) (p.arrays.getD s.target.toNat 0) = 0
  ·rw [if_pos h, if_pos]
   rw [beq_iff_eq.2 h] at this
   rw [← this]; rfl
  ·rw [if_neg h, if_neg]
   rw [beq_eq_false_iff_ne.2 h] at this
   rw [← this]; simp
 rw [if_neg k2, if_neg k2]
 by_cases k5 : s.kind = 5
 ·rw [if_pos k5, if_pos k5]
  by_cases h : (f7 (i7 p s.value) && decide (i7 p s.value ≤ 1)) = true ∧ cx = 0
  ·rw [if_pos h, if_pos]
   rw [h.1, decide_eq_true h.2]; rfl
  ·rw [if_neg h, if_neg]
   rw [bR1, decide_eq_true_eq]; exact h
 ·rw [if_neg k5, if_neg k5]
def V4 (p : f5) (s : b6) : Int :=
 if s.kind = 3 ∧ ak9 (i7 p s.value) = true then 3
 else if (s.kind = 2 ∧ ak9 (i7 p s.index) = true) ∨ s9 p.vars p.arrays 5 s.value = true then 4 else 0
theorem by4 {p : f5} {s : b6} (h : s.kind = 4 → s.value.kind = 0 ∧ s.value.kids = []) : V4 p s = X0 p s := by
 unfold V4 X0
 split
 ·rfl
 ·by_cases k4 : s.kind = 4
  ·obtain ⟨h1, h2⟩ := h k4
   have e : s9 p.vars p.arrays 5 s.value = false := by rw [s9, h2]; simp [h1]
   rw [e]
   simp [k4]
  ·simp only [ne_eq, k4, not_false_eq_true, true_and]
   by_cases a : s.kind = 2 ∧ ak9 (i7 p s.index) = true <;> by_cases b : s9 p.vars p.arrays 5 s.value = true <;> simp [a, b]
theorem bc7 {p : f5} (h : m0 p = true) : ((B3 p 5 0 p.body).foldl (i6 fun x => O2 p x.1 x.2) (0, -1, 0)).1 = (H3 p false).1 ∧ ((B3 p 5 0 p.body).foldl (i6 fun x => O2 p x.1 x.2) (0, -1, 0)).2.1 = (H3 p false).2 := by
 have h1 := ae6 (R := fun x => O2 p x.1 x.2) (B3 p 5 0 p.body) 0
 have hl := al1 h
 have e : C8 (fun x => O2 p x.1 x.2) 0 (B3 p 5 0 p.body) = t9 p false 5 0 0 p.body := by
  rw [ay4]
  refine ab6 fun x hx => ?_
  have hm := ax9 hl 5 0 p.body rfl (K0 h).1 x hx
  rw [by5 hl hm.2.1]
  unfold L5
  simp only [Bool.false_eq_true, if_false]
  split
  ·rename_i h; exact h
  ·rfl
 rw [e] at h1
 have h2 := Prod.mk.inj h1
 unfold H3
 rw [if_pos h]
 split
 ·rename_i h3
  rw [if_pos h3] at h1
  exact Prod.mk.inj h1
 ·rename_i h3
  rw [if_neg h3] at h1
  exact Prod.mk.inj h1
theorem bc6 {p : f5} (h : m0 p = true) (hf : (H3 p false).1 = 0) : ((B3 p 5 0 p.body).foldl (i6 fun x => V4 p x.1) (0, -1, 0)).1 = (H3 p true).1 ∧ ((B3 p 5 0 p.body).foldl (i6 fun x => V4 p x.1) (0, -1, 0)).2.1 = (H3 p true).2 := by
 have h1 := ae6 (R := fun x => V4 p x.1) (B3 p 5 0 p.body) 0
 have hl := al1 h
 have hf2 : (t9 p false 5 0 0 p.body).1 = 0 := by
  unfold H3 at hf
  rw [if_pos h] at hf
  split at hf
  ·assumption
  ·exact hf
 rw [ay4, av9] at hf2
 have e : C8 (fun x => V4 p x.1) 0 (B3 p 5 0 p.body) = t9 p true 5 0 0 p.body := by
  rw [ay4]
  refine ab6 fun x hx => ?_
  have hm := ax9 hl 5 0 p.body rfl (K0 h).1 x hx
  rw [by4 hm.2.2]
  have h0 := hf2 x hx
  unfold L5 at h0 ⊢
  simp only [Bool.false_eq_true, if_false, if_true] at h0 ⊢
  split at h0
  ·rename_i h; rw [if_pos h]
  ·rename_i h; exact absurd h0 h
 rw [e] at h1
 unfold H3
 rw [if_pos h]
 split
 ·rename_i h3
  rw [if_pos h3] at h1
  exact Prod.mk.inj h1
 ·rename_i h3
  rw [if_neg h3] at h1
  exact Prod.mk.inj h1
abbrev J7 : Type := List Int × List Int
def bv (x : Int) : BitVec 64 := BitVec.ofInt 64 x
def ofb (b : BitVec 64) : Int := IntKind.i64.wrap (b.toNat : Int)
theorem bG9 (b : BitVec 64) : bv (ofb b) = b := by
 apply BitVec.eq_of_toNat_eq
 unfold bv ofb
 rw [BitVec.toNat_ofInt]
 have h := b.isLt
 unfold IntKind.wrap
 simp only [IntKind.bits, IntKind.signed, Bool.true_and, decide_eq_true_eq]
 split <;> omega
theorem ba0 (x y : Int) : o7 x y = ofb (bv x ||| bv y) := rfl
theorem aL4 (x y : Int) : bv (o7 x y) = bv x ||| bv y := by rw [ba0, bG9]
def H1 (x y : Int) : Prop := bv x ||| bv y = bv y
theorem H1.refl (x : Int) : H1 x x := BitVec.or_self
theorem H1.trans {x y z : Int} (h : H1 x y) (k : H1 y z) : H1 x z := by
 unfold H1 at *
 rw [← k, ← BitVec.or_assoc, h]
theorem af8 (x y : Int) : H1 x (o7 x y) := by unfold H1; rw [aL4, ← BitVec.or_assoc, BitVec.or_self]
theorem O0 {x y a b : Int} (h : H1 x a) (k : H1 y b) : H1 (o7 x y) (o7 a b) := by
 unfold H1 at *
 rw [aL4, aL4, BitVec.or_assoc, ← BitVec.or_assoc (bv y), BitVec.or_comm (bv y) (bv a), BitVec.or_assoc (bv a), k, ← BitVec.or_assoc, h]
theorem bH0 : ∀ x : Fin 4, ∀ y : Fin 4, bv x.val = bv y.val → x = y := by decide +kernel
theorem bF2 : ∀ x : Fin 4, ∀ y : Fin 4, bv x.val ||| bv y.val = bv y.val → x.val ≤ y.val := by decide +kernel
theorem H1.anti {x y : Int} (h : H1 x y) (k : H1 y x) (hx : f7 x = true) (hy : f7 y = true) : x = y := by
 obtain ⟨a, rfl⟩ := E9 hx
 obtain ⟨b, rfl⟩ := E9 hy
 unfold H1 at *
 rw [BitVec.or_comm, h] at k
 rw [bH0 b a k]
theorem H1.nat {x y : Int} (h : H1 x y) (hx : f7 x = true) (hy : f7 y = true) : x.toNat ≤ y.toNat := by
 obtain ⟨a, rfl⟩ := E9 hx
 obtain ⟨b, rfl⟩ := E9 hy
 have := bF2 a b h
 omega
def leP (q r : J7) : Prop := (∀ i, H1 (q.1.getD i 0) (r.1.getD i 0)) ∧ ∀ i, H1 (q.2.getD i 0) (r.2.getD i 0)
def shP (q r : J7) : Prop := r.1.length = q.1.length ∧ r.2.length = q.2.length
def okP (q : J7) : Prop := q.1.all f7 = true ∧ q.2.all f7 = true
theorem leP.refl (q : J7) : leP q q := ⟨fun _ => H1.refl _, fun _ => H1.refl _⟩
theorem leP.trans {q r s : J7} (h : leP q r) (k : leP r s) : leP q s := ⟨fun i => (h.1 i).trans (k.1 i), fun i => (h.2 i).trans (k.2 i)⟩
theorem shP.refl (q : J7) : shP q q := ⟨rfl, rfl⟩
theorem shP.trans {q r s : J7} (h : shP q r) (k : shP r s) : shP q s := ⟨k.1.trans h.1, k.2.trans h.2⟩
theorem shP.symm {q r : J7} (h : shP q r) : shP r q := ⟨h.1.symm, h.2.symm⟩
theorem aK7 {a b : List Int} (hl : b.length = a.length) (h : ∀ i, H1 (a.getD i 0) (b.getD i 0)) (k : ∀ i, H1 (b.getD i 0) (a.getD i 0)) (ha : a.all f7 = true) (hb : b.all f7 = true) : a = b := by
 apply List.ext_getElem (by omega)
 intro i h1 h2
 have := (h i).anti (k i) (X3 ha i) (X3 hb i)
 rw [s4 h1, s4 h2] at this
 exact this
theorem leP.anti {q r : J7} (h : leP q r) (k : leP r q) (hs : shP q r) (hq : okP q) (hr : okP r) : q = r :=
 Prod.ext (aK7 hs.1 h.1 k.1 hq.1 hr.1) (aK7 hs.2 h.2 k.2 hq.2 hr.2)
theorem bn3 {q r : J7} (h : leP q r) (e : b9) : H1 (al3 q.1 q.2 e) (al3 r.1 r.2 e) := by
 unfold al3
 split
 ·exact h.1 _
 ·split
  ·exact h.2 _
  ·exact H1.refl _
theorem af9 {q r : J7} (h : leP q r) : ∀ (d : Nat) (e : b9), H1 (m7 q.1 q.2 d e) (m7 r.1 r.2 d e)
 | 0, _ => H1.refl _
 | d + 1, e => by
  rw [m7, m7]
  have key : ∀ (ks : List b9) (a b : Int), H1 a b → H1 (ks.foldl (fun a k => o7 a (m7 q.1 q.2 d k)) a) (ks.foldl (fun a k => o7 a (m7 r.1 r.2 d k)) b) := by
   intro ks
   induction ks with
   | nil => intro a b hab; exact hab
   | cons x t ih => intro a b hab; rw [List.foldl_cons, List.foldl_cons]; exact ih _ _ (O0 hab (af9 h d x))
  exact key _ _ _ (bn3 h e)
def H9 (q : J7) (s : b6) (cx : Int) : J7 :=
 if s.kind = 1 then (q.1.set s.target.toNat (o7 (o7 (q.1.getD s.target.toNat 0) (m7 q.1 q.2 5 s.value)) cx), q.2)
 else if s.kind = 2 then (q.1, q.2.set s.target.toNat (o7 (o7 (o7 (q.2.getD s.target.toNat 0) (m7 q.1 q.2 5 s.value)) (m7 q.1 q.2 5 s.index)) cx))
 else q
def ad2 (q : J7) (s : b6) (cx : Int) : Int := if s.kind = 3 then o7 cx (m7 q.1 q.2 5 s.value) else cx
def upS (b : Bool) : Nat → J7 → Int → b6 → J7
 | 0, q, _, _ => q
 | d + 1, q, cx, s => s.els.foldl (fun r t => upS b d r (ad2 (if b then s.body.foldl (fun r t => upS b d r (ad2 (H9 q s cx) s cx) t) (H9 q s cx) else H9 q s cx) s cx) t) (s.body.foldl (fun r t => upS b d r (ad2 (H9 q s cx) s cx) t) (H9 q s cx))
abbrev A9 (b : Bool) (d : Nat) (q : J7) (cx : Int) (ss : List b6) : J7 := ss.foldl (fun r t => upS b d r cx t) q
theorem ae1 (b : Bool) (d : Nat) (q : J7) (cx : Int) (s : b6) : upS b (d + 1) q cx s = A9 b d (A9 b d (H9 q s cx) (ad2 (H9 q s cx) s cx) s.body) (ad2 (if b then A9 b d (H9 q s cx) (ad2 (H9 q s cx) s cx) s.body else H9 q s cx) s cx) s.els := by rw [upS]
theorem aB5 (l : List Int) (t i : Nat) (x : Int) : (l.set t x).getD i 0 = if t = i ∧ t < l.length then x else l.getD i 0 := by
 simp only [bR6, List.getElem?_set]
 by_cases h : t = i
 ·subst h
  by_cases h2 : t < l.length
  ·simp [h2]
  ·simp [h2]
 ·simp [h]
theorem a95 {l : List Int} {t : Nat} {x : Int} (h : l.all f7 = true) (hx : f7 x = true) : (l.set t x).all f7 = true := by
 rw [bR9] at *
 intro y hy
 rcases List.mem_or_eq_of_mem_set hy with h1 | h1
 ·exact h y h1
 ·rw [h1]; exact hx
theorem a36 (q : J7) (s : b6) (cx : Int) : shP q (H9 q s cx) := by
 unfold H9
 split
 ·exact ⟨by simp, rfl⟩
 ·split
  ·exact ⟨rfl, by simp⟩
  ·exact shP.refl _
theorem aT7 {l : List Int} {t : Nat} {x : Int} (h : H1 (l.getD t 0) x) (i : Nat) : H1 (l.getD i 0) ((l.set t x).getD i 0) := by
 rw [aB5]
 split
 ·rename_i h1; rw [← h1.1]; exact h
 ·exact H1.refl _
theorem aT6 {l m : List Int} {t : Nat} {x y : Int} (hl : m.length = l.length) (h : ∀ i, H1 (l.getD i 0) (m.getD i 0)) (hx : H1 x y) (i : Nat) : H1 ((l.set t x).getD i 0) ((m.set t y).getD i 0) := by
 rw [aB5, aB5, hl]
 split
 ·exact hx
 ·exact h i
theorem bn8 (q : J7) (s : b6) (cx : Int) : leP q (H9 q s cx) := by
 unfold H9
 split
 ·exact ⟨aT7 ((af8 _ _).trans (af8 _ _)), fun _ => H1.refl _⟩
 ·split
  ·exact ⟨fun _ => H1.refl _, aT7 (((af8 _ _).trans (af8 _ _)).trans (af8 _ _))⟩
  ·exact leP.refl _
theorem bn7 {q r : J7} (h : leP q r) (hs : shP q r) {cx cy : Int} (hc : H1 cx cy) (s : b6) : leP (H9 q s cx) (H9 r s cy) := by
 unfold H9
 split
 ·exact ⟨aT6 hs.1 h.1 (O0 (O0 (h.1 _) (af9 h 5 _)) hc), h.2⟩
 ·split
  ·exact ⟨h.1, aT6 hs.2 h.2 (O0 (O0 (O0 (h.2 _) (af9 h 5 _)) (af9 h 5 _)) hc)⟩
  ·exact h
theorem bE3 {q : J7} (h : okP q) {cx : Int} (hc : f7 cx = true) (s : b6) : okP (H9 q s cx) := by
 unfold H9
 split
 ·exact ⟨a95 h.1 (T0 (T0 (X3 h.1 _) (T7 h.1 h.2 5 _)) hc), h.2⟩
 ·split
  ·exact ⟨h.1, a95 h.2 (T0 (T0 (T0 (X3 h.2 _) (T7 h.1 h.2 5 _)) (T7 h.1 h.2 5 _)) hc)⟩
  ·exact h
theorem aV8 {q r : J7} (h : leP q r) {cx cy : Int} (hc : H1 cx cy) (s : b6) : H1 (ad2 q s cx) (ad2 r s cy) := by
 unfold ad2
 split
 ·exact O0 hc (af9 h 5 _)
 ·exact hc
theorem bq5 {q : J7} (h : okP q) {cx : Int} (hc : f7 cx = true) (s : b6) : f7 (ad2 q s cx) = true := by
 unfold ad2
 split
 ·exact T0 hc (T7 h.1 h.2 5 _)
 ·exact hc
theorem ai3 {F : J7 → b6 → J7} (hF : ∀ q s, shP q (F q s)) : ∀ (ss : List b6) (q : J7), shP q (ss.foldl F q)
 | [], q => shP.refl q
 | s :: r, q => (hF q s).trans (ai3 hF r _)
theorem aa1 {F : J7 → b6 → J7} (hF : ∀ q s, leP q (F q s)) : ∀ (ss : List b6) (q : J7), leP q (ss.foldl F q)
 | [], q => leP.refl q
 | s :: r, q => (hF q s).trans (aa1 hF r _)
theorem ax6 {F : J7 → b6 → J7} (hF : ∀ q s, okP q → okP (F q s)) : ∀ (ss : List b6) (q : J7), okP q → okP (ss.foldl F q)
 | [], _, h => h
 | s :: r, q, h => ax6 hF r _ (hF q s h)
theorem ai4 {F G : J7 → b6 → J7} (hF : ∀ q s, shP q (F q s)) (hG : ∀ q s, shP q (G q s)) (h : ∀ q r s, shP q r → leP q r → leP (F q s) (G r s)) : ∀ (ss : List b6) (q r : J7), shP q r → leP q r → leP (ss.foldl F q) (ss.foldl G r)
 | [], _, _, _, hl => hl
 | s :: t, q, r, hs, hl => ai4 hF hG h t _ _ (((hF q s).symm.trans hs).trans (hG r s)) (h q r s hs hl)
theorem ae0 (b : Bool) : ∀ (d : Nat) (cx : Int) (q : J7) (s : b6), shP q (upS b d q cx s)
 | 0, _, q, _ => shP.refl q
 | d + 1, cx, q, s => by
  rw [ae1]
  exact ((a36 q s cx).trans (ai3 (fun q s => ae0 b d _ q s) _ _)).trans (ai3 (fun q s => ae0 b d _ q s) _ _)
theorem ax0 (b : Bool) : ∀ (d : Nat) (cx : Int) (q : J7) (s : b6), leP q (upS b d q cx s)
 | 0, _, q, _ => leP.refl q
 | d + 1, cx, q, s => by
  rw [ae1]
  exact ((bn8 q s cx).trans (aa1 (fun q s => ax0 b d _ q s) _ _)).trans (aa1 (fun q s => ax0 b d _ q s) _ _)
theorem bj6 (b : Bool) : ∀ (d : Nat) (cx : Int) (q : J7) (s : b6), f7 cx = true → okP q → okP (upS b d q cx s)
 | 0, _, _, _, _, h => h
 | d + 1, cx, q, s, hc, h => by
  rw [ae1]
  have h1 := bE3 h hc s
  have h2 : okP (A9 b d (H9 q s cx) (ad2 (H9 q s cx) s cx) s.body) := ax6 (fun q t hq => bj6 b d _ q t (bq5 h1 hc s) hq) _ _ h1
  refine ax6 (fun q t hq => bj6 b d _ q t (bq5 ?_ hc s) hq) _ _ h2
  split
  ·exact h2
  ·exact h1
theorem aM1 {b b' : Bool} (hb : b = true → b' = true) : ∀ (d : Nat) (cx cy : Int) (q r : J7) (s : b6), H1 cx cy → shP q r → leP q r → leP (upS b d q cx s) (upS b' d r cy s)
 | 0, _, _, _, _, _, _, _, h => h
 | d + 1, cx, cy, q, r, s, hc, hs, h => by
  rw [ae1, ae1]
  have h1 := bn7 h hs hc s
  have s1 : shP (H9 q s cx) (H9 r s cy) := ((a36 q s cx).symm.trans hs).trans (a36 r s cy)
  have hi := aV8 h1 hc s
  have h2 : leP (A9 b d (H9 q s cx) (ad2 (H9 q s cx) s cx) s.body) (A9 b' d (H9 r s cy) (ad2 (H9 r s cy) s cy) s.body) := ai4 (fun q t => ae0 b d _ q t) (fun q t => ae0 b' d _ q t) (fun q r t hs hl => aM1 hb d _ _ q r t hi hs hl) _ _ _ s1 h1
  have s2 : shP (A9 b d (H9 q s cx) (ad2 (H9 q s cx) s cx) s.body) (A9 b' d (H9 r s cy) (ad2 (H9 r s cy) s cy) s.body) := ((ai3 (fun q t => ae0 b d _ q t) _ _).symm.trans s1).trans (ai3 (fun q t => ae0 b' d _ q t) _ _)
  refine ai4 (fun q t => ae0 b d _ q t) (fun q t => ae0 b' d _ q t) (fun q r t hs hl => aM1 hb d _ _ q r t ?_ hs hl) _ _ _ s2 h2
  refine aV8 ?_ hc s
  cases b with
  | true =>
   have e := hb rfl
   subst e
   exact h2
  | false =>
   simp only [Bool.false_eq_true, if_false]
   split
   ·exact h1.trans (aa1 (fun q t => ax0 b' d _ q t) _ _)
   ·exact h1
section
variable {b : Bool} {d : Nat} {cx : Int} {q r : J7} {ss : List b6}
theorem ak5 : shP q (A9 b d q cx ss) := ai3 (fun q t => ae0 b d _ q t) _ _
theorem aA5 : leP q (A9 b d q cx ss) := aa1 (fun q t => ax0 b d _ q t) _ _
theorem bj7 (hc : f7 cx = true) (h : okP q) : okP (A9 b d q cx ss) := ax6 (fun q t hq => bj6 b d _ q t hc hq) _ _ h
end
def aM3 (l : List Int) : Nat := (l.map Int.toNat).sum
def aG8 (q : J7) : Nat := aM3 q.1 + aM3 q.2
theorem aM2 : ∀ {a b : List Int}, b.length = a.length → a.all f7 = true → b.all f7 = true → (∀ i, H1 (a.getD i 0) (b.getD i 0)) → aM3 a ≤ aM3 b ∧ (aM3 a = aM3 b → a = b)
 | [], b, hl, _, _, _ => by rw [bT3 hl]; exact ⟨bS8 _, fun _ => rfl⟩
 | x :: r, [], hl, _, _, _ => by cases hl
 | x :: r, y :: t, hl, ha, hb, h => by
  simp only [List.all_cons, bR1] at ha hb
  have h0 := h 0
  simp at h0
  obtain ⟨k1, k2⟩ := aM2 (a := r) (b := t) (by simpa using hl) ha.2 hb.2 fun i => by have := h (i + 1); simpa using this
  have k3 := h0.nat ha.1 hb.1
  simp only [aM3, bU4, List.sum_cons] at k1 k2 ⊢
  refine ⟨by omega, fun e => ?_⟩
  obtain ⟨a, rfl⟩ := E9 ha.1
  obtain ⟨b, rfl⟩ := E9 hb.1
  rw [k2 (by omega)]
  congr 1
  omega
theorem aA9 : ∀ {l : List Int}, l.all f7 = true → aM3 l ≤ 3 * l.length
 | [], _ => bU3 _
 | x :: r, h => by
  simp only [List.all_cons, bR1] at h
  have h1 := aA9 h.2
  obtain ⟨a, rfl⟩ := E9 h.1
  simp only [aM3, bU4, List.sum_cons, bR7] at h1 ⊢
  omega
theorem a91 {q r : J7} (hs : shP q r) (hq : okP q) (hr : okP r) (h : leP q r) (hne : ¬ r = q) : aG8 q < aG8 r := by
 obtain ⟨a1, a2⟩ := aM2 hs.1 hq.1 hr.1 h.1
 obtain ⟨b1, b2⟩ := aM2 hs.2 hq.2 hr.2 h.2
 unfold aG8
 refine Nat.lt_of_not_le fun hle => hne (Prod.ext (a2 (by omega)).symm (b2 (by omega)).symm)
theorem aS8 {q : J7} (hq : okP q) : aG8 q ≤ 3 * (q.1.length + q.2.length) := by
 have h1 := aA9 hq.1
 have h2 := aA9 hq.2
 unfold aG8; omega
def ad6 (b : List b6) (p q : J7) : Prop := shP p q ∧ okP q ∧ leP p q ∧ ∀ r, shP p r → okP r → leP p r → A9 true 5 r 0 b = r → leP q r
theorem al4 {b : List b6} {p : J7} (h : okP p) : ad6 b p p := ⟨shP.refl _, h, leP.refl _, fun _ _ _ h _ => h⟩
theorem ai1 {b : List b6} {p q : J7} {f : Bool} (h : ad6 b p q) : ad6 b p (A9 f 5 q 0 b) :=
 ⟨h.1.trans ak5, bj7 rfl h.2.1, h.2.2.1.trans aA5, fun r h1 h2 h3 h4 => by
  have h5 := h.2.2.2 r h1 h2 h3 h4
  have := ai4 (fun q t => ae0 f 5 0 q t) (fun q t => ae0 true 5 0 q t) (fun q r t hs hl => aM1 (b := f) (b' := true) (fun _ => rfl) 5 0 0 q r t (H1.refl _) hs hl) b q r (h.1.symm.trans h1) h5
  rw [show b.foldl (fun q t => upS true 5 q 0 t) r = r from h4] at this
  exact this⟩
theorem aV9 {b : List b6} {p q r : J7} (hq : ad6 b p q) (hr : ad6 b p r) (fq : A9 true 5 q 0 b = q) (fr : A9 true 5 r 0 b = r) : q = r :=
 (hq.2.2.2 r hr.1 hr.2.1 hr.2.2.1 fr).anti (hr.2.2.2 q hq.1 hq.2.1 hq.2.2.1 fq) (hq.1.symm.trans hr.1) hq.2.1 hr.2.1
def aH1 (b : List b6) : Nat → J7 → J7
 | 0, q => q
 | n + 1, q => aH1 b n (A9 true 5 q 0 b)
def as1 (p : f5) : J7 := aH1 p.body 64 (p.vars, p.arrays)
theorem aW0 {b : List b6} {p : J7} : ∀ (n : Nat) (q : J7), ad6 b p q → ad6 b p (aH1 b n q)
 | 0, _, h => h
 | n + 1, q, h => aW0 n _ (ai1 h)
theorem aW1 {b : List b6} : ∀ (n : Nat) {q : J7}, A9 true 5 q 0 b = q → aH1 b n q = q
 | 0, _, _ => rfl
 | n + 1, q, h => by rw [aH1, h]; exact aW1 n h
theorem aW2 {b : List b6} {p : J7} : ∀ (n : Nat) (q : J7), ad6 b p q → A9 true 5 (aH1 b n q) 0 b = aH1 b n q ∨ aG8 q + n ≤ aG8 (aH1 b n q)
 | 0, _, _ => .inr (bS8 _)
 | n + 1, q, h => by
  rw [aH1]
  by_cases e : A9 true 5 q 0 b = q
  ·left
   rw [e, aW1 n e, e]
  ·have h1 := a91 ak5 h.2.1 (bj7 rfl h.2.1) aA5 e
   rcases aW2 n _ (ai1 (f := true) h) with h2 | h2
   ·exact .inl h2
   ·right; omega
theorem aP5 {p : f5} (h : m0 p = true) : okP (p.vars, p.arrays) := by
 have := al1 h
 simp only [ao9, bR1] at this
 exact this
theorem aD8 {p : f5} (h : m0 p = true) : ad6 p.body (p.vars, p.arrays) (as1 p) := aW0 64 _ (al4 (aP5 h))
theorem bq7 {p : f5} (h : m0 p = true) (hl : p.vars.length + p.arrays.length ≤ 14) : A9 true 5 (as1 p) 0 p.body = as1 p := by
 rcases aW2 (b := p.body) 64 (p.vars, p.arrays) (al4 (aP5 h)) with h1 | h1
 ·exact h1
 ·have h2 := aD8 h
  have h3 := aS8 h2.2.1
  have h4 := h2.1
  have h5 : aH1 p.body 64 (p.vars, p.arrays) = as1 p := rfl
  rw [h5] at h1
  rw [h4.1, h4.2] at h3
  simp only at h3
  omega
theorem bb2 {p : f5} {q : J7} (h : m0 p = true) (hl : p.vars.length + p.arrays.length ≤ 14) (hq : ad6 p.body (p.vars, p.arrays) q) (hf : A9 true 5 q 0 p.body = q) : as1 p = q :=
 aV9 (aD8 h) hq (bq7 h hl) hf
def cdF (F : b6 → Int) : List b6 → Int
 | [] => 0
 | s :: r => if F s = 0 then cdF F r else F s
def cdS (vs ars : List Int) (strict : Bool) : Nat → Int → b6 → Int
 | 0, _, _ => 0
 | d + 1, pc, s => if L5 ⟨vs, ars, []⟩ s pc strict = 0 then
   (if cdF (cdS vs ars strict d (F7 ⟨vs, ars, []⟩ s pc)) s.body = 0 then cdF (cdS vs ars strict d (F7 ⟨vs, ars, []⟩ s pc)) s.els else cdF (cdS vs ars strict d (F7 ⟨vs, ars, []⟩ s pc)) s.body)
  else L5 ⟨vs, ars, []⟩ s pc strict
theorem a59 {F : b6 → Int} {G : Nat → b6 → Int × Nat} (h : ∀ c s, (G c s).1 = F s) : ∀ (ss : List b6) (c : Nat), (D5 G c ss).1 = cdF F ss
 | [], _ => rfl
 | s :: r, c => by
  rw [D5, cdF, h]
  split
  ·exact a59 h r _
  ·exact h c s
theorem bt0 (p : f5) (strict : Bool) : ∀ (d : Nat) (pc : Int) (c : Nat) (s : b6), (stC p strict d pc c s).1 = cdS p.vars p.arrays strict d pc s
 | 0, _, _, _ => rfl
 | d + 1, pc, c, s => by
  have e1 : L5 p s pc strict = L5 ⟨p.vars, p.arrays, []⟩ s pc strict := rfl
  have e2 : F7 p s pc = F7 ⟨p.vars, p.arrays, []⟩ s pc := rfl
  have h1 := fun ss c => a59 (bt0 p strict d (F7 p s pc)) ss c
  rw [stC, cdS, ← e1, ← e2]
  split
  ·rw [h1]
   split
   ·rw [h1]
   ·rw [h1]
  ·rfl
theorem bG5 (p : f5) (strict : Bool) (d : Nat) (pc : Int) (c : Nat) (ss : List b6) : (t9 p strict d pc c ss).1 = cdF (cdS p.vars p.arrays strict d pc) ss := a59 (bt0 p strict d pc) ss c
theorem ag2 {F : b6 → Int} : ∀ {ss : List b6}, cdF F ss = 0 ↔ ∀ s ∈ ss, F s = 0
 | [] => by simp [cdF]
 | s :: r => by
  rw [cdF]
  by_cases h : F s = 0
  ·rw [if_pos h, ag2]
   simp [h]
  ·rw [if_neg h]
   simp [h]
theorem aL2 {F G : b6 → Int} : ∀ {ss : List b6}, (∀ s ∈ ss, F s = G s) → cdF F ss = cdF G ss
 | [], _ => rfl
 | s :: r, h => by
  rw [cdF, cdF, h s (bS4 ..), aL2 (ss := r) fun x hx => h x (bS9 _ hx)]
theorem aF5 {vs ars : List Int} {strict : Bool} {d : Nat} {pc : Int} {s : b6} : cdS vs ars strict (d + 1) pc s = 0 ↔ L5 ⟨vs, ars, []⟩ s pc strict = 0 ∧ (∀ t ∈ s.body, cdS vs ars strict d (F7 ⟨vs, ars, []⟩ s pc) t = 0) ∧ ∀ t ∈ s.els, cdS vs ars strict d (F7 ⟨vs, ars, []⟩ s pc) t = 0 := by
 rw [cdS]
 by_cases h : L5 ⟨vs, ars, []⟩ s pc strict = 0
 ·rw [if_pos h]
  by_cases h2 : cdF (cdS vs ars strict d (F7 ⟨vs, ars, []⟩ s pc)) s.body = 0
  ·rw [if_pos h2, ag2]
   exact ⟨fun h3 => ⟨h, ag2.1 h2, h3⟩, fun h3 => h3.2.2⟩
  ·rw [if_neg h2]
   exact ⟨fun h3 => absurd h3 h2, fun h3 => absurd (ag2.2 h3.2.1) h2⟩
 ·rw [if_neg h]
  exact ⟨fun h3 => absurd h3 h, fun h3 => h3.1⟩
theorem bz2 (p : f5) (strict : Bool) : (H3 p strict).1 = if m0 p = true then cdF (cdS p.vars p.arrays strict 5 0) p.body else 5 := by
 unfold H3
 rw [← bG5 p strict 5 0 0]
 split
 ·split
  ·rename_i h; exact h.symm
  ·rfl
 ·rfl
theorem T9 (p : f5) (strict : Bool) : (H3 p strict).1 = 0 ↔ m0 p = true ∧ ∀ s ∈ p.body, cdS p.vars p.arrays strict 5 0 s = 0 := by
 rw [bz2]
 split
 ·rename_i h; rw [ag2]; exact ⟨fun h1 => ⟨h, h1⟩, fun h1 => h1.2⟩
 ·rename_i h; exact ⟨fun h1 => absurd h1 (by decide), fun h1 => absurd h1.1 h⟩
theorem bc4 (p : f5) : (ctR p).1 = 0 ↔ m0 p = true ∧ (∀ s ∈ p.body, cdS p.vars p.arrays false 5 0 s = 0) ∧ ∀ s ∈ p.body, cdS p.vars p.arrays true 5 0 s = 0 := by
 unfold ctR
 split
 ·rename_i h
  rw [T9]
  exact ⟨fun h1 => ⟨h1.1, ((T9 p false).1 h).2, h1.2⟩, fun h1 => ⟨h1.1, h1.2.2⟩⟩
 ·rename_i h
  exact ⟨fun h1 => absurd h1 h, fun h1 => absurd ((T9 p false).2 ⟨h1.1, h1.2.1⟩) h⟩
theorem bc9 (vs ars : List Int) (strict : Bool) (nv na : Nat) : ∀ (d : Nat) (pc : Int) (s : b6), i5 nv na d s = true → cdS vs ars strict (d + 1) pc s = cdS vs ars strict d pc s
 | 0, _, _, h => by simp [i5] at h
 | d + 1, pc, s, h => by
  rw [F2, bR1, bR1] at h
  have e : ∀ ss : List b6, ss.all (i5 nv na d) = true → cdF (cdS vs ars strict (d + 1) (F7 ⟨vs, ars, []⟩ s pc)) ss = cdF (cdS vs ars strict d (F7 ⟨vs, ars, []⟩ s pc)) ss := fun ss hs =>
   aL2 fun t ht => bc9 vs ars strict nv na d _ t (bR9.1 hs t ht)
  rw [cdS, e _ h.2.1, e _ h.2.2]
  conv => rhs; rw [cdS]
theorem bk7 (nv na : Nat) : ∀ (d : Nat) (s : b6), i5 nv na d s = true → i5 nv na (d + 1) s = true
 | 0, _, h => by simp [i5] at h
 | d + 1, s, h => by
  rw [F2, bR1, bR1] at h ⊢
  have e : ∀ ss : List b6, ss.all (i5 nv na d) = true → ss.all (i5 nv na (d + 1)) = true := fun ss hs => bR9.2 fun t ht => bk7 nv na d t (bR9.1 hs t ht)
  exact ⟨h.1, e _ h.2.1, e _ h.2.2⟩
theorem bE6 {x : Int} (h : f7 x = true) : ofb (bv x) = x := by
 obtain ⟨c, rfl⟩ := E9 h
 have key : ∀ c : Fin 4, ofb (bv (c.val : Int)) = (c.val : Int) := by decide +kernel
 exact key c
theorem bn6 {x y : Int} (h : H1 x y) (hy : f7 y = true) : o7 x y = y := by
 rw [ba0, h]; exact bE6 hy
theorem bp3 {x y : Int} (h : o7 x y = y) : H1 x y := by
 unfold H1
 rw [← aL4, h]
theorem bp2 (x y : Int) : H1 y (o7 x y) := by unfold H1; rw [aL4, ← BitVec.or_assoc, BitVec.or_comm (bv y) (bv x), BitVec.or_assoc, BitVec.or_self]
theorem bJ5 {x y z : Int} (h : H1 x z) (k : H1 y z) : H1 (o7 x y) z := by unfold H1 at *; rw [aL4, BitVec.or_assoc, k, h]
theorem bx8 (y : Int) : H1 0 y := by unfold H1; show (BitVec.ofInt 64 0) ||| bv y = bv y; simp
section
variable {vs ars : List Int} {l : Int} {s : b6} {pc pd : Int}
end
end Go.Proofs.YthikdkjjdeehoaaGreat

namespace Go.Proofs.YthikdkjjdeehoaaGreat
set_option linter.unusedVariables false
set_option linter.unusedSimpArgs false
mutual
def E1 : b9 → Bool
 | ⟨k, n, ks⟩ => decide ((ks.length : Int) = o6 k) && (decide (k ≠ 1) || (decide (0 ≤ n) && decide (n ≤ 255))) && ag0 ks
def ag0 : List b9 → Bool
 | [] => true
 | e :: r => E1 e && ag0 r
end
theorem C0 (ks : List b9) : ag0 ks = true ↔ ∀ e ∈ ks, E1 e = true := by
 induction ks with
 | nil => simp [ag0]
 | cons a r ih => simp [ag0, ih]
theorem U4 (e : b9) : E1 e = (decide ((e.kids.length : Int) = o6 e.kind) && (decide (e.kind ≠ 1) || (decide (0 ≤ e.value) && decide (e.value ≤ 255))) && ag0 e.kids) := by cases e; rfl
theorem as2 {e : b9} (h : E1 e = true) : (e.kids.length : Int) = o6 e.kind := by rw [U4] at h; simp at h; exact h.1.1
theorem U3 {e : b9} (h : E1 e = true) (hk : e.kind = 1) : 0 ≤ e.value ∧ e.value ≤ 255 := by rw [U4] at h; simp [hk] at h; exact h.1.2
theorem J4 {e : b9} (h : E1 e = true) : ag0 e.kids = true := by rw [U4] at h; simp at h; exact h.2
theorem a49 (nv na : Nat) : ∀ (d : Nat) (e : b9), l0 nv na d e = true → E1 e = true := by
 intro d
 induction d with
 | zero => intro e h; simp [l0] at h
 | succ d ih =>
  intro e h
  simp only [l0, B7, bR1, decide_eq_true_eq, bR9] at h
  obtain ⟨⟨⟨⟨h1, h2⟩, h3⟩, h4⟩, h5⟩ := h
  rw [U4]
  simp only [bR1, Bool.or_eq_true, decide_eq_true_eq]
  refine ⟨⟨h1, ?_⟩, (C0 _).2 fun x hx => ih x (h4 x hx)⟩
  by_cases hk : e.kind = 1
  ·right; rw [hk] at h3; simp [K8] at h3; omega
  ·exact .inl hk
theorem a01 (k : Int) : o6 k ≤ 3 := by unfold o6; (repeat' split) <;> omega
mutual
def B5 : b9 → Bool
 | ⟨k, _, ks⟩ => decide (k ≠ 3) && ax4 ks
def ax4 : List b9 → Bool
 | [] => true
 | e :: r => B5 e && ax4 r
end
theorem aU4 (ks : List b9) : ax4 ks = ks.all B5 := by
 induction ks with
 | nil => rfl
 | cons a r ih => simp [ax4, ih]
theorem aC2 (e : b9) : B5 e = (decide (e.kind ≠ 3) && e.kids.all B5) := by cases e; simp only [B5, aU4]; rfl
def ag8 (b : Bool) : Int := if b then 1 else 0
def t7 (k a b : Int) : Int :=
 if k = 4 then (a + b).tmod 256 else if k = 5 then (a - b + 256).tmod 256 else if k = 6 then (a * b).tmod 256
 else if k = 7 then ((a.toNat &&& b.toNat : Nat) : Int) else if k = 8 then ((a.toNat ^^^ b.toNat : Nat) : Int) else if k = 9 then ag8 (decide (a = b)) else ag8 (decide (a < b))
theorem aw2 (b : Bool) : 0 ≤ ag8 b ∧ ag8 b ≤ 255 := by cases b <;> simp [ag8]
theorem av7 {k a b : Int} (h1 : 0 ≤ a) (h2 : a ≤ 255) (h3 : 0 ≤ b) (h4 : b ≤ 255) : 0 ≤ t7 k a b ∧ t7 k a b ≤ 255 := by
 unfold t7
 have hm : 0 ≤ a * b := Int.mul_nonneg h1 h3
 have ha : a.toNat < 2 ^ 8 := by omega
 have hb : b.toNat < 2 ^ 8 := by omega
 have hand : a.toNat &&& b.toNat < 2 ^ 8 := Nat.and_lt_two_pow _ hb
 have hxor : a.toNat ^^^ b.toNat < 2 ^ 8 := Nat.xor_lt_two_pow ha hb
 split
 ·rw [Int.tmod_eq_emod_of_nonneg (by omega)]; omega
 split
 ·rw [Int.tmod_eq_emod_of_nonneg (by omega)]; omega
 split
 ·rw [Int.tmod_eq_emod_of_nonneg hm]; omega
 split
 ·omega
 split
 ·omega
 split
 ·exact aw2 _
 ·exact aw2 _
def aF3 (n : Int) : b9 := ⟨1, n, []⟩
def n5 (e : b9) (n : Int) : Bool := decide (e.kind = 1) && decide (e.value = n)
def o3 (e : b9) : b9 :=
 match e.kids with
 | [a, b] =>
  if a.kind = 1 ∧ b.kind = 1 then aF3 (t7 e.kind a.value b.value)
  else if ((e.kind = 4 ∨ e.kind = 8) ∧ n5 a 0 = true) ∨ (e.kind = 6 ∧ n5 a 1 = true) then b
  else if ((e.kind = 4 ∨ e.kind = 8 ∨ e.kind = 5) ∧ n5 b 0 = true) ∨ (e.kind = 6 ∧ n5 b 1 = true) then a
  else e
 | [a, b, c] => if a.kind = 1 ∧ B5 b = true ∧ B5 c = true then (if a.value ≠ 0 then b else c) else e
 | _ => e
mutual
def d8 : b9 → b9
 | ⟨k, n, ks⟩ => o3 ⟨k, n, aQ0 ks⟩
def aQ0 : List b9 → List b9
 | [] => []
 | e :: r => d8 e :: aQ0 r
end
theorem a51 (ks : List b9) : aQ0 ks = ks.map d8 := by
 induction ks with
 | nil => rfl
 | cons a r ih => simp [aQ0, ih]
theorem aa2 (e : b9) : d8 e = o3 ⟨e.kind, e.value, e.kids.map d8⟩ := by cases e; simp only [d8, a51]; rfl
theorem G4 (k n : Int) (a b : b9) : o3 ⟨k, n, [a, b]⟩ = (if a.kind = 1 ∧ b.kind = 1 then aF3 (t7 k a.value b.value)
  else if ((k = 4 ∨ k = 8) ∧ n5 a 0 = true) ∨ (k = 6 ∧ n5 a 1 = true) then b
  else if ((k = 4 ∨ k = 8 ∨ k = 5) ∧ n5 b 0 = true) ∨ (k = 6 ∧ n5 b 1 = true) then a
  else ⟨k, n, [a, b]⟩) := rfl
theorem aC8 (k n : Int) (a b c : b9) : o3 ⟨k, n, [a, b, c]⟩ = (if a.kind = 1 ∧ B5 b = true ∧ B5 c = true then (if a.value ≠ 0 then b else c) else ⟨k, n, [a, b, c]⟩) := rfl
theorem af5 : ∀ e : b9, o3 e = e ∨ (o3 e ∈ e.kids) ∨ ∃ a b : b9, a ∈ e.kids ∧ b ∈ e.kids ∧ a.kind = 1 ∧ b.kind = 1 ∧ o3 e = aF3 (t7 e.kind a.value b.value)
 | ⟨k, n, []⟩ => .inl rfl
 | ⟨k, n, [_]⟩ => .inl rfl
 | ⟨k, n, [a, b]⟩ => by
  rw [G4]
  show _ ∨ _ ∈ [a, b] ∨ _
  split
  ·rename_i h; exact .inr (.inr ⟨a, b, bS4, bS9 _ bS4, h.1, h.2, rfl⟩)
  split
  ·exact .inr (.inl (by simp))
  split
  ·exact .inr (.inl (by simp))
  ·exact .inl rfl
 | ⟨k, n, [a, b, c]⟩ => by
  rw [aC8]
  show _ ∨ _ ∈ [a, b, c] ∨ _
  split
  ·split
   ·exact .inr (.inl (by simp))
   ·exact .inr (.inl (by simp))
  ·exact .inl rfl
 | ⟨k, n, _ :: _ :: _ :: _ :: _⟩ => .inl rfl
theorem a38 {e : b9} (h : E1 e = true) : E1 (o3 e) = true := by
 rcases af5 e with h1 | h1 | ⟨a, b, ha, hb, ka, kb, h1⟩
 ·rw [h1]; exact h
 ·exact (C0 _).1 (J4 h) _ h1
 ·rw [h1]
  have va := U3 ((C0 _).1 (J4 h) _ ha) ka
  have vb := U3 ((C0 _).1 (J4 h) _ hb) kb
  have := av7 (k := e.kind) va.1 va.2 vb.1 vb.2
  simp [aF3, E1, o6, ag0, this]
theorem a52 (e : b9) : E1 e = true → E1 (d8 e) = true := by
 refine b9.ind (P := fun e => E1 e = true → E1 (d8 e) = true) (fun k n ks ih h => ?_) e
 rw [aa2]
 refine a38 ?_
 rw [U4] at h ⊢
 simp only [b9.kids, b9.kind, b9.value, List.length_map, bR1] at h ⊢
 refine ⟨h.1, (C0 _).2 fun x hx => ?_⟩
 obtain ⟨y, hy, rfl⟩ := List.mem_map.1 hx
 exact ih y hy ((C0 _).1 h.2 y hy)
theorem bo5 (e : b9) : L4 (o3 e) ≤ L4 e := by
 rcases af5 e with h1 | h1 | ⟨a, b, ha, hb, ka, kb, h1⟩
 ·rw [h1]; exact bS8 _
 ·rw [J0 e]; exact Nat.le_of_lt (ax1 h1)
 ·rw [h1]; simp [aF3, L4, s8]
theorem aW9 (e : b9) : L4 (d8 e) ≤ L4 e := by
 refine b9.ind (P := fun e => L4 (d8 e) ≤ L4 e) (fun k n ks ih => ?_) e
 rw [aa2]
 refine bU1 (bo5 _) ?_
 rw [J0, J0]
 simp only [b9.kids]
 clear k n
 induction ks with
 | nil => simp
 | cons a r ihr =>
  simp only [bU4, s8]
  have h1 := ih a bS4
  have h2 := ihr fun e he => ih e (bS9 _ he)
  omega
end Go.Proofs.YthikdkjjdeehoaaGreat

namespace Go.Proofs.YthikdkjjdeehoaaGreat
set_option linter.unusedVariables false
set_option linter.unusedSimpArgs false
open Go Go.RowKit
mutual
def AV.den (t : Bool) (n : Nat) : AV → AV
 | .v x => .v x
 | .ptr a b => .ptr a b
 | .ea a b c d => .ea a b c d
 | .ref i => if !t && natEq i n then .v (.slice none 0 0) else .ref i
 | .agg l => .agg (AV.denL t n l)
 | .tup l => .tup (AV.denL t n l)
 | .fn f l => .fn f (AV.denL t n l)
 | .bm f l => .bm f (AV.denL t n l)
 | .tref i => if t && natEq i n then .v (.slice none 0 0) else .tref i
def AV.denL (t : Bool) (n : Nat) : List AV → List AV
 | [] => []
 | x :: r => x.den t n :: AV.denL t n r
end
def It.den (t : Bool) (n : Nat) : It → It
 | .box cs => .box (AV.denL t n cs)
 | x => x
mutual
theorem AV.val_den {ρ : Nat → Value} {t : Bool} {n : Nat} {z : Value} (hz : if t then D8 z = .slice none 0 0 else z = .slice none 0 0) : ∀ (x : AV), (∀ i ∈ (x.den t n).ids, i < n) → x.val (fun j => if j = n then z else ρ j) = (x.den t n).val ρ ∧ ∀ i ∈ x.ids, i < n + 1
 | .v _, _ => ⟨rfl, fun i hi => by simp [AV.ids] at hi⟩
 | .ptr a b, h => by
  have ha : a < n := h a (by simp [AV.den, AV.ids])
  refine ⟨?_, fun i hi => by simp [AV.ids] at hi; omega⟩
  simp only [AV.den, AV.val]
  rw [if_neg (by omega)]
 | .ea a b c d, h => by
  have ha : a < n := h a (by simp [AV.den, AV.ids])
  refine ⟨?_, fun i hi => by simp [AV.ids] at hi; omega⟩
  simp only [AV.den, AV.val]
  rw [if_neg (by omega)]
 | .ref a, h => by
  by_cases e : t = false ∧ a = n
  ·obtain ⟨rfl, rfl⟩ := e
   refine ⟨?_, fun i hi => by simp [AV.ids] at hi; omega⟩
   simp only [Bool.false_eq_true, if_false] at hz
   simp [AV.den, AV.val, natEq, hz]
  ·have hd : (AV.ref a).den t n = .ref a := by
    simp only [AV.den]
    rw [if_neg]
    simp [natEq]; intro h1 h2; exact e ⟨h1, h2⟩
   rw [hd] at h ⊢
   have ha : a < n := h a (by simp [AV.ids])
   refine ⟨?_, fun i hi => by simp [AV.ids] at hi; omega⟩
   simp only [AV.val]
   rw [if_neg (by omega)]
 | .tref a, h => by
  by_cases e : t = true ∧ a = n
  ·obtain ⟨rfl, rfl⟩ := e
   refine ⟨?_, fun i hi => by simp [AV.ids] at hi; omega⟩
   simp only [if_true] at hz
   simp [AV.den, AV.val, natEq, hz]
  ·have hd : (AV.tref a).den t n = .tref a := by
    simp only [AV.den]
    rw [if_neg]
    simp [natEq]; intro h1 h2; exact e ⟨h1, h2⟩
   rw [hd] at h ⊢
   have ha : a < n := h a (by simp [AV.ids])
   refine ⟨?_, fun i hi => by simp [AV.ids] at hi; omega⟩
   simp only [AV.val]
   rw [if_neg (by omega)]
 | .agg l, h => by
  obtain ⟨h1, h2⟩ := AV.vals_den hz l (by simpa [AV.den, AV.ids] using h)
  exact ⟨by simp only [AV.den, AV.val]; rw [h1], by simpa [AV.ids] using h2⟩
 | .tup l, h => by
  obtain ⟨h1, h2⟩ := AV.vals_den hz l (by simpa [AV.den, AV.ids] using h)
  exact ⟨by simp only [AV.den, AV.val]; rw [h1], by simpa [AV.ids] using h2⟩
 | .fn f l, h => by
  obtain ⟨h1, h2⟩ := AV.vals_den hz l (by simpa [AV.den, AV.ids] using h)
  exact ⟨by simp only [AV.den, AV.val]; rw [h1], by simpa [AV.ids] using h2⟩
 | .bm f l, h => by
  obtain ⟨h1, h2⟩ := AV.vals_den hz l (by simpa [AV.den, AV.ids] using h)
  exact ⟨by simp only [AV.den, AV.val]; rw [h1], by simpa [AV.ids] using h2⟩
theorem AV.vals_den {ρ : Nat → Value} {t : Bool} {n : Nat} {z : Value} (hz : if t then D8 z = .slice none 0 0 else z = .slice none 0 0) : ∀ (l : List AV), (∀ i ∈ AV.idsL (AV.denL t n l), i < n) → AV.vals (fun j => if j = n then z else ρ j) l = AV.vals ρ (AV.denL t n l) ∧ ∀ i ∈ AV.idsL l, i < n + 1
 | [], _ => ⟨rfl, fun i hi => by simp [AV.idsL] at hi⟩
 | x :: r, h => by
  obtain ⟨h1, h2⟩ := AV.val_den hz x fun i hi => h i (by simp only [AV.denL, AV.idsL, bT2]; exact .inl hi)
  obtain ⟨h3, h4⟩ := AV.vals_den hz r fun i hi => h i (by simp only [AV.denL, AV.idsL, bT2]; exact .inr hi)
  refine ⟨by simp only [AV.denL, AV.vals]; rw [h1, h3], fun i hi => ?_⟩
  simp only [AV.idsL, bT2] at hi
  rcases hi with hi | hi
  ·exact h2 i hi
  ·exact h4 i hi
end
theorem aD4 {m : Bool} {n : Nat} {t : Nat} {x : AV} : ∀ {tm : List (Nat × AV)}, B8 tm t = some x → B8 (tm.map fun p => (p.1, p.2.den m n)) t = some (x.den m n)
 | [], h => by cases h
 | (k, y) :: r, h => by
  simp only [B8, bU4] at h ⊢
  split at h
  ·rename_i e; cases h; rw [if_pos e]
  ·rename_i e; rw [if_neg e]; exact aD4 h
section
variable {P : Program} {ι : Type} {φ ψ : Nat → Prop} {w0 w : World} {F : ι → Rs} {ρ ρ0 : Nat → Value} {N m n : Nat} {S : List It} {tm : List (Nat × AV)} {a : Act}
theorem x9.nilW (G : x9 φ ψ w0 F N m ρ0 ρ S tm a w) (n : Nat) (hn : S.length = n) (b : Bool) (x : It) (z : Value) (hz : if b then D8 z = .slice none 0 0 else z = .slice none 0 0) (hids : x.ids = []) (hb : ∀ g, ¬ (x.res (fun j => if j = n then z else ρ j) n).blk g)
  (hx : ∀ φ', (x.res (fun j => if j = n then z else ρ j) n).holds w φ') (S1 : List It) (tm1 : List (Nat × AV)) (hS : S = S1.map (It.den b n)) (ht : tm = tm1.map fun p => (p.1, p.2.den b n)) :
  ∃ ρ', x9 φ ψ w0 F N m ρ0 ρ' (S1 ++ [x]) tm1 a w := by
 have hl : S1.length = n := by rw [← hn, hS, List.length_map]
 have hat : ∀ j (hj : j < n), v5 S j = (S1[j]'(by omega)).den b n := fun j hj => by
  rw [as0 (show j < S.length by omega)]
  have h1 := congrArg (·[j]?) hS
  simp only [List.getElem?_map, bR5 (show j < S.length by omega), bR5 (show j < S1.length by omega), Option.map_some, Option.some.injEq] at h1
  exact h1
 have hnew : ∀ j (hj : j < n), v5 (S1 ++ [x]) j = S1[j]'(by omega) := fun j hj => by
  simp [v5, bR6, bU2 (show j < S1.length by omega), bR5 (show j < S1.length by omega)]
 have hlast : v5 (S1 ++ [x]) n = x := by
  simp [v5, bR6, ← hl]
 have hout : ∀ j, n < j → v5 (S1 ++ [x]) j = .none := fun j hj => C2 (by simp; omega)
 have hbx : ∀ j (hj : j < n), ((S1[j]'(by omega)).res (fun j => if j = n then z else ρ j) j = (v5 S j).res ρ j) ∧ ∀ i ∈ (S1[j]'(by omega)).ids, i < n + 1 := fun j hj => by
  rw [hat j hj]
  have hb := (G.bd j).1
  rw [hat j hj, hn] at hb
  generalize S1[j]'(by omega) = x at *
  cases x with
  | box cs =>
   obtain ⟨h1, h2⟩ := AV.vals_den (ρ := ρ) (n := n) hz cs hb
   refine ⟨?_, h2⟩
   simp only [It.res, It.den]
   rw [h1, if_neg (show ¬ j = n by omega)]
  | none => exact ⟨rfl, fun i hi => by cases hi⟩
  | dead => exact ⟨rfl, fun i hi => by cases hi⟩
  | dat d' => exact ⟨by simp only [It.res, It.den]; rw [if_neg (show ¬ j = n by omega)], fun i hi => by cases hi⟩
  | row e' d' => exact ⟨by simp only [It.res, It.den]; rw [if_neg (show ¬ j = n by omega)], fun i hi => by cases hi⟩
  | tree d' => exact ⟨by simp only [It.res, It.den]; rw [if_neg (show ¬ j = n by omega)], fun i hi => by cases hi⟩
  | kept e' d' => exact ⟨by cases e' <;> (simp only [It.res, It.den]; rw [if_neg (show ¬ j = n by omega)]), fun i hi => by cases hi⟩
 have hw : ∀ t x, B8 tm1 t = some x → x.val (fun j => if j = n then z else ρ j) = (x.den b n).val ρ ∧ ∀ i ∈ x.ids, i < n + 1 := fun t x hx => by
  refine AV.val_den hz x fun i hi => ?_
  have h1 : B8 tm t = some (x.den b n) := by rw [ht]; exact aD4 hx
  have := G.tmi t _ h1 i hi
  omega
 refine ⟨fun j => if j = n then z else ρ j, ?_⟩
 refine ⟨G.size, G.defs, fun t x hx => ?_, fun t x hx i hi => ?_, fun j => ⟨fun i hi => ?_, fun hj => C2 hj⟩, ?_, ?_, fun i hi => ?_⟩
 ·have h1 : B8 tm t = some (x.den b n) := by rw [ht]; exact aD4 hx
  rw [(hw t x hx).1]; exact G.tmv t _ h1
 ·have := (hw t x hx).2 i hi
  simp; omega
 ·rcases Nat.lt_trichotomy j n with h | h | h
  ·rw [hnew j h] at hi
   have := (hbx j h).2 i hi
   simp; omega
  ·subst h; rw [hlast, hids] at hi; cases hi
  ·rw [hout j h] at hi; cases hi
 ·refine n6.put G.mem (.inr n) (fun k hk => ?_) (C6.refl _ _) ?_ ?_
  ·cases k with
   | inl i => rfl
   | inr j =>
    simp only [s6]
    rcases Nat.lt_trichotomy j n with h | h | h
    ·rw [hnew j h]; exact (hbx j h).1
    ·exact absurd (by rw [h]) hk
    ·rw [hout j h, C2 (show S.length ≤ j by omega)]; rfl
  ·simp only [s6, hlast]; exact hx _
  ·intro g hg
   simp only [s6, hlast] at hg
   exact absurd hg (hb g)
 ·have := G.le; simp; omega
 ·show (if i = n then _ else ρ i) = ρ0 i
  have := G.le
  rw [if_neg (by omega)]; exact G.old i hi
theorem x9.nil (G : x9 φ ψ w0 F N m ρ0 ρ S tm a w) (n : Nat) (e : TypeId) (d : D) (k : Nat) (S1 : List It) (tm1 : List (Nat × AV)) (hn : S.length = n := by kernel_rfl) (hd : D.nil k = some d := by kernel_rfl) (hS : S = S1.map (It.den false n) := by kernel_rfl) (ht : tm = tm1.map (fun p => (p.1, p.2.den false n)) := by kernel_rfl) :
  ∃ ρ', x9 φ ψ w0 F N m ρ0 ρ' (S1 ++ [.row e d]) tm1 a w := by
 have hz := D.nil_len hd
 refine G.nilW n hn false (.row e d) (.slice none 0 0) (by simp) rfl (fun g hg => ?_) (fun φ' => ?_) S1 tm1 hS ht
 ·simp only [It.res, if_true] at hg
  cases hg
 ·simp only [It.res, if_true]
  refine ⟨fun xs => RW.nice d xs, [], ?_, RW.nil hz _⟩
  rw [hz]; exact World.ownsRow_nil _ _ _ _
theorem x9.nilT (G : x9 φ ψ w0 F N m ρ0 ρ S tm a w) (n : Nat) (d : D) (S1 : List It) (tm1 : List (Nat × AV)) (hn : S.length = n := by kernel_rfl) (hd : ((aj6 d).isSome && natEq d.len 0) = true := by kernel_rfl) (hS : S = S1.map (It.den true n) := by kernel_rfl) (ht : tm = tm1.map (fun p => (p.1, p.2.den true n)) := by kernel_rfl) :
  ∃ ρ', x9 φ ψ w0 F N m ρ0 ρ' (S1 ++ [.tree d]) tm1 a w := by
 simp only [bR1, natEq, beq_iff_eq] at hd
 obtain ⟨e, he⟩ := bV2.1 hd.1
 obtain ⟨z, h1, h2⟩ := am2 (.slice none 0 0) (fun _ => False) 0 fun b h => h.elim
 refine G.nilW n hn true (.tree d) z (by simp [h1]) rfl (fun g hg => ?_) (fun φ' => ?_) S1 tm1 hS ht
 ·simp only [It.res, if_true] at hg
  exact ((h2 g).1 hg).elim
 ·simp only [It.res, if_true]
  rw [h1]
  refine ⟨fun _ _ h hs => h.same hs, ⟨e, [], fun _ => False, he, ?_, (fun g hg => by cases hg), (fun b hb => hb.elim), ?_⟩, fun b hb => ((h2 b).1 hb).elim⟩
  ·rw [hd.2]; exact World.ownsRow_nil _ _ _ _
  ·have h0 := hd.2
   cases d <;> simp only [aj6] at he <;> first | cases he | skip
   all_goals (simp only [D.len] at h0; rw [bT3 h0]; rfl)
end
inductive Ln where
 | no
 | row (e : TypeId)
 | tree
def A3 (M : List Ln) (i : Nat) : Ln := M.getD i .no
def Ln.isT : Ln → Bool
 | .tree => true
 | _ => false
mutual
def AV.tr (M : List Ln) : AV → AV
 | .v x => .v x
 | .ptr a b => .ptr a b
 | .ea a b c d => .ea a b c d
 | .ref i => if (A3 M i).isT then .tref i else .ref i
 | .agg l => .agg (AV.trL M l)
 | .tup l => .tup (AV.trL M l)
 | .fn f l => .fn f (AV.trL M l)
 | .bm f l => .bm f (AV.trL M l)
 | .tref i => .tref i
def AV.trL (M : List Ln) : List AV → List AV
 | [] => []
 | x :: r => x.tr M :: AV.trL M r
end
mutual
def AV.trOk (M : List Ln) : AV → Bool
 | .v _ => true
 | .ptr a _ => !(A3 M a).isT
 | .ea a _ _ _ => !(A3 M a).isT
 | .ref _ => true
 | .agg l => AV.trOkL M l
 | .tup l => AV.trOkL M l
 | .fn _ l => AV.trOkL M l
 | .bm _ l => AV.trOkL M l
 | .tref i => !(A3 M i).isT
def AV.trOkL (M : List Ln) : List AV → Bool
 | [] => true
 | x :: r => x.trOk M && AV.trOkL M r
end
mutual
theorem AV.val_tr {ρ ρ' : Nat → Value} {M : List Ln} (h : ∀ i, ρ' i = if (A3 M i).isT then D8 (ρ i) else ρ i) : ∀ (x : AV), x.trOk M = true → (x.tr M).val ρ = x.val ρ'
 | .v _, _ => rfl
 | .ptr a _, hx => by
  simp only [AV.trOk, bS1] at hx
  simp only [AV.tr, AV.val]; rw [h a, hx]; rfl
 | .ea a _ _ _, hx => by
  simp only [AV.trOk, bS1] at hx
  simp only [AV.tr, AV.val]; rw [h a, hx]; rfl
 | .ref i, _ => by
  simp only [AV.tr]
  cases hm : (A3 M i).isT
  ·simp only [Bool.false_eq_true, if_false, AV.val]; rw [h i, hm]; rfl
  ·simp only [if_true, AV.val]; rw [h i, hm]; rfl
 | .agg l, hx => by simp only [AV.tr, AV.val]; rw [AV.vals_tr h l (by simpa [AV.trOk] using hx)]
 | .tup l, hx => by simp only [AV.tr, AV.val]; rw [AV.vals_tr h l (by simpa [AV.trOk] using hx)]
 | .fn _ l, hx => by simp only [AV.tr, AV.val]; rw [AV.vals_tr h l (by simpa [AV.trOk] using hx)]
 | .bm _ l, hx => by simp only [AV.tr, AV.val]; rw [AV.vals_tr h l (by simpa [AV.trOk] using hx)]
 | .tref i, hx => by
  simp only [AV.trOk, bS1] at hx
  simp only [AV.tr, AV.val]; rw [h i, hx]; rfl
theorem AV.vals_tr {ρ ρ' : Nat → Value} {M : List Ln} (h : ∀ i, ρ' i = if (A3 M i).isT then D8 (ρ i) else ρ i) : ∀ (l : List AV), AV.trOkL M l = true → AV.vals ρ (AV.trL M l) = AV.vals ρ' l
 | [], _ => rfl
 | x :: r, hx => by
  simp only [AV.trOkL, bR1] at hx
  simp only [AV.trL, AV.vals]; rw [AV.val_tr h x hx.1, AV.vals_tr h r hx.2]
end
def z9 (M : List Ln) : Ln → It → It
 | .row e, .dat d => .row e d
 | .tree, .dat d => .tree d
 | .no, .box cs => .box (AV.trL M cs)
 | _, x => x
def I4 (M : List Ln) (S : List It) : List It := (bT4 S.length).map fun i => z9 M (A3 M i) (v5 S i)
theorem R5 (M : List Ln) (S : List It) (i : Nat) : v5 (I4 M S) i = z9 M (A3 M i) (v5 S i) := by
 unfold I4
 rcases bU6 i S.length with h | h
 ·conv => lhs; rw [v5, bR6, List.getElem?_map, List.getElem?_range h]
  rfl
 ·rw [C2 (by simpa using h), C2 h]
  cases A3 M i <;> rfl
def aX3 : D → Bool
 | .rows _ => false
 | .brows _ => false
 | .exprs _ => false
 | .stmts _ => false
 | _ => true
theorem bb8 {w w' : World} {φ φ' : Nat → Prop} {d : D} {xs : List Value} (hd : aX3 d = true) (h : RW w φ d xs) : RW w' φ' d xs := by
 intro i hi j x hx
 obtain ⟨u, h1, h2⟩ := h i hi j x hx
 refine ⟨u, h1, ?_⟩
 have : ∃ y, x = .v y := by
  have hm := bR3 hx
  cases d <;> simp only [aX3, Bool.false_eq_true] at hd <;> simp [D.elem, a45, am1] at hm
  ·exact ⟨_, hm⟩
  ·exact ⟨_, hm⟩
  ·exact ⟨_, hm⟩
  ·exact ⟨_, hm⟩
  ·rcases hm with h | h | h | h | h <;> exact ⟨_, h⟩
  ·rcases hm with h | h <;> exact ⟨_, h⟩
 obtain ⟨y, rfl⟩ := this
 exact h2
def aV6 (M : List Ln) (l : Ln) (p x : It) : Bool :=
 match l with
 | .no => match x with
  | .dat _ => (match p with | .dat _ => true | _ => false)
  | .row _ d => aX3 d
  | .box cs => AV.trOkL M cs
  | .kept _ _ => false
  | _ => true
 | .row _ => (match p, x with | .dat d, .dat _ => aX3 d | _, _ => false)
 | .tree => (match p, x with | .dat d, .dat _ => (aj6 d).isSome | _, _ => false)
def bn1 (M : List Ln) (l : Ln) (p : It) : Bool :=
 match l, p with
 | .no, .box cs => AV.trOkL M cs
 | _, _ => true
def bp0 (M : List Ln) (c : l7) : Bool :=
 decide (M.length ≤ c.pre.length) && decide (c.pre.length ≤ c.post.length) && AV.trOkL M c.args && c.res.trOk M && (bT4 c.post.length).all (fun i => aV6 M (A3 M i) (v5 c.pre i) (v5 c.post i)) && (bT4 c.pre.length).all fun i => bn1 M (A3 M i) (v5 c.pre i)
def Rs.snap (w : World) (r : Rs) : Rs := .own r.blk fun w' => ∀ b, r.blk b → b < w.heap.size → w'.heap[b]? = w.heap[b]?
theorem Rs.snap_holds {w : World} {φ φ' : Nat → Prop} {r : Rs} (h : r.holds w φ) : (r.snap w).holds w φ' := by
 refine ⟨fun w1 w2 h1 h2 b hb hlt => ?_, fun b _ _ => rfl, fun b hb => Rs.lt h hb⟩
 have h3 := h1 b hb hlt
 rw [h2 b hb, h3]
 have : (w1.heap[b]?).isSome = true := by rw [h3, Array.getElem?_eq_getElem hlt]; rfl
 obtain ⟨o, ho⟩ := bV2.1 this
 exact (Array.getElem?_eq_some_iff.1 ho).1
theorem aQ4 : ∀ {P X : List It} {i : Nat} {d e : D}, as7 P X = as6 P X → v5 P i = .dat d → v5 X i = .dat e → d = e
 | P, X, i, d, e, h, h1, h2 => by
  have hp : P[i]? = some (.dat d) := by
   rcases bU6 i P.length with hl | hl
   ·rw [as0 hl] at h1; rw [bR5 hl, h1]
   ·rw [C2 hl] at h1; cases h1
  have hx : X[i]? = some (.dat e) := by
   rcases bU6 i X.length with hl | hl
   ·rw [as0 hl] at h2; rw [bR5 hl, h2]
   ·rw [C2 hl] at h2; cases h2
  exact bG1 h hp hx
theorem l7.lend0 {P : Program} {c : l7} (hc : c.ok P) (M : List Ln) (hb : bp0 M c = true) (he : as7 c.pre c.post = as6 c.pre c.post) : l7.ok P ⟨c.f, AV.trL M c.args, I4 M c.pre, I4 M c.post, c.res.tr M⟩ := by
 simp only [bp0, bR1, decide_eq_true_eq] at hb
 obtain ⟨⟨⟨⟨⟨hM, hle⟩, hargs⟩, hres⟩, hpost⟩, hpre⟩ := hb
 have hno : ∀ i, c.pre.length ≤ i → A3 M i = .no := fun i hi => by
  unfold A3; rw [bR6, bU7 (by omega)]; rfl
 have hpo : ∀ i, aV6 M (A3 M i) (v5 c.pre i) (v5 c.post i) = true := fun i => by
  rcases bU6 i c.post.length with h | h
  ·exact bR9.1 hpost i (List.mem_range.2 h)
  ·rw [hno i (by omega), C2 h]; rfl
 have hpr : ∀ i, bn1 M (A3 M i) (v5 c.pre i) = true := fun i => by
  rcases bU6 i c.pre.length with h | h
  ·exact bR9.1 hpre i (List.mem_range.2 h)
  ·rw [hno i h, C2 h]; rfl
 intro ι φ ψ w0 w F ρ MM
 let ρ1 : Nat → Value := fun i => if (A3 M i).isT then D8 (ρ i) else ρ i
 have hρ1 : ∀ i, ρ1 i = if (A3 M i).isT then D8 (ρ i) else ρ i := fun _ => rfl
 let F1 : ι → Rs := fun i => (F i).snap w
 have hLi : ∀ i, s6 F ρ (v5 (I4 M c.pre)) (.inl i) = F i := fun _ => rfl
 have hLj : ∀ j, s6 F ρ (v5 (I4 M c.pre)) (.inr j) = (z9 M (A3 M j) (v5 c.pre j)).res ρ j := fun j => by simp only [s6]; rw [R5]
 generalize hL : s6 F ρ (v5 (I4 M c.pre)) = L at MM hLi hLj
 have h1j : ∀ j, A3 M j = .no → (v5 c.pre j).res ρ1 j = L (.inr j) := fun j hl => by
  rw [hLj, hl]
  have hp := hpr j
  have e : ρ1 j = ρ j := by rw [hρ1, hl]; rfl
  cases hx : v5 c.pre j with
  | none => rfl
  | dead => rfl
  | dat d => simp only [z9, It.res]; rw [e]
  | row e' d => simp only [z9, It.res]; rw [e]
  | tree d => simp only [z9, It.res]; rw [e]
  | kept e' d => cases e' <;> (simp only [z9, It.res]; rw [e])
  | box cs =>
   rw [hl, hx] at hp
   simp only [bn1] at hp
   simp only [z9, It.res]
   rw [e, AV.vals_tr hρ1 cs hp]
 have hlent : ∀ j, A3 M j ≠ .no → (∃ d, v5 c.pre j = .dat d ∧ v5 c.post j = .dat d ∧ ((∃ e, A3 M j = .row e ∧ aX3 d = true) ∨ A3 M j = .tree)) := fun j hj => by
  have h := hpo j
  cases hl : A3 M j with
  | no => exact absurd hl hj
  | row e =>
   rw [hl] at h
   simp only [aV6] at h
   split at h
   ·rename_i d d' h1 h2
    exact ⟨d, h1, by rw [h2, ← aQ4 he h1 h2], .inl ⟨e, rfl, h⟩⟩
   ·cases h
  | tree =>
   rw [hl] at h
   simp only [aV6] at h
   split at h
   ·rename_i d d' h1 h2
    exact ⟨d, h1, by rw [h2, ← aQ4 he h1 h2], .inr rfl⟩
   ·cases h
 have hsub : ∀ k b, (s6 F1 ρ1 (v5 c.pre) k).blk b → (L k).blk b ∧ ∀ j, k = .inr j → A3 M j = .no := fun k b hb => by
  cases k with
  | inl i => rw [hLi]; exact ⟨hb, fun j h => by cases h⟩
  | inr j =>
   by_cases hl : A3 M j = .no
   ·simp only [s6] at hb
    rw [h1j j hl] at hb
    exact ⟨hb, fun j' h => by cases h; exact hl⟩
   ·obtain ⟨d, h1, _⟩ := hlent j hl
    simp only [s6, h1, It.res] at hb
    exact hb.elim
 have hfr1 : ∀ b, X5 φ L b → X5 φ (s6 F1 ρ1 (v5 c.pre)) b := fun b hb => ⟨hb.1, fun k hk => hb.2 k (hsub k b hk).1⟩
 let ψ1 : Nat → Prop := fun b => ∀ k, ¬ (s6 F1 ρ1 (v5 c.pre) k).blk b
 have M1 : n6 φ ψ1 w w (s6 F1 ρ1 (v5 c.pre)) := by
  refine ⟨C6.refl _ _, fun b hb => MM.fresh b (bU1 MM.size hb), fun k => ?_, fun k k' b hkk h1 h2 => MM.dis k k' b hkk (hsub k b h1).1 (hsub k' b h2).1, fun k b h1 => .inr fun h => h k h1, fun k b h1 => MM.ph k b (hsub k b h1).1⟩
  cases k with
  | inl i => exact Rs.snap_holds (show (F i).holds w _ from by rw [← hLi i]; exact MM.holds (.inl i))
  | inr j =>
   by_cases hl : A3 M j = .no
   ·simp only [s6]
    rw [h1j j hl]
    exact Rs.keep (MM.holds (.inr j)) (T3.mono fun b _ hf => hfr1 b hf) fun _ _ => rfl
   ·obtain ⟨d, h1, h2, h3⟩ := hlent j hl
    have hh := MM.holds (.inr j)
    have hown : ∀ b, (L (.inr j)).blk b → X5 φ (s6 F1 ρ1 (v5 c.pre)) b := fun b hb => ⟨MM.ph _ _ hb, fun k hk => by
     obtain ⟨q1, q2⟩ := hsub k b hk
     by_cases e : k = .inr j
     ·exact hl (q2 j e)
     ·exact MM.dis k (.inr j) b e q1 hb⟩
    simp only [s6, h1, It.res]
    refine ⟨RD.nice _ _, ?_⟩
    rcases h3 with ⟨e, h3, hflat⟩ | h3
    ·rw [hLj, h3, h1] at hh
     simp only [z9, It.res] at hh
     obtain ⟨_, xs, o1, o2⟩ := hh
     have e1 : ρ1 j = ρ j := by rw [hρ1, h3]; rfl
     rw [e1]
     refine RD.make (D7 o1 fun g hg => hown g ?_) (bb8 hflat o2)
     rw [hLj, h3, h1]; exact hg
    ·rw [hLj, h3, h1] at hh
     simp only [z9, It.res] at hh
     have e1 : ρ1 j = D8 (ρ j) := by rw [hρ1, h3]; rfl
     rw [e1]
     refine E4.read hh.2.1 fun b hb => hown b ?_
     rw [hLj, h3, h1]; exact hb
 simp only
 rw [AV.vals_tr hρ1 c.args hargs]
 refine (hc ι φ ψ1 w w F1 ρ1 M1).mono ?_
 rintro x w' ⟨ρ2, g1, g2, M2⟩
 have hplen : (I4 M c.pre).length = c.pre.length := by simp [I4]
 let ρ' : Nat → Value := fun j => if j < c.pre.length then ρ j else ρ2 j
 have hρ' : ∀ j, ρ2 j = if (A3 M j).isT then D8 (ρ' j) else ρ' j := fun j => by
  show _ = if (A3 M j).isT then D8 (if j < c.pre.length then ρ j else ρ2 j) else (if j < c.pre.length then ρ j else ρ2 j)
  rcases bU6 j c.pre.length with h | h
  ·rw [if_pos h, g1 j h]
  ·rw [hno j h]
   exact (if_neg (Nat.not_lt.2 h)).symm
 have hρo : ∀ j, A3 M j ≠ .no → ρ' j = ρ j := fun j hj => by
  rcases bU6 j c.pre.length with h | h
  ·exact if_pos h
  ·exact absurd (hno j h) hj
 refine ⟨ρ', fun i hi => if_pos (by rw [hplen] at hi; exact hi), by rw [AV.val_tr hρ' c.res hres]; exact g2, ?_⟩
 have hL'j : ∀ j, s6 F ρ' (v5 (I4 M c.post)) (.inr j) = (z9 M (A3 M j) (v5 c.post j)).res ρ' j := fun j => by simp only [s6]; rw [R5]
 have hL'i : ∀ i, s6 F ρ' (v5 (I4 M c.post)) (.inl i) = F i := fun _ => rfl
 generalize hL' : s6 F ρ' (v5 (I4 M c.post)) = L' at hL'j hL'i
 have hL2j : ∀ j, A3 M j = .no → L' (.inr j) = s6 F1 ρ2 (v5 c.post) (.inr j) := fun j hl => by
  rw [hL'j, hl]
  have hp := hpo j
  have e : ρ2 j = ρ' j := by rw [hρ', hl]; rfl
  simp only [s6]
  cases hx : v5 c.post j with
  | none => rfl
  | dead => rfl
  | dat d => simp only [z9, It.res]; rw [e]
  | row e' d => simp only [z9, It.res]; rw [e]
  | tree d => simp only [z9, It.res]; rw [e]
  | kept e' d => cases e' <;> (simp only [z9, It.res]; rw [e])
  | box cs =>
   rw [hl, hx] at hp
   simp only [aV6] at hp
   simp only [z9, It.res]
   rw [e, AV.vals_tr hρ' cs hp]
 have hlj : ∀ j, A3 M j ≠ .no → L' (.inr j) = L (.inr j) := fun j hl => by
  obtain ⟨d, h1, h2, h3⟩ := hlent j hl
  rw [hL'j, hLj, h1, h2]
  rcases h3 with ⟨e, h3, _⟩ | h3
  ·rw [h3]; simp only [z9, It.res]; rw [hρo j hl]
  ·rw [h3]; simp only [z9, It.res]; rw [hρo j hl]
 have hin : ∀ b, b < w.heap.size → ¬ ψ1 b → ∃ k, (L k).blk b ∧ ∀ j, k = .inr j → A3 M j = .no := fun b _ hn => by
  obtain ⟨k, hk⟩ := Classical.not_forall.1 hn
  exact ⟨k, hsub k b (Classical.not_not.1 hk)⟩
 have hnew : ∀ k b, (∀ j, k = .inr j → A3 M j = .no) → (s6 F1 ρ2 (v5 c.post) k).blk b → b < w.heap.size → ∃ k', (L k').blk b ∧ ∀ j, k' = .inr j → A3 M j = .no := fun k b _ hb hlt => by
  rcases M2.ge k b hb with h | h
  ·omega
  ·exact hin b hlt h
 have hback : ∀ k b, (L' k).blk b → b < w.heap.size → ∃ k', (L k').blk b := fun k b hb hlt => by
  cases k with
  | inl i => rw [hL'i] at hb; exact ⟨.inl i, by rw [hLi]; exact hb⟩
  | inr j =>
   by_cases hl : A3 M j = .no
   ·rw [hL2j j hl] at hb
    obtain ⟨k', h1, _⟩ := hnew (.inr j) b (fun j' h => by cases h; exact hl) hb hlt
    exact ⟨k', h1⟩
   ·rw [hlj j hl] at hb; exact ⟨_, hb⟩
 have hsame : ∀ b, b < w.heap.size → ψ1 b → w'.heap[b]? = w.heap[b]? := fun b h1 h2 => M2.kept.block b h1 h2
 have hagr : T3 (X5 φ L) (X5 φ L') w w' := ⟨M2.kept.size, fun b hb hf => ⟨⟨hf.1, fun k hk => let ⟨k', h1⟩ := hback k b hk hb; hf.2 k' h1⟩, hsame b hb fun k hk => (hfr1 b hf).2 k hk⟩⟩
 have hlsame : ∀ j, A3 M j ≠ .no → ∀ b, (L (.inr j)).blk b → w'.heap[b]? = w.heap[b]? := fun j hl b hb => hsame b (MM.lt hb) fun k hk => by
  obtain ⟨q1, q2⟩ := hsub k b hk
  by_cases e : k = .inr j
  ·exact hl (q2 j e)
  ·exact MM.dis k (.inr j) b e q1 hb
 have hcross : ∀ j k b, A3 M j ≠ .no → (∀ j, k = .inr j → A3 M j = .no) → (L (.inr j)).blk b → ¬ (s6 F1 ρ2 (v5 c.post) k).blk b := fun j k b hl hk h1 h2 => by
  obtain ⟨k', h3, h4⟩ := hnew k b hk h2 (MM.lt h1)
  exact MM.dis k' (.inr j) b (fun e => hl (h4 j e)) h3 h1
 refine ⟨⟨M2.kept.os.trans MM.kept.os, M2.kept.tape.trans MM.kept.tape, M2.kept.output.trans MM.kept.output, bU1 MM.size M2.kept.size, fun b hb hp => (hsame b (Nat.lt_of_lt_of_le hb MM.size) fun k hk => ?_).trans (MM.kept.block b hb hp)⟩, MM.fresh, fun k => ?_, fun k k' b hkk h1 h2 => ?_, fun k b h1 => ?_, fun k b h1 => ?_⟩
 ·rcases MM.ge k b (hsub k b hk).1 with h | h
  ·omega
  ·exact h hp
 ·cases k with
  | inl i =>
   rw [hL'i, ← hLi i]
   refine Rs.keep (MM.holds (.inl i)) hagr fun b hb => ?_
   have := (M2.holds (.inl i)).2.1 b (by rw [← hLi i]; exact hb) (MM.lt hb)
   exact this
  | inr j =>
   by_cases hl : A3 M j = .no
   ·have hh := M2.holds (.inr j)
    rw [← hL2j j hl] at hh
    have hp := hpo j
    rw [hl] at hp
    cases hx : v5 c.post j with
    | none => rw [hL'j, hl, hx]; exact Rs.none_holds _ _
    | dead => rw [hL'j, hl, hx]; exact Rs.none_holds _ _
    | box cs => rw [hL'j, hl, hx] at hh ⊢; exact hh
    | tree d => rw [hL'j, hl, hx] at hh ⊢; exact hh
    | kept e' d => rw [hx] at hp; exact absurd hp (by simp [aV6])
    | row e d =>
     rw [hx] at hp
     simp only [aV6] at hp
     rw [hL'j, hl, hx] at hh ⊢
     simp only [z9, It.res] at hh ⊢
     obtain ⟨_, xs, o1, o2⟩ := hh
     exact ⟨fun xs => RW.nice d xs, xs, o1, bb8 hp o2⟩
    | dat d =>
     rw [hx] at hp
     simp only [aV6] at hp
     split at hp
     ·rename_i d' hpx
      have hd : d' = d := aQ4 he hpx hx
      subst hd
      have e : L' (.inr j) = L (.inr j) := by
       rw [hL'j, hLj, hl, hx, hpx]
       simp only [z9, It.res]
       have : j < c.pre.length := by
        rcases bU6 j c.pre.length with h | h
        ·exact h
        ·rw [C2 h] at hpx; cases hpx
       rw [show ρ' j = ρ j from if_pos this]
      rw [e]
      refine Rs.keep (MM.holds (.inr j)) hagr fun b hb => ?_
      rw [hLj, hl, hpx] at hb
      exact hb.elim
     ·cases hp
   ·rw [hlj j hl]
    exact Rs.keep (MM.holds (.inr j)) hagr fun b hb => hlsame j hl b hb
 ·have key : ∀ k, (∃ j, k = .inr j ∧ A3 M j ≠ .no ∧ (L' k) = L k) ∨ ((∀ j, k = .inr j → A3 M j = .no) ∧ ∀ b, (L' k).blk b → (s6 F1 ρ2 (v5 c.post) k).blk b) := fun k => by
   cases k with
   | inl i => exact .inr ⟨(fun j h => by cases h), fun b hb => by rw [hL'i] at hb; exact hb⟩
   | inr j =>
    by_cases hl : A3 M j = .no
    ·exact .inr ⟨fun j' h => by cases h; exact hl, fun b hb => by rw [hL2j j hl] at hb; exact hb⟩
    ·exact .inl ⟨j, rfl, hl, hlj j hl⟩
  rcases key k with ⟨j, rfl, k1, k2⟩ | ⟨k1, k2⟩ <;> rcases key k' with ⟨j', rfl, k3, k4⟩ | ⟨k3, k4⟩
  ·rw [k2] at h1; rw [k4] at h2; exact MM.dis _ _ b hkk h1 h2
  ·rw [k2] at h1; exact hcross j k' b k1 k3 h1 (k4 b h2)
  ·rw [k4] at h2; exact hcross j' k b k3 k1 h2 (k2 b h1)
  ·exact M2.dis k k' b hkk (k2 b h1) (k4 b h2)
 ·cases k with
  | inl i => rw [hL'i, ← hLi i] at h1; exact MM.ge _ b h1
  | inr j =>
   by_cases hl : A3 M j = .no
   ·rw [hL2j j hl] at h1
    rcases bU6 b w.heap.size with hlt | hge
    ·obtain ⟨k', h2, _⟩ := hnew (.inr j) b (fun j' h => by cases h; exact hl) h1 hlt
     exact MM.ge k' b h2
    ·exact .inl (bU1 MM.size hge)
   ·rw [hlj j hl] at h1; exact MM.ge _ b h1
 ·cases k with
  | inl i => rw [hL'i, ← hLi i] at h1; exact MM.ph _ b h1
  | inr j =>
   by_cases hl : A3 M j = .no
   ·rw [hL2j j hl] at h1; exact M2.ph _ b h1
   ·rw [hlj j hl] at h1; exact MM.ph _ b h1
def bq0 (M : List Ln) : Ln → It → It
 | .row e, .dat d => .kept (some e) d
 | .tree, .dat d => .kept none d
 | .no, .box cs => .box (AV.trL M cs)
 | _, x => x
def bp9 (M : List Ln) (S : List It) : List It := (bT4 S.length).map fun i => bq0 M (A3 M i) (v5 S i)
theorem bo9 (M : List Ln) (S : List It) (i : Nat) : v5 (bp9 M S) i = bq0 M (A3 M i) (v5 S i) := by
 unfold bp9
 rcases bU6 i S.length with h | h
 ·conv => lhs; rw [v5, bR6, List.getElem?_map, List.getElem?_range h]
  rfl
 ·rw [C2 (by simpa using h), C2 h]
  cases A3 M i <;> rfl
theorem l7.lend {P : Program} {c : l7} (hc : c.ok P) (M : List Ln) (hb : bp0 M c = true := by kernel_rfl) (he : as7 c.pre c.post = as6 c.pre c.post := by kernel_rfl) : l7.ok P ⟨c.f, AV.trL M c.args, I4 M c.pre, bp9 M c.post, c.res.tr M⟩ :=
 l7.okPost (l7.lend0 hc M hb he) _ fun ρ i => by
  simp only
  rw [bo9, R5]
  cases A3 M i <;> cases v5 c.post i <;> rfl
section
variable {P : Program} {ι κ : Type} {φ ψ : Nat → Prop} {w0 w : World} {F : ι → Rs} {ρ ρ0 : Nat → Value} {N m n : Nat} {S : List It} {tm : List (Nat × AV)} {a : Act}
theorem n6.release {L L' : κ → Rs} (M : n6 φ ψ w0 w L) (h : ∀ k, L' k = L k ∨ ((∀ b, ¬ (L' k).blk b) ∧ ∀ φ', (∀ b, X5 φ L b → φ' b) → (∀ b, (L k).blk b → φ' b) → (L' k).holds w φ')) : n6 φ ψ w0 w L' := by
 have old : ∀ k b, (L' k).blk b → (L k).blk b := fun k b hb => by
  rcases h k with e | ⟨h1, _⟩
  ·rw [e] at hb; exact hb
  ·exact (h1 b hb).elim
 have hfr : ∀ b, X5 φ L b → X5 φ L' b := fun b hb => ⟨hb.1, fun k hk => hb.2 k (old k b hk)⟩
 refine ⟨M.kept, M.fresh, fun k => ?_, fun i j g hij h1 h2 => M.dis i j g hij (old i g h1) (old j g h2), fun i b hb => M.ge i b (old i b hb), fun i b hb => M.ph i b (old i b hb)⟩
 rcases h k with e | ⟨h1, h2⟩
 ·rw [e]; exact Rs.keep (M.holds k) (T3.mono fun b _ hf => hfr b hf) fun _ _ => rfl
 ·refine h2 _ hfr fun b hb => ⟨M.ph k b hb, fun j hj => ?_⟩
  by_cases e : j = k
  ·subst e; exact h1 b hj
  ·exact M.dis j k b e (old j b hj) hb
mutual
theorem AV.ids_tr (M : List Ln) : ∀ (x : AV), (x.tr M).ids = x.ids
 | .v _ => rfl
 | .ptr _ _ => rfl
 | .ea _ _ _ _ => rfl
 | .ref i => by simp only [AV.tr]; split <;> rfl
 | .agg l => by simp only [AV.tr, AV.ids]; exact AV.idsL_tr M l
 | .tup l => by simp only [AV.tr, AV.ids]; exact AV.idsL_tr M l
 | .fn _ l => by simp only [AV.tr, AV.ids]; exact AV.idsL_tr M l
 | .bm _ l => by simp only [AV.tr, AV.ids]; exact AV.idsL_tr M l
 | .tref _ => rfl
theorem AV.idsL_tr (M : List Ln) : ∀ (l : List AV), AV.idsL (AV.trL M l) = AV.idsL l
 | [] => rfl
 | x :: r => by simp only [AV.trL, AV.idsL]; rw [AV.ids_tr M x, AV.idsL_tr M r]
end
theorem ao8 {M : List Ln} {t : Nat} {x : AV} : ∀ {tm : List (Nat × AV)}, B8 tm t = some x → B8 (tm.map fun p => (p.1, p.2.tr M)) t = some (x.tr M) ∧ ∃ p ∈ tm, p.2 = x
 | [], h => by cases h
 | (k, y) :: r, h => by
  simp only [B8, bU4] at h ⊢
  split at h
  ·cases h; rename_i hk; rw [if_pos hk]; exact ⟨rfl, _, bS4, rfl⟩
  ·rename_i hk; rw [if_neg hk]
   obtain ⟨h1, p, h2, h3⟩ := ao8 h
   exact ⟨h1, p, bS9 _ h2, h3⟩
def bK9 (M : List Ln) (m : Nat) (S1 : List It) (tm1 : List (Nat × AV)) : Bool :=
 decide (M.length ≤ S1.length) && (bT4 S1.length).all (fun i => match A3 M i, v5 S1 i with
  | .no, .box cs => AV.trOkL M cs
  | .no, _ => true
  | .row _, .dat _ => true
  | .tree, .dat _ => decide (m ≤ i)
  | _, _ => false) && tm1.all fun p => p.2.trOk M
theorem It.ids_lend (M : List Ln) (l : Ln) (x : It) : x.ids = [] ∨ (z9 M l x).ids = x.ids := by
 cases x with
 | box cs => cases l <;> first | exact .inr rfl | exact .inr (AV.idsL_tr M cs)
 | _ => exact .inl rfl
theorem x9.frz (G : x9 φ ψ w0 F N m ρ0 ρ S tm a w) (M : List Ln) (S1 : List It) (tm1 : List (Nat × AV)) (hb : bK9 M m S1 tm1 = true := by kernel_rfl) (hS : S = I4 M S1 := by kernel_rfl) (ht : tm = tm1.map (fun p => (p.1, p.2.tr M)) := by kernel_rfl) :
  ∃ ρ', x9 φ ψ w0 F N m ρ0 ρ' S1 tm1 a w := by
 subst hS
 subst ht
 simp only [bK9, bR1, decide_eq_true_eq] at hb
 obtain ⟨⟨hM, hall⟩, htm⟩ := hb
 have hlen : (I4 M S1).length = S1.length := by simp [I4]
 have hno : ∀ i, S1.length ≤ i → A3 M i = .no := fun i hi => by
  unfold A3; rw [bR6, bU7 (by omega)]; rfl
 have hat := fun i (hi : i < S1.length) => bR9.1 hall i (List.mem_range.2 hi)
 let ρ1 : Nat → Value := fun i => if (A3 M i).isT then D8 (ρ i) else ρ i
 have hρ1 : ∀ i, ρ1 i = if (A3 M i).isT then D8 (ρ i) else ρ i := fun _ => rfl
 have hρn : ∀ i, (A3 M i).isT = false → ρ1 i = ρ i := fun i h => by rw [hρ1, h]; rfl
 refine ⟨ρ1, G.size, G.defs, fun t x hx => ?_, fun t x hx i hi => ?_, fun j => ⟨fun i hi => ?_, fun hj => C2 hj⟩, ?_, ?_, fun i hi => ?_⟩
 ·obtain ⟨h1, p, h2, h3⟩ := ao8 (M := M) hx
  rw [G.tmv t _ h1, AV.val_tr hρ1 x (by rw [← h3]; exact bR9.1 htm p h2)]
 ·obtain ⟨h1, _⟩ := ao8 (M := M) hx
  have := G.tmi t _ h1 i (by rw [AV.ids_tr]; exact hi)
  rw [hlen] at this; exact this
 ·have h1 := (G.bd j).1 i
  rw [R5, hlen] at h1
  rcases It.ids_lend M (A3 M j) (v5 S1 j) with h | h
  ·rw [h] at hi; cases hi
  ·exact h1 (by rw [h]; exact hi)
 ·refine G.mem.release fun k => ?_
  cases k with
  | inl i => exact .inl rfl
  | inr j =>
   simp only [s6]
   rw [R5]
   rcases bU6 j S1.length with hj | hj
   case inr => rw [hno j hj, C2 hj]; exact .inl rfl
   have h1 := hat j hj
   cases hl : A3 M j with
   | no =>
    have e : ρ1 j = ρ j := hρn j (by rw [hl]; rfl)
    rw [hl] at h1
    left
    cases hx : v5 S1 j with
    | box cs =>
     rw [hx] at h1
     simp only [z9, It.res]
     rw [e, AV.vals_tr hρ1 cs h1]
    | none => rfl
    | dead => rfl
    | dat d => simp only [z9, It.res]; rw [e]
    | row e' d => simp only [z9, It.res]; rw [e]
    | tree d => simp only [z9, It.res]; rw [e]
    | kept e' d => cases e' <;> (simp only [z9, It.res]; rw [e])
   | row e' =>
    have e : ρ1 j = ρ j := hρn j (by rw [hl]; rfl)
    rw [hl] at h1
    cases hx : v5 S1 j <;> rw [hx] at h1 <;> first | cases h1 | skip
    rename_i d
    refine .inr ⟨fun b hb => hb, fun φ' hf hown => ⟨RD.nice _ _, ?_⟩⟩
    have hh := G.mem.holds (.inr j)
    simp only [s6] at hh
    rw [R5, hl, hx] at hh
    simp only [z9, It.res] at hh
    obtain ⟨_, xs, o1, o2⟩ := hh
    rw [e]
    exact RD.make (D7 o1 fun g hg => hown g hg) (RW.nice _ _ _ _ _ _ (T3.mono fun b _ hb => hf b hb) o2)
   | tree =>
    have e : ρ1 j = D8 (ρ j) := by rw [hρ1, hl]; rfl
    rw [hl] at h1
    cases hx : v5 S1 j <;> rw [hx] at h1 <;> first | cases h1 | skip
    rename_i d
    refine .inr ⟨fun b hb => hb, fun φ' hf hown => ⟨RD.nice _ _, ?_⟩⟩
    have hh := G.mem.holds (.inr j)
    simp only [s6] at hh
    rw [R5, hl, hx] at hh
    simp only [z9, It.res] at hh
    rw [e]
    exact E4.read hh.2.1 fun b hb => hown b hb
 ·have := G.le; rw [hlen] at this; exact this
 ·have hm := G.le
  rw [hlen] at hm
  have : (A3 M i).isT = false := by
   cases hl : A3 M i with
   | no => rfl
   | row _ => rfl
   | tree =>
    have h1 := hat i (by omega)
    rw [hl] at h1
    cases hx : v5 S1 i <;> rw [hx] at h1 <;> simp at h1
    omega
  show ρ1 i = ρ0 i
  rw [hρn i this]; exact G.old i hi
end
end Go.Proofs.YthikdkjjdeehoaaGreat

namespace Go.Proofs.YthikdkjjdeehoaaGreat
set_option linter.unusedVariables false
set_option linter.unusedSimpArgs false
open Go Go.RowKit
end Go.Proofs.YthikdkjjdeehoaaGreat

namespace Go.Proofs.YthikdkjjdeehoaaGreat
set_option linter.unusedVariables false
set_option linter.unusedSimpArgs false
open Go Go.RowKit
section
variable {P : Program} {ι κ : Type} {φ ψ : Nat → Prop} {w0 w w' : World} {F : ι → Rs} {ρ ρ0 : Nat → Value}
theorem n6.grow {L L' : κ → Rs} (M : n6 φ ψ w0 w L) (hb : Below w.heap.size w w') (K : κ → Prop) (ho : ∀ k, ¬ K k → L' k = L k) (hg : ∀ k, K k → ∀ b, (L' k).blk b → w.heap.size ≤ b) (hd : ∀ j k b, j ≠ k → K j → K k → (L' j).blk b → ¬ (L' k).blk b) (h : ∀ k, K k → (L' k).holds w' (X5 φ L')) : n6 φ ψ w0 w' L' := by
 have M1 := M.call hb
 have old : ∀ k, ¬ K k → ∀ b, (L' k).blk b → b < w.heap.size := fun k hk b h1 => by rw [ho k hk] at h1; exact M.lt h1
 refine ⟨M1.kept, M.fresh, fun k => ?_, fun i j g hij h1 h2 => ?_, fun i b h1 => ?_, fun i b h1 => ?_⟩
 ·by_cases e : K k
  ·exact h k e
  ·rw [ho k e]
   refine Rs.keep (M.holds k) ⟨hb.size, fun b hl hf => ⟨⟨hf.1, fun j hj => ?_⟩, hb.block b hl⟩⟩ fun g hgx => hb.block g (M.lt hgx)
   by_cases e2 : K j
   ·have := hg j e2 b hj; omega
   ·rw [ho j e2] at hj; exact hf.2 j hj
 ·by_cases e1 : K i <;> by_cases e2 : K j
  ·exact hd i j g hij e1 e2 h1 h2
  ·have := hg i e1 g h1; have := old j e2 g h2; omega
  ·have := hg j e2 g h2; have := old i e1 g h1; omega
  ·rw [ho i e1] at h1; rw [ho j e2] at h2; exact M.dis i j g hij h1 h2
 ·by_cases e : K i
  ·exact .inl (bU1 M.size (hg i e b h1))
  ·rw [ho i e] at h1; exact M.ge i b h1
 ·by_cases e : K i
  ·exact M.fresh b (bU1 M.size (hg i e b h1))
  ·rw [ho i e] at h1; exact M.ph i b h1
end
abbrev oP (p : f5) : List It := [.row 3 (.ints p.vars), .row 3 (.ints p.arrays), .tree (.stmts p.body)]
abbrev oA (r : Nat) : AV := .agg [.ref r, .ref (r + 1), .tref (r + 2)]
theorem be7 {w : World} {φ : Nat → Prop} {v : Value} {l : List Int} (h : w.ownsRow 0 3 1 v l.length (ints l)) : (Rs.row 3 (D.ints l).sz v (D.ints l).len fun xs w φ => RW w φ (.ints l) xs).holds w φ := by
 refine ⟨fun xs => RW.nice (.ints l) xs, ints l, h, fun i hi j x hx => ?_⟩
 have hi' : i < l.length := hi
 simp only [D.elem] at hx
 have hj : j = 0 := by
  cases j with
  | zero => rfl
  | succ j => simp at hx
 subst hj
 simp at hx
 subst hx
 refine ⟨_, ?_, rfl⟩
 simp only [D.sz]
 rw [Nat.mul_one, Nat.add_zero]
 simp [ints, hi']
theorem a58 (v : Value) (t : List Int) (w : World) (h : X4 w v t.length 1 (ints t)) (hb : t.length ≤ 1000000000000) :
  Calls Tryz.prog 70 #[v] w fun e w' => ∃ u, e = .returned u ∧ Own w' w.heap.size w'.heap.size 3 1 u t.length (ints t) ∧ Below w.heap.size w w' := by
 obtain ⟨a, cap, rfl, hc1, hc2, hc3, -⟩ := h.open
 have hnil := fun w => Lib.run_eql_slice_nil (P := Tryz.prog) w 23 3 a t.length cap 0 0 Tryz.underlying23
 rcases a with _ | a
 ·have hn : t.length = 0 := by
   rcases Nat.eq_zero_or_pos t.length with h0 | h0
   ·exact h0
   ·obtain ⟨_, a, c, he, _, _, hx⟩ := h
    cases he
    obtain ⟨_, _, he, _⟩ := hx h0
    cases he
  have ht : t = [] := bT3 hn
  subst ht
  simp only [bS2, Option.isNone_none] at hnil
  go_enter Tryz.func70, Tryz.ntmps70
  go_wp2_with fail
  go_ret
  exact ⟨_, rfl, ⟨World.ownsRow_nil _ _ _ _, fun g hg => by cases hg⟩, Below.refl _ _⟩
 ·go_enter Tryz.func70, Tryz.ntmps70
  simp only [Option.isNone_some] at hnil
  have ba := (Below.refl w.heap.size w).alloc (bS8 _) (.cells #[] 3)
  go_wp2_with (at_builtin; refine ak3 rfl _ _ rfl Tryz.underlying23 bK6 rfl (by omega) rfl (ah6 w #[] 0 1 _ rfl rfl (by omega)).1 rfl (h.below ba) bq1 (by omega) (by omega) (by simp) ?_; rintro a4 q4 w4 o4 b4 - -)
  go_ret
  refine ⟨_, rfl, Own.mk' (by simpa using o4), ba.trans b4⟩
theorem aw0 (l : List Int) (hb : l.length ≤ 1000000000000) : l7.ok Tryz.prog ⟨70, [.ref 0], [.dat (.ints l)], [.dat (.ints l), .row 3 (.ints l)], .ref 1⟩ := by
 intro ι φ ψ w0 w F ρ M
 have hr := M.datAt (id := 0) (d := .ints l) rfl
 refine (a58 (ρ 0) l w (B9.row hr) hb).mono ?_
 rintro e w' ⟨u, rfl, ⟨ho, hg⟩, hbl⟩
 refine ⟨fun i => if i = 1 then u else ρ i, fun i hi => if_neg (show ¬ i = 1 by have : i < 1 := hi; omega), by simp [AV.val], ?_⟩
 refine M.grow hbl (fun k => k = .inr 1) (fun k hk => ?_) ?_ ?_ ?_
 ·cases k with
  | inl i => rfl
  | inr j =>
   match j, hk with
   | 0, _ => rfl
   | 1, h => exact absurd rfl h
   | j + 2, _ => rfl
 ·rintro k rfl b hb; exact (World.ownsRow.lt ho b hb).1
 ·rintro j k b hjk rfl rfl; exact absurd rfl hjk
 ·rintro k rfl; exact be7 (Z8 ho (bU3 _))
theorem bk0 {l : List b9} {k : Nat} (hk : k < l.length) : l.take k ++ [⟨(l.getD k bR0).kind, (l.getD k bR0).value, (l.getD k bR0).kids⟩] = l.take (k + 1) := by
 rw [b9.eta, s5 _ _ hk, s4 hk]
theorem bj9 {l : List b6} {k : Nat} (hk : k < l.length) : l.take k ++ [⟨(l.getD k bR0).kind, (l.getD k bR0).target, ⟨(l.getD k bR0).index.kind, (l.getD k bR0).index.value, (l.getD k bR0).index.kids⟩, ⟨(l.getD k bR0).value.kind, (l.getD k bR0).value.value, (l.getD k bR0).value.kids⟩, (l.getD k bR0).count, (l.getD k bR0).body, (l.getD k bR0).els⟩] = l.take (k + 1) := by
 rw [b9.eta, b9.eta, b6.eta, s5 _ _ hk, s4 hk]
theorem ah2 {α : Type} {l : List α} {k : Nat} (h1 : k ≤ l.length) (h2 : ¬ (k : Int) < l.length) : l.take k = l := by rw [bS6 (by omega)]
theorem bp1 {α : Type} {l : List α} {k n : Nat} (h1 : k ≤ l.length) (h : l.length ≤ n) : (l.take k).length ≤ n := by rw [List.length_take]; omega
theorem aD5 {e : b9} (h : L4 e ≤ 1048576) : e.kids.length ≤ 1048576 := by
 have h1 := bk2 e.kids
 have h2 : L4 e = s8 e.kids := by cases e; rfl
 omega
theorem Q3 {l : List b6} (h : r6 l ≤ 1048576) : l.length ≤ 1048576 := bU1 (Z3 l) h
theorem N6 {α : Type} {l : List α} {x : α} {k : Nat} (h1 : k ≤ l.length) (h : l.length ≤ 1048576) : (l.take k).length + [x].length ≤ 1048577 := by
 have := bp1 (k := k) h1 h
 simp only [bR7, bS2]; omega
theorem bg3 {a b : Nat} (ha : a ≤ 1048577) (hb : Nat.ble b 1000 = true) : a * b ≤ 140737488355328 := by
 have h1 := Nat.le_of_ble_eq_true hb
 have h2 := Nat.mul_le_mul ha h1
 omega
theorem ag1 {l : List b9} {k : Nat} (h : (k : Int) < l.length) : l.getD k bR0 ∈ l := by rw [s4 (by omega)]; exact bS7 (by omega)
theorem R6 {l : List b6} {k : Nat} (h : (k : Int) < l.length) : l.getD k bR0 ∈ l := by rw [s4 (by omega)]; exact bS7 (by omega)
abbrev cpC (e : b9) : l7 := ⟨132, [eA e 0], eS e, eS e ++ [.tree (.exprs e.kids)], .agg [iA e.kind, iA e.value, .tref 1]⟩
abbrev aR6 (e : b9) (r0 : List It) : List It := dE e.kids :: .box (eL e 0) :: .box [iA 0, iA 0, .v (.slice none 0 0)] :: r0
theorem bl9 (e : b9) (hb : L4 e ≤ 1048576) (ih : ∀ (x : b9), x ∈ e.kids → l7.ok Tryz.prog (cpC x)) : l7.ok Tryz.prog (cpC e) := by
 refine G3 29 Tryz.func132 [dE e.kids] [(0, eA e 0)] fun G => ?_; have hl := aD5 hb; refine wp_seq (m6 G f9 [0, 1, 9] (aR6 e []) [(1, .ptr 1 0), (2, .ptr 2 0)] fun G => b5 (wp_seq (m6 G f9 [0, 1, 2, 43] (aR6 e [.box [iA e.kind, iA e.value, .v (.slice none 0 0)]]) [(1, .ptr 1 0), (2, .ptr 2 0), (3, .ptr 3 0)] fun G => b5 (wp_seq (wp_seq (J3 G f9 [(1, .ptr 1 0), (2, .ptr 2 0), (3, .ptr 3 0), (4, iA 0)] fun G => b5 (wp_block ?_))))))); obtain ⟨ρ, G⟩ := G.nilT 4 (.exprs []) (aR6 e [.box [iA e.kind, iA e.value, .tref 4]]) [(1, .ptr 1 0), (2, .ptr 2 0), (3, .ptr 3 0), (4, iA 0)]; refine x7 (κ := Nat) (fun k => k ≤ e.kids.length) (fun k => e.kids.length - k) (fun k => [dE e.kids, .box (eL e 0), .box [iA 0, iA 0, .v (.slice none 0 0)], .box [iA e.kind, iA e.value, .tref 4], .tree (.exprs (e.kids.take k))]) (fun k => [(1, .ptr 1 0), (2, .ptr 2 0), (3, .ptr 3 0), (4, iA k)]) 0 (by omega) (x9.at G _ _) ?_; clear G; intro k ρ a w hp G; replace G := x9.at G (aR6 e [.box [iA e.kind, iA e.value, .tref 4], .tree (D.exprs (bR4 k e.kids))]) [(1, .ptr 1 0), (2, .ptr 2 0), (3, .ptr 3 0), (4, iA k)]; refine wp_seq (wp_seq (l5 G f9 [(14, bA (decide ((k : Int) < e.kids.length)))] fun G => b5 (W0 G (fun h0 q0 => ?_) fun h0 q0 => ?_)))
 ·refine wp_exit (v8 (v8 (v7 (b5 (wp_seq (m6 G f9 [0, 2, 4] [dE e.kids, .box [iA e.kind, iA e.value, .tref 2], .tree (D.exprs (bR4 k e.kids))] [(2, .ptr 1 0)] fun G => b5 (wp_ret ?_))))))); exact M6 G [0, 2] (by show _ = mR [0, 2] [dE e.kids, .tree (D.exprs e.kids)]; have e1 : (bR4 k e.kids : List b9) = (e.kids) := (ah2 hp (by assumption)); (first | rw [e1] | simp only [e1]) <;> rfl)
 ·refine wp_skip (b5 (wp_seq (wp_block (Y2 G (A0 7 [53] (ih (e.kids.getD k bR0) (ag1 (by assumption)))) [0, 1, 0, 4, 0, 28, 60, 124, 252, 511, 1023, 2047] [0, 1, 2, 3, 77] (aR6 e [.box [iA e.kind, iA e.value, .tref 4], .tree (D.exprs (bR4 k e.kids ++ [qzE (e.kids.getD k bR0)]))]) [(1, .ptr 1 0), (2, .ptr 2 0), (3, .ptr 3 0), (4, iA k)] [(0 : Int) ≤ (k : Int), (k : Int) < e.kids.length, k < e.kids.length, (bR4 k e.kids).length + [qzE (e.kids.getD k bR0)].length ≤ (9223372036854775807 : Nat), ((bR4 k e.kids).length + [qzE (e.kids.getD k bR0)].length) * (40 : Nat) ≤ (140737488355328 : Nat)] ⟨(by simp [h0]), (by assumption), (by have := N6 (x := (bR0 : b9)) hp hl; simp only [bR7, bS2] at this ⊢; omega), (by have := N6 (x := (bR0 : b9)) hp hl; simp only [bR7, bS2] at this ⊢; omega), (bg3 (N6 hp hl) (by kernel_rfl)), bR2⟩ fun G => o5 (b5 (H0 G f9 [(4, iA ((k : Int) + 1))] [wO ((k : Int) + 1)] (o1 (by omega)) fun G => b5 ?_)))))); exact Q6 G (k + 1) (by have := N6 (x := (bR0 : b9)) hp hl; simp only [bR7, bS2] at this ⊢; omega) (by have := N6 (x := (bR0 : b9)) hp hl; simp only [bR7, bS2] at this ⊢; omega) (rg 5) (by have e1 : (bR4 (k + 1) e.kids : List b9) = (bR4 k e.kids ++ [qzE (e.kids.getD k bR0)]) := ((bk0 (by omega)).symm); (first | rw [e1] | simp only [e1]) <;> rfl)
theorem aQ9 (e : b9) : L4 e ≤ 1048576 → l7.ok Tryz.prog (cpC e) :=
 b9.ind (P := fun e => L4 e ≤ 1048576 → l7.ok Tryz.prog (cpC e)) (fun k n ks ih hb => bl9 ⟨k, n, ks⟩ hb fun x hx => ih x hx (by
  have h1 := ax1 (show x ∈ ks from hx)
  have h2 : L4 ⟨k, n, ks⟩ = s8 ks := rfl
  omega)) e
abbrev aY1 (l : List b6) : l7 := ⟨151, [.ref 0], [dT l], [dT l, .tree (.stmts l)], .tref 1⟩
theorem m9 {l : List b6} {k : Nat} (hb : r6 l ≤ 1048576) (h : (k : Int) < l.length) : L4 (l.getD k bR0).index ≤ 1048576 ∧ L4 (l.getD k bR0).value ≤ 1048576 ∧ r6 (l.getD k bR0).body ≤ 1048576 ∧ r6 (l.getD k bR0).els ≤ 1048576 := by
 have h1 := E6 (R6 h)
 generalize l.getD k bR0 = s at *
 rcases s with ⟨_, _, i, v, _, b, e⟩
 simp only [V9] at h1
 simp only [b6.index, b6.value, b6.body, b6.els]
 omega
abbrev ay9 (k : Nat) (r0 : List (Nat × AV)) : List (Nat × AV) := (0, .ref 0) :: (2, .v (.slice none 0 0)) :: (3, .tref 1) :: (4, iA (k : Int)) :: r0
theorem aB8 (l : List b6) (hb : r6 l ≤ 1048576) (ih1 : ∀ (s : b6), s ∈ l → l7.ok Tryz.prog (aY1 s.body)) (ih2 : ∀ (s : b6), s ∈ l → l7.ok Tryz.prog (aY1 s.els)) : l7.ok Tryz.prog (aY1 l) := by
  refine G3 38 Tryz.func151 [dT l] [(0, .ref 0)] fun G => ?_; have hl := Q3 hb; refine wp_seq (l5 G f9 [(2, .v (.slice none 0 0))] fun G => b5 (wp_seq (m6 G f9 [0, 1] [dT l, .tree (D.stmts [])] [(0, .ref 0), (2, .v (.slice none 0 0)), (3, .tref 1)] fun G => b5 (wp_seq (wp_seq (J3 G f9 [(0, .ref 0), (2, .v (.slice none 0 0)), (3, .tref 1), (4, iA 0)] fun G => b5 (wp_block ?_))))))); refine x7 (κ := Nat) (fun k => k ≤ l.length) (fun k => l.length - k) (fun k => [dT l, .tree (.stmts (l.take k))]) (fun k => [(0, .ref 0), (2, .v (.slice none 0 0)), (3, .tref 1), (4, iA k)]) 0 (by omega) (x9.at G _ _) ?_; clear G; intro k ρ a w hp G; replace G := x9.at G [dT l, .tree (D.stmts (bR4 k l))] (ay9 k []); refine wp_seq (wp_seq (l5 G f9 [(10, bA (decide ((k : Int) < l.length)))] fun G => b5 (W0 G (fun h0 q0 => ?_) fun h0 q0 => ?_)))
  · refine wp_exit (v8 (v8 (v7 (b5 (wp_seq (l5 G f9 [(2, .tref 1)] fun G => b5 (wp_ret ?_))))))); exact M6 G [0, 1] (by show _ = mR [0, 1] [dT l, .tree (D.stmts l)]; have e1 : (bR4 k l : List b6) = (l) := (ah2 hp (by assumption)); (first | rw [e1] | simp only [e1]) <;> rfl)
  ·
   refine wp_skip (b5 (wp_seq (wp_block (wp_seq (M7 G f9 [0, 1, 26, 27, 28, 29, 34] [dT l, .tree (D.stmts (bR4 k l)), dE (l.getD k bR0).index.kids, dE (l.getD k bR0).value.kids, dT (l.getD k bR0).body, dT (l.getD k bR0).els, .box (sL (l.getD k bR0) 2)] (ay9 k [(5, .ptr 6 0)]) [(0 : Int) ≤ (k : Int), (k : Int) < l.length, k < l.length] ⟨(by simp [h0]), (by assumption), (by have := N6 (x := (bR0 : b6)) hp hl; simp only [bR7, bS2] at this ⊢; omega), bR2⟩ fun G => b5 (wp_seq (m6 G (A0 2 [2] (aQ9 ((l.getD k bR0).index) ((m9 hb (by assumption)).1))) [0, 1, 3, 4, 5, 6, 23] [dT l, .tree (D.stmts (bR4 k l)), dE (l.getD k bR0).value.kids, dT (l.getD k bR0).body, dT (l.getD k bR0).els, .box [iA (l.getD k bR0).kind, iA (l.getD k bR0).target, iA (l.getD k bR0).index.kind, iA (l.getD k bR0).index.value, .tref 6, iA (l.getD k bR0).value.kind, iA (l.getD k bR0).value.value, .ref 2, iA (l.getD k bR0).count, .ref 3, .ref 4], .tree (D.exprs (l.getD k bR0).index.kids)] (ay9 k [(5, .ptr 5 0)]) fun G => b5 (wp_seq (m6 G (A0 2 [2] (aQ9 ((l.getD k bR0).value) ((m9 hb (by assumption)).2.1))) [0, 1, 3, 4, 5, 6, 23] [dT l, .tree (D.stmts (bR4 k l)), dT (l.getD k bR0).body, dT (l.getD k bR0).els, .box [iA (l.getD k bR0).kind, iA (l.getD k bR0).target, iA (l.getD k bR0).index.kind, iA (l.getD k bR0).index.value, .tref 5, iA (l.getD k bR0).value.kind, iA (l.getD k bR0).value.value, .tref 6, iA (l.getD k bR0).count, .ref 2, .ref 3], .tree (D.exprs (l.getD k bR0).index.kids), .tree (D.exprs (l.getD k bR0).value.kids)] (ay9 k [(5, .ptr 4 0)]) fun G => b5 (wp_seq (m6 G (A0 2 [2] (ih1 (l.getD k bR0) (R6 (by assumption)))) [0, 1, 3, 4, 5, 6, 23] [dT l, .tree (D.stmts (bR4 k l)), dT (l.getD k bR0).els, .box [iA (l.getD k bR0).kind, iA (l.getD k bR0).target, iA (l.getD k bR0).index.kind, iA (l.getD k bR0).index.value, .tref 4, iA (l.getD k bR0).value.kind, iA (l.getD k bR0).value.value, .tref 5, iA (l.getD k bR0).count, .tref 6, .ref 2], .tree (D.exprs (l.getD k bR0).index.kids), .tree (D.exprs (l.getD k bR0).value.kids), .tree (D.stmts (l.getD k bR0).body)] (ay9 k [(5, .ptr 3 0)]) fun G => b5 (wp_seq (m6 G (A0 2 [2] (ih2 (l.getD k bR0) (R6 (by assumption)))) [0, 1, 3, 4, 5, 6, 23] [dT l, .tree (D.stmts (bR4 k l)), .box [iA (l.getD k bR0).kind, iA (l.getD k bR0).target, iA (l.getD k bR0).index.kind, iA (l.getD k bR0).index.value, .tref 3, iA (l.getD k bR0).value.kind, iA (l.getD k bR0).value.value, .tref 4, iA (l.getD k bR0).count, .tref 5, .tref 6], .tree (D.exprs (l.getD k bR0).index.kids), .tree (D.exprs (l.getD k bR0).value.kids), .tree (D.stmts (l.getD k bR0).body), .tree (D.stmts (l.getD k bR0).els)] (ay9 k [(5, .ptr 2 0)]) fun G => ?_)))))))))))))
   refine b5 (M7 G f9 [0, 31] [dT l, .tree (D.stmts (bR4 k l ++ [qzS (l.getD k bR0)]))] (ay9 k []) [(bR4 k l).length + [qzS (l.getD k bR0)].length ≤ (9223372036854775807 : Nat), ((bR4 k l).length + [qzS (l.getD k bR0)].length) * (152 : Nat) ≤ (140737488355328 : Nat)] ⟨(by have := N6 (x := (bR0 : b6)) hp hl; simp only [bR7, bS2] at this ⊢; omega), (bg3 (N6 hp hl) (by kernel_rfl)), bR2⟩ fun G => o5 (b5 (H0 G f9 [(4, iA ((k : Int) + 1))] [wO ((k : Int) + 1)] (o1 (by omega)) fun G => b5 ?_))); exact Q6 G (k + 1) (by have := N6 (x := (bR0 : b6)) hp hl; simp only [bR7, bS2] at this ⊢; omega) (by have := N6 (x := (bR0 : b6)) hp hl; simp only [bR7, bS2] at this ⊢; omega) [0, 1] (by have e1 : (bR4 (k + 1) l : List b6) = (bR4 k l ++ [qzS (l.getD k bR0)]) := ((bj9 (by omega)).symm); (first | rw [e1] | simp only [e1]) <;> rfl)
theorem bz9 (l : List b6) : r6 l ≤ 1048576 → l7.ok Tryz.prog (aY1 l) := fun hb => aB8 l hb
 (fun s hs => (c_copyS2 s).1 (bU1 (Nat.le_of_lt (E6 hs)) hb)) fun s hs => (c_copyS2 s).2 (bU1 (Nat.le_of_lt (E6 hs)) hb)
where
 c_copyS2 (s : b6) : (V9 s ≤ 1048576 → l7.ok Tryz.prog (aY1 s.body)) ∧ (V9 s ≤ 1048576 → l7.ok Tryz.prog (aY1 s.els)) :=
  b6.ind (P := fun s => (V9 s ≤ 1048576 → l7.ok Tryz.prog (aY1 s.body)) ∧ (V9 s ≤ 1048576 → l7.ok Tryz.prog (aY1 s.els))) (fun k t i v c b e h1 h2 => by
   have hz : V9 ⟨k, t, i, v, c, b, e⟩ = L4 i + L4 v + r6 b + r6 e := rfl
   constructor
   ·intro hb
    refine aB8 b (by omega) (fun s hs => (h1 s hs).1 ?_) fun s hs => (h1 s hs).2 ?_
    ·have := E6 hs; omega
    ·have := E6 hs; omega
   ·intro hb
    refine aB8 e (by omega) (fun s hs => (h2 s hs).1 ?_) fun s hs => (h2 s hs).2 ?_
    ·have := E6 hs; omega
    ·have := E6 hs; omega) s
theorem bt7 (p : f5) (hb : p.size ≤ 1048576) : l7.ok Tryz.prog ⟨78, [pA 0], pS p, pS p ++ oP p, oA 3⟩ := by
 refine G3 15 Tryz.func78 [dI p.vars, dI p.arrays, dT p.body] [(0, pA 0)] fun G => ?_
 have hb1 : p.vars.length ≤ 1048576 ∧ p.arrays.length ≤ 1048576 ∧ r6 p.body ≤ 1048576 := by unfold f5.size at hb; omega
 refine wp_seq (m6 G f9 [0, 1, 2, 3, 11] [dI p.vars, dI p.arrays, dT p.body, .box (pL 0), .box [.v (.slice none 0 0), .v (.slice none 0 0), .v (.slice none 0 0)]] [(1, .ptr 3 0), (2, .ptr 4 0)] fun G => b5 (wp_seq (Y2 G (A0 10 [2] (bz9 p.body hb1.2.2)) [0, 0, 2, 7, 0, 0, 32, 127, 0, 256, 1023, 2047, 4095] [0, 1, 2, 4, 29, 61, 85] [dI p.vars, dI p.arrays, dT p.body, .box [.ref 4, .ref 5, .tref 6], .row 3 (D.ints ([] ++ p.vars)), .row 3 (D.ints ([] ++ p.arrays)), .tree (D.stmts p.body)] [(2, .ptr 3 0)] (aP ((0 : Nat) + p.vars.length) 8 (aP ((0 : Nat) + p.arrays.length) 8 [])) (aK (by omega) (aK (by omega) bR2)) fun G => b5 (wp_ret ?_)))); exact M6 G [0, 1, 2, 4, 5, 6]
mutual
def V5 : b6 → List b6
 | ⟨k, t, i, v, c, b, e⟩ =>
  if k = 4 then
   if c = 1 then d9 b
   else if (d9 b).length = 0 then []
   else [⟨k, t, i, v, c, d9 b, d9 e⟩]
  else if k = 3 ∧ (d8 v).kind = 1 then
   if (d8 v).value ≠ 0 then d9 b else d9 e
  else [⟨k, t, i, d8 v, c, d9 b, d9 e⟩]
def d9 : List b6 → List b6
 | [] => []
 | s :: r => V5 s ++ d9 r
end
theorem aH5 (l m : List b6) : d9 (l ++ m) = d9 l ++ d9 m := by
 induction l with
 | nil => simp [d9]
 | cons x r ih => simp [d9, ih]
theorem P9 (s : b6) : V5 s = if s.kind = 4 then (if s.count = 1 then d9 s.body else if (d9 s.body).length = 0 then [] else [⟨s.kind, s.target, s.index, s.value, s.count, d9 s.body, d9 s.els⟩])
  else if s.kind = 3 ∧ (d8 s.value).kind = 1 then (if (d8 s.value).value ≠ 0 then d9 s.body else d9 s.els) else [⟨s.kind, s.target, s.index, d8 s.value, s.count, d9 s.body, d9 s.els⟩] := by
 cases s; rw [V5]; rfl
theorem ai6 {ss : List b6} {k : Nat} (hk : k < ss.length) : d9 (ss.take (k + 1)) = d9 (ss.take k) ++ V5 (ss.getD k bR0) := by
 rw [s5 _ _ hk, aH5, s4 hk]
 simp [d9]
section
variable {ss : List b6} {k : Nat}
theorem fo1 (hk : k < ss.length) (h1 : (ss.getD k bR0).kind = 3) (h2 : (d8 (ss.getD k bR0).value).kind = 1) (h3 : ¬ (d8 (ss.getD k bR0).value).value = 0) : d9 (ss.take (k + 1)) = d9 (ss.take k) ++ d9 (ss.getD k bR0).body := by
 rw [ai6 hk, P9, if_neg (by omega), if_pos ⟨h1, h2⟩, if_pos h3]
theorem fo2 (hk : k < ss.length) (h1 : (ss.getD k bR0).kind = 3) (h2 : (d8 (ss.getD k bR0).value).kind = 1) (h3 : (d8 (ss.getD k bR0).value).value = 0) : d9 (ss.take (k + 1)) = d9 (ss.take k) ++ d9 (ss.getD k bR0).els := by
 rw [ai6 hk, P9, if_neg (by omega), if_pos ⟨h1, h2⟩, if_neg (by simpa using h3)]
theorem fo3 (hk : k < ss.length) (h1 : (ss.getD k bR0).kind = 4) (h2 : (ss.getD k bR0).count = 1) : d9 (ss.take (k + 1)) = d9 (ss.take k) ++ d9 (ss.getD k bR0).body := by
 rw [ai6 hk, P9, if_pos h1, if_pos h2]
theorem fo4 (hk : k < ss.length) (h1 : (ss.getD k bR0).kind = 4) (h2 : ¬ (ss.getD k bR0).count = 1) (h3 : (d9 (ss.getD k bR0).body).length = 0) : d9 (ss.take (k + 1)) = d9 (ss.take k) := by
 rw [ai6 hk, P9, if_pos h1, if_neg h2, if_pos h3, List.append_nil]
theorem fo5 (hk : k < ss.length) (h1 : (ss.getD k bR0).kind = 4) (h2 : ¬ (ss.getD k bR0).count = 1) (h3 : ¬ (d9 (ss.getD k bR0).body).length = 0) : d9 (ss.take (k + 1)) = d9 (ss.take k) ++ [⟨(ss.getD k bR0).kind, (ss.getD k bR0).target, ⟨(ss.getD k bR0).index.kind, (ss.getD k bR0).index.value, (ss.getD k bR0).index.kids⟩, ⟨(ss.getD k bR0).value.kind, (ss.getD k bR0).value.value, (ss.getD k bR0).value.kids⟩, (ss.getD k bR0).count, d9 (ss.getD k bR0).body, d9 (ss.getD k bR0).els⟩] := by
 rw [ai6 hk, P9, if_pos h1, if_neg h2, if_neg h3, b9.eta, b9.eta]
theorem fo6 (hk : k < ss.length) (h1 : ¬ (ss.getD k bR0).kind = 4) (h2 : ¬ (ss.getD k bR0).kind = 3 ∨ ¬ (d8 (ss.getD k bR0).value).kind = 1) : d9 (ss.take (k + 1)) = d9 (ss.take k) ++ [⟨(ss.getD k bR0).kind, (ss.getD k bR0).target, ⟨(ss.getD k bR0).index.kind, (ss.getD k bR0).index.value, (ss.getD k bR0).index.kids⟩, ⟨(d8 (ss.getD k bR0).value).kind, (d8 (ss.getD k bR0).value).value, (d8 (ss.getD k bR0).value).kids⟩, (ss.getD k bR0).count, d9 (ss.getD k bR0).body, d9 (ss.getD k bR0).els⟩] := by
 rw [ai6 hk, P9, if_neg h1, if_neg (by rintro ⟨a, b⟩; rcases h2 with h | h; exact h a; exact h b), b9.eta, b9.eta]
end
mutual
theorem bg1 : ∀ s : b6, r6 (V5 s) ≤ 1 + V9 s
 | ⟨k, t, i, v, c, b, e⟩ => by
  have h1 := P8 b
  have h2 := P8 e
  have h3 := aW9 v
  rw [V5]
  simp only [V9]
  split
  ·split
   ·omega
   ·split
    ·simp [r6]
    ·simp only [r6, V9]; omega
  ·split
   ·split <;> omega
   ·simp only [r6, V9]; omega
theorem P8 : ∀ ss : List b6, r6 (d9 ss) ≤ r6 ss
 | [] => by simp [d9]
 | s :: r => by
  have h1 := bg1 s
  have h2 := P8 r
  rw [d9, au7, r6]; omega
end
theorem be4 (ss : List b6) (k : Nat) : r6 (ss.take k) ≤ r6 ss := by
 have := au7 (ss.take k) (ss.drop k)
 rw [List.take_append_drop] at this
 omega
theorem br5 {ss : List b6} {k : Nat} (hb : r6 ss ≤ 1048576) : (d9 (ss.take k)).length ≤ 1048576 := by
 have h1 := Z3 (d9 (ss.take k))
 have h2 := P8 (ss.take k)
 have h3 := be4 ss k
 omega
theorem o8 {l : List b6} (hb : r6 l ≤ 1048576) : (d9 l).length ≤ 1048576 := by
 have h1 := Z3 (d9 l)
 have h2 := P8 l
 omega
def l6 (p : f5) : f5 := if m0 p = true then ⟨p.vars, p.arrays, d9 p.body⟩ else ⟨[], [], []⟩
theorem U5 {p : f5} (h : m0 p = true) : l6 p = ⟨p.vars, p.arrays, d9 p.body⟩ := if_pos h
theorem aE4 {p : f5} (h : m0 p = false) : l6 p = ⟨[], [], []⟩ := by unfold l6; rw [h]; rfl
theorem br3 (p : f5) : (l6 p).size ≤ p.size := by
 cases h : m0 p
 ·rw [aE4 h]; simp [f5.size, r6]
 ·rw [U5 h]
  have := P8 p.body
  simp only [f5.size]; omega
theorem bB5 (nv na : Nat) : ∀ (n : Nat) (e : b9), l0 nv na n e = true → l0 nv na (n + 1) e = true
 | 0, _, h => by simp [l0] at h
 | n + 1, e, h => by
  rw [l0, bR1, bR1] at h
  rw [l0, h.1.1, h.2, bR9.2 fun k hk => bB5 nv na n k (bR9.1 h.1.2 k hk)]
  rfl
theorem aW8 {f g : b9 → Int} (ks : List b9) : ∀ (a : Int), (∀ k ∈ ks, f k = g k) → ks.foldl (fun a k => o7 a (f k)) a = ks.foldl (fun a k => o7 a (g k)) a := by
 induction ks with
 | nil => intro a _; simp only [List.foldl_nil]
 | cons k t ih =>
  intro a h
  simp only [List.foldl_cons]
  rw [h k bS4]
  exact ih _ fun q hq => h q (bS9 _ hq)
theorem a44 {vs ars : List Int} (nv na : Nat) : ∀ (n : Nat) (e : b9), l0 nv na n e = true → m7 vs ars (n + 1) e = m7 vs ars n e
 | 0, _, h => by simp [l0] at h
 | n + 1, e, h => by
  rw [l0, bR1, bR1] at h
  rw [m7]
  conv => rhs; rw [m7]
  exact aW8 (f := m7 vs ars (n + 1)) (g := m7 vs ars n) e.kids _ fun k hk => a44 nv na n k (bR9.1 h.1.2 k hk)
theorem aG7 {f g : b9 → Bool} : ∀ (ks : List b9), (∀ k ∈ ks, f k = g k) → ks.any f = ks.any g
 | [], _ => rfl
 | k :: t, h => by
  simp only [List.any_cons]
  rw [h k bS4, aG7 t fun q hq => h q (bS9 _ hq)]
theorem bl4 {vs ars : List Int} (nv na : Nat) : ∀ (n : Nat) (e : b9), l0 nv na n e = true → s9 vs ars (n + 1) e = s9 vs ars n e
 | 0, _, h => by simp [l0] at h
 | n + 1, e, h => by
  have h' := h
  rw [l0, bR1, bR1] at h
  have hk : ∀ k ∈ e.kids, l0 nv na n k = true := fun k hk => bR9.1 h.1.2 k hk
  rw [s9]
  conv => rhs; rw [s9]
  rw [aG7 (f := s9 vs ars (n + 1)) (g := s9 vs ars n) e.kids fun k hk2 => bl4 nv na n k (hk k hk2)]
  by_cases k3 : e.kind = 3
  ·have hne : e.kids ≠ [] := fun h0 => by
    have hn := h.1.1
    simp only [B7, bR1, decide_eq_true_eq] at hn
    have := hn.1.1
    rw [h0, k3] at this
    simp [o6] at this
   have h0 : m7 vs ars (n + 1) (e.kids.getD 0 bR0) = m7 vs ars n (e.kids.getD 0 bR0) := by
    cases hq : e.kids with
    | nil => exact absurd hq hne
    | cons a r => exact a44 nv na n a (hk a (by rw [hq]; exact bS4))
   rw [h0]
  ·rw [decide_eq_false k3, Bool.false_and, Bool.false_and]
theorem aW6 {f g : b9 → Int} : ∀ (ks : List b9) (h : b9 → b9) (a b : Int), H1 a b → (∀ k ∈ ks, H1 (f (h k)) (g k)) → H1 ((ks.map h).foldl (fun a k => o7 a (f k)) a) (ks.foldl (fun a k => o7 a (g k)) b)
 | [], _, _, _, hab, _ => hab
 | k :: t, h, a, b, hab, hk => by
  simp only [bU4, List.foldl_cons]
  exact aW6 t h _ _ (bJ5 (hab.trans (af8 _ _)) ((hk k bS4).trans (bp2 _ _))) fun q hq => hk q (bS9 _ hq)
theorem aW7 {f : b9 → Int} : ∀ (ks : List b9) (a : Int), H1 a (ks.foldl (fun a k => o7 a (f k)) a) ∧ ∀ k ∈ ks, H1 (f k) (ks.foldl (fun a k => o7 a (f k)) a)
 | [], a => ⟨H1.refl a, fun k hk => by cases hk⟩
 | k :: t, a => by
  obtain ⟨h1, h2⟩ := aW7 (f := f) t (o7 a (f k))
  simp only [List.foldl_cons]
  refine ⟨(af8 _ _).trans h1, fun q hq => ?_⟩
  rcases bU8.1 hq with rfl | hq
  ·exact (bp2 _ _).trans h1
  ·exact h2 q hq
theorem aK8 {e : b9} (h : e.kids = []) : d8 e = e := by
 obtain ⟨k, v, ks⟩ := e
 have h : ks = [] := h
 subst h
 rfl
theorem aL6 {nv na n : Nat} {a : b9} (hs : l0 nv na n a = true) (hr : G5 a = true) : a.kids = [] := by
 cases n with
 | zero => simp [l0] at hs
 | succ m =>
  rw [l0, bR1, bR1] at hs
  have h1 := hs.1.1
  simp only [B7, bR1, decide_eq_true_eq] at h1
  have h2 := h1.1.1
  unfold G5 at hr
  simp only [Bool.or_eq_true, decide_eq_true_eq] at hr
  unfold o6 at h2
  rw [if_pos hr] at h2
  exact bT3 (by omega)
theorem aE3 (vs ars : List Int) (nv na : Nat) : ∀ (n : Nat) (e : b9), l0 nv na n e = true → l0 nv na n (d8 e) = true ∧ H1 (m7 vs ars n (d8 e)) (m7 vs ars n e) ∧ (s9 vs ars n (d8 e) = true → s9 vs ars n e = true)
 | 0, _, h => by simp [l0] at h
 | n + 1, e, h => by
  have hh := h
  rw [l0, bR1, bR1] at h
  obtain ⟨⟨hn, hk⟩, hr⟩ := h
  have ih := fun k hk2 => aE3 vs ars nv na n k (bR9.1 hk k hk2)
  rw [aa2]
  have a1 : l0 nv na (n + 1) ⟨e.kind, e.value, e.kids.map d8⟩ = true := by
   rw [l0, bR1, bR1]
   refine ⟨⟨?_, ?_⟩, ?_⟩
   ·unfold B7 at hn ⊢
    show (decide (((e.kids.map d8).length : Int) = o6 e.kind) && decide (0 ≤ e.value) && decide (e.value < K8 nv na e.kind)) = true
    rw [List.length_map]; exact hn
   ·show (e.kids.map d8).all (l0 nv na n) = true
    rw [bR9]
    intro k hk2
    obtain ⟨q, hq, rfl⟩ := List.mem_map.1 hk2
    exact (ih q hq).1
   ·unfold R3 at hr ⊢
    show (decide (e.kind ≠ 3) || (match e.kids.map d8 with | k :: _ => G5 k | [] => false)) = true
    cases hq : e.kids with
    | nil => rw [hq] at hr; exact hr
    | cons a r =>
     rw [hq] at hr
     simp only [bU4]
     simp only [Bool.or_eq_true] at hr ⊢
     rcases hr with hr | hr
     ·exact .inl hr
     ·right
      have hs := bR9.1 hk a (by rw [hq]; exact bS4)
      have hk0 : a.kids = [] := aL6 hs hr
      rw [aK8 hk0]; exact hr
  have a2 : H1 (m7 vs ars (n + 1) ⟨e.kind, e.value, e.kids.map d8⟩) (m7 vs ars (n + 1) e) := by
   rw [m7]
   conv => arg 2; rw [m7]
   exact aW6 (f := m7 vs ars n) (g := m7 vs ars n) e.kids d8 (al3 vs ars ⟨e.kind, e.value, e.kids.map d8⟩) (al3 vs ars e) (H1.refl _) fun k hk2 => (ih k hk2).2.1
  have a3 : s9 vs ars (n + 1) ⟨e.kind, e.value, e.kids.map d8⟩ = true → s9 vs ars (n + 1) e = true := by
   intro hs
   rw [s9, Bool.or_eq_true] at hs
   rw [s9, Bool.or_eq_true]
   rcases hs with hs | hs
   ·left
    have hs : (decide (e.kind = 3) && (f7 (m7 vs ars n ((e.kids.map d8).getD 0 bR0)) && decide (m7 vs ars n ((e.kids.map d8).getD 0 bR0) % 2 = 1))) = true := hs
    rw [bR1, decide_eq_true_eq] at hs
    have hq : (e.kids.map d8).getD 0 bR0 = e.kids.getD 0 bR0 := by
     unfold R3 at hr
     rw [decide_eq_false (by omega), Bool.false_or] at hr
     cases hq : e.kids with
     | nil => rw [hq] at hr; cases hr
     | cons a r =>
      rw [hq] at hr
      exact aK8 (aL6 (bR9.1 hk a (by rw [hq]; exact bS4)) hr)
    rw [hq] at hs
    rw [decide_eq_true hs.1, hs.2]; rfl
   ·right
    have hs : (e.kids.map d8).any (s9 vs ars n) = true := hs
    rw [List.any_map, List.any_eq_true] at hs
    obtain ⟨k, hk2, hs⟩ := hs
    exact List.any_eq_true.2 ⟨k, hk2, (ih k hk2).2.2 hs⟩
  rcases af5 ⟨e.kind, e.value, e.kids.map d8⟩ with h1 | h1 | ⟨a, b, ha, hb, ka, kb, h1⟩
  ·rw [h1]; exact ⟨a1, a2, a3⟩
  ·have h2 : o3 ⟨e.kind, e.value, e.kids.map d8⟩ ∈ e.kids.map d8 := h1
   obtain ⟨q, hq, hqe⟩ := List.mem_map.1 h2
   rw [← hqe]
   obtain ⟨i1, i2, i3⟩ := ih q hq
   refine ⟨bB5 nv na n _ i1, ?_, ?_⟩
   ·rw [a44 nv na n _ i1]
    refine i2.trans ?_
    rw [m7]
    exact (aW7 (f := m7 vs ars n) e.kids (al3 vs ars e)).2 q hq
   ·rw [bl4 nv na n _ i1]
    intro hs
    rw [s9, Bool.or_eq_true]
    exact .inr (List.any_eq_true.2 ⟨q, hq, i3 hs⟩)
  ·rw [h1]
   have hval : ∀ a ∈ e.kids.map d8, a.kind = 1 → 0 ≤ a.value ∧ a.value ≤ 255 := fun a ha ka => by
    obtain ⟨q, hq, rfl⟩ := List.mem_map.1 ha
    have hs := (ih q hq).1
    cases n with
    | zero => simp [l0] at hs
    | succ m =>
     rw [l0, bR1, bR1] at hs
     have h1 := hs.1.1
     simp only [B7, bR1, decide_eq_true_eq, K8, ka] at h1
     simp at h1
     omega
   have hb2 := av7 (k := e.kind) (hval a ha ka).1 (hval a ha ka).2 (hval b hb kb).1 (hval b hb kb).2
   refine ⟨?_, ?_, ?_⟩
   ·show l0 nv na (n + 1) ⟨1, t7 e.kind a.value b.value, []⟩ = true
    rw [l0, bR1, bR1]
    refine ⟨⟨?_, rfl⟩, rfl⟩
    show (decide ((0 : Int) = 0) && decide (0 ≤ t7 e.kind a.value b.value) && decide (t7 e.kind a.value b.value < 256)) = true
    rw [decide_eq_true rfl, decide_eq_true hb2.1, decide_eq_true (by omega)]; rfl
   ·show H1 (m7 vs ars (n + 1) ⟨1, t7 e.kind a.value b.value, []⟩) _
    have : m7 vs ars (n + 1) ⟨1, t7 e.kind a.value b.value, []⟩ = 0 := by rw [m7]; rfl
    rw [this]; exact bx8 _
   ·intro hs
    have : s9 vs ars (n + 1) ⟨1, t7 e.kind a.value b.value, []⟩ = false := by rw [s9]; rfl
    have hs : s9 vs ars (n + 1) ⟨1, t7 e.kind a.value b.value, []⟩ = true := hs
    rw [this] at hs; cases hs
abbrev owC (e : b9) : l7 := ⟨126, [eA e 0], eS e, eS e ++ [.tree (.exprs e.kids)], .agg [iA e.kind, iA e.value, .tref 1]⟩
abbrev aI5 : It := .box [iA 0, iA 0, .v (.slice none 0 0)]
theorem bD5 (e : b9) (hb : L4 e ≤ 1048576) (ih : ∀ (x : b9), x ∈ e.kids → l7.ok Tryz.prog (owC x)) : l7.ok Tryz.prog (owC e) := by
 refine G3 27 Tryz.func126 [dE e.kids] [(0, eA e 0)] fun G => ?_; have hl := aD5 hb; refine wp_seq (m6 G f9 [0, 1, 9] [dE e.kids, .box (eL e 0), aI5] [(1, .ptr 1 0), (2, .ptr 2 0)] fun G => b5 (wp_seq (m6 G f9 [0, 1, 2, 43] [dE e.kids, .box (eL e 0), aI5, .box [iA e.kind, iA e.value, .v (.slice none 0 0)]] [(1, .ptr 1 0), (2, .ptr 2 0), (3, .ptr 3 0)] fun G => b5 (wp_seq (wp_seq (m6 G f9 [0, 2, 3] [dE e.kids, aI5, .box [iA e.kind, iA e.value, .v (.slice none 0 0)]] [(2, .ptr 1 0), (3, .ptr 2 0), (12, .ref 0), (13, iA (e.kids.length : Int)), (14, iA 0)] fun G => b5 (wp_block ?_))))))); obtain ⟨ρ, G⟩ := G.nilT 3 (.exprs []) [dE e.kids, .box [iA 0, iA 0, .v (.slice none 0 0)], .box [iA e.kind, iA e.value, .tref 3]] [(2, .ptr 1 0), (3, .ptr 2 0), (12, .ref 0), (13, iA (e.kids.length : Int)), (14, iA 0)]; refine x7 (κ := Nat) (fun k => k ≤ e.kids.length) (fun k => e.kids.length - k) (fun k => [dE e.kids, .box [iA 0, iA 0, .v (.slice none 0 0)], .box [iA e.kind, iA e.value, .tref 3], .tree (.exprs (e.kids.take k))]) (fun k => [(2, .ptr 1 0), (3, .ptr 2 0), (12, .ref 0), (13, iA (e.kids.length : Int)), (14, iA k)]) 0 (by omega) (x9.at G _ _) ?_; clear G; intro k ρ a w hp G; replace G := x9.at G [dE e.kids, aI5, .box [iA e.kind, iA e.value, .tref 3], .tree (D.exprs (bR4 k e.kids))] [(2, .ptr 1 0), (3, .ptr 2 0), (12, .ref 0), (13, iA (e.kids.length : Int)), (14, iA k)]; refine wp_seq (l5 G f9 [(15, bA (decide ((k : Int) < e.kids.length)))] fun G => b5 (wp_seq (W0 G (fun h0 q0 => ?_) fun h0 q0 => ?_)))
 ·refine wp_exit (v8 (v8 (v7 (b5 (wp_seq (m6 G f9 [0, 1, 3] [dE e.kids, .box [iA e.kind, iA e.value, .tref 2], .tree (D.exprs (bR4 k e.kids))] [(2, .ptr 1 0)] fun G => b5 (wp_ret ?_))))))); exact M6 G [0, 2] (by show _ = mR [0, 2] [dE e.kids, .tree (D.exprs e.kids)]; have e1 : (bR4 k e.kids : List b9) = (e.kids) := (ah2 hp (by assumption)); (first | rw [e1] | simp only [e1]) <;> rfl)
 ·refine wp_skip (b5 (wp_seq (wp_block (wp_seq (M7 G f9 [0, 1, 2, 3, 12, 20] [dE e.kids, aI5, .box [iA e.kind, iA e.value, .tref 3], .tree (D.exprs (bR4 k e.kids)), dE (e.kids.getD k bR0).kids, .box (eL (e.kids.getD k bR0) 4)] [(2, .ptr 1 0), (3, .ptr 2 0), (5, .ptr 5 0), (12, .ref 0), (13, iA (e.kids.length : Int)), (14, iA k)] [(0 : Int) ≤ (k : Int), (k : Int) < e.kids.length, k < e.kids.length] ⟨(by simp [h0]), (by assumption), (by have := N6 (x := (bR0 : b9)) hp hl; simp only [bR7, bS2] at this ⊢; omega), bR2⟩ fun G => b5 (Y2 G (A0 3 [4] (ih (e.kids.getD k bR0) (ag1 (by assumption)))) [0, 1, 0, 4, 12, 31, 63, 127] [0, 1, 2, 46] [dE e.kids, aI5, .box [iA e.kind, iA e.value, .tref 3], .tree (D.exprs (bR4 k e.kids ++ [qzE (e.kids.getD k bR0)]))] [(2, .ptr 1 0), (3, .ptr 2 0), (12, .ref 0), (13, iA (e.kids.length : Int)), (14, iA k)] [(bR4 k e.kids).length + [qzE (e.kids.getD k bR0)].length ≤ (9223372036854775807 : Nat), ((bR4 k e.kids).length + [qzE (e.kids.getD k bR0)].length) * (40 : Nat) ≤ (140737488355328 : Nat)] ⟨(by have := N6 (x := (bR0 : b9)) hp hl; simp only [bR7, bS2] at this ⊢; omega), (bg3 (N6 hp hl) (by kernel_rfl)), bR2⟩ fun G => o5 (b5 (H0 G f9 [(14, iA ((k : Int) + 1))] [wO ((k : Int) + 1)] (o1 (by omega)) fun G => b5 ?_)))))))); exact Q6 G (k + 1) (by have := N6 (x := (bR0 : b9)) hp hl; simp only [bR7, bS2] at this ⊢; omega) (by have := N6 (x := (bR0 : b9)) hp hl; simp only [bR7, bS2] at this ⊢; omega) (rg 4) (by have e1 : (bR4 (k + 1) e.kids : List b9) = (bR4 k e.kids ++ [qzE (e.kids.getD k bR0)]) := ((bk0 (by omega)).symm); (first | rw [e1] | simp only [e1]) <;> rfl)
theorem bt3 (e : b9) : L4 e ≤ 1048576 → l7.ok Tryz.prog (owC e) :=
 b9.ind (P := fun e => L4 e ≤ 1048576 → l7.ok Tryz.prog (owC e)) (fun k n ks ih hb => bD5 ⟨k, n, ks⟩ hb fun x hx => ih x hx (by
  have h1 := ax1 (show x ∈ ks from hx)
  have h2 : L4 ⟨k, n, ks⟩ = s8 ks := rfl
  omega)) e
abbrev aU9 (l : List b6) : l7 := ⟨59, [.ref 0], [dT l], [dT l, .tree (.stmts l)], .tref 1⟩
theorem a24 (l : List b6) (hb : r6 l ≤ 1048576) (ih1 : ∀ (s : b6), s ∈ l → l7.ok Tryz.prog (aU9 s.body)) (ih2 : ∀ (s : b6), s ∈ l → l7.ok Tryz.prog (aU9 s.els)) : l7.ok Tryz.prog (aU9 l) := by
 refine G3 36 Tryz.func59 [dT l] [(0, .ref 0)] fun G => ?_; have hl := Q3 hb; refine wp_seq (l5 G f9 [(2, .v (.slice none 0 0))] fun G => b5 (wp_seq (l5 G f9 [(3, .v (.slice none 0 0))] fun G => b5 (wp_seq (wp_seq (J3 G f9 [(2, .v (.slice none 0 0)), (3, .v (.slice none 0 0)), (6, .ref 0), (7, iA (l.length : Int)), (8, iA 0)] fun G => b5 (wp_block ?_))))))); obtain ⟨ρ, G⟩ := G.nilT 1 (.stmts []) [dT l] [(2, .v (.slice none 0 0)), (3, .tref 1), (6, .ref 0), (7, iA (l.length : Int)), (8, iA 0)]; refine x7 (κ := Nat) (fun k => k ≤ l.length) (fun k => l.length - k) (fun k => [dT l, .tree (.stmts (l.take k))]) (fun k => [(2, .v (.slice none 0 0)), (3, .tref 1), (6, .ref 0), (7, iA (l.length : Int)), (8, iA k)]) 0 (by omega) (x9.at G _ _) ?_; clear G; intro k ρ a w hp G; replace G := x9.at G [dT l, .tree (D.stmts (bR4 k l))] [(2, .v (.slice none 0 0)), (3, .tref 1), (6, .ref 0), (7, iA (l.length : Int)), (8, iA k)]; refine wp_seq (l5 G f9 [(9, bA (decide ((k : Int) < l.length)))] fun G => b5 (wp_seq (W0 G (fun h0 q0 => ?_) fun h0 q0 => ?_)))
 ·refine wp_exit (v8 (v8 (v7 (b5 (wp_seq (l5 G f9 [(2, .tref 1)] fun G => b5 (wp_ret ?_))))))); exact M6 G [0, 1] (by show _ = mR [0, 1] [dT l, .tree (D.stmts l)]; have e1 : (bR4 k l : List b6) = (l) := (ah2 hp (by assumption)); (first | rw [e1] | simp only [e1]) <;> rfl)
 ·refine wp_skip (b5 (wp_seq (wp_block (wp_seq (M7 G f9 [0, 1, 10, 11, 12, 13, 18] [dT l, .tree (D.stmts (bR4 k l)), dE (l.getD k bR0).index.kids, dE (l.getD k bR0).value.kids, dT (l.getD k bR0).body, dT (l.getD k bR0).els, .box (sL (l.getD k bR0) 2)] [(2, .v (.slice none 0 0)), (3, .tref 1), (5, .ptr 6 0), (6, .ref 0), (7, iA (l.length : Int)), (8, iA k)] [(0 : Int) ≤ (k : Int), (k : Int) < l.length, k < l.length] ⟨(by simp [h0]), (by assumption), (by have := N6 (x := (bR0 : b6)) hp hl; simp only [bR7, bS2] at this ⊢; omega), bR2⟩ fun G => b5 (Y2 G (B1 ⟨[(7, _, [2]), (10, _, [3]), (15, _, [4]), (18, _, [5])], [], []⟩ (b8 (bt3 ((l.getD k bR0).index) ((m9 hb (by assumption)).1)) (b8 (bt3 ((l.getD k bR0).value) ((m9 hb (by assumption)).2.1)) (b8 (ih1 (l.getD k bR0) (R6 (by assumption))) (b8 (ih2 (l.getD k bR0) (R6 (by assumption))) d7)))) bR2) [0, 0, 2, 0, 8, 0, 32, 96, 0, 256, 992, 0, 2048, 0, 8192, 26592, 0, 65536, 255968, 524286, 1048574, 2097151, 4194303] [0, 175] [dT l, .tree (D.stmts (bR4 k l ++ [qzS (l.getD k bR0)]))] [(2, .v (.slice none 0 0)), (3, .tref 1), (6, .ref 0), (7, iA (l.length : Int)), (8, iA k)] [(bR4 k l).length + [qzS (l.getD k bR0)].length ≤ (9223372036854775807 : Nat), ((bR4 k l).length + [qzS (l.getD k bR0)].length) * (152 : Nat) ≤ (140737488355328 : Nat)] ⟨(by have := N6 (x := (bR0 : b6)) hp hl; simp only [bR7, bS2] at this ⊢; omega), (bg3 (N6 hp hl) (by kernel_rfl)), bR2⟩ fun G => o5 (b5 (H0 G f9 [(8, iA ((k : Int) + 1))] [wO ((k : Int) + 1)] (o1 (by omega)) fun G => b5 ?_)))))))); exact Q6 G (k + 1) (by have := N6 (x := (bR0 : b6)) hp hl; simp only [bR7, bS2] at this ⊢; omega) (by have := N6 (x := (bR0 : b6)) hp hl; simp only [bR7, bS2] at this ⊢; omega) [0, 1] (by have e1 : (bR4 (k + 1) l : List b6) = (bR4 k l ++ [qzS (l.getD k bR0)]) := ((bj9 (by omega)).symm); (first | rw [e1] | simp only [e1]) <;> rfl)
theorem bt2 (l : List b6) : r6 l ≤ 1048576 → l7.ok Tryz.prog (aU9 l) := fun hb => a24 l hb
 (fun s hs => (own2 s).1 (bU1 (Nat.le_of_lt (E6 hs)) hb)) fun s hs => (own2 s).2 (bU1 (Nat.le_of_lt (E6 hs)) hb)
where
 own2 (s : b6) : (V9 s ≤ 1048576 → l7.ok Tryz.prog (aU9 s.body)) ∧ (V9 s ≤ 1048576 → l7.ok Tryz.prog (aU9 s.els)) :=
  b6.ind (P := fun s => (V9 s ≤ 1048576 → l7.ok Tryz.prog (aU9 s.body)) ∧ (V9 s ≤ 1048576 → l7.ok Tryz.prog (aU9 s.els))) (fun k t i v c b e h1 h2 => by
   have hz : V9 ⟨k, t, i, v, c, b, e⟩ = L4 i + L4 v + r6 b + r6 e := rfl
   constructor
   ·intro hb
    refine a24 b (by omega) (fun s hs => (h1 s hs).1 ?_) fun s hs => (h1 s hs).2 ?_
    ·have := E6 hs; omega
    ·have := E6 hs; omega
   ·intro hb
    refine a24 e (by omega) (fun s hs => (h2 s hs).1 ?_) fun s hs => (h2 s hs).2 ?_
    ·have := E6 hs; omega
    ·have := E6 hs; omega) s
theorem bM1 (p : f5) (hb : p.size ≤ 1048576) : l7.ok Tryz.prog ⟨58, [pA 0], pS p, pS p ++ oP p, oA 3⟩ := by
 refine G3 13 Tryz.func58 [dI p.vars, dI p.arrays, dT p.body] [(0, pA 0)] fun G => ?_
 have hb1 : p.vars.length ≤ 1048576 ∧ p.arrays.length ≤ 1048576 ∧ r6 p.body ≤ 1048576 := by unfold f5.size at hb; omega
 refine wp_seq (m6 G f9 [0, 1, 2, 3, 11] [dI p.vars, dI p.arrays, dT p.body, .box (pL 0), .box [.v (.slice none 0 0), .v (.slice none 0 0), .v (.slice none 0 0)]] [(1, .ptr 3 0), (2, .ptr 4 0)] fun G => b5 (wp_seq (aC1 G (B1 ⟨[(2, _, [0]), (5, _, [1]), (8, _, [2])], [], []⟩ (b8 (aw0 p.vars (by omega)) (b8 (aw0 p.arrays (by omega)) (b8 (bt2 p.body hb1.2.2) d7))) bR2) [0, 1, 3, 0, 8, 31, 0, 64, 255, 511, 1023] [0, 1, 2, 4, 21, 45, 69] [dI p.vars, dI p.arrays, dT p.body, .box [.ref 4, .ref 5, .tref 6], .row 3 (D.ints p.vars), .row 3 (D.ints p.arrays), .tree (D.stmts p.body)] [(2, .ptr 3 0)] fun G => b5 (wp_ret ?_)))); exact M6 G [0, 1, 2, 4, 5, 6]
end Go.Proofs.YthikdkjjdeehoaaGreat

namespace Go.Proofs.YthikdkjjdeehoaaGreat
set_option linter.unusedVariables false
set_option linter.unusedSimpArgs false
open Go Go.RowKit
def ap5 {α : Type} (f : α → Bool) (l : List α) : Int := match l.findIdx? f with
 | some i => i
 | none => -1
theorem bg4 {α : Type} {f : α → Bool} {l : List α} {k : Nat} {z : α} (hk : k < l.length) (h : (l.take k).any f = false) (hf : f (l.getD k z) = true) : ap5 f l = k := by
 have : l.findIdx? f = some k := by
  rw [List.findIdx?_eq_some_iff_getElem]
  rw [s4 hk] at hf
  refine ⟨hk, hf, fun j hj => ?_⟩
  rw [List.any_eq_false] at h
  have hm : l[j] ∈ l.take k := List.mem_take_iff_getElem.2 ⟨j, by omega, rfl⟩
  exact h _ hm
 unfold ap5; rw [this]
theorem aX5 {α : Type} {f : α → Bool} {l : List α} (h : l.any f = false) : ap5 f l = -1 := by
 have : l.findIdx? f = none := by
  rw [List.findIdx?_eq_none_iff]
  intro x hx
  rw [List.any_eq_false] at h
  simpa using h x hx
 unfold ap5; rw [this]
theorem bg5 {α : Type} (f : α → Bool) (l : List α) : decide (ap5 f l ≥ 0) = l.any f := by
 cases h : l.any f
 ·rw [aX5 h]; rfl
 ·unfold ap5
  cases h2 : l.findIdx? f with
  | none =>
   rw [List.findIdx?_eq_none_iff] at h2
   obtain ⟨x, hx, hf⟩ := List.any_eq_true.1 h
   rw [h2 x hx] at hf; cases hf
  | some i => simp
theorem bq9 {α : Type} {l : List α} {k : Nat} {z : α} (h : k < l.length) : l.getD k z ∈ l := by rw [s4 h]; exact bS7 h
def okS (nv na d : Nat) (e : b9) : Prop := (e.kind = 0 ∧ e.kids = []) ∨ l0 nv na d e = true
theorem aO9 {nv na d k : Nat} {e : b9} (h : okS nv na (d + 1) e) (hk : k < e.kids.length) : l0 nv na d (e.kids.getD k bR0) = true := by
 rcases h with h | h
 ·rw [h.2] at hk; simp at hk
 ·exact Y0 h hk
theorem bx3 {nv na d : Nat} {e x : b9} (h : okS nv na (d + 1) e) (hk : x ∈ e.kids) : okS nv na d x := by
 obtain ⟨i, hi, rfl⟩ := List.mem_iff_getElem.1 hk
 have := aO9 h hi
 rw [s4 hi] at this
 exact .inr this
theorem ah7 {nv na d : Nat} {e : b9} (h : okS nv na (d + 1) e) (k : e.kind = 3) : 0 < e.kids.length := by
 rcases h with h | h
 ·omega
 ·exact aN6 h k
theorem bD2 {vs ars : List Int} {d : Nat} {e : b9} (k : ¬ e.kind = 3) : s9 vs ars (d + 1) e = e.kids.any (s9 vs ars d) := by rw [s9]; simp [k]
theorem bv7 {vs ars : List Int} {d : Nat} {e : b9} (k : (f7 (m7 vs ars d (e.kids.getD 0 bR0)) && decide (m7 vs ars d (e.kids.getD 0 bR0) % 2 = 1)) = false) : s9 vs ars (d + 1) e = e.kids.any (s9 vs ars d) := by rw [s9, k]; simp
abbrev be5 (p : f5) (d : Nat) (e : b9) : l7 := I7 143 [pA 0, eA e 3] (pS p ++ eS e) (bA (s9 p.vars p.arrays d e))
theorem bz8 (p : f5) (d : Nat) (l : List b9) (ih : ∀ (e : b9), e ∈ l → l7.ok Tryz.prog (be5 p d e)) : l7.ok Tryz.prog (I7 238 [.ref 3, .bm 143 [pA 0]] (pS p ++ [.dat (.exprs l)]) (iA (ap5 (s9 p.vars p.arrays d) l))) := by
  refine G3 19 Tryz.func238 [dI p.vars, dI p.arrays, dT p.body, dE l] [(0, .ref 3), (1, .bm 143 [pA 0])] fun G => ?_; have hlen : l.length ≤ 9223372036854775807 := G.len 3 (d := .exprs l) (by kernel_rfl); refine wp_seq (J3 G f9 [(0, .ref 3), (1, .bm 143 [pA 0]), (4, iA 0)] fun G => b5 (wp_seq (wp_seq (J3 G f9 [(0, .ref 3), (1, .bm 143 [pA 0]), (4, iA 0), (7, iA (l.length : Int)), (8, iA 0)] fun G => b5 (wp_block ?_))))); refine x7 (κ := Nat) (fun k => k ≤ l.length ∧ (l.take k).any (s9 p.vars p.arrays d) = false) (fun k => l.length - k) (fun k => [dI p.vars, dI p.arrays, dT p.body, dE l]) (fun k => [(0, .ref 3), (1, .bm 143 [pA 0]), (4, iA 0), (7, iA (l.length : Int)), (8, iA k)]) 0 (⟨bU3 _, rfl⟩) (x9.at G _ _) ?_; clear G; intro k ρ a w hp G; refine wp_seq (l5 G f9 [(9, bA (decide ((k : Int) < l.length)))] fun G => b5 (wp_seq (W0 G (fun h0 q0 => ?_) fun h0 q0 => ?_)))
  · refine wp_exit (v8 (v8 (v7 (b5 (wp_seq (l5 G f9 [(4, iA (-1))] fun G => b5 (wp_ret ?_))))))); exact N1 (-1) G (rg 4) (aX5 (aG6 hp.2 (by omega)))
  ·
   refine wp_skip (b5 (wp_seq (wp_block (wp_seq (l5 G f9 [(5, iA k)] fun G => b5 (wp_seq (H0 G (A0 5 [0, 1, 2, 36] (ih (l.getD k bR0) (bq9 (by omega)))) [(16, bA (s9 p.vars p.arrays d (l.getD k bR0)))] (iX k k l.length []) (iK (by have hp := hp; omega) bR2) fun G => b5 (rcB G (fun h1 => ?_) fun h1 => ?_))))))))
   · refine wp_skip (o5 (b5 (H0 G f9 [(8, iA ((k : Int) + 1))] [wO ((k : Int) + 1)] (o1 (by omega)) fun G => b5 ?_))); exact Q6 G (k + 1) (⟨by omega, aG5 hp.2 (by omega) (by assumption)⟩) (by have hp := hp; omega) (rg 4)
   · refine wp_seq (l5 G f9 [(4, iA k)] fun G => b5 (wp_ret (C9 (m8 (m8 (C9 (m8 ?_))))))); exact N1 ((k : Int)) G (rg 4) (bg4 (by omega) hp.2 (by assumption))
theorem aZ5 (p : f5) (d : Nat) (l : List b9) (ih : ∀ (e : b9), e ∈ l → l7.ok Tryz.prog (be5 p d e)) : l7.ok Tryz.prog (I7 196 [.ref 3, .bm 143 [pA 0]] (pS p ++ [.dat (.exprs l)]) (bA (l.any (s9 p.vars p.arrays d)))) := by
 have hfind := bz8 p d l ih; refine G3 9 Tryz.func196 [dI p.vars, dI p.arrays, dT p.body, dE l] [(0, .ref 3), (1, .bm 143 [pA 0])] fun G => ?_; refine wp_seq (l5 G f9 [(4, bA false)] fun G => b5 (wp_seq (l5 G (A0 2 (rg 4) hfind) [(4, bA (decide (ap5 (s9 p.vars p.arrays d) l ≥ 0)))] fun G => b5 (wp_ret ?_)))); exact C7 (decide (ap5 (s9 p.vars p.arrays d) l ≥ 0)) G (rg 4) ((bg5 _ _).symm)
theorem aj9 (p : f5) (d : Nat) (e : b9) (ih : ∀ (x : b9), x ∈ e.kids → l7.ok Tryz.prog (be5 p d x)) (he : okS p.vars.length p.arrays.length (d + 1) e) : l7.ok Tryz.prog (be5 p (d + 1) e) := by
  have hcon := aZ5 p d e.kids ih; refine G3 24 Tryz.func143 [dI p.vars, dI p.arrays, dT p.body, dE e.kids] [(0, pA 0), (1, eA e 3)] fun G => ?_; have hl := aY5 p d; refine wp_seq (m6 G f9 [0, 1, 2, 3, 4, 12] [dI p.vars, dI p.arrays, dT p.body, dE e.kids, .box (pL 0), .box (eL e 3)] [(2, .ptr 4 0), (3, .ptr 5 0), (4, bA false)] fun G => b5 (wp_seq ?_)); cases h0 : (e.kind == 3)
  · have q0 := ne_of_beq_false h0; refine aC1 G (B1 ⟨[(17, _, (rg 4))], [(e.kind == 3, false), (false, false)], us [(4, 10, 0), (1011, 1011, 0), (13, 17, 1), (1018, 1018, 1)]⟩ (b8 hcon d7) ⟨(by assumption), (by kernel_rfl), bR2⟩) [0, 1, 3, 7, 15, 15, 47, 111, 239, 511, 1023, 2047, 4095, 8191, 16383, 8191, 40959, 131071, 262143, 524287] (rg 4) [dI p.vars, dI p.arrays, dT p.body, dE e.kids] [(4, bA (e.kids.any (s9 p.vars p.arrays d)))] fun G => b5 (wp_ret ?_); exact C7 (e.kids.any (s9 p.vars p.arrays d)) G (rg 4) (bD2 (by assumption))
  ·
   have q0 := eq_of_beq h0; cases h1 : (f7 (m7 p.vars p.arrays d (e.kids.getD (0 : Nat) bR0)) && decide (m7 p.vars p.arrays d (e.kids.getD (0 : Nat) bR0) % (2 : Int) = 1))
   · have q1 : ((f7 (m7 p.vars p.arrays d (e.kids.getD 0 bR0))) = false) ∨ (¬ (m7 p.vars p.arrays d (e.kids.getD 0 bR0) % 2 = 1)) := Or.imp (fun hq => (hq)) (fun hq => of_decide_eq_false hq) (bT9.1 h1); refine Y2 G (B1 ⟨[(9, _, [0, 1, 2, 70]), (10, _, []), (17, _, (rg 4))], [(e.kind == 3, true), (f7 (m7 p.vars p.arrays d (e.kids.getD (0 : Nat) bR0)) && decide (m7 p.vars p.arrays d (e.kids.getD (0 : Nat) bR0) % (2 : Int) = 1), false)], us [(4, 10, 0), (1011, 1011, 0), (13, 17, 1), (1018, 1018, 1)]⟩ (b8 (hl (e.kids.getD 0 bR0) (aO9 he (ah7 he (by assumption)))) (b8 (J6 (m7 p.vars p.arrays d (e.kids.getD 0 bR0))) (b8 hcon d7))) ⟨(by assumption), (by assumption), bR2⟩) [0, 1, 3, 7, 15, 15, 47, 111, 239, 511, 1023, 2047, 4095, 8191, 16383, 8191, 40959, 131071, 262143, 524287] (rg 4) [dI p.vars, dI p.arrays, dT p.body, dE e.kids] [(4, bA (e.kids.any (s9 p.vars p.arrays d)))] (iX 0 0 e.kids.length []) (iK (by have := ah7 he (by assumption); omega) bR2) fun G => b5 (wp_ret ?_); exact C7 (e.kids.any (s9 p.vars p.arrays d)) G (rg 4) (bv7 (by assumption))
   · have q1 : ((f7 (m7 p.vars p.arrays d (e.kids.getD 0 bR0))) = true) ∧ (m7 p.vars p.arrays d (e.kids.getD 0 bR0) % 2 = 1) := And.imp (fun hq => (hq)) (fun hq => of_decide_eq_true hq) (bU0.1 h1); refine Y2 G (B1 ⟨[(9, _, [0, 1, 2, 70]), (10, _, [])], [(e.kind == 3, true), (f7 (m7 p.vars p.arrays d (e.kids.getD (0 : Nat) bR0)) && decide (m7 p.vars p.arrays d (e.kids.getD (0 : Nat) bR0) % (2 : Int) = 1), true)], us [(4, 10, 0), (1011, 1011, 0), (13, 17, 1), (1018, 1018, 1)]⟩ (b8 (hl (e.kids.getD 0 bR0) (aO9 he (ah7 he (by assumption)))) (b8 (J6 (m7 p.vars p.arrays d (e.kids.getD 0 bR0))) d7)) ⟨(by assumption), (by assumption), bR2⟩) [0, 1, 3, 7, 15, 15, 47, 111, 239, 511, 1023, 2047, 4095, 8191, 16383, 8191, 40959, 131071, 262143, 524287] (rg 4) [dI p.vars, dI p.arrays, dT p.body, dE e.kids] [(4, bA true)] (iX 0 0 e.kids.length []) (iK (by have := ah7 he (by assumption); omega) bR2) fun G => b5 (wp_ret ?_); exact C7 true G (rg 4) (bl5 (by assumption) (by assumption))
theorem aH6 (p : f5) : ∀ (d : Nat) (e : b9), okS p.vars.length p.arrays.length d e → l7.ok Tryz.prog (be5 p d e) := by
 intro d
 induction d with
 | zero =>
  intro e h
  have h0 : e.kind = 0 ∧ e.kids = [] := h.resolve_right (by simp [l0])
  have := aj9 p 0 e (fun x hx => by rw [h0.2] at hx; cases hx) (.inl h0)
  have e1 : s9 p.vars p.arrays 1 e = s9 p.vars p.arrays 0 e := by rw [s9, s9, h0.2]; simp [h0.1]
  unfold be5 at this ⊢
  rw [bU9, e1] at this
  exact this
 | succ d ih => intro e h; exact aj9 p d e (fun x hx => ih x (bx3 h hx)) h
theorem ac0 (p : f5) (e : b9) (he : okS p.vars.length p.arrays.length 5 e) : l7.ok Tryz.prog (I7 143 [pA 0, eA e 3] (pS p ++ eS e) (bA (s9 p.vars p.arrays 5 e))) := aH6 p 5 e he
section
variable {p : f5} {s : b6}
theorem il3 (k : s.kind = 3) (h : (f7 (i7 p s.value) && decide (i7 p s.value % 2 = 1)) = true) : V4 p s = 3 := by rw [V4, if_pos ⟨k, (show ak9 _ = true from h)⟩]
theorem ili (k : s.kind = 2) (h : (f7 (i7 p s.index) && decide (i7 p s.index % 2 = 1)) = true) : V4 p s = 4 := by
 rw [V4, if_neg (by omega), if_pos (.inl ⟨k, (show ak9 _ = true from h)⟩)]
theorem ilv (h3 : ¬ s.kind = 3 ∨ (f7 (i7 p s.value) && decide (i7 p s.value % 2 = 1)) = false) (h : s9 p.vars p.arrays 5 s.value = true) : V4 p s = 4 := by
 rw [V4, if_neg (by rintro ⟨a, b⟩; exact h3.elim (fun h => h a) (fun h => Bool.false_ne_true (h.symm.trans b))), if_pos (.inr h)]
theorem il0 (h3 : ¬ s.kind = 3 ∨ (f7 (i7 p s.value) && decide (i7 p s.value % 2 = 1)) = false) (h2 : ¬ s.kind = 2 ∨ (f7 (i7 p s.index) && decide (i7 p s.index % 2 = 1)) = false) (h : s9 p.vars p.arrays 5 s.value = false) : V4 p s = 0 := by
 rw [V4, if_neg (by rintro ⟨a, b⟩; exact h3.elim (fun h => h a) (fun h => Bool.false_ne_true (h.symm.trans b))), if_neg]
 rintro (⟨a, b⟩ | b)
 ·rcases h2 with h | h
  ·exact h a
  ·exact Bool.false_ne_true (h.symm.trans b)
 ·rw [h] at b; cases b
end
abbrev az4 (p : f5) (s : b6) (r0 : List It) : List It := dI p.vars :: dI p.arrays :: dT p.body :: dE s.index.kids :: dE s.value.kids :: dT s.body :: dT s.els :: r0
theorem bG6 (p : f5) (s : b6) (cx : Int) (h : C1 p.vars.length p.arrays.length s = true) (hv : okS p.vars.length p.arrays.length 5 s.value) : l7.ok Tryz.prog (I7 68 [pA 0, sA s 3, iA cx] (pS p ++ sS s) (iA (V4 p s))) := by
  refine G3 35 Tryz.func68 (az4 p s []) [(0, pA 0), (1, sA s 3), (2, iA cx)] fun G => ?_; refine wp_seq (m6 G f9 [0, 1, 2, 3, 4, 5, 6, 7, 15] (az4 p s [.box (pL 0), .box (sL s 3)]) [(3, .ptr 7 0), (4, .ptr 8 0), (6, iA 0)] fun G => b5 (wp_seq (wp_block (wp_seq ?_)))); cases h0 : (s.kind == 3)
  ·
   have q0 := ne_of_beq_false h0; refine l5 G (F8 (fc h0 fz) (us [(4, 8, 0), (1009, 1009, 0)])) [(7, bA false)] fun G => b5 (rF G false (by kernel_rfl) (wp_seq ?_)); cases h1 : (s.kind == 2)
   ·
    have q1 := ne_of_beq_false h1; refine m6 G (B1 ⟨[(14, _, [0, 1, 2, 4])], [(s.kind == 2, false), (false, false)], us [(4, 8, 0), (1009, 1009, 0), (11, 14, 1), (1015, 1015, 1)]⟩ (b8 (ac0 p s.value (by assumption)) d7) ⟨(by assumption), (by kernel_rfl), bR2⟩) (rg 7) (az4 p s []) [(6, iA 0), (18, bA (s9 p.vars p.arrays 5 s.value))] fun G => b5 (rcB G (fun h2 => ?_) fun h2 => ?_)
    · refine wp_skip (o5 (b5 (wp_seq (l5 G f9 [] fun G => b5 (wp_ret ?_))))); exact N1 0 G (rg 7) (il0 (by exact .inl (by omega)) (by exact .inl (by omega)) (by with_reducible assumption))
    · refine wp_seq (l5 G f9 [(6, iA 4)] fun G => b5 (wp_ret (C9 (m8 ?_)))); exact N1 4 G (rg 7) (ilv (by exact .inl (by omega)) (by with_reducible assumption))
   ·
    have q1 := eq_of_beq h1; cases h3 : (f7 (i7 p s.index) && decide (i7 p s.index % (2 : Int) = 1))
    ·
     have q3 : ((f7 (i7 p s.index)) = false) ∨ (¬ (i7 p s.index % 2 = 1)) := Or.imp (fun hq => (hq)) (fun hq => of_decide_eq_false hq) (bT9.1 h3); refine m6 G (B1 ⟨[(7, _, (rg 4)), (8, _, []), (14, _, [0, 1, 2, 4])], [(s.kind == 2, true), (f7 (i7 p s.index) && decide (i7 p s.index % (2 : Int) = 1), false)], us [(4, 8, 0), (1009, 1009, 0), (11, 14, 1), (1015, 1015, 1)]⟩ (b8 (U0 p s.index (aa0 h (by assumption))) (b8 (J6 (i7 p s.index)) (b8 (ac0 p s.value (by assumption)) d7))) ⟨(by assumption), (by assumption), bR2⟩) (rg 7) (az4 p s []) [(6, iA 0), (18, bA (s9 p.vars p.arrays 5 s.value))] fun G => b5 (rcB G (fun h4 => ?_) fun h4 => ?_)
     · refine wp_skip (o5 (b5 (wp_seq (l5 G f9 [] fun G => b5 (wp_ret ?_))))); exact N1 0 G (rg 7) (il0 (by exact .inl (by omega)) (by exact .inr (by with_reducible assumption)) (by with_reducible assumption))
     · refine wp_seq (l5 G f9 [(6, iA 4)] fun G => b5 (wp_ret (C9 (m8 ?_)))); exact N1 4 G (rg 7) (ilv (by exact .inl (by omega)) (by with_reducible assumption))
    · have q3 : ((f7 (i7 p s.index)) = true) ∧ (i7 p s.index % 2 = 1) := And.imp (fun hq => (hq)) (fun hq => of_decide_eq_true hq) (bU0.1 h3); refine m6 G (B1 ⟨[(7, _, (rg 4)), (8, _, [])], [(s.kind == 2, true), (f7 (i7 p s.index) && decide (i7 p s.index % (2 : Int) = 1), true)], us [(4, 8, 0), (1009, 1009, 0), (11, 14, 1), (1015, 1015, 1)]⟩ (b8 (U0 p s.index (aa0 h (by assumption))) (b8 (J6 (i7 p s.index)) d7)) ⟨(by assumption), (by assumption), bR2⟩) (rg 7) (az4 p s []) [(6, iA 0), (18, bA true)] fun G => b5 (rT G true (by kernel_rfl) (wp_seq (l5 G f9 [(6, iA 4)] fun G => b5 (wp_ret (C9 (m8 ?_)))))); exact N1 4 G (rg 7) (ili (by with_reducible assumption) (by with_reducible assumption))
  ·
   have q0 := eq_of_beq h0; refine J3 G (B1 ⟨[(7, _, [0, 1, 2, 4]), (8, _, [])], [(s.kind == 3, true)], us [(4, 8, 0), (1009, 1009, 0)]⟩ (b8 (U0 p s.value (v6 h (by omega))) (b8 (J6 (i7 p s.value)) d7)) ⟨(by assumption), bR2⟩) [(3, .ptr 7 0), (4, .ptr 8 0), (6, iA 0), (7, bA (f7 (i7 p s.value) && decide (i7 p s.value % 2 = 1)))] fun G => b5 ?_; cases h5 : (f7 (i7 p s.value) && decide (i7 p s.value % (2 : Int) = 1))
   ·
    have q5 : ((f7 (i7 p s.value)) = false) ∨ (¬ (i7 p s.value % 2 = 1)) := Or.imp (fun hq => (hq)) (fun hq => of_decide_eq_false hq) (bT9.1 h5); refine rF G _ h5 (wp_seq ?_); cases h6 : (s.kind == 2)
    ·
     have q6 := ne_of_beq_false h6; refine m6 G (B1 ⟨[(14, _, [0, 1, 2, 4])], [(s.kind == 2, false), (false, false)], us [(4, 8, 0), (1009, 1009, 0), (11, 14, 1), (1015, 1015, 1)]⟩ (b8 (ac0 p s.value (by assumption)) d7) ⟨(by assumption), (by kernel_rfl), bR2⟩) (rg 7) (az4 p s []) [(6, iA 0), (18, bA (s9 p.vars p.arrays 5 s.value))] fun G => b5 (rcB G (fun h7 => ?_) fun h7 => ?_)
     · refine wp_skip (o5 (b5 (wp_seq (l5 G f9 [] fun G => b5 (wp_ret ?_))))); exact N1 0 G (rg 7) (il0 (by exact .inr (by with_reducible assumption)) (by exact .inl (by omega)) (by with_reducible assumption))
     · refine wp_seq (l5 G f9 [(6, iA 4)] fun G => b5 (wp_ret (C9 (m8 ?_)))); exact N1 4 G (rg 7) (ilv (by exact .inr (by with_reducible assumption)) (by with_reducible assumption))
    · have q6 := eq_of_beq h6; exact False.elim (by omega)
   · have q5 : ((f7 (i7 p s.value)) = true) ∧ (i7 p s.value % 2 = 1) := And.imp (fun hq => (hq)) (fun hq => of_decide_eq_true hq) (bU0.1 h5); refine rT G _ h5 (wp_seq (m6 G f9 (rg 7) (az4 p s []) [(6, iA 3)] fun G => b5 (wp_ret (C9 (m8 ?_))))); exact N1 3 G (rg 7) (il3 (by with_reducible assumption) (by with_reducible assumption))
abbrev fcB (f : Nat) (c n a : Int) : List It := [.box [iA c], .box [.bm f [pA 0]], .box [iA n], .box [iA a]]
abbrev am4 : Nat := 67
abbrev am3 : Nat := 68
abbrev G9 (p : f5) : b6 × Int → Int := fun x => O2 p x.1 x.2
abbrev G8 (p : f5) : b6 × Int → Int := fun x => V4 p x.1
section
variable {R : b6 × Int → Int} {c a : Int} {n : Nat} {x : b6 × Int}
theorem bI0 (h : ¬ c = 0) : (i6 R (c, a, n) x).1 = c := by unfold i6; rw [if_neg h]
theorem bH9 (h : ¬ c = 0) : (i6 R (c, a, n) x).2.1 = a := by unfold i6; rw [if_neg h]
theorem aB3 : (i6 R (c, a, n) x).2.2 = n + 1 := by unfold i6; split <;> rfl
theorem bv4 (h : c = 0) : (i6 R (c, a, n) x).1 = R x := by unfold i6; rw [if_pos h]
theorem bH8 (h : c = 0) (hr : R x = 0) : (i6 R (c, a, n) x).2.1 = a := by unfold i6; rw [if_pos h, if_pos hr]
theorem bH7 (h : c = 0) (hr : ¬ R x = 0) : (i6 R (c, a, n) x).2.1 = n := by unfold i6; rw [if_pos h, if_neg hr]
end
abbrev aI9 (p : f5) (s : b6) (cx : Int) (c : Int) (b : Int) (n : Nat) : List It := [dI p.vars, dI p.arrays, dT p.body, .box [iA (i6 (G9 p) (c, b, n) (s, cx)).fst], .box [.bm am4 [pA 0]], .box [iA ((i6 (G9 p) (c, b, n) (s, cx)).snd.snd : Int)], .box [iA (i6 (G9 p) (c, b, n) (s, cx)).snd.fst], dE s.index.kids, dE s.value.kids, dT s.body, dT s.els]
abbrev az3 (s : b6) (r0 : List It) : List It := dE s.index.kids :: dE s.value.kids :: dT s.body :: dT s.els :: r0
theorem bA1 (p : f5) (s : b6) (cx : Int) (c b : Int) (n : Nat) (hn : n + 1 ≤ 4000000) (h : C1 p.vars.length p.arrays.length s = true) :
    l7.ok Tryz.prog ⟨137, [sA s 7, iA cx, .ptr 3 0, .ptr 4 0, .ptr 5 0, .ptr 6 0], pS p ++ fcB am4 c n b ++ sS s,
      pS p ++ fcB am4 (i6 (G9 p) (c, b, n) (s, cx)).1 (i6 (G9 p) (c, b, n) (s, cx)).2.2 (i6 (G9 p) (c, b, n) (s, cx)).2.1 ++ sS s, .tup []⟩ := by
  refine G3 19 Tryz.func137 (dI p.vars :: dI p.arrays :: dT p.body :: .box [iA c] :: .box [.bm 67 [pA 0]] :: .box [iA n] :: .box [iA b] :: (az3 s [])) [(0, sA s 7), (1, iA cx), (2, .ptr 3 0), (3, .ptr 4 0), (4, .ptr 5 0), (5, .ptr 6 0)] fun G => ?_; refine wp_seq (m6 G f9 (rg 12) (dI p.vars :: dI p.arrays :: dT p.body :: .box [iA c] :: .box [.bm 67 [pA 0]] :: .box [iA n] :: .box [iA b] :: (az3 s [.box (sL s 7)])) [(1, iA cx), (2, .ptr 3 0), (3, .ptr 4 0), (4, .ptr 5 0), (5, .ptr 6 0), (6, .ptr 11 0)] fun G => b5 (wp_seq (wp_seq (l5 G f9 [(9, bA (c == 0))] fun G => b5 (U9 G (fun h0 q0 => ?_) fun h0 q0 => ?_)))))
  · refine wp_skip (b5 (M7 G f9 (rg 11) (dI p.vars :: dI p.arrays :: dT p.body :: .box [iA c] :: .box [.bm 67 [pA 0]] :: .box [iA ((n : Int) + 1)] :: .box [iA b] :: (az3 s [])) [] [wO ((n : Int) + 1)] (o1 (by omega)) fun G => ?_)); exact aO1 G (rg 11) (by show _ = mR (rg 11) (aI9 p s cx c b n); unfold aI9; have e1 : ((i6 (G9 p) (c, b, n) (s, cx)).fst : Int) = (c) := (bI0 (by assumption)); have e2 : (((i6 (G9 p) (c, b, n) (s, cx)).snd.snd : Int) : Int) = ((n : Int) + 1) := (congrArg Int.ofNat aB3); have e3 : ((i6 (G9 p) (c, b, n) (s, cx)).snd.fst : Int) = (b) := (bH9 (by assumption)); (first | rw [e1, e2, e3] | simp only [e1, e2, e3]) <;> rfl)
  ·
   refine wp_seq (m6 G (A0 3 [0, 1, 2, 7, 8, 9, 10] (bG7 p s cx (by assumption))) (rg 11) (dI p.vars :: dI p.arrays :: dT p.body :: .box [iA (O2 p s cx)] :: .box [.bm 67 [pA 0]] :: .box [iA n] :: .box [iA b] :: (az3 s [])) [(2, .ptr 3 0), (4, .ptr 5 0), (5, .ptr 6 0)] fun G => b5 (wp_seq (l5 G f9 [(15, bA (O2 p s cx != 0))] fun G => b5 (rcN G (fun h1 q1 => ?_) fun h1 q1 => ?_))))
   · refine wp_skip (b5 (M7 G f9 (rg 11) (dI p.vars :: dI p.arrays :: dT p.body :: .box [iA (O2 p s cx)] :: .box [.bm 67 [pA 0]] :: .box [iA ((n : Int) + 1)] :: .box [iA b] :: (az3 s [])) [] [wO ((n : Int) + 1)] (o1 (by omega)) fun G => ?_)); exact aO1 G (rg 11) (by show _ = mR (rg 11) (aI9 p s cx c b n); unfold aI9; have e1 : ((i6 (G9 p) (c, b, n) (s, cx)).fst : Int) = (O2 p s cx) := (bv4 (by assumption)); have e2 : (((i6 (G9 p) (c, b, n) (s, cx)).snd.snd : Int) : Int) = ((n : Int) + 1) := (congrArg Int.ofNat aB3); have e3 : ((i6 (G9 p) (c, b, n) (s, cx)).snd.fst : Int) = (b) := (bH8 (by assumption) (by assumption)); (first | rw [e1, e2, e3] | simp only [e1, e2, e3]) <;> rfl)
   · refine m6 G f9 (rg 11) (dI p.vars :: dI p.arrays :: dT p.body :: .box [iA (O2 p s cx)] :: .box [.bm 67 [pA 0]] :: .box [iA n] :: .box [iA n] :: (az3 s [])) [(4, .ptr 5 0)] fun G => b5 (M7 G f9 (rg 11) (dI p.vars :: dI p.arrays :: dT p.body :: .box [iA (O2 p s cx)] :: .box [.bm 67 [pA 0]] :: .box [iA ((n : Int) + 1)] :: .box [iA n] :: (az3 s [])) [] [wO ((n : Int) + 1)] (o1 (by omega)) fun G => ?_); exact aO1 G (rg 11) (by show _ = mR (rg 11) (aI9 p s cx c b n); unfold aI9; have e1 : ((i6 (G9 p) (c, b, n) (s, cx)).fst : Int) = (O2 p s cx) := (bv4 (by assumption)); have e2 : (((i6 (G9 p) (c, b, n) (s, cx)).snd.snd : Int) : Int) = ((n : Int) + 1) := (congrArg Int.ofNat aB3); have e3 : ((i6 (G9 p) (c, b, n) (s, cx)).snd.fst : Int) = ((n : Int)) := (bH7 (by assumption) (by assumption)); (first | rw [e1, e2, e3] | simp only [e1, e2, e3]) <;> rfl)
def P0 (R : b6 × Int → Int) (p : f5) (d : Nat) (cx : Int) (ss : List b6) (c b : Int) (n k : Nat) : Int × Int × Nat := (B3 p (d + 1) cx (ss.take k)).foldl (i6 R) (c, b, n)
section
variable {R : b6 × Int → Int} {p : f5} {d : Nat} {cx : Int} {ss : List b6} {c b : Int} {n k : Nat}
theorem bg6 (hk : k < ss.length) (h : (ss.getD k bR0).kind = 3) : P0 R p d cx ss c b n (k + 1) = (B3 p d (o7 cx (i7 p (ss.getD k bR0).value)) (ss.getD k bR0).els).foldl (i6 R) ((B3 p d (o7 cx (i7 p (ss.getD k bR0).value)) (ss.getD k bR0).body).foldl (i6 R) (i6 R (P0 R p d cx ss c b n k) (ss.getD k bR0, cx))) := by
 unfold P0; rw [aJ8 hk]; unfold F7; rw [if_pos h]
theorem bL1 (hk : k < ss.length) (h : ¬ (ss.getD k bR0).kind = 3) : P0 R p d cx ss c b n (k + 1) = (B3 p d cx (ss.getD k bR0).els).foldl (i6 R) ((B3 p d cx (ss.getD k bR0).body).foldl (i6 R) (i6 R (P0 R p d cx ss c b n k) (ss.getD k bR0, cx))) := by
 unfold P0; rw [aJ8 hk]; unfold F7; rw [if_neg h]
theorem as3 (hk : ss.length ≤ k) : (B3 p (d + 1) cx ss).foldl (i6 R) (c, b, n) = P0 R p d cx ss c b n k := by unfold P0; rw [bS6 hk]
theorem a54 : (P0 R p d cx ss c b n k).2.2 ≤ n + I8 (ss.take k) := by
 unfold P0; rw [ar2]
 have := ap6 p (d + 1) cx (ss.take k)
 simp only; omega
theorem bc1 (hk : k < ss.length) (hn : n + I8 ss ≤ 4000000) : (P0 R p d cx ss c b n k).2.2 + 1 ≤ 4000000 := by
 have h1 := a54 (R := R) (p := p) (d := d) (cx := cx) (ss := ss) (c := c) (b := b) (n := n) (k := k)
 have h2 := aZ8 hk
 omega
theorem ax8 (hk : k < ss.length) (hn : n + I8 ss ≤ 4000000) : (i6 R ((P0 R p d cx ss c b n k).1, (P0 R p d cx ss c b n k).2.1, (P0 R p d cx ss c b n k).2.2) (ss.getD k bR0, cx)).2.2 + I8 (ss.getD k bR0).body ≤ 4000000 := by
 have h1 := a54 (R := R) (p := p) (d := d) (cx := cx) (ss := ss) (c := c) (b := b) (n := n) (k := k)
 have h2 := aZ8 hk
 rw [aB3]
 omega
theorem ax7 {cy : Int} (hk : k < ss.length) (hn : n + I8 ss ≤ 4000000) {σ : Int × Int × Nat} (hσ : σ.2.2 = (P0 R p d cx ss c b n k).2.2 + 1) : ((B3 p d cy (ss.getD k bR0).body).foldl (i6 R) σ).2.2 + I8 (ss.getD k bR0).els ≤ 4000000 := by
 have h1 := a54 (R := R) (p := p) (d := d) (cx := cx) (ss := ss) (c := c) (b := b) (n := n) (k := k)
 have h2 := aZ8 hk
 rw [ar2, hσ]
 have h3 := ap6 p d cy (ss.getD k bR0).body
 omega
end
abbrev az9 (p : f5) (d : Nat) (ss : List b6) (cx : Int) (c : Int) (b : Int) (n : Nat) (k : Nat) := bT8 (i6 (G9 p)) (i6 (G9 p) (P0 (G9 p) p d cx ss c b n k) (ss.getD k bR0, cx)) (B3 p d (o7 cx (i7 p (ss.getD k bR0).value)) (ss.getD k bR0).body)
abbrev an4 (p : f5) (d : Nat) (ss : List b6) (cx : Int) (c : Int) (b : Int) (n : Nat) (k : Nat) := bT8 (i6 (G9 p)) (i6 (G9 p) (P0 (G9 p) p d cx ss c b n k) (ss.getD k bR0, cx)) (B3 p d cx (ss.getD k bR0).body)
abbrev aI8 (p : f5) (d : Nat) (ss : List b6) (cx : Int) (c : Int) (b : Int) (n : Nat) (k : Nat) := bT8 (i6 (G9 p)) (az9 p d ss cx c b n k) (B3 p d (o7 cx (i7 p (ss.getD k bR0).value)) (ss.getD k bR0).els)
abbrev an3 (p : f5) (d : Nat) (ss : List b6) (cx : Int) (c : Int) (b : Int) (n : Nat) (k : Nat) := i6 (G9 p) (P0 (G9 p) p d cx ss c b n k) (ss.getD k bR0, cx)
abbrev aj1 : AV := .fn 137 [.ptr 3 0, .ptr 4 0, .ptr 5 0, .ptr 6 0]
abbrev a74 (ss : List b6) (k : Nat) (r0 : List It) : List It := dT ss :: .box (pL 0) :: dE (ss.getD k bR0).index.kids :: dE (ss.getD k bR0).value.kids :: dT (ss.getD k bR0).body :: dT (ss.getD k bR0).els :: .box (sL (ss.getD k bR0) 9) :: r0
abbrev az2 (ss : List b6) (k : Nat) (r0 : List (Nat × AV)) : List (Nat × AV) := (11, .ref 7) :: (12, iA (ss.length : Int)) :: (13, iA (k : Int)) :: r0
theorem aZ3 (p : f5) (d : Nat) (ss : List b6) (ih : ∀ (tt : List b6) (cx : Int) (c b : Int) (n : Nat), 0 < ss.length → tt.all (i5 p.vars.length p.arrays.length d) = true → n + I8 tt ≤ 4000000 → l7.ok Tryz.prog ⟨93, [pA 0, .ref 7, iA cx, .fn 137 [.ptr 3 0, .ptr 4 0, .ptr 5 0, .ptr 6 0]], pS p ++ fcB am4 c n b ++ [.dat (.stmts tt)],
      pS p ++ fcB am4 ((B3 p d cx tt).foldl (i6 (G9 p)) (c, b, n)).1 ((B3 p d cx tt).foldl (i6 (G9 p)) (c, b, n)).2.2 ((B3 p d cx tt).foldl (i6 (G9 p)) (c, b, n)).2.1 ++ [.dat (.stmts tt)], .tup []⟩)
    (cx : Int) (c b : Int) (n : Nat) (hs : ss.all (i5 p.vars.length p.arrays.length (d + 1)) = true) (hn : n + I8 ss ≤ 4000000) : l7.ok Tryz.prog ⟨93, [pA 0, .ref 7, iA cx, .fn 137 [.ptr 3 0, .ptr 4 0, .ptr 5 0, .ptr 6 0]], pS p ++ fcB am4 c n b ++ [.dat (.stmts ss)],
      pS p ++ fcB am4 ((B3 p (d + 1) cx ss).foldl (i6 (G9 p)) (c, b, n)).1 ((B3 p (d + 1) cx ss).foldl (i6 (G9 p)) (c, b, n)).2.2 ((B3 p (d + 1) cx ss).foldl (i6 (G9 p)) (c, b, n)).2.1 ++ [.dat (.stmts ss)], .tup []⟩ := by
  refine G3 44 Tryz.func93 [dI p.vars, dI p.arrays, dT p.body, .box [iA c], .box [.bm 67 [pA 0]], .box [iA n], .box [iA b], dT ss] [(0, pA 0), (1, .ref 7), (2, iA cx), (3, aj1)] fun G => ?_; have hlen : ss.length ≤ 9223372036854775807 := G.len 7 (d := .stmts ss) (by kernel_rfl); refine wp_seq (m6 G f9 (rg 9) [dI p.vars, dI p.arrays, dT p.body, .box [iA c], .box [.bm 67 [pA 0]], .box [iA n], .box [iA b], dT ss, .box (pL 0)] [(1, .ref 7), (2, iA cx), (3, aj1), (4, .ptr 8 0)] fun G => b5 (wp_seq (J3 G f9 [(2, iA cx), (3, aj1), (4, .ptr 8 0), (11, .ref 7), (12, iA (ss.length : Int)), (13, iA 0)] fun G => b5 (wp_block ?_)))); refine x7 (κ := Nat) (fun k => k ≤ ss.length) (fun k => ss.length - k) (fun k => [dI p.vars, dI p.arrays, dT p.body, .box [iA (P0 (G9 p) p d cx ss c b n k).1], .box [.bm 67 [pA 0]], .box [iA (P0 (G9 p) p d cx ss c b n k).2.2], .box [iA (P0 (G9 p) p d cx ss c b n k).2.1], dT ss, .box (pL 0)]) (fun k => [(2, iA cx), (3, .fn 137 [.ptr 3 0, .ptr 4 0, .ptr 5 0, .ptr 6 0]), (4, .ptr 8 0), (11, .ref 7), (12, iA (ss.length : Int)), (13, iA k)]) 0 (by simp [hs]) (x9.at G _ _) ?_; clear G; intro k ρ a w hp G; replace G := x9.at G [dI p.vars, dI p.arrays, dT p.body, .box [iA (P0 (G9 p) p d cx ss c b n k).fst], .box [.bm 67 [pA 0]], .box [iA ((P0 (G9 p) p d cx ss c b n k).snd.snd : Int)], .box [iA (P0 (G9 p) p d cx ss c b n k).snd.fst], dT ss, .box (pL 0)] ((2, iA cx) :: (3, aj1) :: (4, .ptr 8 0) :: (az2 ss k [])); refine wp_seq (l5 G f9 [(14, bA (decide ((k : Int) < ss.length)))] fun G => b5 (wp_seq (W0 G (fun h0 q0 => ?_) fun h0 q0 => ?_)))
  · refine wp_exit (v8 (v8 (v7 ?_))); exact aO1 G (rg 8) (by show _ = mR (rg 8) [dI p.vars, dI p.arrays, dT p.body, .box [iA (bT8 (i6 (G9 p)) (c, b, n) (B3 p (d + 1) cx ss)).fst], .box [.bm am4 [pA 0]], .box [iA ((bT8 (i6 (G9 p)) (c, b, n) (B3 p (d + 1) cx ss)).snd.snd : Int)], .box [iA (bT8 (i6 (G9 p)) (c, b, n) (B3 p (d + 1) cx ss)).snd.fst], dT ss]; have e1 : ((bT8 (i6 (G9 p)) (c, b, n) (B3 p (d + 1) cx ss)).fst : Int) = ((P0 (G9 p) p d cx ss c b n k).fst) := (congrArg Prod.fst (as3 (by omega))); have e2 : (((bT8 (i6 (G9 p)) (c, b, n) (B3 p (d + 1) cx ss)).snd.snd : Int) : Int) = (((P0 (G9 p) p d cx ss c b n k).snd.snd : Int)) := (congrArg (fun x : Int × Int × Nat => Int.ofNat x.2.2) (as3 (by omega))); have e3 : ((bT8 (i6 (G9 p)) (c, b, n) (B3 p (d + 1) cx ss)).snd.fst : Int) = ((P0 (G9 p) p d cx ss c b n k).snd.fst) := (congrArg (fun x : Int × Int × Nat => x.2.1) (as3 (by omega))); (first | rw [e1, e2, e3] | simp only [e1, e2, e3]) <;> rfl)
  ·
   refine wp_skip (b5 (wp_seq (wp_block (wp_seq (M7 G f9 [0, 1, 2, 3, 4, 5, 6, 7, 8, 17, 18, 19, 20, 25] (dI p.vars :: dI p.arrays :: dT p.body :: .box [iA (P0 (G9 p) p d cx ss c b n k).fst] :: .box [.bm 67 [pA 0]] :: .box [iA ((P0 (G9 p) p d cx ss c b n k).snd.snd : Int)] :: .box [iA (P0 (G9 p) p d cx ss c b n k).snd.fst] :: (a74 ss k [])) ((2, iA cx) :: (3, aj1) :: (4, .ptr 8 0) :: (9, .ptr 13 0) :: (az2 ss k [])) (iX k k ss.length []) (iK (by omega) bR2) fun G => b5 (wp_seq (m6 G (A0 3 [0, 1, 2, 3, 4, 5, 6, 9, 10, 11, 12] (bA1 p (ss.getD k bR0) cx ((P0 (G9 p) p d cx ss c b n k).fst) ((P0 (G9 p) p d cx ss c b n k).snd.fst) ((P0 (G9 p) p d cx ss c b n k).snd.snd) (bc1 (by omega) hn) ((A4 hs (by omega)).1))) (rg 14) (dI p.vars :: dI p.arrays :: dT p.body :: .box [iA (an3 p d ss cx c b n k).fst] :: .box [.bm 67 [pA 0]] :: .box [iA ((an3 p d ss cx c b n k).snd.snd : Int)] :: .box [iA (an3 p d ss cx c b n k).snd.fst] :: (a74 ss k [])) ((2, iA cx) :: (3, aj1) :: (4, .ptr 8 0) :: (9, .ptr 13 0) :: (az2 ss k [])) fun G => b5 (wp_seq (l5 G f9 [(10, iA cx)] fun G => b5 (wp_seq (wp_seq (l5 G f9 [(24, bA ((ss.getD k bR0).kind == 3))] fun G => b5 (U9 G (fun h1 q1 => ?_) fun h1 q1 => ?_)))))))))))))
   · refine wp_skip (b5 (wp_seq (m6 G (A0 5 [0, 1, 2, 3, 4, 5, 6, 11] (ih ((ss.getD k bR0).body) cx ((an3 p d ss cx c b n k).fst) ((an3 p d ss cx c b n k).snd.fst) ((an3 p d ss cx c b n k).snd.snd) (by omega) ((A4 hs (by omega)).2.1) (ax8 (by omega) hn))) (rg 14) (dI p.vars :: dI p.arrays :: dT p.body :: .box [iA (an4 p d ss cx c b n k).fst] :: .box [.bm 67 [pA 0]] :: .box [iA ((an4 p d ss cx c b n k).snd.snd : Int)] :: .box [iA (an4 p d ss cx c b n k).snd.fst] :: (a74 ss k [])) ((2, iA cx) :: (3, aj1) :: (4, .ptr 8 0) :: (9, .ptr 13 0) :: (10, iA cx) :: (az2 ss k [])) fun G => b5 (m6 G (A0 5 [0, 1, 2, 3, 4, 5, 6, 12] (ih ((ss.getD k bR0).els) cx ((an4 p d ss cx c b n k).fst) ((an4 p d ss cx c b n k).snd.fst) ((an4 p d ss cx c b n k).snd.snd) (by omega) ((A4 hs (by omega)).2.2) (ax7 (by omega) hn aB3))) (rg 9) [dI p.vars, dI p.arrays, dT p.body, .box [iA (bT8 (i6 (G9 p)) (an4 p d ss cx c b n k) (B3 p d cx (ss.getD k bR0).els)).fst], .box [.bm 67 [pA 0]], .box [iA ((bT8 (i6 (G9 p)) (an4 p d ss cx c b n k) (B3 p d cx (ss.getD k bR0).els)).snd.snd : Int)], .box [iA (bT8 (i6 (G9 p)) (an4 p d ss cx c b n k) (B3 p d cx (ss.getD k bR0).els)).snd.fst], dT ss, .box (pL 0)] ((2, iA cx) :: (3, aj1) :: (4, .ptr 8 0) :: (az2 ss k [])) fun G => o5 (b5 (H0 G f9 [(13, iA ((k : Int) + 1))] [wO ((k : Int) + 1)] (o1 (by omega)) fun G => b5 ?_)))))); exact Q6 G (k + 1) (by omega) (by omega) (rg 9) (by have h9 := bL1 (R := (G9 p)) (p := p) (d := d) (cx := cx) (ss := ss) (c := c) (b := b) (n := n) (k := k) (by omega) (by assumption); rw [h9] <;> rfl)
   · refine l5 G (A0 4 [0, 1, 2, 10] (U0 p ((ss.getD k bR0).value) (v6 (A4 hs (by omega)).1 (by omega)))) [(10, iA (o7 cx (i7 p (ss.getD k bR0).value)))] fun G => b5 (wp_seq (m6 G (A0 5 [0, 1, 2, 3, 4, 5, 6, 11] (ih ((ss.getD k bR0).body) (o7 cx (i7 p (ss.getD k bR0).value)) ((an3 p d ss cx c b n k).fst) ((an3 p d ss cx c b n k).snd.fst) ((an3 p d ss cx c b n k).snd.snd) (by omega) ((A4 hs (by omega)).2.1) (ax8 (by omega) hn))) (rg 14) (dI p.vars :: dI p.arrays :: dT p.body :: .box [iA (az9 p d ss cx c b n k).fst] :: .box [.bm 67 [pA 0]] :: .box [iA ((az9 p d ss cx c b n k).snd.snd : Int)] :: .box [iA (az9 p d ss cx c b n k).snd.fst] :: (a74 ss k [])) ((2, iA cx) :: (3, aj1) :: (4, .ptr 8 0) :: (9, .ptr 13 0) :: (10, iA (o7 cx (i7 p (ss.getD k bR0).value))) :: (az2 ss k [])) fun G => b5 (m6 G (A0 5 [0, 1, 2, 3, 4, 5, 6, 12] (ih ((ss.getD k bR0).els) (o7 cx (i7 p (ss.getD k bR0).value)) ((az9 p d ss cx c b n k).fst) ((az9 p d ss cx c b n k).snd.fst) ((az9 p d ss cx c b n k).snd.snd) (by omega) ((A4 hs (by omega)).2.2) (ax7 (by omega) hn aB3))) (rg 9) [dI p.vars, dI p.arrays, dT p.body, .box [iA (aI8 p d ss cx c b n k).fst], .box [.bm 67 [pA 0]], .box [iA ((aI8 p d ss cx c b n k).snd.snd : Int)], .box [iA (aI8 p d ss cx c b n k).snd.fst], dT ss, .box (pL 0)] ((2, iA cx) :: (3, aj1) :: (4, .ptr 8 0) :: (az2 ss k [])) fun G => o5 (b5 (H0 G f9 [(13, iA ((k : Int) + 1))] [wO ((k : Int) + 1)] (o1 (by omega)) fun G => b5 ?_))))); exact Q6 G (k + 1) (by omega) (by omega) (rg 9) (by have e1 : ((P0 (G9 p) p d cx ss c b n (k + 1)).fst : Int) = ((aI8 p d ss cx c b n k).fst) := (congrArg Prod.fst (bg6 (by omega) (by assumption))); have e2 : (((P0 (G9 p) p d cx ss c b n (k + 1)).snd.snd : Int) : Int) = (((aI8 p d ss cx c b n k).snd.snd : Int)) := (congrArg (fun x : Int × Int × Nat => Int.ofNat x.2.2) (bg6 (by omega) (by assumption))); have e3 : ((P0 (G9 p) p d cx ss c b n (k + 1)).snd.fst : Int) = ((aI8 p d ss cx c b n k).snd.fst) := (congrArg (fun x : Int × Int × Nat => x.2.1) (bg6 (by omega) (by assumption))); (first | rw [e1, e2, e3] | simp only [e1, e2, e3]) <;> rfl)
theorem bH1 {nv na d k : Nat} {ss : List b6} (hs : ss.all (i5 nv na (d + 1)) = true) (hk : k < ss.length) : okS nv na 5 (ss.getD k bR0).value := by
 have h1 := A4 hs hk
 by_cases k4 : (ss.getD k bR0).kind = 4
 ·have h0 := bR9.1 hs _ (bS7 hk)
  rw [← s4 (d := bR0) hk] at h0
  rw [i5, bR1] at h0
  have h2 := h0.1
  unfold B6 at h2
  rw [if_pos (.inr k4), if_pos k4] at h2
  simp only [bR1, decide_eq_true_eq, noneB] at h2
  exact .inl ⟨h2.2.2.1.1, bT3 h2.2.2.2⟩
 ·exact .inr (v6 h1.1 k4)
abbrev aI7 (p : f5) (s : b6) (cx : Int) (c : Int) (b : Int) (n : Nat) : List It := [dI p.vars, dI p.arrays, dT p.body, .box [iA (i6 (G8 p) (c, b, n) (s, cx)).fst], .box [.bm am3 [pA 0]], .box [iA ((i6 (G8 p) (c, b, n) (s, cx)).snd.snd : Int)], .box [iA (i6 (G8 p) (c, b, n) (s, cx)).snd.fst], dE s.index.kids, dE s.value.kids, dT s.body, dT s.els]
abbrev az1 (s : b6) (r0 : List It) : List It := dE s.index.kids :: dE s.value.kids :: dT s.body :: dT s.els :: r0
theorem bA0 (p : f5) (s : b6) (cx : Int) (c b : Int) (n : Nat) (hn : n + 1 ≤ 4000000) (h : C1 p.vars.length p.arrays.length s = true) (hv : okS p.vars.length p.arrays.length 5 s.value) :
    l7.ok Tryz.prog ⟨137, [sA s 7, iA cx, .ptr 3 0, .ptr 4 0, .ptr 5 0, .ptr 6 0], pS p ++ fcB am3 c n b ++ sS s,
      pS p ++ fcB am3 (i6 (G8 p) (c, b, n) (s, cx)).1 (i6 (G8 p) (c, b, n) (s, cx)).2.2 (i6 (G8 p) (c, b, n) (s, cx)).2.1 ++ sS s, .tup []⟩ := by
  refine G3 19 Tryz.func137 (dI p.vars :: dI p.arrays :: dT p.body :: .box [iA c] :: .box [.bm 68 [pA 0]] :: .box [iA n] :: .box [iA b] :: (az1 s [])) [(0, sA s 7), (1, iA cx), (2, .ptr 3 0), (3, .ptr 4 0), (4, .ptr 5 0), (5, .ptr 6 0)] fun G => ?_; refine wp_seq (m6 G f9 (rg 12) (dI p.vars :: dI p.arrays :: dT p.body :: .box [iA c] :: .box [.bm 68 [pA 0]] :: .box [iA n] :: .box [iA b] :: (az1 s [.box (sL s 7)])) [(1, iA cx), (2, .ptr 3 0), (3, .ptr 4 0), (4, .ptr 5 0), (5, .ptr 6 0), (6, .ptr 11 0)] fun G => b5 (wp_seq (wp_seq (l5 G f9 [(9, bA (c == 0))] fun G => b5 (U9 G (fun h0 q0 => ?_) fun h0 q0 => ?_)))))
  · refine wp_skip (b5 (M7 G f9 (rg 11) (dI p.vars :: dI p.arrays :: dT p.body :: .box [iA c] :: .box [.bm 68 [pA 0]] :: .box [iA ((n : Int) + 1)] :: .box [iA b] :: (az1 s [])) [] [wO ((n : Int) + 1)] (o1 (by omega)) fun G => ?_)); exact aO1 G (rg 11) (by show _ = mR (rg 11) (aI7 p s cx c b n); unfold aI7; have e1 : ((i6 (G8 p) (c, b, n) (s, cx)).fst : Int) = (c) := (bI0 (by assumption)); have e2 : (((i6 (G8 p) (c, b, n) (s, cx)).snd.snd : Int) : Int) = ((n : Int) + 1) := (congrArg Int.ofNat aB3); have e3 : ((i6 (G8 p) (c, b, n) (s, cx)).snd.fst : Int) = (b) := (bH9 (by assumption)); (first | rw [e1, e2, e3] | simp only [e1, e2, e3]) <;> rfl)
  ·
   refine wp_seq (m6 G (A0 3 [0, 1, 2, 7, 8, 9, 10] (bG6 p s cx (by assumption) (by assumption))) (rg 11) (dI p.vars :: dI p.arrays :: dT p.body :: .box [iA (V4 p s)] :: .box [.bm 68 [pA 0]] :: .box [iA n] :: .box [iA b] :: (az1 s [])) [(2, .ptr 3 0), (4, .ptr 5 0), (5, .ptr 6 0)] fun G => b5 (wp_seq (l5 G f9 [(15, bA (V4 p s != 0))] fun G => b5 (rcN G (fun h1 q1 => ?_) fun h1 q1 => ?_))))
   · refine wp_skip (b5 (M7 G f9 (rg 11) (dI p.vars :: dI p.arrays :: dT p.body :: .box [iA (V4 p s)] :: .box [.bm 68 [pA 0]] :: .box [iA ((n : Int) + 1)] :: .box [iA b] :: (az1 s [])) [] [wO ((n : Int) + 1)] (o1 (by omega)) fun G => ?_)); exact aO1 G (rg 11) (by show _ = mR (rg 11) (aI7 p s cx c b n); unfold aI7; have e1 : ((i6 (G8 p) (c, b, n) (s, cx)).fst : Int) = (V4 p s) := (bv4 (by assumption)); have e2 : (((i6 (G8 p) (c, b, n) (s, cx)).snd.snd : Int) : Int) = ((n : Int) + 1) := (congrArg Int.ofNat aB3); have e3 : ((i6 (G8 p) (c, b, n) (s, cx)).snd.fst : Int) = (b) := (bH8 (by assumption) (by assumption)); (first | rw [e1, e2, e3] | simp only [e1, e2, e3]) <;> rfl)
   · refine m6 G f9 (rg 11) (dI p.vars :: dI p.arrays :: dT p.body :: .box [iA (V4 p s)] :: .box [.bm 68 [pA 0]] :: .box [iA n] :: .box [iA n] :: (az1 s [])) [(4, .ptr 5 0)] fun G => b5 (M7 G f9 (rg 11) (dI p.vars :: dI p.arrays :: dT p.body :: .box [iA (V4 p s)] :: .box [.bm 68 [pA 0]] :: .box [iA ((n : Int) + 1)] :: .box [iA n] :: (az1 s [])) [] [wO ((n : Int) + 1)] (o1 (by omega)) fun G => ?_); exact aO1 G (rg 11) (by show _ = mR (rg 11) (aI7 p s cx c b n); unfold aI7; have e1 : ((i6 (G8 p) (c, b, n) (s, cx)).fst : Int) = (V4 p s) := (bv4 (by assumption)); have e2 : (((i6 (G8 p) (c, b, n) (s, cx)).snd.snd : Int) : Int) = ((n : Int) + 1) := (congrArg Int.ofNat aB3); have e3 : ((i6 (G8 p) (c, b, n) (s, cx)).snd.fst : Int) = ((n : Int)) := (bH7 (by assumption) (by assumption)); (first | rw [e1, e2, e3] | simp only [e1, e2, e3]) <;> rfl)
abbrev az8 (p : f5) (d : Nat) (ss : List b6) (cx : Int) (c : Int) (b : Int) (n : Nat) (k : Nat) := bT8 (i6 (G8 p)) (i6 (G8 p) (P0 (G8 p) p d cx ss c b n k) (ss.getD k bR0, cx)) (B3 p d (o7 cx (i7 p (ss.getD k bR0).value)) (ss.getD k bR0).body)
abbrev an2 (p : f5) (d : Nat) (ss : List b6) (cx : Int) (c : Int) (b : Int) (n : Nat) (k : Nat) := bT8 (i6 (G8 p)) (i6 (G8 p) (P0 (G8 p) p d cx ss c b n k) (ss.getD k bR0, cx)) (B3 p d cx (ss.getD k bR0).body)
abbrev aI6 (p : f5) (d : Nat) (ss : List b6) (cx : Int) (c : Int) (b : Int) (n : Nat) (k : Nat) := bT8 (i6 (G8 p)) (az8 p d ss cx c b n k) (B3 p d (o7 cx (i7 p (ss.getD k bR0).value)) (ss.getD k bR0).els)
abbrev aa5 (p : f5) (d : Nat) (ss : List b6) (cx : Int) (c : Int) (b : Int) (n : Nat) (k : Nat) := i6 (G8 p) (P0 (G8 p) p d cx ss c b n k) (ss.getD k bR0, cx)
abbrev X7 : AV := .fn 137 [.ptr 3 0, .ptr 4 0, .ptr 5 0, .ptr 6 0]
abbrev a73 (ss : List b6) (k : Nat) (r0 : List It) : List It := dT ss :: .box (pL 0) :: dE (ss.getD k bR0).index.kids :: dE (ss.getD k bR0).value.kids :: dT (ss.getD k bR0).body :: dT (ss.getD k bR0).els :: .box (sL (ss.getD k bR0) 9) :: r0
abbrev az0 (ss : List b6) (k : Nat) (r0 : List (Nat × AV)) : List (Nat × AV) := (11, .ref 7) :: (12, iA (ss.length : Int)) :: (13, iA (k : Int)) :: r0
theorem aZ2 (p : f5) (d : Nat) (ss : List b6) (ih : ∀ (tt : List b6) (cx : Int) (c b : Int) (n : Nat), 0 < ss.length → tt.all (i5 p.vars.length p.arrays.length d) = true → n + I8 tt ≤ 4000000 → l7.ok Tryz.prog ⟨93, [pA 0, .ref 7, iA cx, .fn 137 [.ptr 3 0, .ptr 4 0, .ptr 5 0, .ptr 6 0]], pS p ++ fcB am3 c n b ++ [.dat (.stmts tt)],
      pS p ++ fcB am3 ((B3 p d cx tt).foldl (i6 (G8 p)) (c, b, n)).1 ((B3 p d cx tt).foldl (i6 (G8 p)) (c, b, n)).2.2 ((B3 p d cx tt).foldl (i6 (G8 p)) (c, b, n)).2.1 ++ [.dat (.stmts tt)], .tup []⟩)
    (cx : Int) (c b : Int) (n : Nat) (hs : ss.all (i5 p.vars.length p.arrays.length (d + 1)) = true) (hn : n + I8 ss ≤ 4000000) : l7.ok Tryz.prog ⟨93, [pA 0, .ref 7, iA cx, .fn 137 [.ptr 3 0, .ptr 4 0, .ptr 5 0, .ptr 6 0]], pS p ++ fcB am3 c n b ++ [.dat (.stmts ss)],
      pS p ++ fcB am3 ((B3 p (d + 1) cx ss).foldl (i6 (G8 p)) (c, b, n)).1 ((B3 p (d + 1) cx ss).foldl (i6 (G8 p)) (c, b, n)).2.2 ((B3 p (d + 1) cx ss).foldl (i6 (G8 p)) (c, b, n)).2.1 ++ [.dat (.stmts ss)], .tup []⟩ := by
  refine G3 44 Tryz.func93 [dI p.vars, dI p.arrays, dT p.body, .box [iA c], .box [.bm 68 [pA 0]], .box [iA n], .box [iA b], dT ss] [(0, pA 0), (1, .ref 7), (2, iA cx), (3, X7)] fun G => ?_; have hlen : ss.length ≤ 9223372036854775807 := G.len 7 (d := .stmts ss) (by kernel_rfl); refine wp_seq (m6 G f9 (rg 9) [dI p.vars, dI p.arrays, dT p.body, .box [iA c], .box [.bm 68 [pA 0]], .box [iA n], .box [iA b], dT ss, .box (pL 0)] [(1, .ref 7), (2, iA cx), (3, X7), (4, .ptr 8 0)] fun G => b5 (wp_seq (J3 G f9 [(2, iA cx), (3, X7), (4, .ptr 8 0), (11, .ref 7), (12, iA (ss.length : Int)), (13, iA 0)] fun G => b5 (wp_block ?_)))); refine x7 (κ := Nat) (fun k => k ≤ ss.length) (fun k => ss.length - k) (fun k => [dI p.vars, dI p.arrays, dT p.body, .box [iA (P0 (G8 p) p d cx ss c b n k).1], .box [.bm 68 [pA 0]], .box [iA (P0 (G8 p) p d cx ss c b n k).2.2], .box [iA (P0 (G8 p) p d cx ss c b n k).2.1], dT ss, .box (pL 0)]) (fun k => [(2, iA cx), (3, .fn 137 [.ptr 3 0, .ptr 4 0, .ptr 5 0, .ptr 6 0]), (4, .ptr 8 0), (11, .ref 7), (12, iA (ss.length : Int)), (13, iA k)]) 0 (by simp [hs]) (x9.at G _ _) ?_; clear G; intro k ρ a w hp G; replace G := x9.at G [dI p.vars, dI p.arrays, dT p.body, .box [iA (P0 (G8 p) p d cx ss c b n k).fst], .box [.bm 68 [pA 0]], .box [iA ((P0 (G8 p) p d cx ss c b n k).snd.snd : Int)], .box [iA (P0 (G8 p) p d cx ss c b n k).snd.fst], dT ss, .box (pL 0)] ((2, iA cx) :: (3, X7) :: (4, .ptr 8 0) :: (az0 ss k [])); refine wp_seq (l5 G f9 [(14, bA (decide ((k : Int) < ss.length)))] fun G => b5 (wp_seq (W0 G (fun h0 q0 => ?_) fun h0 q0 => ?_)))
  · refine wp_exit (v8 (v8 (v7 ?_))); exact aO1 G (rg 8) (by show _ = mR (rg 8) [dI p.vars, dI p.arrays, dT p.body, .box [iA (bT8 (i6 (G8 p)) (c, b, n) (B3 p (d + 1) cx ss)).fst], .box [.bm am3 [pA 0]], .box [iA ((bT8 (i6 (G8 p)) (c, b, n) (B3 p (d + 1) cx ss)).snd.snd : Int)], .box [iA (bT8 (i6 (G8 p)) (c, b, n) (B3 p (d + 1) cx ss)).snd.fst], dT ss]; have e1 : ((bT8 (i6 (G8 p)) (c, b, n) (B3 p (d + 1) cx ss)).fst : Int) = ((P0 (G8 p) p d cx ss c b n k).fst) := (congrArg Prod.fst (as3 (by omega))); have e2 : (((bT8 (i6 (G8 p)) (c, b, n) (B3 p (d + 1) cx ss)).snd.snd : Int) : Int) = (((P0 (G8 p) p d cx ss c b n k).snd.snd : Int)) := (congrArg (fun x : Int × Int × Nat => Int.ofNat x.2.2) (as3 (by omega))); have e3 : ((bT8 (i6 (G8 p)) (c, b, n) (B3 p (d + 1) cx ss)).snd.fst : Int) = ((P0 (G8 p) p d cx ss c b n k).snd.fst) := (congrArg (fun x : Int × Int × Nat => x.2.1) (as3 (by omega))); (first | rw [e1, e2, e3] | simp only [e1, e2, e3]) <;> rfl)
  ·
   refine wp_skip (b5 (wp_seq (wp_block (wp_seq (M7 G f9 [0, 1, 2, 3, 4, 5, 6, 7, 8, 17, 18, 19, 20, 25] (dI p.vars :: dI p.arrays :: dT p.body :: .box [iA (P0 (G8 p) p d cx ss c b n k).fst] :: .box [.bm 68 [pA 0]] :: .box [iA ((P0 (G8 p) p d cx ss c b n k).snd.snd : Int)] :: .box [iA (P0 (G8 p) p d cx ss c b n k).snd.fst] :: (a73 ss k [])) ((2, iA cx) :: (3, X7) :: (4, .ptr 8 0) :: (9, .ptr 13 0) :: (az0 ss k [])) (iX k k ss.length []) (iK (by omega) bR2) fun G => b5 (wp_seq (m6 G (A0 3 [0, 1, 2, 3, 4, 5, 6, 9, 10, 11, 12] (bA0 p (ss.getD k bR0) cx ((P0 (G8 p) p d cx ss c b n k).fst) ((P0 (G8 p) p d cx ss c b n k).snd.fst) ((P0 (G8 p) p d cx ss c b n k).snd.snd) (bc1 (by omega) hn) ((A4 hs (by omega)).1) (bH1 hs (by omega)))) (rg 14) (dI p.vars :: dI p.arrays :: dT p.body :: .box [iA (aa5 p d ss cx c b n k).fst] :: .box [.bm 68 [pA 0]] :: .box [iA ((aa5 p d ss cx c b n k).snd.snd : Int)] :: .box [iA (aa5 p d ss cx c b n k).snd.fst] :: (a73 ss k [])) ((2, iA cx) :: (3, X7) :: (4, .ptr 8 0) :: (9, .ptr 13 0) :: (az0 ss k [])) fun G => b5 (wp_seq (l5 G f9 [(10, iA cx)] fun G => b5 (wp_seq (wp_seq (l5 G f9 [(24, bA ((ss.getD k bR0).kind == 3))] fun G => b5 (U9 G (fun h1 q1 => ?_) fun h1 q1 => ?_)))))))))))))
   · refine wp_skip (b5 (wp_seq (m6 G (A0 5 [0, 1, 2, 3, 4, 5, 6, 11] (ih ((ss.getD k bR0).body) cx ((aa5 p d ss cx c b n k).fst) ((aa5 p d ss cx c b n k).snd.fst) ((aa5 p d ss cx c b n k).snd.snd) (by omega) ((A4 hs (by omega)).2.1) (ax8 (by omega) hn))) (rg 14) (dI p.vars :: dI p.arrays :: dT p.body :: .box [iA (an2 p d ss cx c b n k).fst] :: .box [.bm 68 [pA 0]] :: .box [iA ((an2 p d ss cx c b n k).snd.snd : Int)] :: .box [iA (an2 p d ss cx c b n k).snd.fst] :: (a73 ss k [])) ((2, iA cx) :: (3, X7) :: (4, .ptr 8 0) :: (9, .ptr 13 0) :: (10, iA cx) :: (az0 ss k [])) fun G => b5 (m6 G (A0 5 [0, 1, 2, 3, 4, 5, 6, 12] (ih ((ss.getD k bR0).els) cx ((an2 p d ss cx c b n k).fst) ((an2 p d ss cx c b n k).snd.fst) ((an2 p d ss cx c b n k).snd.snd) (by omega) ((A4 hs (by omega)).2.2) (ax7 (by omega) hn aB3))) (rg 9) [dI p.vars, dI p.arrays, dT p.body, .box [iA (bT8 (i6 (G8 p)) (an2 p d ss cx c b n k) (B3 p d cx (ss.getD k bR0).els)).fst], .box [.bm 68 [pA 0]], .box [iA ((bT8 (i6 (G8 p)) (an2 p d ss cx c b n k) (B3 p d cx (ss.getD k bR0).els)).snd.snd : Int)], .box [iA (bT8 (i6 (G8 p)) (an2 p d ss cx c b n k) (B3 p d cx (ss.getD k bR0).els)).snd.fst], dT ss, .box (pL 0)] ((2, iA cx) :: (3, X7) :: (4, .ptr 8 0) :: (az0 ss k [])) fun G => o5 (b5 (H0 G f9 [(13, iA ((k : Int) + 1))] [wO ((k : Int) + 1)] (o1 (by omega)) fun G => b5 ?_)))))); exact Q6 G (k + 1) (by omega) (by omega) (rg 9) (by have h9 := bL1 (R := (G8 p)) (p := p) (d := d) (cx := cx) (ss := ss) (c := c) (b := b) (n := n) (k := k) (by omega) (by assumption); rw [h9] <;> rfl)
   · refine l5 G (A0 4 [0, 1, 2, 10] (U0 p ((ss.getD k bR0).value) (v6 (A4 hs (by omega)).1 (by omega)))) [(10, iA (o7 cx (i7 p (ss.getD k bR0).value)))] fun G => b5 (wp_seq (m6 G (A0 5 [0, 1, 2, 3, 4, 5, 6, 11] (ih ((ss.getD k bR0).body) (o7 cx (i7 p (ss.getD k bR0).value)) ((aa5 p d ss cx c b n k).fst) ((aa5 p d ss cx c b n k).snd.fst) ((aa5 p d ss cx c b n k).snd.snd) (by omega) ((A4 hs (by omega)).2.1) (ax8 (by omega) hn))) (rg 14) (dI p.vars :: dI p.arrays :: dT p.body :: .box [iA (az8 p d ss cx c b n k).fst] :: .box [.bm 68 [pA 0]] :: .box [iA ((az8 p d ss cx c b n k).snd.snd : Int)] :: .box [iA (az8 p d ss cx c b n k).snd.fst] :: (a73 ss k [])) ((2, iA cx) :: (3, X7) :: (4, .ptr 8 0) :: (9, .ptr 13 0) :: (10, iA (o7 cx (i7 p (ss.getD k bR0).value))) :: (az0 ss k [])) fun G => b5 (m6 G (A0 5 [0, 1, 2, 3, 4, 5, 6, 12] (ih ((ss.getD k bR0).els) (o7 cx (i7 p (ss.getD k bR0).value)) ((az8 p d ss cx c b n k).fst) ((az8 p d ss cx c b n k).snd.fst) ((az8 p d ss cx c b n k).snd.snd) (by omega) ((A4 hs (by omega)).2.2) (ax7 (by omega) hn aB3))) (rg 9) [dI p.vars, dI p.arrays, dT p.body, .box [iA (aI6 p d ss cx c b n k).fst], .box [.bm 68 [pA 0]], .box [iA ((aI6 p d ss cx c b n k).snd.snd : Int)], .box [iA (aI6 p d ss cx c b n k).snd.fst], dT ss, .box (pL 0)] ((2, iA cx) :: (3, X7) :: (4, .ptr 8 0) :: (az0 ss k [])) fun G => o5 (b5 (H0 G f9 [(13, iA ((k : Int) + 1))] [wO ((k : Int) + 1)] (o1 (by omega)) fun G => b5 ?_))))); exact Q6 G (k + 1) (by omega) (by omega) (rg 9) (by have e1 : ((P0 (G8 p) p d cx ss c b n (k + 1)).fst : Int) = ((aI6 p d ss cx c b n k).fst) := (congrArg Prod.fst (bg6 (by omega) (by assumption))); have e2 : (((P0 (G8 p) p d cx ss c b n (k + 1)).snd.snd : Int) : Int) = (((aI6 p d ss cx c b n k).snd.snd : Int)) := (congrArg (fun x : Int × Int × Nat => Int.ofNat x.2.2) (bg6 (by omega) (by assumption))); have e3 : ((P0 (G8 p) p d cx ss c b n (k + 1)).snd.fst : Int) = ((aI6 p d ss cx c b n k).snd.fst) := (congrArg (fun x : Int × Int × Nat => x.2.1) (bg6 (by omega) (by assumption))); (first | rw [e1, e2, e3] | simp only [e1, e2, e3]) <;> rfl)
theorem bu2 (p : f5) : ∀ (d : Nat) (ss : List b6) (cx : Int) (c b : Int) (n : Nat), ss.all (i5 p.vars.length p.arrays.length d) = true → n + I8 ss ≤ 4000000 → l7.ok Tryz.prog ⟨93, [pA 0, .ref 7, iA cx, .fn 137 [.ptr 3 0, .ptr 4 0, .ptr 5 0, .ptr 6 0]], pS p ++ fcB am4 c n b ++ [.dat (.stmts ss)],
   pS p ++ fcB am4 ((B3 p d cx ss).foldl (i6 (G9 p)) (c, b, n)).1 ((B3 p d cx ss).foldl (i6 (G9 p)) (c, b, n)).2.2 ((B3 p d cx ss).foldl (i6 (G9 p)) (c, b, n)).2.1 ++ [.dat (.stmts ss)], .tup []⟩ := by
 intro d
 induction d with
 | zero =>
  intro ss cx c b n hs hn
  have h0 : ss = [] := by
   cases ss with
   | nil => rfl
   | cons a r => simp [i5] at hs
  subst h0
  exact aZ3 p 0 [] (fun _ _ _ _ _ h => absurd h (by simp)) cx c b n rfl hn
 | succ d ih => intro ss cx c b n hs hn; exact aZ3 p d ss (fun tt cx c b n _ h1 h2 => ih tt cx c b n h1 h2) cx c b n hs hn
theorem bu1 (p : f5) (h : m0 p = true) : l7.ok Tryz.prog ⟨93, [pA 0, .ref 2, iA 0, .fn 137 [.ptr 3 0, .ptr 4 0, .ptr 5 0, .ptr 6 0]], pS p ++ fcB am4 0 0 (-1),
   pS p ++ fcB am4 ((B3 p 5 0 p.body).foldl (i6 (G9 p)) (0, -1, 0)).1 ((B3 p 5 0 p.body).foldl (i6 (G9 p)) (0, -1, 0)).2.2 ((B3 p 5 0 p.body).foldl (i6 (G9 p)) (0, -1, 0)).2.1, .tup []⟩ :=
 l7.dup (S := pS p ++ fcB am4 0 0 (-1)) (S' := pS p ++ fcB am4 ((B3 p 5 0 p.body).foldl (i6 (G9 p)) (0, -1, 0)).1 ((B3 p 5 0 p.body).foldl (i6 (G9 p)) (0, -1, 0)).2.2 ((B3 p 5 0 p.body).foldl (i6 (G9 p)) (0, -1, 0)).2.1) (d := .stmts p.body) (i := 2) (bu2 p 5 p.body 0 0 (-1) 0 (K0 h).1 (by have := (K0 h).2; omega)) rfl rfl rfl (fun ρ h => by simp only [AV.vals, AV.val]; rw [show ρ 7 = ρ 2 from h]) rfl
theorem a70 (p : f5) (h : m0 p = true) : l7.ok Tryz.prog (I7 66 [pA 0, .bm am4 [pA 0]] (pS p) (.tup [iA ((B3 p 5 0 p.body).foldl (i6 (G9 p)) (0, -1, 0)).1, iA ((B3 p 5 0 p.body).foldl (i6 (G9 p)) (0, -1, 0)).2.1])) := by
 refine G3 16 Tryz.func66 [dI p.vars, dI p.arrays, dT p.body] [(0, pA 0), (1, .bm 67 [pA 0])] fun G => ?_; refine wp_seq (m6 G f9 [0, 1, 2, 3, 11] [dI p.vars, dI p.arrays, dT p.body, .box (pL 0), .box [.bm 67 [pA 0]]] [(0, pA 0), (2, .ptr 3 0), (3, .ptr 4 0), (4, iA 0), (5, iA 0)] fun G => b5 (wp_seq (m6 G f9 [0, 1, 2, 3, 4, 5, 13, 21] [dI p.vars, dI p.arrays, dT p.body, .box (pL 0), .box [.bm 67 [pA 0]], .box [iA 0], .box [iA (-1)], .box [iA 0]] [(0, pA 0), (2, .ptr 3 0), (3, .ptr 4 0), (4, iA 0), (5, iA 0), (6, .ptr 5 0), (7, .ptr 6 0), (8, .ptr 7 0)] fun G => b5 (wp_seq (m6 G (A0 4 [0, 1, 2, 5, 4, 7, 6] (bu1 p (by assumption))) [0, 1, 2, 5, 6] [dI p.vars, dI p.arrays, dT p.body, .box [iA (bT8 (i6 (G9 p)) (0, -1, 0) (B3 p 5 0 p.body)).fst], .box [iA (bT8 (i6 (G9 p)) (0, -1, 0) (B3 p 5 0 p.body)).snd.fst]] [(0, pA 0), (4, iA 0), (5, iA 0), (6, .ptr 3 0), (7, .ptr 4 0)] fun G => b5 (wp_seq (aC1 G f9 [0, 0, 1, 7] [0, 1, 2] [dI p.vars, dI p.arrays, dT p.body] [(0, pA 0), (4, iA (bT8 (i6 (G9 p)) (0, -1, 0) (B3 p 5 0 p.body)).fst), (5, iA (bT8 (i6 (G9 p)) (0, -1, 0) (B3 p 5 0 p.body)).snd.fst)] fun G => b5 (wp_ret ?_)))))))); exact M6 G [0, 1, 2]
theorem bu0 (p : f5) : ∀ (d : Nat) (ss : List b6) (cx : Int) (c b : Int) (n : Nat), ss.all (i5 p.vars.length p.arrays.length d) = true → n + I8 ss ≤ 4000000 → l7.ok Tryz.prog ⟨93, [pA 0, .ref 7, iA cx, .fn 137 [.ptr 3 0, .ptr 4 0, .ptr 5 0, .ptr 6 0]], pS p ++ fcB am3 c n b ++ [.dat (.stmts ss)],
   pS p ++ fcB am3 ((B3 p d cx ss).foldl (i6 (G8 p)) (c, b, n)).1 ((B3 p d cx ss).foldl (i6 (G8 p)) (c, b, n)).2.2 ((B3 p d cx ss).foldl (i6 (G8 p)) (c, b, n)).2.1 ++ [.dat (.stmts ss)], .tup []⟩ := by
 intro d
 induction d with
 | zero =>
  intro ss cx c b n hs hn
  have h0 : ss = [] := by
   cases ss with
   | nil => rfl
   | cons a r => simp [i5] at hs
  subst h0
  exact aZ2 p 0 [] (fun _ _ _ _ _ h => absurd h (by simp)) cx c b n rfl hn
 | succ d ih => intro ss cx c b n hs hn; exact aZ2 p d ss (fun tt cx c b n _ h1 h2 => ih tt cx c b n h1 h2) cx c b n hs hn
theorem bt9 (p : f5) (h : m0 p = true) : l7.ok Tryz.prog ⟨93, [pA 0, .ref 2, iA 0, .fn 137 [.ptr 3 0, .ptr 4 0, .ptr 5 0, .ptr 6 0]], pS p ++ fcB am3 0 0 (-1),
   pS p ++ fcB am3 ((B3 p 5 0 p.body).foldl (i6 (G8 p)) (0, -1, 0)).1 ((B3 p 5 0 p.body).foldl (i6 (G8 p)) (0, -1, 0)).2.2 ((B3 p 5 0 p.body).foldl (i6 (G8 p)) (0, -1, 0)).2.1, .tup []⟩ :=
 l7.dup (S := pS p ++ fcB am3 0 0 (-1)) (S' := pS p ++ fcB am3 ((B3 p 5 0 p.body).foldl (i6 (G8 p)) (0, -1, 0)).1 ((B3 p 5 0 p.body).foldl (i6 (G8 p)) (0, -1, 0)).2.2 ((B3 p 5 0 p.body).foldl (i6 (G8 p)) (0, -1, 0)).2.1) (d := .stmts p.body) (i := 2) (bu0 p 5 p.body 0 0 (-1) 0 (K0 h).1 (by have := (K0 h).2; omega)) rfl rfl rfl (fun ρ h => by simp only [AV.vals, AV.val]; rw [show ρ 7 = ρ 2 from h]) rfl
theorem a69 (p : f5) (h : m0 p = true) : l7.ok Tryz.prog (I7 66 [pA 0, .bm am3 [pA 0]] (pS p) (.tup [iA ((B3 p 5 0 p.body).foldl (i6 (G8 p)) (0, -1, 0)).1, iA ((B3 p 5 0 p.body).foldl (i6 (G8 p)) (0, -1, 0)).2.1])) := by
 refine G3 16 Tryz.func66 [dI p.vars, dI p.arrays, dT p.body] [(0, pA 0), (1, .bm 68 [pA 0])] fun G => ?_; refine wp_seq (m6 G f9 [0, 1, 2, 3, 11] [dI p.vars, dI p.arrays, dT p.body, .box (pL 0), .box [.bm 68 [pA 0]]] [(0, pA 0), (2, .ptr 3 0), (3, .ptr 4 0), (4, iA 0), (5, iA 0)] fun G => b5 (wp_seq (m6 G f9 [0, 1, 2, 3, 4, 5, 13, 21] [dI p.vars, dI p.arrays, dT p.body, .box (pL 0), .box [.bm 68 [pA 0]], .box [iA 0], .box [iA (-1)], .box [iA 0]] [(0, pA 0), (2, .ptr 3 0), (3, .ptr 4 0), (4, iA 0), (5, iA 0), (6, .ptr 5 0), (7, .ptr 6 0), (8, .ptr 7 0)] fun G => b5 (wp_seq (m6 G (A0 4 [0, 1, 2, 5, 4, 7, 6] (bt9 p (by assumption))) [0, 1, 2, 5, 6] [dI p.vars, dI p.arrays, dT p.body, .box [iA (bT8 (i6 (G8 p)) (0, -1, 0) (B3 p 5 0 p.body)).fst], .box [iA (bT8 (i6 (G8 p)) (0, -1, 0) (B3 p 5 0 p.body)).snd.fst]] [(0, pA 0), (4, iA 0), (5, iA 0), (6, .ptr 3 0), (7, .ptr 4 0)] fun G => b5 (wp_seq (aC1 G f9 [0, 0, 1, 7] [0, 1, 2] [dI p.vars, dI p.arrays, dT p.body] [(0, pA 0), (4, iA (bT8 (i6 (G8 p)) (0, -1, 0) (B3 p 5 0 p.body)).fst), (5, iA (bT8 (i6 (G8 p)) (0, -1, 0) (B3 p 5 0 p.body)).snd.fst)] fun G => b5 (wp_ret ?_)))))))); exact M6 G [0, 1, 2]
theorem aq0 (p : f5) (hb : r6 p.body ≤ 1048576) : l7.ok Tryz.prog (I7 19 [pA 0] (pS p) (.tup [iA (H3 p false).1, iA (H3 p false).2])) := by
 refine G3 13 Tryz.func19 [dI p.vars, dI p.arrays, dT p.body] [(0, pA 0)] fun G => ?_; refine wp_seq (m6 G f9 (rg 4) [dI p.vars, dI p.arrays, dT p.body, .box (pL 0)] [(1, .ptr 3 0), (2, iA 0), (3, iA 0)] fun G => b5 (wp_seq (wp_seq (l5 G (A0 1 [0, 1, 2] (ac9 p)) [(6, .v (.bool !m0 p))] fun G => b5 ?_)))); cases h0 : (!m0 p)
 ·have q0 : (m0 p) = true := (Eq.mp (bS3 _) h0); refine rF G _ h0 (wp_skip (b5 (wp_seq (m6 G (A0 3 [0, 1, 2] (a70 p (by assumption))) [0, 1, 2] [dI p.vars, dI p.arrays, dT p.body] [(2, iA (bT8 (i6 (G9 p)) (0, -1, 0) (B3 p 5 0 p.body)).fst), (3, iA (bT8 (i6 (G9 p)) (0, -1, 0) (B3 p 5 0 p.body)).snd.fst)] fun G => b5 (wp_ret ?_))))); exact rxv (.tup [iA (bT8 (i6 (G9 p)) (0, -1, 0) (B3 p 5 0 p.body)).fst, iA (bT8 (i6 (G9 p)) (0, -1, 0) (B3 p 5 0 p.body)).snd.fst]) G [0, 1, 2] (by have e1 : ((H3 p false).fst : Int) = ((bT8 (i6 (G9 p)) (0, -1, 0) (B3 p 5 0 p.body)).fst) := ((bc7 (by assumption)).1.symm); have e2 : ((H3 p false).snd : Int) = ((bT8 (i6 (G9 p)) (0, -1, 0) (B3 p 5 0 p.body)).snd.fst) := ((bc7 (by assumption)).2.symm); (first | rw [e1, e2] | simp only [e1, e2]) <;> rfl)
 ·have q0 : (m0 p) = false := (Eq.mp (bS1 _) h0); refine rT G _ h0 (wp_seq (l5 G f9 [(2, iA 5), (3, iA (-1))] fun G => b5 (wp_ret (m8 ?_)))); exact rxv (.tup [iA 5, iA (-1)]) G [0, 1, 2] (by have e1 : ((H3 p false).fst : Int) = (5) := (by rw [bc5 (by assumption)]; done); have e2 : ((H3 p false).snd : Int) = (-1) := (by rw [bc5 (by assumption)]; done); (first | rw [e1, e2] | simp only [e1, e2]) <;> rfl)
theorem bG3 {p : f5} (h : (H3 p false).1 = 0) : m0 p = true := by
 unfold H3 at h
 split at h
 ·assumption
 ·cases h
theorem ag5 (p : f5) (hb : r6 p.body ≤ 1048576) : l7.ok Tryz.prog (I7 20 [pA 0] (pS p) (.tup [iA (ctR p).1, iA (ctR p).2])) := by
 refine G3 21 Tryz.func20 [dI p.vars, dI p.arrays, dT p.body] [(0, pA 0)] fun G => ?_; refine wp_seq (m6 G f9 (rg 4) [dI p.vars, dI p.arrays, dT p.body, .box (pL 0)] [(1, .ptr 3 0), (2, iA 0), (3, iA 0)] fun G => b5 (wp_seq (wp_seq (l5 G (A0 1 [0, 1, 2] (aq0 p (by assumption))) [(4, iA (H3 p false).fst), (5, iA (H3 p false).snd)] fun G => b5 (wp_seq (l5 G f9 [(12, bA ((H3 p false).fst != 0))] fun G => b5 (rcN G (fun h0 q0 => ?_) fun h0 q0 => ?_)))))))
 ·refine wp_skip (b5 (wp_seq (m6 G (A0 3 [0, 1, 2] (a69 p (bG3 (by assumption)))) [0, 1, 2] [dI p.vars, dI p.arrays, dT p.body] [(2, iA (bT8 (i6 (G8 p)) (0, -1, 0) (B3 p 5 0 p.body)).fst), (3, iA (bT8 (i6 (G8 p)) (0, -1, 0) (B3 p 5 0 p.body)).snd.fst)] fun G => b5 (wp_ret ?_)))); exact rxv (.tup [iA (bT8 (i6 (G8 p)) (0, -1, 0) (B3 p 5 0 p.body)).fst, iA (bT8 (i6 (G8 p)) (0, -1, 0) (B3 p 5 0 p.body)).snd.fst]) G [0, 1, 2] (by have e1 : ((ctR p).fst : Int) = ((bT8 (i6 (G8 p)) (0, -1, 0) (B3 p 5 0 p.body)).fst) := ((congrArg Prod.fst (bM0 (by assumption))).trans (bc6 (bG3 (by assumption)) (by assumption)).1.symm); have e2 : ((ctR p).snd : Int) = ((bT8 (i6 (G8 p)) (0, -1, 0) (B3 p 5 0 p.body)).snd.fst) := ((congrArg Prod.snd (bM0 (by assumption))).trans (bc6 (bG3 (by assumption)) (by assumption)).2.symm); (first | rw [e1, e2] | simp only [e1, e2]) <;> rfl)
 ·refine wp_seq (l5 G f9 [(2, iA (H3 p false).fst), (3, iA (H3 p false).snd)] fun G => b5 (wp_ret (m8 ?_))); exact rxv (.tup [iA (H3 p false).fst, iA (H3 p false).snd]) G [0, 1, 2] (by have e1 : ((ctR p).fst : Int) = ((H3 p false).fst) := (by rw [bL9 (by assumption)]; done); have e2 : ((ctR p).snd : Int) = ((H3 p false).snd) := (by rw [bL9 (by assumption)]; done); (first | rw [e1, e2] | simp only [e1, e2]) <;> rfl)
theorem a90 {a b : b9} (h : ¬ a = b) : w8 a b = false := by
 cases e : w8 a b
 ·rfl
 ·exact absurd ((G2 a b).1 e) h
section
variable {a b : b9} {k : Nat}
theorem sx1 (h : ¬ a.kind = b.kind) : w8 a b = false := a90 fun e => h (by rw [e])
theorem sx2 (h : ¬ a.value = b.value) : w8 a b = false := a90 fun e => h (by rw [e])
theorem sx3 (h : ¬ (a.kids.length : Int) = b.kids.length) : w8 a b = false := a90 fun e => h (by rw [e])
theorem sx4 (h : w8 (a.kids.getD k bR0) (b.kids.getD k bR0) = false) : w8 a b = false := a90 fun e => by
 subst e
 rw [(G2 _ _).2 rfl] at h; cases h
theorem U1 {α : Type} {l m : List α} {k : Nat} {z : α} (h : l.take k = m.take k) (h1 : k < l.length) (h2 : k < m.length) (e : l.getD k z = m.getD k z) : l.take (k + 1) = m.take (k + 1) := by
 rw [s5 _ _ h1, s5 _ _ h2, h, ← s4 (d := z) h1, ← s4 (d := z) h2, e]
theorem ae3 {α : Type} {l m : List α} {k : Nat} (h : l.take k = m.take k) (h1 : l.length ≤ k) (h2 : (l.length : Int) = m.length) : l = m := by
 rw [bS6 h1, bS6 (by omega)] at h
 exact h
theorem sx5 (h1 : a.kind = b.kind) (h2 : a.value = b.value) (h3 : (a.kids.length : Int) = b.kids.length) (h : a.kids.take k = b.kids.take k) (hk : a.kids.length ≤ k) : w8 a b = true := by
 refine (G2 _ _).2 ?_
 rw [← b9.eta a, ← b9.eta b, h1, h2, ae3 h hk h3]
end
abbrev sxC (a b : b9) : l7 := I7 259 [eA a 0, eA b 1] [dE a.kids, dE b.kids] (bA (w8 a b))
theorem bv9 (x y : b9) (ih : ∀ (u : b9), u ∈ x.kids → ∀ (v : b9), l7.ok Tryz.prog (sxC u v)) : l7.ok Tryz.prog (sxC x y) := by
  refine G3 46 Tryz.func259 [dE x.kids, dE y.kids] [(0, eA x 0), (1, eA y 1)] fun G => ?_; have hl : x.kids.length ≤ 9223372036854775807 := G.len 0 (d := .exprs x.kids) (by kernel_rfl); refine wp_seq (m6 G f9 [0, 1, 2, 10] [dE x.kids, dE y.kids, .box (eL x 0), .box (eL y 1)] [(2, .ptr 2 0), (3, .ptr 3 0), (4, bA false)] fun G => b5 (wp_seq (wp_seq ?_))); cases h0 : (x.kind != y.kind)
  ·
   have q0 := bne_eq_false_iff_eq.1 h0; cases h1 : (x.value != y.value)
   ·
    have q1 := bne_eq_false_iff_eq.1 h1; refine l5 G (F8 (fc h0 (fc h1 fz)) (us [(6, 10, 0), (1011, 1011, 0), (13, 19, 1), (1020, 1020, 1)])) [(26, bA ((x.kids.length : Int) != (y.kids.length : Int)))] fun G => b5 (rcN G (fun h2 q2 => ?_) fun h2 q2 => ?_)
    ·
     refine wp_skip (b5 (wp_seq (wp_seq (J3 G f9 [(2, .ptr 2 0), (3, .ptr 3 0), (4, bA false), (5, iA 0)] fun G => b5 (wp_block ?_))))); refine x7 (κ := Nat) (fun k => k ≤ x.kids.length ∧ x.kids.take k = y.kids.take k) (fun k => x.kids.length - k) (fun k => [dE x.kids, dE y.kids, .box (eL x 0), .box (eL y 1)]) (fun k => [(2, .ptr 2 0), (3, .ptr 3 0), (4, bA false), (5, iA k)]) 0 (by simp [h0, h1, h2]) (x9.at G _ _) ?_; clear G; intro k ρ a w hp G; refine wp_seq (wp_seq (l5 G f9 [(31, bA (decide ((k : Int) < x.kids.length)))] fun G => b5 (W0 G (fun h3 q3 => ?_) fun h3 q3 => ?_)))
     · refine wp_exit (v8 (v8 (v7 (b5 (wp_seq (m6 G f9 [0, 1] [dE x.kids, dE y.kids] [(4, bA true)] fun G => b5 (wp_ret ?_))))))); exact C7 true G [0, 1] (sx5 (by omega) (by omega) (by omega) hp.2 (by omega))
     ·
      refine wp_skip (b5 (wp_seq (wp_block (wp_seq (ar8 G (A0 10 [36, 76] (ih (x.kids.getD k bR0) (ag1 (by omega)) (y.kids.getD k bR0))) [0, 1, 0, 7, 15, 0, 32, 0, 224, 480, 1023, 2047] [(45, .v (.bool !w8 (x.kids.getD k bR0) (y.kids.getD k bR0)))] (iX k k x.kids.length (iX k k y.kids.length [])) (iK (by have hp := hp; omega) (iK (by have hp := hp; omega) bR2)) fun G => b5 ?_))))); cases h4 : (!w8 (x.kids.getD k bR0) (y.kids.getD k bR0))
      · have q4 : (w8 (x.kids.getD k bR0) (y.kids.getD k bR0)) = true := (Eq.mp (bS3 _) h4); refine rF G _ h4 (wp_skip (o5 (b5 (H0 G f9 [(5, iA ((k : Int) + 1))] [wO ((k : Int) + 1)] (o1 (by omega)) fun G => b5 ?_)))); exact Q6 G (k + 1) (⟨by omega, U1 hp.2 (by omega) (by omega) ((G2 _ _).1 (by with_reducible assumption))⟩) (by have hp := hp; omega) (rg 4)
      · have q4 : (w8 (x.kids.getD k bR0) (y.kids.getD k bR0)) = false := (Eq.mp (bS1 _) h4); refine rT G _ h4 (wp_seq (l5 G f9 [] fun G => b5 (wp_ret (C9 (m8 (m8 (C9 (m8 ?_)))))))); exact C7 false G [0, 1] (sx4 (by with_reducible assumption))
    · refine wp_seq (l5 G f9 [] fun G => b5 (wp_ret (m8 ?_))); exact C7 false G [0, 1] (sx3 (by omega))
   · have q1 := bne_iff_ne.1 h1; refine l5 G (F8 (fc h0 (fc h1 fz)) (us [(6, 10, 0), (1011, 1011, 0), (13, 19, 1), (1020, 1020, 1)])) [(26, bA true)] fun G => b5 (rT G true (by kernel_rfl) (wp_seq (l5 G f9 [] fun G => b5 (wp_ret (m8 ?_))))); exact C7 false G [0, 1] (sx2 (by omega))
  · have q0 := bne_iff_ne.1 h0; refine l5 G (F8 (fc h0 (fc (b := true) rfl fz)) (us [(6, 10, 0), (1011, 1011, 0), (13, 19, 1), (1020, 1020, 1)])) [(26, bA true)] fun G => b5 (rT G true (by kernel_rfl) (wp_seq (l5 G f9 [] fun G => b5 (wp_ret (m8 ?_))))); exact C7 false G [0, 1] (sx1 (by omega))
theorem ac1 (x : b9) : ∀ (y : b9), l7.ok Tryz.prog (sxC x y) :=
 b9.ind (P := fun x => ∀ (y : b9), l7.ok Tryz.prog (sxC x y)) (fun k n ks ih y => bv9 ⟨k, n, ks⟩ y fun u hu => ih u hu) x
theorem ag3 (xs ys : List Int) : l7.ok Tryz.prog (I7 225 [.ref 0, .ref 1] [dI xs, dI ys] (bA (decide (xs = ys)))) := by
  refine G3 26 Tryz.func225 [dI xs, dI ys] [(0, .ref 0), (1, .ref 1)] fun G => ?_; have hl : xs.length ≤ 9223372036854775807 := G.len 0 (d := .ints xs) (by kernel_rfl); refine wp_seq (J3 G f9 [(0, .ref 0), (1, .ref 1), (4, bA false)] fun G => b5 (wp_seq (wp_seq (l5 G f9 [(10, bA ((xs.length : Int) != (ys.length : Int)))] fun G => b5 (rcN G (fun h0 q0 => ?_) fun h0 q0 => ?_)))))
  ·
   refine wp_skip (b5 (wp_seq (wp_seq (J3 G f9 [(0, .ref 0), (1, .ref 1), (4, bA false), (5, iA 0)] fun G => b5 (wp_block ?_))))); refine x7 (κ := Nat) (fun k => k ≤ xs.length ∧ xs.take k = ys.take k) (fun k => xs.length - k) (fun k => [dI xs, dI ys]) (fun k => [(0, .ref 0), (1, .ref 1), (4, bA false), (5, iA k)]) 0 (by simp [h0]) (x9.at G _ _) ?_; clear G; intro k ρ a w hp G; refine wp_seq (wp_seq (l5 G f9 [(14, bA (decide ((k : Int) < xs.length)))] fun G => b5 (W0 G (fun h1 q1 => ?_) fun h1 q1 => ?_)))
   · refine wp_exit (v8 (v8 (v7 (b5 (wp_seq (l5 G f9 [(4, bA true)] fun G => b5 (wp_ret ?_))))))); exact C7 true G [0, 1] (decide_eq_true (ae3 hp.2 (by omega) (by omega)))
   ·
    refine wp_skip (b5 (wp_seq (wp_block (wp_seq (ar8 G f9 [0, 0, 3, 7, 0, 0, 48, 112, 255] [(25, bA (xs.getD k 0 != ys.getD k 0))] (iX k k xs.length (iX k k ys.length [])) (iK (by have hp := hp; omega) (iK (by have hp := hp; omega) bR2)) fun G => b5 (rcN G (fun h2 q2 => ?_) fun h2 q2 => ?_))))))
    · refine wp_skip (o5 (b5 (H0 G f9 [(5, iA ((k : Int) + 1))] [wO ((k : Int) + 1)] (o1 (by omega)) fun G => b5 ?_))); exact Q6 G (k + 1) (⟨by omega, U1 hp.2 (by omega) (by omega) (by omega)⟩) (by have hp := hp; omega) [0, 1]
    · refine wp_seq (l5 G f9 [] fun G => b5 (wp_ret (C9 (m8 (m8 (C9 (m8 ?_))))))); exact C7 false G [0, 1] (by exact decide_eq_false fun e => by subst e; omega)
  · refine wp_seq (l5 G f9 [] fun G => b5 (wp_ret (m8 ?_))); exact C7 false G [0, 1] (by exact decide_eq_false fun e => by subst e; omega)
theorem aB4 {s t : b6} (h : ¬ s = t) : I2 s t = false := by
 cases e : I2 s t
 ·rfl
 ·exact absurd ((Z6 s t).1 e) h
theorem bB6 {l m : List b6} (h : ¬ l = m) : r7 l m = false := by
 cases e : r7 l m
 ·rfl
 ·exact absurd ((G0 l m).1 e) h
section
variable {s t : b6} {l m : List b6} {k : Nat}
theorem sr1 (h : ¬ s.kind = t.kind) : I2 s t = false := aB4 fun e => h (by rw [e])
theorem sr2 (h : ¬ s.target = t.target) : I2 s t = false := aB4 fun e => h (by rw [e])
theorem sr3 (h : ¬ s.count = t.count) : I2 s t = false := aB4 fun e => h (by rw [e])
theorem sr4 (h : w8 s.index t.index = false) : I2 s t = false := aB4 fun e => by subst e; rw [(G2 _ _).2 rfl] at h; cases h
theorem sr5 (h : w8 s.value t.value = false) : I2 s t = false := aB4 fun e => by subst e; rw [(G2 _ _).2 rfl] at h; cases h
theorem sr6 (h : r7 s.body t.body = false) : I2 s t = false := aB4 fun e => by subst e; rw [(G0 _ _).2 rfl] at h; cases h
theorem sr7 (h : r7 s.els t.els = false) : I2 s t = false := aB4 fun e => by subst e; rw [(G0 _ _).2 rfl] at h; cases h
theorem sr8 (h1 : s.kind = t.kind) (h2 : s.target = t.target) (h3 : s.count = t.count) (h4 : w8 s.index t.index = true) (h5 : w8 s.value t.value = true) (h6 : r7 s.body t.body = true) : I2 s t = r7 s.els t.els := by
 cases e : r7 s.els t.els
 ·exact sr7 e
 ·refine (Z6 _ _).2 ?_
  rw [← b6.eta s, ← b6.eta t, h1, h2, h3, (G2 _ _).1 h4, (G2 _ _).1 h5, (G0 _ _).1 h6, (G0 _ _).1 e]
theorem sb1 (h : ¬ (l.length : Int) = m.length) : r7 l m = false := bB6 fun e => h (by rw [e])
theorem sb2 (h : I2 (l.getD k bR0) (m.getD k bR0) = false) : r7 l m = false := bB6 fun e => by
 subst e
 rw [(Z6 _ _).2 rfl] at h; cases h
theorem sb3 (h3 : (l.length : Int) = m.length) (h : l.take k = m.take k) (hk : l.length ≤ k) : r7 l m = true := (G0 _ _).2 (ae3 h hk h3)
end
abbrev sbC (l m : List b6) : l7 := I7 226 [.ref 0, .ref 1] [dT l, dT m] (bA (r7 l m))
abbrev ssC (s t : b6) : l7 := I7 248 [sA s 0, sA t 4] (sS s ++ sS t) (bA (I2 s t))
abbrev am7 (s : b6) (t : b6) (r0 : List It) : List It := dE s.index.kids :: dE s.value.kids :: dT s.body :: dT s.els :: dE t.index.kids :: dE t.value.kids :: dT t.body :: dT t.els :: r0
theorem bw0 (s t : b6) (ih1 : ∀ (m : List b6), l7.ok Tryz.prog (sbC s.body m)) (ih2 : ∀ (m : List b6), l7.ok Tryz.prog (sbC s.els m)) : l7.ok Tryz.prog (ssC s t) := by
  refine G3 52 Tryz.func248 (am7 s t []) [(0, sA s 0), (1, sA t 4)] fun G => ?_; refine wp_seq (m6 G f9 [0, 1, 2, 3, 4, 5, 6, 7, 8, 16] (am7 s t [.box (sL s 0), .box (sL t 4)]) [(2, .ptr 8 0), (3, .ptr 9 0), (4, bA false)] fun G => b5 (wp_seq ?_)); cases h0 : (s.kind == t.kind)
  · have q0 := ne_of_beq_false h0; refine m6 G (F8 (fc h0 (fc (b := false) rfl fz)) (us [(6, 10, 0), (1011, 1011, 0), (13, 17, 1), (1018, 1018, 1), (20, 24, 1), (1025, 1025, 1), (27, 31, 1), (1032, 1032, 1), (34, 38, 1), (1039, 1039, 1), (41, 45, 1), (1046, 1046, 1)])) (rg 8) (am7 s t []) [(4, bA false)] fun G => b5 (wp_ret ?_); exact C7 false G (rg 8) (sr1 (by omega))
  ·
   have q0 := eq_of_beq h0; cases h1 : (s.target == t.target)
   · have q1 := ne_of_beq_false h1; refine m6 G (F8 (fc h0 (fc h1 (fc (b := false) rfl fz))) (us [(6, 10, 0), (1011, 1011, 0), (13, 17, 1), (1018, 1018, 1), (20, 24, 2), (1025, 1025, 2), (27, 31, 2), (1032, 1032, 2), (34, 38, 2), (1039, 1039, 2), (41, 45, 2), (1046, 1046, 2)])) (rg 8) (am7 s t []) [(4, bA false)] fun G => b5 (wp_ret ?_); exact C7 false G (rg 8) (sr2 (by omega))
   ·
    have q1 := eq_of_beq h1; cases h2 : (s.count == t.count)
    · have q2 := ne_of_beq_false h2; refine m6 G (F8 (fc h0 (fc h1 (fc h2 (fc (b := false) rfl fz)))) (us [(6, 10, 0), (1011, 1011, 0), (13, 17, 1), (1018, 1018, 1), (20, 24, 2), (1025, 1025, 2), (27, 31, 3), (1032, 1032, 3), (34, 38, 3), (1039, 1039, 3), (41, 45, 3), (1046, 1046, 3)])) (rg 8) (am7 s t []) [(4, bA false)] fun G => b5 (wp_ret ?_); exact C7 false G (rg 8) (sr3 (by omega))
    ·
     have q2 := eq_of_beq h2; cases h3 : (w8 s.index t.index)
     · refine m6 G (B1 ⟨[(24, _, [0, 4])], [(s.kind == t.kind, true), (s.target == t.target, true), (s.count == t.count, true), (w8 s.index t.index, false), (false, false)], us [(6, 10, 0), (1011, 1011, 0), (13, 17, 1), (1018, 1018, 1), (20, 24, 2), (1025, 1025, 2), (27, 31, 3), (1032, 1032, 3), (34, 38, 4), (1039, 1039, 4), (41, 45, 4), (1046, 1046, 4)]⟩ (b8 (ac1 s.index t.index) d7) ⟨(by assumption), (by assumption), (by assumption), (by assumption), (by kernel_rfl), bR2⟩) (rg 8) (am7 s t []) [(4, bA false)] fun G => b5 (wp_ret ?_); exact C7 false G (rg 8) (sr4 (by with_reducible assumption))
     ·
      cases h4 : (w8 s.value t.value)
      · refine m6 G (B1 ⟨[(24, _, [0, 4]), (31, _, [1, 5])], [(s.kind == t.kind, true), (s.target == t.target, true), (s.count == t.count, true), (w8 s.index t.index, true), (w8 s.value t.value, false), (false, false)], us [(6, 10, 0), (1011, 1011, 0), (13, 17, 1), (1018, 1018, 1), (20, 24, 2), (1025, 1025, 2), (27, 31, 3), (1032, 1032, 3), (34, 38, 4), (1039, 1039, 4), (41, 45, 5), (1046, 1046, 5)]⟩ (b8 (ac1 s.index t.index) (b8 (ac1 s.value t.value) d7)) ⟨(by assumption), (by assumption), (by assumption), (by assumption), (by assumption), (by kernel_rfl), bR2⟩) (rg 8) (am7 s t []) [(4, bA false)] fun G => b5 (wp_ret ?_); exact C7 false G (rg 8) (sr5 (by with_reducible assumption))
      ·
       cases h5 : (r7 s.body t.body)
       · refine m6 G (B1 ⟨[(24, _, [0, 4]), (31, _, [1, 5]), (38, _, [2, 6])], [(s.kind == t.kind, true), (s.target == t.target, true), (s.count == t.count, true), (w8 s.index t.index, true), (w8 s.value t.value, true), (r7 s.body t.body, false)], us [(6, 10, 0), (1011, 1011, 0), (13, 17, 1), (1018, 1018, 1), (20, 24, 2), (1025, 1025, 2), (27, 31, 3), (1032, 1032, 3), (34, 38, 4), (1039, 1039, 4), (41, 45, 5), (1046, 1046, 5)]⟩ (b8 (ac1 s.index t.index) (b8 (ac1 s.value t.value) (b8 (ih1 t.body) d7))) ⟨(by assumption), (by assumption), (by assumption), (by assumption), (by assumption), (by assumption), bR2⟩) (rg 8) (am7 s t []) [(4, bA false)] fun G => b5 (wp_ret ?_); exact C7 false G (rg 8) (sr6 (by with_reducible assumption))
       · refine m6 G (B1 ⟨[(24, _, [0, 4]), (31, _, [1, 5]), (38, _, [2, 6]), (45, _, [3, 7])], [(s.kind == t.kind, true), (s.target == t.target, true), (s.count == t.count, true), (w8 s.index t.index, true), (w8 s.value t.value, true), (r7 s.body t.body, true)], us [(6, 10, 0), (1011, 1011, 0), (13, 17, 1), (1018, 1018, 1), (20, 24, 2), (1025, 1025, 2), (27, 31, 3), (1032, 1032, 3), (34, 38, 4), (1039, 1039, 4), (41, 45, 5), (1046, 1046, 5)]⟩ (b8 (ac1 s.index t.index) (b8 (ac1 s.value t.value) (b8 (ih1 t.body) (b8 (ih2 t.els) d7)))) ⟨(by assumption), (by assumption), (by assumption), (by assumption), (by assumption), (by assumption), bR2⟩) (rg 8) (am7 s t []) [(4, bA (r7 s.els t.els))] fun G => b5 (wp_ret ?_); exact C7 (r7 s.els t.els) G (rg 8) (sr8 (by omega) (by omega) (by omega) (by with_reducible assumption) (by with_reducible assumption) (by with_reducible assumption))
theorem aO0 (l m : List b6) (ih : ∀ (s : b6), s ∈ l → ∀ (t : b6), l7.ok Tryz.prog (ssC s t)) : l7.ok Tryz.prog (sbC l m) := by
  refine G3 27 Tryz.func226 [dT l, dT m] [(0, .ref 0), (1, .ref 1)] fun G => ?_; have hl : l.length ≤ 9223372036854775807 := G.len 0 (d := .stmts l) (by kernel_rfl); refine wp_seq (J3 G f9 [(0, .ref 0), (1, .ref 1), (4, bA false)] fun G => b5 (wp_seq (wp_seq (l5 G f9 [(10, bA ((l.length : Int) != (m.length : Int)))] fun G => b5 (rcN G (fun h0 q0 => ?_) fun h0 q0 => ?_)))))
  ·
   refine wp_skip (b5 (wp_seq (wp_seq (J3 G f9 [(0, .ref 0), (1, .ref 1), (4, bA false), (5, iA 0)] fun G => b5 (wp_block ?_))))); refine x7 (κ := Nat) (fun k => k ≤ l.length ∧ l.take k = m.take k) (fun k => l.length - k) (fun k => [dT l, dT m]) (fun k => [(0, .ref 0), (1, .ref 1), (4, bA false), (5, iA k)]) 0 (by simp [h0]) (x9.at G _ _) ?_; clear G; intro k ρ a w hp G; refine wp_seq (wp_seq (l5 G f9 [(14, bA (decide ((k : Int) < l.length)))] fun G => b5 (W0 G (fun h1 q1 => ?_) fun h1 q1 => ?_)))
   · refine wp_exit (v8 (v8 (v7 (b5 (wp_seq (l5 G f9 [(4, bA true)] fun G => b5 (wp_ret ?_))))))); exact C7 true G [0, 1] (sb3 (by omega) hp.2 (by omega))
   ·
    refine wp_skip (b5 (wp_seq (wp_block (wp_seq (ar8 G (A0 8 [26, 27, 28, 29, 58, 59, 60, 61] (ih (l.getD k bR0) (R6 (by omega)) (m.getD k bR0))) [0, 0, 3, 7, 0, 0, 48, 112, 255, 511] [(26, .v (.bool !I2 (l.getD k bR0) (m.getD k bR0)))] (iX k k l.length (iX k k m.length [])) (iK (by have hp := hp; omega) (iK (by have hp := hp; omega) bR2)) fun G => b5 ?_))))); cases h2 : (!I2 (l.getD k bR0) (m.getD k bR0))
    · have q2 : (I2 (l.getD k bR0) (m.getD k bR0)) = true := (Eq.mp (bS3 _) h2); refine rF G _ h2 (wp_skip (o5 (b5 (H0 G f9 [(5, iA ((k : Int) + 1))] [wO ((k : Int) + 1)] (o1 (by omega)) fun G => b5 ?_)))); exact Q6 G (k + 1) (⟨by omega, U1 hp.2 (by omega) (by omega) ((Z6 _ _).1 (by with_reducible assumption))⟩) (by have hp := hp; omega) [0, 1]
    · have q2 : (I2 (l.getD k bR0) (m.getD k bR0)) = false := (Eq.mp (bS1 _) h2); refine rT G _ h2 (wp_seq (l5 G f9 [] fun G => b5 (wp_ret (C9 (m8 (m8 (C9 (m8 ?_)))))))); exact C7 false G [0, 1] (sb2 (by with_reducible assumption))
  · refine wp_seq (l5 G f9 [] fun G => b5 (wp_ret (m8 ?_))); exact C7 false G [0, 1] (sb1 (by omega))
theorem bD4 (s : b6) : ∀ (t : b6), l7.ok Tryz.prog (ssC s t) :=
 b6.ind (P := fun s => ∀ (t : b6), l7.ok Tryz.prog (ssC s t)) (fun k t i v c b e h1 h2 u => bw0 ⟨k, t, i, v, c, b, e⟩ u (fun m => aO0 b m fun s hs => h1 s hs) fun m => aO0 e m fun s hs => h2 s hs) s
theorem bz6 (l m : List b6) : l7.ok Tryz.prog (sbC l m) := aO0 l m fun s _ => bD4 s
theorem aH7 (xs xt : List Int) (l : List b6) (ys yt : List Int) (m : List b6) : l7.ok Tryz.prog (I7 185 [pA 0, pA 3] [dI xs, dI xt, dT l, dI ys, dI yt, dT m] (bA (decide (xs = ys) && (decide (xt = yt) && r7 l m)))) := by
  refine G3 24 Tryz.func185 [dI xs, dI xt, dT l, dI ys, dI yt, dT m] [(0, pA 0), (1, pA 3)] fun G => ?_; refine wp_seq (m6 G f9 [0, 1, 2, 3, 4, 5, 6, 14] [dI xs, dI xt, dT l, dI ys, dI yt, dT m, .box (pL 0), .box (pL 3)] [(2, .ptr 6 0), (3, .ptr 7 0), (4, bA false)] fun G => b5 (wp_seq ?_)); cases h0 : (decide (xs = ys))
  · have q0 := dFf h0; refine m6 G (B1 ⟨[(4, _, [0, 3])], [(decide (xs = ys), false), (false, false)], us [(6, 10, 0), (1011, 1011, 0), (13, 17, 1), (1018, 1018, 1)]⟩ (b8 (ag3 xs ys) d7) ⟨(by assumption), (by kernel_rfl), bR2⟩) (rg 6) [dI xs, dI xt, dT l, dI ys, dI yt, dT m] [(4, bA false)] fun G => b5 (wp_ret ?_); exact M6 G (rg 6)
  ·
   have q0 := dTt h0; cases h1 : (decide (xt = yt))
   · have q1 := dFf h1; refine m6 G (B1 ⟨[(4, _, [0, 3]), (10, _, [1, 4])], [(decide (xs = ys), true), (decide (xt = yt), false)], us [(6, 10, 0), (1011, 1011, 0), (13, 17, 1), (1018, 1018, 1)]⟩ (b8 (ag3 xs ys) (b8 (ag3 xt yt) d7)) ⟨(by assumption), (by assumption), bR2⟩) (rg 6) [dI xs, dI xt, dT l, dI ys, dI yt, dT m] [(4, bA false)] fun G => b5 (wp_ret ?_); exact M6 G (rg 6)
   · have q1 := dTt h1; refine m6 G (B1 ⟨[(4, _, [0, 3]), (10, _, [1, 4]), (17, _, [2, 5])], [(decide (xs = ys), true), (decide (xt = yt), true)], us [(6, 10, 0), (1011, 1011, 0), (13, 17, 1), (1018, 1018, 1)]⟩ (b8 (ag3 xs ys) (b8 (ag3 xt yt) (b8 (bz6 l m) d7))) ⟨(by assumption), (by assumption), bR2⟩) (rg 6) [dI xs, dI xt, dT l, dI ys, dI yt, dT m] [(4, bA (r7 l m))] fun G => b5 (wp_ret ?_); exact M6 G (rg 6)
section
variable {p : f5} {l k : Int} (h : m0 p = true) (hl : f7 l = true)
include h hl
end
section
variable {p : f5} {l : Int}
end
theorem V7 (vs ars : List Int) (b : List b6) (e : b9) (he : l0 vs.length ars.length 5 e = true) : l7.ok Tryz.prog (I7 159 [pA 0, eA e 3] ([dI vs, dI ars, dT b] ++ eS e) (iA (m7 vs ars 5 e))) := K3 ⟨vs, ars, b⟩ e he
theorem at1 (vs ars : List Int) (b : List b6) (hb : vs.length + ars.length + r6 b ≤ 1048576) : l7.ok Tryz.prog ⟨78, [pA 0], [dI vs, dI ars, dT b], [dI vs, dI ars, dT b, .row 3 (.ints vs), .row 3 (.ints ars), .tree (.stmts b)], oA 3⟩ := bt7 ⟨vs, ars, b⟩ hb
theorem aR0 (vs ars : List Int) (b : List b6) (hb : r6 b ≤ 1048576) : l7.ok Tryz.prog (I7 77 [pA 0] [dI vs, dI ars, dT b] (.tup [iA (H3 ⟨vs, ars, b⟩ false).1, iA (H3 ⟨vs, ars, b⟩ false).2])) := aZ6 ⟨vs, ars, b⟩ hb
section
variable {vs ars : List Int} {cx : Int} {s : b6} {d : Nat} {b : Bool}
theorem on1 (k : s.kind = 1) : H9 (vs, ars) s cx = (vs.set s.target.toNat (o7 (o7 (vs.getD s.target.toNat 0) (m7 vs ars 5 s.value)) cx), ars) := if_pos k
theorem on2 (k : s.kind = 2) : H9 (vs, ars) s cx = (vs, ars.set s.target.toNat (o7 (o7 (o7 (ars.getD s.target.toNat 0) (m7 vs ars 5 s.value)) (m7 vs ars 5 s.index)) cx)) := by unfold H9; rw [if_neg (by omega), if_pos k]
theorem on0 {q : J7} (k1 : ¬ s.kind = 1) (k2 : ¬ s.kind = 2) : H9 q s cx = q := by unfold H9; rw [if_neg k1, if_neg k2]
theorem up1 {q : J7} (h1 : s.body = []) (h2 : s.els = []) : upS b (d + 1) q cx s = H9 q s cx := by rw [ae1, h1, h2]; rfl
theorem up3 {q : J7} (k : s.kind = 3) : upS true (d + 1) q cx s = A9 true d (A9 true d q (o7 cx (m7 q.1 q.2 5 s.value)) s.body) (o7 cx (m7 (A9 true d q (o7 cx (m7 q.1 q.2 5 s.value)) s.body).1 (A9 true d q (o7 cx (m7 q.1 q.2 5 s.value)) s.body).2 5 s.value)) s.els := by
 rw [ae1, on0 (by omega) (by omega)]
 unfold ad2
 simp only [if_pos k, if_true]
theorem up4 {q : J7} (k : s.kind = 4) (h2 : s.els = []) : upS b (d + 1) q cx s = A9 b d q cx s.body := by
 rw [ae1, on0 (by omega) (by omega), h2]
 unfold ad2
 simp only [if_neg (show ¬ s.kind = 3 by omega)]
 rfl
theorem ae2 {q : J7} {ss : List b6} {k : Nat} (hk : k < ss.length) : A9 b d q cx (ss.take (k + 1)) = upS b d (A9 b d q cx (ss.take k)) cx (ss.getD k bR0) := by
 unfold A9
 rw [s5 _ _ hk, List.foldl_append, s4 hk]; rfl
theorem ax2 {nv na d k : Nat} {ss : List b6} (hs : ss.all (i5 nv na (d + 1)) = true) (hk : k < ss.length) (k3 : ¬ (ss.getD k bR0).kind = 3) : (ss.getD k bR0).els = [] ∧ (¬ (ss.getD k bR0).kind = 4 → (ss.getD k bR0).body = []) := by
 have h0 := bR9.1 hs _ (bS7 hk)
 rw [← s4 (d := bR0) hk] at h0
 rw [i5, bR1] at h0
 have h1 := h0.1
 unfold B6 at h1
 by_cases k4 : (ss.getD k bR0).kind = 4
 ·rw [if_pos (.inr k4), if_pos k4] at h1
  simp only [bR1, decide_eq_true_eq] at h1
  exact ⟨bT3 h1.2.1.1.1.1, fun h => absurd k4 h⟩
 ·rw [if_neg (by omega)] at h1
  simp only [bR1, decide_eq_true_eq] at h1
  exact ⟨bT3 h1.1.1.2, fun _ => bT3 h1.1.1.1⟩
section
variable {nv na d k : Nat} {ss : List b6} {q : J7} {cx : Int}
theorem rn1 (hs : ss.all (i5 nv na (d + 1)) = true) (hk : k < ss.length) (k1 : (ss.getD k bR0).kind = 1) : A9 true (d + 1) q cx (ss.take (k + 1)) = ((A9 true (d + 1) q cx (ss.take k)).1.set (ss.getD k bR0).target.toNat (o7 (o7 ((A9 true (d + 1) q cx (ss.take k)).1.getD (ss.getD k bR0).target.toNat 0) (m7 (A9 true (d + 1) q cx (ss.take k)).1 (A9 true (d + 1) q cx (ss.take k)).2 5 (ss.getD k bR0).value)) cx), (A9 true (d + 1) q cx (ss.take k)).2) := by
 have h1 := ax2 hs hk (by omega)
 rw [ae2 hk, up1 (h1.2 (by omega)) h1.1]
 exact on1 k1
theorem rn2 (hs : ss.all (i5 nv na (d + 1)) = true) (hk : k < ss.length) (k2 : (ss.getD k bR0).kind = 2) : A9 true (d + 1) q cx (ss.take (k + 1)) = ((A9 true (d + 1) q cx (ss.take k)).1, (A9 true (d + 1) q cx (ss.take k)).2.set (ss.getD k bR0).target.toNat (o7 (o7 (o7 ((A9 true (d + 1) q cx (ss.take k)).2.getD (ss.getD k bR0).target.toNat 0) (m7 (A9 true (d + 1) q cx (ss.take k)).1 (A9 true (d + 1) q cx (ss.take k)).2 5 (ss.getD k bR0).value)) (m7 (A9 true (d + 1) q cx (ss.take k)).1 (A9 true (d + 1) q cx (ss.take k)).2 5 (ss.getD k bR0).index)) cx)) := by
 have h1 := ax2 hs hk (by omega)
 rw [ae2 hk, up1 (h1.2 (by omega)) h1.1]
 exact on2 k2
theorem rn3 (hk : k < ss.length) (k3 : (ss.getD k bR0).kind = 3) : A9 true (d + 1) q cx (ss.take (k + 1)) = A9 true d (A9 true d (A9 true (d + 1) q cx (ss.take k)) (o7 cx (m7 (A9 true (d + 1) q cx (ss.take k)).1 (A9 true (d + 1) q cx (ss.take k)).2 5 (ss.getD k bR0).value)) (ss.getD k bR0).body) (o7 cx (m7 (A9 true d (A9 true (d + 1) q cx (ss.take k)) (o7 cx (m7 (A9 true (d + 1) q cx (ss.take k)).1 (A9 true (d + 1) q cx (ss.take k)).2 5 (ss.getD k bR0).value)) (ss.getD k bR0).body).1 (A9 true d (A9 true (d + 1) q cx (ss.take k)) (o7 cx (m7 (A9 true (d + 1) q cx (ss.take k)).1 (A9 true (d + 1) q cx (ss.take k)).2 5 (ss.getD k bR0).value)) (ss.getD k bR0).body).2 5 (ss.getD k bR0).value)) (ss.getD k bR0).els := by
 rw [ae2 hk, up3 k3]
theorem rn4 (hs : ss.all (i5 nv na (d + 1)) = true) (hk : k < ss.length) (k4 : (ss.getD k bR0).kind = 4) : A9 true (d + 1) q cx (ss.take (k + 1)) = A9 true d (A9 true (d + 1) q cx (ss.take k)) cx (ss.getD k bR0).body := by
 rw [ae2 hk, up4 k4 (ax2 hs hk (by omega)).1]
theorem rn0 (hs : ss.all (i5 nv na (d + 1)) = true) (hk : k < ss.length) (k1 : ¬ (ss.getD k bR0).kind = 1) (k2 : ¬ (ss.getD k bR0).kind = 2) (k3 : ¬ (ss.getD k bR0).kind = 3) (k4 : ¬ (ss.getD k bR0).kind = 4) : A9 true (d + 1) q cx (ss.take (k + 1)) = A9 true (d + 1) q cx (ss.take k) := by
 have h1 := ax2 hs hk k3
 rw [ae2 hk, up1 (h1.2 k4) h1.1, on0 k1 k2]
theorem bm6 (hk : ss.length ≤ k) : A9 true (d + 1) q cx ss = A9 true (d + 1) q cx (ss.take k) := by rw [bS6 hk]
theorem aN4 {q r : J7} {s : b6} (h : shP q r) (hv : q.1.length = nv) (ha : q.2.length = na) (hh : C1 nv na s = true) (k : ¬ s.kind = 4) : l0 r.1.length r.2.length 5 s.value = true := by rw [h.1, h.2, hv, ha]; exact v6 hh k
theorem bD1 {q r : J7} {s : b6} (h : shP q r) (hv : q.1.length = nv) (ha : q.2.length = na) (hh : C1 nv na s = true) (k : s.kind = 2) : l0 r.1.length r.2.length 5 s.index = true := by rw [h.1, h.2, hv, ha]; exact aa0 hh k
end
end
abbrev raC (vs ars : List Int) (d : Nat) (bd ss : List b6) (cx : Int) : l7 := ⟨184, [pA 0, .ref 3, iA cx], [.row 3 (.ints vs), .row 3 (.ints ars), dT bd, dT ss], [.row 3 (.ints (A9 true d (vs, ars) cx ss).1), .row 3 (.ints (A9 true d (vs, ars) cx ss).2), dT bd, dT ss], .tup []⟩
abbrev ad8 (d : Nat) (ss : List b6) (vs : List Int) (ars : List Int) (cx : Int) (k : Nat) := A9 true d (A9 true (d + 1) (vs, ars) cx (bR4 k ss)) (o7 cx (m7 (A9 true (d + 1) (vs, ars) cx (bR4 k ss)).fst (A9 true (d + 1) (vs, ars) cx (bR4 k ss)).snd 5 (ss.getD k bR0).value)) (ss.getD k bR0).body
abbrev w6 (d : Nat) (ss : List b6) (vs : List Int) (ars : List Int) (cx : Int) (k : Nat) := A9 true (d + 1) (vs, ars) cx (bR4 k ss)
abbrev a81 (d : Nat) (ss : List b6) (vs : List Int) (ars : List Int) (cx : Int) (k : Nat) := A9 true d (ad8 d ss vs ars cx k) (o7 cx (m7 (ad8 d ss vs ars cx k).fst (ad8 d ss vs ars cx k).snd 5 (ss.getD k bR0).value)) (ss.getD k bR0).els
abbrev ay8 (cx : Int) (k : Nat) (r0 : List (Nat × AV)) : List (Nat × AV) := (1, .ref 3) :: (2, iA cx) :: (3, .ptr 4 0) :: (6, iA (k : Int)) :: r0
theorem aK1 (nv na d : Nat) (bd ss : List b6) (ih : ∀ (vs ars : List Int) (tt : List b6) (cx : Int), 0 < ss.length → vs.length = nv → ars.length = na → tt.all (i5 nv na d) = true → l7.ok Tryz.prog (raC vs ars d bd tt cx))
    (vs ars : List Int) (cx : Int) (hv : vs.length = nv) (ha : ars.length = na) (hs : ss.all (i5 nv na (d + 1)) = true) : l7.ok Tryz.prog (raC vs ars (d + 1) bd ss cx) := by
  refine G3 94 Tryz.func184 [.row 3 (D.ints vs), .row 3 (D.ints ars), dT bd, dT ss] [(0, pA 0), (1, .ref 3), (2, iA cx)] fun G => ?_; have hlen : ss.length ≤ 9223372036854775807 := G.len 3 (d := .stmts ss) (by kernel_rfl); refine wp_seq (m6 G f9 (rg 5) [.row 3 (D.ints vs), .row 3 (D.ints ars), dT bd, dT ss, .box (pL 0)] [(1, .ref 3), (2, iA cx), (3, .ptr 4 0)] fun G => b5 (wp_seq (J3 G f9 [(1, .ref 3), (2, iA cx), (3, .ptr 4 0), (6, iA 0)] fun G => b5 (wp_block ?_)))); refine x7 (κ := Nat) (fun k => k ≤ ss.length) (fun k => ss.length - k) (fun k => [.row 3 (.ints (A9 true (d + 1) (vs, ars) cx (ss.take k)).1), .row 3 (.ints (A9 true (d + 1) (vs, ars) cx (ss.take k)).2), dT bd, dT ss, .box (pL 0)]) (fun k => [(1, .ref 3), (2, iA cx), (3, .ptr 4 0), (6, iA k)]) 0 (by simp [hs]) (x9.at G _ _) ?_; clear G; intro k ρ a w hp G; replace G := x9.at G [.row 3 (D.ints (w6 d ss vs ars cx k).fst), .row 3 (D.ints (w6 d ss vs ars cx k).snd), dT bd, dT ss, .box (pL 0)] (ay8 cx k []); have hsh : shP (vs, ars) (A9 true (d + 1) (vs, ars) cx (ss.take k)) := ak5; refine wp_seq (wp_seq (l5 G f9 [(11, bA (decide ((k : Int) < ss.length)))] fun G => b5 (W0 G (fun h0 q0 => ?_) fun h0 q0 => ?_)))
  · refine wp_exit (v8 (v8 (v7 ?_))); exact aO1 G (rg 4) (by show _ = mR (rg 4) [.row 3 (D.ints (A9 true (d + 1) (vs, ars) cx ss).fst), .row 3 (D.ints (A9 true (d + 1) (vs, ars) cx ss).snd), dT bd, dT ss]; have e1 : ((A9 true (d + 1) (vs, ars) cx ss).fst : List Int) = ((w6 d ss vs ars cx k).fst) := (congrArg Prod.fst (bm6 (by omega))); have e2 : ((A9 true (d + 1) (vs, ars) cx ss).snd : List Int) = ((w6 d ss vs ars cx k).snd) := (congrArg Prod.snd (bm6 (by omega))); (first | rw [e1, e2] | simp only [e1, e2]) <;> rfl)
  ·
   refine wp_skip (b5 (wp_seq (wp_block (wp_seq (M7 G f9 [0, 1, 2, 3, 4, 29, 30, 31, 32, 37] [.row 3 (D.ints (w6 d ss vs ars cx k).fst), .row 3 (D.ints (w6 d ss vs ars cx k).snd), dT bd, dT ss, .box (pL 0), dE (ss.getD k bR0).index.kids, dE (ss.getD k bR0).value.kids, dT (ss.getD k bR0).body, dT (ss.getD k bR0).els, .box (sL (ss.getD k bR0) 5)] (ay8 cx k [(7, .ptr 9 0)]) (iX k k ss.length []) (iK (by omega) bR2) fun G => b5 (wp_seq (l5 G f9 [(19, iA (ss.getD k bR0).kind)] fun G => b5 (wp_block (wp_seq (l5 G f9 [(20, bA ((ss.getD k bR0).kind == 1))] fun G => b5 (U9 G (fun h1 q1 => ?_) fun h1 q1 => ?_)))))))))))
   ·
    refine wp_seq (l5 G f9 [(40, bA ((ss.getD k bR0).kind == 2))] fun G => b5 (U9 G (fun h2 q2 => ?_) fun h2 q2 => ?_))
    ·
     refine wp_seq (l5 G f9 [(65, bA ((ss.getD k bR0).kind == 3))] fun G => b5 (U9 G (fun h3 q3 => ?_) fun h3 q3 => ?_))
     ·
      refine wp_seq (l5 G f9 [(87, bA ((ss.getD k bR0).kind == 4))] fun G => b5 (U9 G (fun h4 q4 => ?_) fun h4 q4 => ?_))
      · refine wp_skip (o5 (o5 (b5 (M7 G f9 (rg 5) [.row 3 (D.ints (w6 d ss vs ars cx k).fst), .row 3 (D.ints (w6 d ss vs ars cx k).snd), dT bd, dT ss, .box (pL 0)] [(1, .ref 3), (2, iA cx), (3, .ptr 4 0), (6, iA ((k : Int) + 1))] [wO ((k : Int) + 1)] (o1 (by omega)) fun G => b5 ?_)))); exact Q6 G (k + 1) (by omega) (by omega) (rg 5) (by have e1 : ((A9 true (d + 1) (vs, ars) cx (bR4 (k + 1) ss)).fst : List Int) = ((w6 d ss vs ars cx k).fst) := (congrArg Prod.fst (rn0 hs (by omega) (by omega) (by omega) (by omega) (by omega))); have e2 : ((A9 true (d + 1) (vs, ars) cx (bR4 (k + 1) ss)).snd : List Int) = ((w6 d ss vs ars cx k).snd) := (congrArg Prod.snd (rn0 hs (by omega) (by omega) (by omega) (by omega) (by omega))); (first | rw [e1, e2] | simp only [e1, e2]) <;> rfl)
      · refine m6 G (A0 4 [0, 1, 2, 7] (ih ((w6 d ss vs ars cx k).fst) ((w6 d ss vs ars cx k).snd) ((ss.getD k bR0).body) cx (by omega) (hsh.1.trans hv) (hsh.2.trans ha) ((A4 hs (by omega)).2.1))) (rg 5) [.row 3 (D.ints (A9 true d (w6 d ss vs ars cx k) cx (ss.getD k bR0).body).fst), .row 3 (D.ints (A9 true d (w6 d ss vs ars cx k) cx (ss.getD k bR0).body).snd), dT bd, dT ss, .box (pL 0)] (ay8 cx k []) fun G => o5 (o5 (b5 (H0 G f9 [(6, iA ((k : Int) + 1))] [wO ((k : Int) + 1)] (o1 (by omega)) fun G => b5 ?_))); exact Q6 G (k + 1) (by omega) (by omega) (rg 5) (by have e1 : ((A9 true (d + 1) (vs, ars) cx (bR4 (k + 1) ss)).fst : List Int) = ((A9 true d (w6 d ss vs ars cx k) cx (ss.getD k bR0).body).fst) := (congrArg Prod.fst (rn4 hs (by omega) (by omega))); have e2 : ((A9 true (d + 1) (vs, ars) cx (bR4 (k + 1) ss)).snd : List Int) = ((A9 true d (w6 d ss vs ars cx k) cx (ss.getD k bR0).body).snd) := (congrArg Prod.snd (rn4 hs (by omega) (by omega))); (first | rw [e1, e2] | simp only [e1, e2]) <;> rfl)
     · refine wp_seq (aC1 G (B1 ⟨[(7, _, [0, 1, 2, 6]), (9, _, [0, 1, 2, 7])], [], []⟩ (b8 (l7.lend (V7 ((w6 d ss vs ars cx k).fst) ((w6 d ss vs ars cx k).snd) bd ((ss.getD k bR0).value) (aN4 hsh hv ha (A4 hs (by omega)).1 (by omega))) [.row 3, .row 3]) (b8 (ih ((w6 d ss vs ars cx k).fst) ((w6 d ss vs ars cx k).snd) ((ss.getD k bR0).body) (o7 cx (m7 (w6 d ss vs ars cx k).fst (w6 d ss vs ars cx k).snd 5 (ss.getD k bR0).value)) (by omega) (hsh.1.trans hv) (hsh.2.trans ha) ((A4 hs (by omega)).2.1)) d7)) bR2) [0, 0, 2, 0, 0, 0, 32, 112, 248, 511] (rg 10) [.row 3 (D.ints (ad8 d ss vs ars cx k).fst), .row 3 (D.ints (ad8 d ss vs ars cx k).snd), dT bd, dT ss, .box (pL 0), dE (ss.getD k bR0).index.kids, dE (ss.getD k bR0).value.kids, dT (ss.getD k bR0).body, dT (ss.getD k bR0).els, .box (sL (ss.getD k bR0) 5)] (ay8 cx k [(7, .ptr 9 0)]) fun G => b5 (aC1 G (B1 ⟨[(7, _, [0, 1, 2, 6]), (9, _, [0, 1, 2, 8])], [], []⟩ (b8 (l7.lend (V7 ((ad8 d ss vs ars cx k).fst) ((ad8 d ss vs ars cx k).snd) bd ((ss.getD k bR0).value) (aN4 (hsh.trans ak5) hv ha (A4 hs (by omega)).1 (by omega))) [.row 3, .row 3]) (b8 (ih ((ad8 d ss vs ars cx k).fst) ((ad8 d ss vs ars cx k).snd) ((ss.getD k bR0).els) (o7 cx (m7 (ad8 d ss vs ars cx k).fst (ad8 d ss vs ars cx k).snd 5 (ss.getD k bR0).value)) (by omega) ((hsh.trans ak5).1.trans hv) ((hsh.trans ak5).2.trans ha) ((A4 hs (by omega)).2.2)) d7)) bR2) [0, 0, 2, 0, 0, 0, 32, 112, 248, 511] (rg 5) [.row 3 (D.ints (a81 d ss vs ars cx k).fst), .row 3 (D.ints (a81 d ss vs ars cx k).snd), dT bd, dT ss, .box (pL 0)] (ay8 cx k []) fun G => o5 (o5 (b5 (H0 G f9 [(6, iA ((k : Int) + 1))] [wO ((k : Int) + 1)] (o1 (by omega)) fun G => b5 ?_))))); exact Q6 G (k + 1) (by omega) (by omega) (rg 5) (by have e1 : ((A9 true (d + 1) (vs, ars) cx (bR4 (k + 1) ss)).fst : List Int) = ((a81 d ss vs ars cx k).fst) := (congrArg Prod.fst (rn3 (by omega) (by omega))); have e2 : ((A9 true (d + 1) (vs, ars) cx (bR4 (k + 1) ss)).snd : List Int) = ((a81 d ss vs ars cx k).snd) := (congrArg Prod.snd (rn3 (by omega) (by omega))); (first | rw [e1, e2] | simp only [e1, e2]) <;> rfl)
    · refine Y2 G (B1 ⟨[(13, _, [0, 1, 2, 6]), (18, _, [0, 1, 2, 5])], [], []⟩ (b8 (l7.lend (V7 ((w6 d ss vs ars cx k).fst) ((w6 d ss vs ars cx k).snd) bd ((ss.getD k bR0).value) (aN4 hsh hv ha (A4 hs (by omega)).1 (by omega))) [.row 3, .row 3]) (b8 (l7.lend (V7 ((w6 d ss vs ars cx k).fst) ((w6 d ss vs ars cx k).snd) bd ((ss.getD k bR0).index) (bD1 hsh hv ha (A4 hs (by omega)).1 (by omega))) [.row 3, .row 3]) d7)) bR2) [0, 1, 0, 4, 0, 16, 0, 64, 240, 496, 0, 0, 2048, 7168, 16368, 0, 0, 65536, 244736, 524272, 0, 2097136, 4194303, 8388607] (rg 5) [.row 3 (D.ints (w6 d ss vs ars cx k).fst), .row 3 (D.ints ((w6 d ss vs ars cx k).snd.set (ss.getD k bR0).target.toNat (o7 (o7 (o7 ((w6 d ss vs ars cx k).snd.getD (ss.getD k bR0).target.toNat 0) (m7 (w6 d ss vs ars cx k).fst (w6 d ss vs ars cx k).snd 5 (ss.getD k bR0).value)) (m7 (w6 d ss vs ars cx k).fst (w6 d ss vs ars cx k).snd 5 (ss.getD k bR0).index)) cx))), dT bd, dT ss, .box (pL 0)] (ay8 cx k []) (iX ((ss.getD k bR0).target) ((ss.getD k bR0).target.toNat) ((A9 true (d + (1 : Nat)) (vs, ars) cx (bR4 k ss)).snd.length) (iX ((ss.getD k bR0).target) ((ss.getD k bR0).target.toNat) ((A9 true (d + (1 : Nat)) (vs, ars) cx (bR4 k ss)).snd.length) [])) (iK (by have h9 := O4 (A4 (k := k) hs (by omega)).1 (by omega); have h8 := hsh.2.trans ha; omega) (iK (by have h9 := O4 (A4 (k := k) hs (by omega)).1 (by omega); have h8 := hsh.2.trans ha; omega) bR2)) fun G => o5 (o5 (b5 (H0 G f9 [(6, iA ((k : Int) + 1))] [wO ((k : Int) + 1)] (o1 (by omega)) fun G => b5 ?_))); exact Q6 G (k + 1) (by have h9 := O4 (A4 (k := k) hs (by omega)).1 (by omega); have h8 := hsh.2.trans ha; omega) (by have h9 := O4 (A4 (k := k) hs (by omega)).1 (by omega); have h8 := hsh.2.trans ha; omega) (rg 5) (by have e2 : ((A9 true (d + 1) (vs, ars) cx (bR4 (k + 1) ss)).snd : List Int) = ((w6 d ss vs ars cx k).snd.set (ss.getD k bR0).target.toNat (o7 (o7 (o7 ((w6 d ss vs ars cx k).snd.getD (ss.getD k bR0).target.toNat 0) (m7 (w6 d ss vs ars cx k).fst (w6 d ss vs ars cx k).snd 5 (ss.getD k bR0).value)) (m7 (w6 d ss vs ars cx k).fst (w6 d ss vs ars cx k).snd 5 (ss.getD k bR0).index)) cx)) := (congrArg Prod.snd (rn2 hs (by omega) (by omega))); have h9 := rn2 (q := (vs, ars)) (cx := cx) hs (show k < _ by omega) (by omega); rw [e2, h9] <;> rfl)
   · refine Y2 G (A0 13 [0, 1, 2, 6] (l7.lend (V7 ((w6 d ss vs ars cx k).fst) ((w6 d ss vs ars cx k).snd) bd ((ss.getD k bR0).value) (aN4 hsh hv ha (A4 hs (by omega)).1 (by omega))) [.row 3, .row 3])) [0, 1, 0, 4, 0, 16, 0, 64, 240, 496, 0, 0, 2048, 7168, 16368, 0, 65520, 131071, 262143] (rg 5) [.row 3 (D.ints ((w6 d ss vs ars cx k).fst.set (ss.getD k bR0).target.toNat (o7 (o7 ((w6 d ss vs ars cx k).fst.getD (ss.getD k bR0).target.toNat 0) (m7 (w6 d ss vs ars cx k).fst (w6 d ss vs ars cx k).snd 5 (ss.getD k bR0).value)) cx))), .row 3 (D.ints (w6 d ss vs ars cx k).snd), dT bd, dT ss, .box (pL 0)] (ay8 cx k []) (iX ((ss.getD k bR0).target) ((ss.getD k bR0).target.toNat) ((A9 true (d + (1 : Nat)) (vs, ars) cx (bR4 k ss)).fst.length) (iX ((ss.getD k bR0).target) ((ss.getD k bR0).target.toNat) ((A9 true (d + (1 : Nat)) (vs, ars) cx (bR4 k ss)).fst.length) [])) (iK (by have h9 := O3 (A4 (k := k) hs (by omega)).1 (by omega); have h8 := hsh.1.trans hv; omega) (iK (by have h9 := O3 (A4 (k := k) hs (by omega)).1 (by omega); have h8 := hsh.1.trans hv; omega) bR2)) fun G => o5 (o5 (b5 (H0 G f9 [(6, iA ((k : Int) + 1))] [wO ((k : Int) + 1)] (o1 (by omega)) fun G => b5 ?_))); exact Q6 G (k + 1) (by have h9 := O3 (A4 (k := k) hs (by omega)).1 (by omega); have h8 := hsh.1.trans hv; omega) (by have h9 := O3 (A4 (k := k) hs (by omega)).1 (by omega); have h8 := hsh.1.trans hv; omega) (rg 5) (by have e1 : ((A9 true (d + 1) (vs, ars) cx (bR4 (k + 1) ss)).fst : List Int) = ((w6 d ss vs ars cx k).fst.set (ss.getD k bR0).target.toNat (o7 (o7 ((w6 d ss vs ars cx k).fst.getD (ss.getD k bR0).target.toNat 0) (m7 (w6 d ss vs ars cx k).fst (w6 d ss vs ars cx k).snd 5 (ss.getD k bR0).value)) cx)) := (congrArg Prod.fst (rn1 hs (by omega) (by omega))); have h9 := rn1 (q := (vs, ars)) (cx := cx) hs (show k < _ by omega) (by omega); rw [e1, h9] <;> rfl)
theorem a61 (nv na : Nat) (bd : List b6) : ∀ (d : Nat) (vs ars : List Int) (ss : List b6) (cx : Int), vs.length = nv → ars.length = na → ss.all (i5 nv na d) = true → l7.ok Tryz.prog (raC vs ars d bd ss cx) := by
 intro d
 induction d with
 | zero =>
  intro vs ars ss cx hv ha hs
  have h0 : ss = [] := by
   cases ss with
   | nil => rfl
   | cons a r => simp [i5] at hs
  subst h0
  exact aK1 nv na 0 bd [] (fun _ _ _ _ h => absurd h (by simp)) vs ars cx hv ha rfl
 | succ d ih => intro vs ars ss cx hv ha hs; exact aK1 nv na d bd ss (fun vs ars tt cx _ h1 h2 h3 => ih vs ars tt cx h1 h2 h3) vs ars cx hv ha hs
theorem a60 (vs ars : List Int) (b : List b6) (hs : b.all (i5 vs.length ars.length 5) = true) : l7.ok Tryz.prog ⟨184, [pA 0, .ref 2, iA 0], [.row 3 (.ints vs), .row 3 (.ints ars), dT b], [.row 3 (.ints (A9 true 5 (vs, ars) 0 b).1), .row 3 (.ints (A9 true 5 (vs, ars) 0 b).2), dT b], .tup []⟩ :=
 l7.dup (S := [.row 3 (.ints vs), .row 3 (.ints ars), dT b]) (S' := [.row 3 (.ints (A9 true 5 (vs, ars) 0 b).1), .row 3 (.ints (A9 true 5 (vs, ars) 0 b).2), dT b]) (d := .stmts b) (i := 2) (a61 _ _ b 5 vs ars b 0 rfl rfl hs) rfl rfl rfl (fun ρ h => by simp only [AV.vals, AV.val]; rw [show ρ 3 = ρ 2 from h]) rfl
def okI (p : f5) : Bool := m0 p && decide ((H3 ⟨(as1 p).1, (as1 p).2, p.body⟩ false).1 = 0)
def ad3 (p : f5) : f5 := if okI p = true then ⟨(as1 p).1, (as1 p).2, p.body⟩ else ⟨[], [], []⟩
theorem aC4 {p : f5} (h : m0 p = true) : p.vars.length + p.arrays.length ≤ 14 := by
 unfold m0 D3 at h
 simp only [bR1, decide_eq_true_eq] at h
 omega
section
variable {p : f5} {q : J7} {b : List b6} {X : J7}
theorem Z5 (h : (decide (X.1 = q.1) && (decide (X.2 = q.2) && r7 b b)) = true) : X = q := by
 simp only [bR1, decide_eq_true_eq] at h
 exact Prod.ext h.1 h.2.1
theorem a23 (h : (decide (X.1 = q.1) && (decide (X.2 = q.2) && r7 b b)) = false) : ¬ X = q := fun e => by
 subst e
 rw [(G0 b b).2 rfl] at h
 simp at h
theorem bq6 {f : Bool} (hp : m0 p = true) (h : ad6 p.body (p.vars, p.arrays) q) (hne : ¬ A9 f 5 q 0 p.body = q) : 100 - aG8 (A9 f 5 q 0 p.body) < 100 - aG8 q := by
 have h1 := ai1 (f := f) h
 have h2 := a91 ak5 h.2.1 h1.2.1 aA5 hne
 have h3 := aS8 h1.2.1
 have h4 := aC4 hp
 rw [h1.1.1, h1.1.2] at h3
 simp only at h3
 omega
theorem by1 (hb : p.size ≤ 1048576) (h : ad6 p.body (p.vars, p.arrays) q) : q.1.length + q.2.length + r6 p.body ≤ 1048576 := by
 have h1 := h.1.1
 have h2 := h.1.2
 unfold f5.size at hb
 simp only at h1 h2
 omega
theorem bf5 (hp : m0 p = true) (h : ad6 p.body (p.vars, p.arrays) q) : p.body.all (i5 q.1.length q.2.length 5) = true := by
 rw [h.1.1, h.1.2]; exact (K0 hp).1
theorem bo2 (h : m0 p = false) : okI p = false := by unfold okI; rw [h]; rfl
theorem bo3 (hp : m0 p = true) (h : ad6 p.body (p.vars, p.arrays) q) (hf : A9 true 5 q 0 p.body = q) : okI p = decide ((H3 ⟨q.1, q.2, p.body⟩ false).1 = 0) := by
 unfold okI; rw [hp, bb2 hp (aC4 hp) h hf]; rfl
theorem bb1 (h : okI p = false) : ad3 p = ⟨[], [], []⟩ := by unfold ad3; rw [h]; rfl
theorem by3 (hp : m0 p = true) (h : ad6 p.body (p.vars, p.arrays) q) (hf : A9 true 5 q 0 p.body = q) (hk : okI p = true) : ad3 p = ⟨q.1, q.2, p.body⟩ := by unfold ad3; rw [hk, bb2 hp (aC4 hp) h hf]; rfl
theorem bJ6 (hp : m0 p = true) (h : ad6 p.body (p.vars, p.arrays) q) (hf : A9 true 5 q 0 p.body = q) (hc : (H3 ⟨q.1, q.2, p.body⟩ false).1 = 0) : okI p = true := by rw [bo3 hp h hf]; exact decide_eq_true hc
theorem bJ7 (hp : m0 p = true) (h : ad6 p.body (p.vars, p.arrays) q) (hf : A9 true 5 q 0 p.body = q) (hc : ¬ (H3 ⟨q.1, q.2, p.body⟩ false).1 = 0) : okI p = false := by rw [bo3 hp h hf]; exact decide_eq_false hc
end
abbrev aI4 (p : f5) : List It := [dI p.vars, dI p.arrays, dT p.body, .row 3 (D.ints (ad3 p).vars), .row 3 (D.ints (ad3 p).arrays), .tree (D.stmts (ad3 p).body)]
abbrev au1 : It := .box [.v (.slice none 0 0), .v (.slice none 0 0), .v (.slice none 0 0)]
abbrev az7 : It := .box [.ref 4, .ref 5, .tref 6]
abbrev am6 (p : f5) (q : J7) (r0 : List It) : List It := .row 3 (D.ints q.fst) :: .row 3 (D.ints q.snd) :: .tree (D.stmts p.body) :: r0
abbrev ad7 (r0 : List (Nat × AV)) : List (Nat × AV) := (2, .ptr 3 0) :: (3, bA false) :: (4, .ptr 7 0) :: r0
abbrev S5 (p : f5) (r0 : List It) : List It := dI p.vars :: dI p.arrays :: dT p.body :: r0
theorem aH8 (p : f5) (hb : p.size ≤ 1048576) : l7.ok Tryz.prog ⟨124, [pA 0], pS p, pS p ++ oP (ad3 p), .tup [oA 3, bA (okI p)]⟩ := by
  refine G3 33 Tryz.func124 (S5 p []) [(0, pA 0)] fun G => ?_
  have hb1 : p.vars.length ≤ 1048576 ∧ p.arrays.length ≤ 1048576 ∧ r6 p.body ≤ 1048576 := by unfold f5.size at hb; omega
  refine wp_seq (m6 G f9 [0, 1, 2, 3, 11] (S5 p [.box (pL 0), au1]) [(1, .ptr 3 0), (2, .ptr 4 0), (3, bA false)] fun G => b5 (wp_seq (wp_seq (l5 G (A0 1 [0, 1, 2] (O6 p hb1.2.2)) [(10, .v (.bool !m0 p))] fun G => b5 ?_)))); cases h0 : (!m0 p)
  ·
   have q0 : (m0 p) = true := (Eq.mp (bS3 _) h0); refine rF G _ h0 (wp_skip (b5 (wp_seq (m6 G (A0 1 [0, 1, 2] (at1 p.vars p.arrays p.body (by assumption))) [0, 1, 2, 4, 13, 14, 15, 21] (S5 p [au1, .row 3 (D.ints p.vars), .row 3 (D.ints p.arrays), .tree (D.stmts p.body), az7]) (ad7 []) fun G => b5 (wp_seq (wp_block ?_)))))); refine x7 (κ := J7) (fun q => ad6 p.body (p.vars, p.arrays) q) (fun q => 100 - aG8 q) (fun q => (S5 p [au1, .row 3 (.ints q.1), .row 3 (.ints q.2), .tree (D.stmts p.body), az7])) (fun q => (ad7 [])) ((p.vars, p.arrays)) (al4 (aP5 (by with_reducible assumption))) (x9.at G _ _) ?_; clear G; intro q ρ a w hp G; replace G := x9.at G (S5 p (au1 :: (am6 p q [az7]))) (ad7 []); refine wp_block (wp_seq (m6 G (A0 1 [4, 5, 6] (l7.lend (at1 q.fst q.snd p.body (by1 hb (by with_reducible assumption))) [.row 3, .row 3, .tree])) [0, 1, 2, 3, 4, 5, 6, 7, 16, 17, 18, 24] (S5 p (au1 :: (am6 p q (az7 :: (am6 p q [.box [.ref 8, .ref 9, .tref 10]]))))) (ad7 [(5, .ptr 11 0)]) fun G => b5 (wp_seq (m6 G (A0 3 [8, 9, 10] (l7.lend (a60 q.fst q.snd p.body (bf5 (by with_reducible assumption) (by with_reducible assumption))) [.no, .no, .tree])) (rg 12) (S5 p (au1 :: (am6 p q [az7, .row 3 (D.ints (A9 true 5 q 0 p.body).fst), .row 3 (D.ints (A9 true 5 q 0 p.body).snd), .tree (D.stmts p.body), .box [.ref 8, .ref 9, .tref 10]]))) (ad7 [(5, .ptr 11 0)]) fun G => b5 (wp_seq (wp_seq (J3 G (A0 2 [8, 9, 10, 4, 5, 6] (l7.lend (aH7 ((A9 true 5 q 0 p.body).fst) ((A9 true 5 q 0 p.body).snd) p.body q.fst q.snd p.body) [.row 3, .row 3, .tree, .row 3, .row 3, .tree])) (ad7 [(5, .ptr 11 0), (22, bA (decide ((A9 true 5 q 0 p.body).fst = q.fst) && (decide ((A9 true 5 q 0 p.body).snd = q.snd) && r7 p.body p.body)))]) fun G => b5 ?_))))))); cases h1 : (decide ((A9 true (5 : Nat) q (0 : Int) p.body).fst = q.fst) && (decide ((A9 true (5 : Nat) q (0 : Int) p.body).snd = q.snd) && r7 p.body p.body))
   · have q1 : (¬ ((A9 true 5 q 0 p.body).fst = q.fst)) ∨ ((¬ ((A9 true 5 q 0 p.body).snd = q.snd)) ∨ ((r7 p.body p.body) = false)) := Or.imp (fun hq => of_decide_eq_false hq) (fun hq => Or.imp (fun hq => of_decide_eq_false hq) (fun hq => (hq)) (bT9.1 hq)) (bT9.1 h1); refine rF G _ h1 (wp_skip (b5 (m6 G f9 [0, 1, 2, 3, 7, 8, 9, 10] (S5 p [au1, .box [.ref 5, .ref 6, .tref 7], .row 3 (D.ints (A9 true 5 q 0 p.body).fst), .row 3 (D.ints (A9 true 5 q 0 p.body).snd), .tree (D.stmts p.body)]) [(2, .ptr 3 0), (3, bA false), (4, .ptr 4 0)] fun G => o5 (b5 ?_)))); exact Q6 G (A9 true 5 q 0 p.body) (ai1 (by with_reducible assumption)) (bq6 (by with_reducible assumption) (by with_reducible assumption) (a23 (by with_reducible assumption))) [0, 1, 2, 3, 5, 6, 7, 4]
   ·
    have q1 : ((A9 true 5 q 0 p.body).fst = q.fst) ∧ (((A9 true 5 q 0 p.body).snd = q.snd) ∧ ((r7 p.body p.body) = true)) := And.imp (fun hq => of_decide_eq_true hq) (fun hq => And.imp (fun hq => of_decide_eq_true hq) (fun hq => (hq)) (bU0.1 hq)) (bU0.1 h1); refine rT G _ h1 (wp_exit (v8 ?_)); refine bA5 (by kernel_rfl) ?_; refine v8 (v7 (b5 (wp_seq (m6 G (A0 1 [4, 5, 6] (l7.lend (aR0 q.fst q.snd p.body hb1.2.2) [.row 3, .row 3, .tree])) (rg 8) (S5 p (au1 :: (am6 p q [az7]))) (ad7 [(6, iA (H3 (f5.mk q.fst q.snd p.body) false).fst)]) fun G => b5 (wp_seq (wp_seq (l5 G f9 [(30, bA ((H3 (f5.mk q.fst q.snd p.body) false).fst != 0))] fun G => b5 (rcN G (fun h2 q2 => ?_) fun h2 q2 => ?_))))))))
    · refine wp_skip (b5 (wp_seq (m6 G f9 (rg 7) (S5 p (az7 :: (am6 p q []))) [(2, .ptr 3 0), (3, bA true)] fun G => b5 (wp_ret ?_)))); exact rxv (.tup [.agg [.ref 4, .ref 5, .tref 6], bA true]) G [0, 1, 2, 4, 5, 6] (by have e1 : (okI p : Bool) = (true) := (bJ6 (by with_reducible assumption) (by with_reducible assumption) (Z5 (by with_reducible assumption)) (by with_reducible assumption)); (first | rw [e1] | simp only [e1]) <;> rfl) (by show _ = mR [0, 1, 2, 4, 5, 6] (aI4 p); unfold aI4; rw [by3 (by with_reducible assumption) (by with_reducible assumption) (Z5 (by with_reducible assumption)) (bJ6 (by with_reducible assumption) (by with_reducible assumption) (Z5 (by with_reducible assumption)) (by with_reducible assumption))] <;> rfl)
    · refine wp_seq (J3 G f9 (ad7 []) fun G => b5 (wp_ret (m8 ?_))); obtain ⟨ρ, G⟩ := G.nil 8 3 (.ints []) 1 (S5 p (.box [.ref 8, .v (.slice none 0 0), .v (.slice none 0 0)] :: (am6 p q [.box [.ref 4, .ref 5, .tref 6]]))) (ad7 []); obtain ⟨ρ, G⟩ := G.nil 9 3 (.ints []) 1 (S5 p (.box [.ref 8, .ref 9, .v (.slice none 0 0)] :: (am6 p q [.box [.ref 4, .ref 5, .tref 6], .row 3 (D.ints [])]))) (ad7 []); obtain ⟨ρ, G⟩ := G.nilT 10 (.stmts []) (S5 p (.box [.ref 8, .ref 9, .tref 10] :: (am6 p q [.box [.ref 4, .ref 5, .tref 6], .row 3 (D.ints []), .row 3 (D.ints [])]))) (ad7 []); exact rxv (.tup [.agg [.ref 8, .ref 9, .tref 10], bA false]) G [0, 1, 2, 8, 9, 10] (by have e1 : (okI p : Bool) = (false) := (bJ7 (by with_reducible assumption) (by with_reducible assumption) (Z5 (by with_reducible assumption)) (by with_reducible assumption)); (first | rw [e1] | simp only [e1]) <;> rfl) (by show _ = mR [0, 1, 2, 8, 9, 10] (aI4 p); unfold aI4; rw [bb1 (bJ7 (by with_reducible assumption) (by with_reducible assumption) (Z5 (by with_reducible assumption)) (by with_reducible assumption))] <;> rfl)
  · have q0 : (m0 p) = false := (Eq.mp (bS1 _) h0); refine rT G _ h0 (wp_seq (J3 G f9 [(1, .ptr 3 0), (2, .ptr 4 0), (3, bA false)] fun G => b5 (wp_ret (m8 ?_)))); obtain ⟨ρ, G⟩ := G.nil 5 3 (.ints []) 1 (S5 p [.box (pL 0), .box [.ref 5, .v (.slice none 0 0), .v (.slice none 0 0)]]) [(1, .ptr 3 0), (2, .ptr 4 0), (3, bA false)]; obtain ⟨ρ, G⟩ := G.nil 6 3 (.ints []) 1 (S5 p [.box (pL 0), .box [.ref 5, .ref 6, .v (.slice none 0 0)], .row 3 (D.ints [])]) [(1, .ptr 3 0), (2, .ptr 4 0), (3, bA false)]; obtain ⟨ρ, G⟩ := G.nilT 7 (.stmts []) (S5 p [.box (pL 0), .box [.ref 5, .ref 6, .tref 7], .row 3 (D.ints []), .row 3 (D.ints [])]) [(1, .ptr 3 0), (2, .ptr 4 0), (3, bA false)]; exact rxv (.tup [.agg [.ref 5, .ref 6, .tref 7], bA false]) G [0, 1, 2, 5, 6, 7] (by have e1 : (okI p : Bool) = (false) := (bo2 (by with_reducible assumption)); (first | rw [e1] | simp only [e1]) <;> rfl) (by show _ = mR [0, 1, 2, 5, 6, 7] (aI4 p); unfold aI4; rw [bb1 (bo2 (by with_reducible assumption))] <;> rfl)
end Go.Proofs.YthikdkjjdeehoaaGreat

namespace Go.Proofs.YthikdkjjdeehoaaGreat
set_option linter.unusedVariables false
set_option linter.unusedSimpArgs false
open Go Go.RowKit
theorem bb9 {x x' y : Int} (h : flB x y = true) (hx : f7 x' = true) (hle : H1 x' x) : flB x' y = true := by
 unfold flB at h ⊢
 simp only [bR1, beq_iff_eq] at h ⊢
 exact ⟨⟨hx, h.1.2⟩, bn6 (hle.trans (bp3 h.2)) h.1.2⟩
theorem bp4 {a b : Int} (ha : f7 a = true) (hb : f7 b = true) (h : H1 a b) : (b ≤ 1 → a ≤ 1) ∧ (b = 0 → a = 0) ∧ (ak9 a = true → ak9 b = true) := by
 unfold f7 at ha hb
 simp only [bR1, decide_eq_true_eq] at ha hb
 have h1 : a = 0 ∨ a = 1 ∨ a = 2 ∨ a = 3 := by omega
 have h2 : b = 0 ∨ b = 1 ∨ b = 2 ∨ b = 3 := by omega
 unfold H1 bv at h
 rcases h1 with rfl | rfl | rfl | rfl <;> rcases h2 with rfl | rfl | rfl | rfl <;> revert h <;> decide +kernel
theorem al6 {l : List b6} (h : l.length = 0) : (d9 l).length = 0 := by
 rw [bT3 h]; rfl
theorem al0 {nv na : Nat} {e : b9} (h : i9 nv na e = true) : i9 nv na (d8 e) = true := by
 unfold i9 at h ⊢
 simp only [bR1, decide_eq_true_eq] at h ⊢
 have := aW9 e
 exact ⟨(aE3 [] [] nv na 5 e h.1).1, by omega⟩
theorem bg0 {nv na : Nat} {k t c : Int} {i v : b9} {b e B E : List b6} (h : C1 nv na ⟨k, t, i, v, c, b, e⟩ = true) (h4 : k ≠ 4) (hb : b.length = 0 → B.length = 0) (he : e.length = 0 → E.length = 0) : C1 nv na ⟨k, t, i, d8 v, c, B, E⟩ = true := by
  have h : ((if (k = 3 ∨ k = 4) then
    decide (t = 0) && (if k = 4 then decide (e.length = 0) && decide (1 ≤ c) && decide (c ≤ 3) && noneB i && noneB v
      else decide (c = 0) && noneB i)
  else decide (b.length = 0) && decide (e.length = 0) && decide (c = 0) && (decide (k = 2) || noneB i)) &&
    (if k = 1 ∨ k = 5 then decide (0 ≤ t) && decide (t < nv) && i9 nv na v
     else if k = 2 then decide (0 ≤ t) && decide (t < na) && i9 nv na i && G5 i && i9 nv na v
     else if k = 3 then i9 nv na v
     else decide (k = 4))) = true := h
  show ((if (k = 3 ∨ k = 4) then
    decide (t = 0) && (if k = 4 then decide (E.length = 0) && decide (1 ≤ c) && decide (c ≤ 3) && noneB i && noneB (d8 v)
      else decide (c = 0) && noneB i)
  else decide (B.length = 0) && decide (E.length = 0) && decide (c = 0) && (decide (k = 2) || noneB i)) &&
    (if k = 1 ∨ k = 5 then decide (0 ≤ t) && decide (t < nv) && i9 nv na (d8 v)
     else if k = 2 then decide (0 ≤ t) && decide (t < na) && i9 nv na i && G5 i && i9 nv na (d8 v)
     else if k = 3 then i9 nv na (d8 v)
     else decide (k = 4))) = true
  rw [bR1] at h ⊢
  obtain ⟨h1, h2⟩ := h
  constructor
  · by_cases k3 : k = 3 ∨ k = 4
    · rw [if_pos k3, if_neg h4] at h1 ⊢; exact h1
    · rw [if_neg k3] at h1 ⊢
      simp only [bR1, decide_eq_true_eq] at h1 ⊢
      exact ⟨⟨⟨hb h1.1.1.1, he h1.1.1.2⟩, h1.1.2⟩, h1.2⟩
  · by_cases k1 : k = 1 ∨ k = 5
    · rw [if_pos k1] at h2 ⊢
      simp only [bR1] at h2 ⊢
      exact ⟨h2.1, al0 h2.2⟩
    · rw [if_neg k1] at h2 ⊢
      by_cases k2 : k = 2
      · rw [if_pos k2] at h2 ⊢
        simp only [bR1] at h2 ⊢
        exact ⟨h2.1, al0 h2.2⟩
      · rw [if_neg k2] at h2 ⊢
        by_cases k3 : k = 3
        · rw [if_pos k3] at h2 ⊢; exact al0 h2
        · rw [if_neg k3] at h2 ⊢; exact h2
theorem bf9 {nv na : Nat} {k t c : Int} {i v : b9} {b e B E : List b6} (h : C1 nv na ⟨k, t, i, v, c, b, e⟩ = true) (h4 : k = 4) (he : e.length = 0 → E.length = 0) : C1 nv na ⟨k, t, i, v, c, B, E⟩ = true := by
 subst h4
 have h : ((decide (t = 0) && (decide (e.length = 0) && decide (1 ≤ c) && decide (c ≤ 3) && noneB i && noneB v)) && true) = true := h
 show ((decide (t = 0) && (decide (E.length = 0) && decide (1 ≤ c) && decide (c ≤ 3) && noneB i && noneB v)) && true) = true
 simp only [bR1, decide_eq_true_eq] at h ⊢
 exact ⟨⟨h.1.1, ⟨⟨⟨he h.1.2.1.1.1.1, h.1.2.1.1.1.2⟩, h.1.2.1.1.2⟩, h.1.2.1.2⟩, h.1.2.2⟩, bR2⟩
section
variable {vs ars : List Int} (hv : vs.all f7 = true) (ha : ars.all f7 = true)
include hv ha
theorem bn5 {k t c pc q : Int} {i v v' : b9} {b e B E : List b6} {strict : Bool} (h4 : k ≠ 4) (hq : f7 q = true) (hpc : f7 pc = true) (hle : H1 q pc) (hl : H1 (m7 vs ars 5 v') (m7 vs ars 5 v)) (hs : s9 vs ars 5 v' = true → s9 vs ars 5 v = true)
  (h : L5 ⟨vs, ars, []⟩ ⟨k, t, i, v, c, b, e⟩ pc strict = 0) : L5 ⟨vs, ars, []⟩ ⟨k, t, i, v', c, B, E⟩ q strict = 0 := by
 have ov := fun e => T7 hv ha 5 e
 have hn := bp4 (ov v') (ov v) hl
 have hp := bp4 hq hpc hle
 unfold L5 at h ⊢
 have hf : J5 ⟨vs, ars, []⟩ ⟨k, t, i, v, c, b, e⟩ pc = 0 := by
  split at h
  ·assumption
  ·rename_i hne; exact absurd h hne
 rw [if_pos hf] at h
 have hf2 : J5 ⟨vs, ars, []⟩ ⟨k, t, i, v', c, B, E⟩ q = 0 := by
  have hf : (if k = 1 then (if flB (o7 (m7 vs ars 5 v) pc) (vs.getD t.toNat 0) = true then (0 : Int) else 1)
   else if k = 2 then (if flB (o7 (o7 (m7 vs ars 5 v) (m7 vs ars 5 i)) pc) (ars.getD t.toNat 0) = true then 0 else 1)
   else if k = 5 then (if ((f7 (m7 vs ars 5 v) && decide (m7 vs ars 5 v ≤ 1)) && decide (pc = 0)) = true then 0 else 2)
   else 0) = 0 := hf
  show (if k = 1 then (if flB (o7 (m7 vs ars 5 v') q) (vs.getD t.toNat 0) = true then (0 : Int) else 1)
   else if k = 2 then (if flB (o7 (o7 (m7 vs ars 5 v') (m7 vs ars 5 i)) q) (ars.getD t.toNat 0) = true then 0 else 1)
   else if k = 5 then (if ((f7 (m7 vs ars 5 v') && decide (m7 vs ars 5 v' ≤ 1)) && decide (q = 0)) = true then 0 else 2)
   else 0) = 0
  by_cases k1 : k = 1
  ·rw [if_pos k1] at hf ⊢
   split at hf
   ·rename_i hfl
    rw [if_pos (bb9 hfl (T0 (ov v') hq) (O0 hl hle))]
   ·cases hf
  ·rw [if_neg k1] at hf ⊢
   by_cases k2 : k = 2
   ·rw [if_pos k2] at hf ⊢
    split at hf
    ·rename_i hfl
     rw [if_pos (bb9 hfl (T0 (T0 (ov v') (ov i)) hq) (O0 (O0 hl (H1.refl _)) hle))]
    ·cases hf
   ·rw [if_neg k2] at hf ⊢
    by_cases k5 : k = 5
    ·rw [if_pos k5] at hf ⊢
     split at hf
     ·rename_i hfl
      simp only [bR1, decide_eq_true_eq] at hfl
      rw [ov v', decide_eq_true (hn.1 hfl.1.2), decide_eq_true (hp.2.1 hfl.2)]; rfl
     ·cases hf
    ·rw [if_neg k5]
 rw [if_pos hf2]
 cases strict
 ·rfl
 ·have h : X0 ⟨vs, ars, []⟩ ⟨k, t, i, v, c, b, e⟩ = 0 := h
  show X0 ⟨vs, ars, []⟩ ⟨k, t, i, v', c, B, E⟩ = 0
  have h : (if k = 3 ∧ ak9 (m7 vs ars 5 v) = true then (3 : Int) else if (k ≠ 4 ∧ s9 vs ars 5 v = true) ∨ (k = 2 ∧ ak9 (m7 vs ars 5 i) = true) then 4 else 0) = 0 := h
  show (if k = 3 ∧ ak9 (m7 vs ars 5 v') = true then (3 : Int) else if (k ≠ 4 ∧ s9 vs ars 5 v' = true) ∨ (k = 2 ∧ ak9 (m7 vs ars 5 i) = true) then 4 else 0) = 0
  split at h
  ·cases h
  ·rename_i n1
   split at h
   ·cases h
   ·rename_i n2
    rw [if_neg fun hh => n1 ⟨hh.1, hn.2.2 hh.2⟩, if_neg fun hh => n2 (hh.elim (fun h => .inl ⟨h.1, hs h.2⟩) .inr)]
omit hv ha in
theorem aZ9 {n : Nat} {pc q : Int} {strict : Bool} (ih : ∀ s : b6, i5 vs.length ars.length n s = true → cdS vs ars strict n pc s = 0 → ∀ s' ∈ V5 s, i5 vs.length ars.length n s' = true ∧ cdS vs ars strict n q s' = 0) :
  ∀ ss : List b6, ss.all (i5 vs.length ars.length n) = true → (∀ s ∈ ss, cdS vs ars strict n pc s = 0) → ∀ s' ∈ d9 ss, i5 vs.length ars.length n s' = true ∧ cdS vs ars strict n q s' = 0 := by
 intro ss
 induction ss with
 | nil => intro _ _ s' hs; cases hs
 | cons s r ihr =>
  intro h1 h2 s' hs
  simp only [List.all_cons, bR1] at h1
  rw [d9, bT2] at hs
  rcases hs with hs | hs
  ·exact ih s h1.1 (h2 s bS4) s' hs
  ·exact ihr h1.2 (fun x hx => h2 x (bS9 _ hx)) s' hs
theorem br1 {strict : Bool} : ∀ (n : Nat) (s : b6) (pc q : Int), i5 vs.length ars.length n s = true → f7 pc = true → f7 q = true → H1 q pc → cdS vs ars strict n pc s = 0 → ∀ s' ∈ V5 s, i5 vs.length ars.length n s' = true ∧ cdS vs ars strict n q s' = 0 := by
 intro n
 induction n with
 | zero => intro s pc q h; simp [i5] at h
 | succ n ih =>
  intro s pc q hst hpc hq hle hcd s' hs'
  obtain ⟨k, t, i, v, c, b, e⟩ := s
  have hst0 := hst
  rw [F2, bR1, bR1] at hst
  obtain ⟨hh, hb, he⟩ := hst
  have hb : b.all (i5 vs.length ars.length n) = true := hb
  have he : e.all (i5 vs.length ars.length n) = true := he
  obtain ⟨w1, w2, w3⟩ := aF5.1 hcd
  have hin : F7 ⟨vs, ars, []⟩ ⟨k, t, i, v, c, b, e⟩ pc = if k = 3 then o7 pc (m7 vs ars 5 v) else pc := rfl
  rw [hin] at w2 w3
  have w2 : ∀ s ∈ b, cdS vs ars strict n (if k = 3 then o7 pc (m7 vs ars 5 v) else pc) s = 0 := w2
  have w3 : ∀ s ∈ e, cdS vs ars strict n (if k = 3 then o7 pc (m7 vs ars 5 v) else pc) s = 0 := w3
  have hpi : f7 (if k = 3 then o7 pc (m7 vs ars 5 v) else pc) = true := by
   split
   ·exact T0 hpc (T7 hv ha 5 v)
   ·exact hpc
  have hpl : H1 pc (if k = 3 then o7 pc (m7 vs ars 5 v) else pc) := by
   split
   ·exact af8 _ _
   ·exact H1.refl _
  have blk := fun (q : Int) (hq : f7 q = true) (hl : H1 q (if k = 3 then o7 pc (m7 vs ars 5 v) else pc)) (ss : List b6) => aZ9 (vs := vs) (ars := ars) (n := n) (pc := (if k = 3 then o7 pc (m7 vs ars 5 v) else pc)) (q := q) (strict := strict) (fun s h1 h2 => ih s _ q h1 hpi hq hl h2) ss
  have up : ∀ s', i5 vs.length ars.length n s' = true ∧ cdS vs ars strict n q s' = 0 → i5 vs.length ars.length (n + 1) s' = true ∧ cdS vs ars strict (n + 1) q s' = 0 := fun s' h => ⟨bk7 _ _ _ _ h.1, by rw [bc9 vs ars strict vs.length ars.length n q s' h.1]; exact h.2⟩
  rw [V5] at hs'
  split at hs'
  ·rename_i k4
   split at hs'
   ·exact up s' (blk q hq (hle.trans hpl) b hb w2 s' hs')
   ·split at hs'
    ·cases hs'
    ·rw [bV0] at hs'
     subst hs'
     have n3 : ¬ k = 3 := by omega
     refine ⟨?_, aF5.2 ⟨?_, ?_, ?_⟩⟩
     ·rw [F2, bR1, bR1]
      exact ⟨bf9 hh k4 al6, bR9.2 fun x hx => (blk q hq (hle.trans hpl) b hb w2 x hx).1, bR9.2 fun x hx => (blk q hq (hle.trans hpl) e he w3 x hx).1⟩
     ·subst k4
      unfold L5
      cases strict <;> rfl
     ·intro x hx
      have : F7 ⟨vs, ars, []⟩ ⟨k, t, i, v, c, d9 b, d9 e⟩ q = q := if_neg n3
      rw [this]
      exact (blk q hq (hle.trans hpl) b hb w2 x hx).2
     ·intro x hx
      have : F7 ⟨vs, ars, []⟩ ⟨k, t, i, v, c, d9 b, d9 e⟩ q = q := if_neg n3
      rw [this]
      exact (blk q hq (hle.trans hpl) e he w3 x hx).2
  ·rename_i k4
   split at hs'
   ·split at hs'
    ·exact up s' (blk q hq (hle.trans hpl) b hb w2 s' hs')
    ·exact up s' (blk q hq (hle.trans hpl) e he w3 s' hs')
   ·rw [bV0] at hs'
    subst hs'
    have hsh : l0 vs.length ars.length 5 v = true := v6 (s := ⟨k, t, i, v, c, b, e⟩) hh k4
    obtain ⟨_, f2, f3⟩ := aE3 vs ars vs.length ars.length 5 v hsh
    have hq2 : f7 (if k = 3 then o7 q (m7 vs ars 5 (d8 v)) else q) = true := by
     split
     ·exact T0 hq (T7 hv ha 5 _)
     ·exact hq
    have hl2 : H1 (if k = 3 then o7 q (m7 vs ars 5 (d8 v)) else q) (if k = 3 then o7 pc (m7 vs ars 5 v) else pc) := by
     split
     ·exact O0 hle f2
     ·exact hle
    have b2 := blk _ hq2 hl2 b hb w2
    have b3 := blk _ hq2 hl2 e he w3
    refine ⟨?_, aF5.2 ⟨bn5 hv ha k4 hq hpc hle f2 f3 w1, fun x hx => (b2 x hx).2, fun x hx => (b3 x hx).2⟩⟩
    rw [F2, bR1, bR1]
    exact ⟨bg0 hh k4 al6 al6, bR9.2 fun x hx => (b2 x hx).1, bR9.2 fun x hx => (b3 x hx).1⟩
end
mutual
theorem br2 : ∀ s : b6, I8 (V5 s) ≤ nS s
 | ⟨k, t, i, v, c, b, e⟩ => by
  have h1 := ap1 b
  have h2 := ap1 e
  rw [V5, nS]
  split
  ·split
   ·omega
   ·split
    ·simp [I8]
    ·simp only [I8, nS]; omega
  ·split
   ·split <;> omega
   ·simp only [I8, nS]; omega
theorem ap1 : ∀ ss : List b6, I8 (d9 ss) ≤ I8 ss
 | [] => bS8 _
 | s :: r => by
  have h1 := br2 s
  have h2 := ap1 r
  have h3 : ∀ a b : List b6, I8 (a ++ b) = I8 a + I8 b := by
   intro a b
   induction a with
   | nil => simp [I8]
   | cons x t ih => simp only [List.cons_append, I8, ih]; omega
  rw [d9, h3, I8]
  omega
end
theorem ai5 {p : f5} {strict : Bool} (h : (H3 p strict).1 = 0) : m0 (l6 p) = true ∧ (H3 (l6 p) strict).1 = 0 := by
 obtain ⟨hp, hc⟩ := (T9 p strict).1 h
 have hh := hp
 simp only [m0, Q4, bR1, decide_eq_true_eq] at hh
 obtain ⟨⟨hd, hb⟩, hn⟩ := hh
 have hd2 := hd
 simp only [D3, bR1, decide_eq_true_eq] at hd2
 have hv := hd2.1.1.1.1
 have ha := hd2.1.1.1.2
 have key := aZ9 (vs := p.vars) (ars := p.arrays) (n := 5) (pc := 0) (q := 0) (strict := strict) (fun s h1 h2 => br1 hv ha 5 s 0 0 h1 rfl rfl (H1.refl _) h2) p.body hb hc
 have hq : m0 (l6 p) = true := by
  rw [U5 hp]
  simp only [m0, Q4, bR1, decide_eq_true_eq]
  have := ap1 p.body
  exact ⟨⟨hd, bR9.2 fun x hx => (key x hx).1⟩, by omega⟩
 refine ⟨hq, (T9 _ strict).2 ⟨hq, ?_⟩⟩
 rw [U5 hp]
 exact fun x hx => (key x hx).2
theorem bb5 {p : f5} (h : (ctR p).1 = 0) : (ctR (l6 p)).1 = 0 := by
 obtain ⟨hp, h1, h2⟩ := (bc4 p).1 h
 have k1 := ai5 ((T9 p false).2 ⟨hp, h1⟩)
 have k2 := ai5 ((T9 p true).2 ⟨hp, h2⟩)
 exact (bc4 _).2 ⟨k1.1, ((T9 _ false).1 k1.2).2, ((T9 _ true).1 k2.2).2⟩
end Go.Proofs.YthikdkjjdeehoaaGreat
