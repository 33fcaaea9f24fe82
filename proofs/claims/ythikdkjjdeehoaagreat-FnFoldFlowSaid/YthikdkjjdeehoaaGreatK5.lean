/-
  Texts of this claim, part 5: what the functions on the way do, and plain laws. Conditions: as each statement says.
-/
import Derived.Test.YthikdkjjdeehoaaGreatK4
set_option maxRecDepth 100000
set_option maxHeartbeats 16000000
open Bool renaming and_eq_true → bR1, not_eq_false' → bS3, not_eq_true' → bS1
open Inhabited renaming default → bR0
open List renaming all_eq_true → bR9, getD_eq_getElem?_getD → bR6, getElem?_append_left → bU2, getElem?_cons_succ → bT7, getElem?_cons_zero → bT0, getElem?_eq_none → bU7, getElem_mem → bS7, length_cons → bR7, length_nil → bS2, mem_cons_of_mem → bS9, mem_cons_self → bS4, mem_of_getElem? → bR3, range → bT4, replicate → bT6, take → bR4, take_of_length_le → bS6
open Nat renaming le_refl → bS8, le_trans → bU1, lt_or_ge → bU6, reduceEqDiff → bT1, zero_add → bU9, zero_le → bU3
open True renaming intro → bR2

namespace Go.Proofs.YthikdkjjdeehoaaGreat
set_option linter.unusedVariables false
set_option linter.unusedSimpArgs false
open Go Go.RowKit
theorem ag7 (xs ys : List Int) : l7.ok Tryz.prog (I7 64 [.ref 0, .ref 1] [dI xs, dI ys] (bA (decide (xs = ys)))) := by
  refine G3 26 Tryz.func64 [dI xs, dI ys] [(0, .ref 0), (1, .ref 1)] fun G => ?_; have hl : xs.length ≤ 9223372036854775807 := G.len 0 (d := .ints xs) (by kernel_rfl); refine wp_seq (J3 G f9 [(0, .ref 0), (1, .ref 1), (4, bA false)] fun G => b5 (wp_seq (wp_seq (l5 G f9 [(10, bA ((xs.length : Int) != (ys.length : Int)))] fun G => b5 (rcN G (fun h0 q0 => ?_) fun h0 q0 => ?_)))))
  ·
   refine wp_skip (b5 (wp_seq (wp_seq (J3 G f9 [(0, .ref 0), (1, .ref 1), (4, bA false), (12, iA (xs.length : Int)), (13, iA 0)] fun G => b5 (wp_block ?_))))); refine x7 (κ := Nat) (fun k => k ≤ xs.length ∧ xs.take k = ys.take k) (fun k => xs.length - k) (fun k => [dI xs, dI ys]) (fun k => [(0, .ref 0), (1, .ref 1), (4, bA false), (12, iA (xs.length : Int)), (13, iA k)]) 0 (by simp [h0]) (x9.at G _ _) ?_; clear G; intro k ρ a w hp G; refine wp_seq (l5 G f9 [(14, bA (decide ((k : Int) < xs.length)))] fun G => b5 (wp_seq (W0 G (fun h1 q1 => ?_) fun h1 q1 => ?_)))
   · refine wp_exit (v8 (v8 (v7 (b5 (wp_seq (l5 G f9 [(4, bA true)] fun G => b5 (wp_ret ?_))))))); exact C7 true G [0, 1] (decide_eq_true (ae3 hp.2 (by omega) (by omega)))
   ·
    refine wp_skip (b5 (wp_seq (wp_block (wp_seq (l5 G f9 [(5, iA k)] fun G => b5 (wp_seq (ar8 G f9 [0, 0, 3, 7, 0, 0, 48, 112, 255] [(24, bA (xs.getD k 0 != ys.getD k 0))] (iX k k xs.length (iX k k ys.length [])) (iK (by have hp := hp; omega) (iK (by have hp := hp; omega) bR2)) fun G => b5 (rcN G (fun h2 q2 => ?_) fun h2 q2 => ?_))))))))
    · refine wp_skip (o5 (b5 (H0 G f9 [(13, iA ((k : Int) + 1))] [wO ((k : Int) + 1)] (o1 (by omega)) fun G => b5 ?_))); exact Q6 G (k + 1) (⟨by omega, U1 hp.2 (by omega) (by omega) (by omega)⟩) (by have hp := hp; omega) [0, 1]
    · refine wp_seq (l5 G f9 [] fun G => b5 (wp_ret (C9 (m8 (m8 (C9 (m8 ?_))))))); exact C7 false G [0, 1] (by exact decide_eq_false fun e => by subst e; omega)
  · refine wp_seq (l5 G f9 [] fun G => b5 (wp_ret (m8 ?_))); exact C7 false G [0, 1] (by exact decide_eq_false fun e => by subst e; omega)
theorem sk1 {l m : List b9} (h : ¬ (l.length : Int) = m.length) : J2 l m = false := by
 cases e : J2 l m
 ·rfl
 ·exact absurd (congrArg (fun x : List b9 => (x.length : Int)) ((Z7 l m).1 e)) h
theorem sk2 {l m : List b9} {k : Nat} (h : w8 (l.getD k bR0) (m.getD k bR0) = false) : J2 l m = false := by
 cases e : J2 l m
 ·rfl
 ·rw [(Z7 l m).1 e, (G2 _ _).2 rfl] at h; cases h
theorem sk3 {l m : List b9} {k : Nat} (h3 : (l.length : Int) = m.length) (h : l.take k = m.take k) (hk : l.length ≤ k) : J2 l m = true := (Z7 _ _).2 (ae3 h hk h3)
abbrev ixS (a b : b9) : l7 := I7 136 [eA a 0, eA b 1] [dE a.kids, dE b.kids] (bA (w8 a b))
theorem bm0 (l m : List b9) (ih : ∀ (u : b9), u ∈ l → ∀ (v : b9), l7.ok Tryz.prog (ixS u v)) : l7.ok Tryz.prog (I7 195 [.ref 0, .ref 1, .fn 136 []] [dE l, dE m] (bA (J2 l m))) := by
  refine G3 32 Tryz.func195 [dE l, dE m] [(0, .ref 0), (1, .ref 1), (2, .fn 136 [])] fun G => ?_; have hl : l.length ≤ 9223372036854775807 := G.len 0 (d := .exprs l) (by kernel_rfl); refine wp_seq (J3 G f9 [(0, .ref 0), (1, .ref 1), (2, .fn 136 []), (6, bA false)] fun G => b5 (wp_seq (wp_seq (l5 G f9 [(14, bA ((l.length : Int) != (m.length : Int)))] fun G => b5 (rcN G (fun h0 q0 => ?_) fun h0 q0 => ?_)))))
  ·
   refine wp_skip (b5 (wp_seq (wp_seq (J3 G f9 [(1, .ref 1), (2, .fn 136 []), (6, bA false), (15, .ref 0), (16, iA (l.length : Int)), (17, iA 0)] fun G => b5 (wp_block ?_))))); refine x7 (κ := Nat) (fun k => k ≤ l.length ∧ l.take k = m.take k) (fun k => l.length - k) (fun k => [dE l, dE m]) (fun k => [(1, .ref 1), (2, .fn 136 []), (6, bA false), (15, .ref 0), (16, iA (l.length : Int)), (17, iA k)]) 0 (by simp [h0]) (x9.at G _ _) ?_; clear G; intro k ρ a w hp G; refine wp_seq (l5 G f9 [(18, bA (decide ((k : Int) < l.length)))] fun G => b5 (wp_seq (W0 G (fun h1 q1 => ?_) fun h1 q1 => ?_)))
   · refine wp_exit (v8 (v8 (v7 (b5 (wp_seq (l5 G f9 [(6, bA true)] fun G => b5 (wp_ret ?_))))))); exact C7 true G [0, 1] (sk3 (by omega) hp.2 (by omega))
   ·
    refine wp_skip (b5 (wp_seq (wp_block (wp_seq (M7 G f9 [0, 1, 18, 26] [dE l, dE m, dE (l.getD k bR0).kids, .box (eL (l.getD k bR0) 2)] [(1, .ref 1), (2, .fn 136 []), (6, bA false), (7, iA k), (8, .ptr 3 0), (15, .ref 0), (16, iA (l.length : Int)), (17, iA k)] (iX k k l.length []) (iK (by have hp := hp; omega) bR2) fun G => b5 (wp_seq (M7 G f9 [0, 1, 2, 3, 28, 36] [dE l, dE m, dE (l.getD k bR0).kids, .box (eL (l.getD k bR0) 2), dE (m.getD k bR0).kids, .box (eL (m.getD k bR0) 4)] [(1, .ref 1), (2, .fn 136 []), (6, bA false), (8, .ptr 3 0), (9, .ptr 5 0), (15, .ref 0), (16, iA (l.length : Int)), (17, iA k)] (iX k k m.length []) (iK (by have hp := hp; omega) bR2) fun G => b5 (wp_seq (m6 G (A0 3 [2, 4] (ih (l.getD k bR0) (ag1 (by omega)) (m.getD k bR0))) [0, 1] [dE l, dE m] [(1, .ref 1), (2, .fn 136 []), (6, bA false), (15, .ref 0), (16, iA (l.length : Int)), (17, iA k), (30, .v (.bool !w8 (l.getD k bR0) (m.getD k bR0)))] fun G => b5 ?_))))))))); cases h2 : (!w8 (l.getD k bR0) (m.getD k bR0))
    · have q2 : (w8 (l.getD k bR0) (m.getD k bR0)) = true := (Eq.mp (bS3 _) h2); refine rF G _ h2 (wp_skip (o5 (b5 (H0 G f9 [(17, iA ((k : Int) + 1))] [wO ((k : Int) + 1)] (o1 (by omega)) fun G => b5 ?_)))); exact Q6 G (k + 1) (⟨by omega, U1 hp.2 (by omega) (by omega) ((G2 _ _).1 (by with_reducible assumption))⟩) (by have hp := hp; omega) [0, 1]
    · have q2 : (w8 (l.getD k bR0) (m.getD k bR0)) = false := (Eq.mp (bS1 _) h2); refine rT G _ h2 (wp_seq (l5 G f9 [] fun G => b5 (wp_ret (C9 (m8 (m8 (C9 (m8 ?_)))))))); exact C7 false G [0, 1] (sk2 (k := k) (by with_reducible assumption))
  · refine wp_seq (l5 G f9 [] fun G => b5 (wp_ret (m8 ?_))); exact C7 false G [0, 1] (sk1 (by omega))
theorem ie1 {a b : b9} (h1 : a.kind = b.kind) (h2 : a.value = b.value) : w8 a b = J2 a.kids b.kids := by
 obtain ⟨k, n, ks⟩ := a
 obtain ⟨k', n', ks'⟩ := b
 simp only [b9.kind, b9.value] at h1 h2
 rw [w8, decide_eq_true h1, decide_eq_true h2]
 rfl
theorem bI7 (x y : b9) (ih : ∀ (m : List b9), l7.ok Tryz.prog (I7 195 [.ref 0, .ref 1, .fn 136 []] [dE x.kids, dE m] (bA (J2 x.kids m)))) : l7.ok Tryz.prog (ixS x y) := by
  refine G3 24 Tryz.func136 [dE x.kids, dE y.kids] [(0, eA x 0), (1, eA y 1)] fun G => ?_; refine wp_seq (m6 G f9 [0, 1, 2, 10] [dE x.kids, dE y.kids, .box (eL x 0), .box (eL y 1)] [(2, .ptr 2 0), (3, .ptr 3 0), (4, bA false)] fun G => b5 (wp_seq ?_)); cases h0 : (x.kind == y.kind)
  · have q0 := ne_of_beq_false h0; refine m6 G (F8 (fc h0 (fc (b := false) rfl fz)) (us [(6, 10, 0), (1011, 1011, 0), (13, 17, 1), (1018, 1018, 1)])) [0, 1] [dE x.kids, dE y.kids] [(4, bA false)] fun G => b5 (wp_ret ?_); exact C7 false G [0, 1] (sx1 (by omega))
  ·
   have q0 := eq_of_beq h0; cases h1 : (x.value == y.value)
   · have q1 := ne_of_beq_false h1; refine m6 G (F8 (fc h0 (fc h1 fz)) (us [(6, 10, 0), (1011, 1011, 0), (13, 17, 1), (1018, 1018, 1)])) [0, 1] [dE x.kids, dE y.kids] [(4, bA false)] fun G => b5 (wp_ret ?_); exact C7 false G [0, 1] (sx2 (by omega))
   · have q1 := eq_of_beq h1; refine m6 G (B1 ⟨[(17, _, [0, 1])], [(x.kind == y.kind, true), (x.value == y.value, true)], us [(6, 10, 0), (1011, 1011, 0), (13, 17, 1), (1018, 1018, 1)]⟩ (b8 (ih y.kids) d7) ⟨(by assumption), (by assumption), bR2⟩) [0, 1] [dE x.kids, dE y.kids] [(4, bA (J2 x.kids y.kids))] fun G => b5 (wp_ret ?_); exact C7 (J2 x.kids y.kids) G [0, 1] (ie1 (by omega) (by omega))
theorem ap9 (x : b9) : ∀ (y : b9), l7.ok Tryz.prog (ixS x y) :=
 b9.ind (P := fun x => ∀ (y : b9), l7.ok Tryz.prog (ixS x y)) (fun k n ks ih y => bI7 ⟨k, n, ks⟩ y fun m => bm0 ks m fun u hu => ih u hu) x
abbrev isS (s t : b6) : l7 := I7 135 [sA s 0, sA t 4] (sS s ++ sS t) (bA (I2 s t))
abbrev isB (l m : List b6) : l7 := I7 65 [.ref 0, .ref 1] [dT l, dT m] (bA (r7 l m))
theorem aB9 (l m : List b6) (ih : ∀ (u : b6), u ∈ l → ∀ (v : b6), l7.ok Tryz.prog (isS u v)) : l7.ok Tryz.prog (I7 134 [.ref 0, .ref 1, .fn 135 []] [dT l, dT m] (bA (r7 l m))) := by
  refine G3 32 Tryz.func134 [dT l, dT m] [(0, .ref 0), (1, .ref 1), (2, .fn 135 [])] fun G => ?_; have hl : l.length ≤ 9223372036854775807 := G.len 0 (d := .stmts l) (by kernel_rfl); refine wp_seq (J3 G f9 [(0, .ref 0), (1, .ref 1), (2, .fn 135 []), (6, bA false)] fun G => b5 (wp_seq (wp_seq (l5 G f9 [(14, bA ((l.length : Int) != (m.length : Int)))] fun G => b5 (rcN G (fun h0 q0 => ?_) fun h0 q0 => ?_)))))
  ·
   refine wp_skip (b5 (wp_seq (wp_seq (J3 G f9 [(1, .ref 1), (2, .fn 135 []), (6, bA false), (15, .ref 0), (16, iA (l.length : Int)), (17, iA 0)] fun G => b5 (wp_block ?_))))); refine x7 (κ := Nat) (fun k => k ≤ l.length ∧ l.take k = m.take k) (fun k => l.length - k) (fun k => [dT l, dT m]) (fun k => [(1, .ref 1), (2, .fn 135 []), (6, bA false), (15, .ref 0), (16, iA (l.length : Int)), (17, iA k)]) 0 (by simp [h0]) (x9.at G _ _) ?_; clear G; intro k ρ a w hp G; refine wp_seq (l5 G f9 [(18, bA (decide ((k : Int) < l.length)))] fun G => b5 (wp_seq (W0 G (fun h1 q1 => ?_) fun h1 q1 => ?_)))
   · refine wp_exit (v8 (v8 (v7 (b5 (wp_seq (l5 G f9 [(6, bA true)] fun G => b5 (wp_ret ?_))))))); exact C7 true G [0, 1] (sb3 (by omega) hp.2 (by omega))
   ·
    refine wp_skip (b5 (wp_seq (wp_block (wp_seq (M7 G f9 [0, 1, 18, 19, 20, 21, 26] [dT l, dT m, dE (l.getD k bR0).index.kids, dE (l.getD k bR0).value.kids, dT (l.getD k bR0).body, dT (l.getD k bR0).els, .box (sL (l.getD k bR0) 2)] [(1, .ref 1), (2, .fn 135 []), (6, bA false), (7, iA k), (8, .ptr 6 0), (15, .ref 0), (16, iA (l.length : Int)), (17, iA k)] (iX k k l.length []) (iK (by have hp := hp; omega) bR2) fun G => b5 (wp_seq (M7 G f9 [0, 1, 2, 3, 4, 5, 6, 31, 32, 33, 34, 39] [dT l, dT m, dE (l.getD k bR0).index.kids, dE (l.getD k bR0).value.kids, dT (l.getD k bR0).body, dT (l.getD k bR0).els, .box (sL (l.getD k bR0) 2), dE (m.getD k bR0).index.kids, dE (m.getD k bR0).value.kids, dT (m.getD k bR0).body, dT (m.getD k bR0).els, .box (sL (m.getD k bR0) 7)] [(1, .ref 1), (2, .fn 135 []), (6, bA false), (8, .ptr 6 0), (9, .ptr 11 0), (15, .ref 0), (16, iA (l.length : Int)), (17, iA k)] (iX k k m.length []) (iK (by have hp := hp; omega) bR2) fun G => b5 (wp_seq (m6 G (A0 3 [2, 3, 4, 5, 7, 8, 9, 10] (ih (l.getD k bR0) (R6 (by omega)) (m.getD k bR0))) [0, 1] [dT l, dT m] [(1, .ref 1), (2, .fn 135 []), (6, bA false), (15, .ref 0), (16, iA (l.length : Int)), (17, iA k), (30, .v (.bool !I2 (l.getD k bR0) (m.getD k bR0)))] fun G => b5 ?_))))))))); cases h2 : (!I2 (l.getD k bR0) (m.getD k bR0))
    · have q2 : (I2 (l.getD k bR0) (m.getD k bR0)) = true := (Eq.mp (bS3 _) h2); refine rF G _ h2 (wp_skip (o5 (b5 (H0 G f9 [(17, iA ((k : Int) + 1))] [wO ((k : Int) + 1)] (o1 (by omega)) fun G => b5 ?_)))); exact Q6 G (k + 1) (⟨by omega, U1 hp.2 (by omega) (by omega) ((Z6 _ _).1 (by with_reducible assumption))⟩) (by have hp := hp; omega) [0, 1]
    · have q2 : (I2 (l.getD k bR0) (m.getD k bR0)) = false := (Eq.mp (bS1 _) h2); refine rT G _ h2 (wp_seq (l5 G f9 [] fun G => b5 (wp_ret (C9 (m8 (m8 (C9 (m8 ?_)))))))); exact C7 false G [0, 1] (sb2 (k := k) (by with_reducible assumption))
  · refine wp_seq (l5 G f9 [] fun G => b5 (wp_ret (m8 ?_))); exact C7 false G [0, 1] (sb1 (by omega))
theorem bl8 (l m : List b6) (ih : l7.ok Tryz.prog (I7 134 [.ref 0, .ref 1, .fn 135 []] [dT l, dT m] (bA (r7 l m)))) : l7.ok Tryz.prog (isB l m) := by
 refine G3 8 Tryz.func65 [dT l, dT m] [(0, .ref 0), (1, .ref 1)] fun G => ?_; refine wp_seq (l5 G f9 [(4, bA false)] fun G => b5 (wp_seq (l5 G (A0 2 [0, 1] ih) [(4, bA (r7 l m))] fun G => b5 (wp_ret ?_)))); exact M6 G [0, 1]
abbrev am5 (s : b6) (t : b6) (r0 : List It) : List It := dE s.index.kids :: dE s.value.kids :: dT s.body :: dT s.els :: dE t.index.kids :: dE t.value.kids :: dT t.body :: dT t.els :: r0
theorem bI8 (s t : b6) (ih1 : ∀ (m : List b6), l7.ok Tryz.prog (isB s.body m)) (ih2 : ∀ (m : List b6), l7.ok Tryz.prog (isB s.els m)) : l7.ok Tryz.prog (isS s t) := by
  refine G3 52 Tryz.func135 (am5 s t []) [(0, sA s 0), (1, sA t 4)] fun G => ?_; refine wp_seq (m6 G f9 [0, 1, 2, 3, 4, 5, 6, 7, 8, 16] (am5 s t [.box (sL s 0), .box (sL t 4)]) [(2, .ptr 8 0), (3, .ptr 9 0), (4, bA false)] fun G => b5 (wp_seq ?_)); cases h0 : (s.kind == t.kind)
  · have q0 := ne_of_beq_false h0; refine m6 G (F8 (fc h0 (fc (b := false) rfl fz)) (us [(6, 10, 0), (1011, 1011, 0), (13, 17, 1), (1018, 1018, 1), (20, 24, 1), (1025, 1025, 1), (27, 31, 1), (1032, 1032, 1), (34, 38, 1), (1039, 1039, 1), (41, 45, 1), (1046, 1046, 1)])) (rg 8) (am5 s t []) [(4, bA false)] fun G => b5 (wp_ret ?_); exact C7 false G (rg 8) (sr1 (by omega))
  ·
   have q0 := eq_of_beq h0; cases h1 : (s.target == t.target)
   · have q1 := ne_of_beq_false h1; refine m6 G (F8 (fc h0 (fc h1 (fc (b := false) rfl fz))) (us [(6, 10, 0), (1011, 1011, 0), (13, 17, 1), (1018, 1018, 1), (20, 24, 2), (1025, 1025, 2), (27, 31, 2), (1032, 1032, 2), (34, 38, 2), (1039, 1039, 2), (41, 45, 2), (1046, 1046, 2)])) (rg 8) (am5 s t []) [(4, bA false)] fun G => b5 (wp_ret ?_); exact C7 false G (rg 8) (sr2 (by omega))
   ·
    have q1 := eq_of_beq h1; cases h2 : (w8 s.index t.index)
    · refine m6 G (B1 ⟨[(17, _, [0, 4])], [(s.kind == t.kind, true), (s.target == t.target, true), (w8 s.index t.index, false), (false, false)], us [(6, 10, 0), (1011, 1011, 0), (13, 17, 1), (1018, 1018, 1), (20, 24, 2), (1025, 1025, 2), (27, 31, 3), (1032, 1032, 3), (34, 38, 3), (1039, 1039, 3), (41, 45, 3), (1046, 1046, 3)]⟩ (b8 (ap9 s.index t.index) d7) ⟨(by assumption), (by assumption), (by assumption), (by kernel_rfl), bR2⟩) (rg 8) (am5 s t []) [(4, bA false)] fun G => b5 (wp_ret ?_); exact C7 false G (rg 8) (sr4 (by with_reducible assumption))
    ·
     cases h3 : (w8 s.value t.value)
     · refine m6 G (B1 ⟨[(17, _, [0, 4]), (24, _, [1, 5])], [(s.kind == t.kind, true), (s.target == t.target, true), (w8 s.index t.index, true), (w8 s.value t.value, false), (false, false)], us [(6, 10, 0), (1011, 1011, 0), (13, 17, 1), (1018, 1018, 1), (20, 24, 2), (1025, 1025, 2), (27, 31, 3), (1032, 1032, 3), (34, 38, 4), (1039, 1039, 4), (41, 45, 4), (1046, 1046, 4)]⟩ (b8 (ap9 s.index t.index) (b8 (ap9 s.value t.value) d7)) ⟨(by assumption), (by assumption), (by assumption), (by assumption), (by kernel_rfl), bR2⟩) (rg 8) (am5 s t []) [(4, bA false)] fun G => b5 (wp_ret ?_); exact C7 false G (rg 8) (sr5 (by with_reducible assumption))
     ·
      cases h4 : (s.count == t.count)
      · have q4 := ne_of_beq_false h4; refine m6 G (B1 ⟨[(17, _, [0, 4]), (24, _, [1, 5])], [(s.kind == t.kind, true), (s.target == t.target, true), (w8 s.index t.index, true), (w8 s.value t.value, true), (s.count == t.count, false), (false, false)], us [(6, 10, 0), (1011, 1011, 0), (13, 17, 1), (1018, 1018, 1), (20, 24, 2), (1025, 1025, 2), (27, 31, 3), (1032, 1032, 3), (34, 38, 4), (1039, 1039, 4), (41, 45, 5), (1046, 1046, 5)]⟩ (b8 (ap9 s.index t.index) (b8 (ap9 s.value t.value) d7)) ⟨(by assumption), (by assumption), (by assumption), (by assumption), (by assumption), (by kernel_rfl), bR2⟩) (rg 8) (am5 s t []) [(4, bA false)] fun G => b5 (wp_ret ?_); exact C7 false G (rg 8) (sr3 (by omega))
      ·
       have q4 := eq_of_beq h4; cases h5 : (r7 s.body t.body)
       · refine m6 G (B1 ⟨[(17, _, [0, 4]), (24, _, [1, 5]), (38, _, [2, 6])], [(s.kind == t.kind, true), (s.target == t.target, true), (w8 s.index t.index, true), (w8 s.value t.value, true), (s.count == t.count, true), (r7 s.body t.body, false)], us [(6, 10, 0), (1011, 1011, 0), (13, 17, 1), (1018, 1018, 1), (20, 24, 2), (1025, 1025, 2), (27, 31, 3), (1032, 1032, 3), (34, 38, 4), (1039, 1039, 4), (41, 45, 5), (1046, 1046, 5)]⟩ (b8 (ap9 s.index t.index) (b8 (ap9 s.value t.value) (b8 (ih1 t.body) d7))) ⟨(by assumption), (by assumption), (by assumption), (by assumption), (by assumption), (by assumption), bR2⟩) (rg 8) (am5 s t []) [(4, bA false)] fun G => b5 (wp_ret ?_); exact C7 false G (rg 8) (sr6 (by with_reducible assumption))
       · refine m6 G (B1 ⟨[(17, _, [0, 4]), (24, _, [1, 5]), (38, _, [2, 6]), (45, _, [3, 7])], [(s.kind == t.kind, true), (s.target == t.target, true), (w8 s.index t.index, true), (w8 s.value t.value, true), (s.count == t.count, true), (r7 s.body t.body, true)], us [(6, 10, 0), (1011, 1011, 0), (13, 17, 1), (1018, 1018, 1), (20, 24, 2), (1025, 1025, 2), (27, 31, 3), (1032, 1032, 3), (34, 38, 4), (1039, 1039, 4), (41, 45, 5), (1046, 1046, 5)]⟩ (b8 (ap9 s.index t.index) (b8 (ap9 s.value t.value) (b8 (ih1 t.body) (b8 (ih2 t.els) d7)))) ⟨(by assumption), (by assumption), (by assumption), (by assumption), (by assumption), (by assumption), bR2⟩) (rg 8) (am5 s t []) [(4, bA (r7 s.els t.els))] fun G => b5 (wp_ret ?_); exact C7 (r7 s.els t.els) G (rg 8) (sr8 (by omega) (by omega) (by omega) (by with_reducible assumption) (by with_reducible assumption) (by with_reducible assumption))
theorem bP7 (s : b6) : ∀ (t : b6), l7.ok Tryz.prog (isS s t) :=
 b6.ind (P := fun s => ∀ (t : b6), l7.ok Tryz.prog (isS s t)) (fun k t i v c b e h1 h2 u => bI8 ⟨k, t, i, v, c, b, e⟩ u (fun m => bl8 b m (aB9 b m fun s hs => h1 s hs)) fun m => bl8 e m (aB9 e m fun s hs => h2 s hs)) s
theorem bM5 (l m : List b6) : l7.ok Tryz.prog (isB l m) := bl8 l m (aB9 l m fun s _ => bP7 s)
theorem ag4 (xs xt : List Int) (l : List b6) (ys yt : List Int) (m : List b6) : l7.ok Tryz.prog (I7 18 [pA 0, pA 3] [dI xs, dI xt, dT l, dI ys, dI yt, dT m] (bA (decide (xs = ys) && (decide (xt = yt) && r7 l m)))) := by
  refine G3 24 Tryz.func18 [dI xs, dI xt, dT l, dI ys, dI yt, dT m] [(0, pA 0), (1, pA 3)] fun G => ?_; refine wp_seq (m6 G f9 [0, 1, 2, 3, 4, 5, 6, 14] [dI xs, dI xt, dT l, dI ys, dI yt, dT m, .box (pL 0), .box (pL 3)] [(2, .ptr 6 0), (3, .ptr 7 0), (4, bA false)] fun G => b5 (wp_seq ?_)); cases h0 : (decide (xs = ys))
  · have q0 := dFf h0; refine m6 G (B1 ⟨[(4, _, [0, 3])], [(decide (xs = ys), false), (false, false)], us [(6, 10, 0), (1011, 1011, 0), (13, 17, 1), (1018, 1018, 1)]⟩ (b8 (ag7 xs ys) d7) ⟨(by assumption), (by kernel_rfl), bR2⟩) (rg 6) [dI xs, dI xt, dT l, dI ys, dI yt, dT m] [(4, bA false)] fun G => b5 (wp_ret ?_); exact M6 G (rg 6)
  ·
   have q0 := dTt h0; cases h1 : (decide (xt = yt))
   · have q1 := dFf h1; refine m6 G (B1 ⟨[(4, _, [0, 3]), (10, _, [1, 4])], [(decide (xs = ys), true), (decide (xt = yt), false)], us [(6, 10, 0), (1011, 1011, 0), (13, 17, 1), (1018, 1018, 1)]⟩ (b8 (ag7 xs ys) (b8 (ag7 xt yt) d7)) ⟨(by assumption), (by assumption), bR2⟩) (rg 6) [dI xs, dI xt, dT l, dI ys, dI yt, dT m] [(4, bA false)] fun G => b5 (wp_ret ?_); exact M6 G (rg 6)
   · have q1 := dTt h1; refine m6 G (B1 ⟨[(4, _, [0, 3]), (10, _, [1, 4]), (17, _, [2, 5])], [(decide (xs = ys), true), (decide (xt = yt), true)], us [(6, 10, 0), (1011, 1011, 0), (13, 17, 1), (1018, 1018, 1)]⟩ (b8 (ag7 xs ys) (b8 (ag7 xt yt) (b8 (bM5 l m) d7))) ⟨(by assumption), (by assumption), bR2⟩) (rg 6) [dI xs, dI xt, dT l, dI ys, dI yt, dT m] [(4, bA (r7 l m))] fun G => b5 (wp_ret ?_); exact M6 G (rg 6)
abbrev bN2 : Type := J7 × Bool
section
variable {vs ars : List Int} {b : List b6} {s : b6} {cx : Int} {ch : Bool}
end
section
variable {nv na d k : Nat} {ss : List b6} {x : bN2} {cx : Int}
end
section
variable {p : f5} {y : bN2}
end
theorem br4 {nv na : Nat} {s : b6} (h : C1 nv na s = true) (k : ¬ s.kind = 4) : l0 nv na 5 s.value = true := by
 have key : i9 nv na s.value = true := by
  by_cases k1 : s.kind = 1 ∨ s.kind = 5
  ·rw [C3 k1] at h; simp only [bR1] at h; exact h.2.2
  by_cases k2 : s.kind = 2
  ·rw [K9 k2] at h; simp only [bR1] at h; exact h.2.2.2
  by_cases k3 : s.kind = 3
  ·rw [X2 k3] at h; simp only [bR1] at h; exact h.2.2
  ·rw [bb4 (by omega)] at h; cases h
 unfold i9 at key; simp only [bR1] at key; exact key.1
theorem aE8 {nv na d k : Nat} {ss : List b6} (hs : ss.all (i5 nv na (d + 1)) = true) (hk : k < ss.length) : C1 nv na (ss.getD k bR0) = true ∧ (ss.getD k bR0).body.all (i5 nv na d) = true ∧ (ss.getD k bR0).els.all (i5 nv na d) = true := by
 have h := bR9.1 hs _ (bS7 hk)
 rw [F2, bR1, bR1] at h
 rw [s4 hk]; exact h
abbrev loE (e : b9) : l7 := ⟨231, [eA e 0], eS e, eS e ++ [.tree (.exprs e.kids)], .agg [iA e.kind, iA e.value, .tref 1]⟩
abbrev loL (l : List b9) : l7 := ⟨250, [.ref 0], [dE l], [dE l, .tree (.exprs l)], .tref 1⟩
theorem bI6 (e : b9) (ih : l7.ok Tryz.prog (loL e.kids)) : l7.ok Tryz.prog (loE e) := by
 refine G3 8 Tryz.func231 [dE e.kids] [(0, eA e 0)] fun G => ?_; refine wp_seq (m6 G f9 [0, 1, 9] [dE e.kids, .box (eL e 0), .box [iA 0, iA 0, .v (.slice none 0 0)]] [(1, .ptr 1 0), (2, .ptr 2 0)] fun G => b5 (wp_seq (m6 G (A0 2 [0] ih) [0, 1, 2, 19] [dE e.kids, .box [iA e.kind, iA e.value, .tref 3], .box [iA 0, iA 0, .v (.slice none 0 0)], .tree (D.exprs e.kids)] [(1, .ptr 1 0), (2, .ptr 2 0)] fun G => b5 (wp_seq (m6 G f9 [0, 2, 3] [dE e.kids, .box [iA e.kind, iA e.value, .tref 2], .tree (D.exprs e.kids)] [(2, .ptr 1 0)] fun G => b5 (wp_ret ?_)))))); exact M6 G [0, 2]
theorem bI5 (l : List b9) (hl : l.length ≤ 1048576) (ih : ∀ (x : b9), x ∈ l → l7.ok Tryz.prog (loE x)) : l7.ok Tryz.prog (loL l) := by
 refine G3 20 Tryz.func250 [dE l] [(0, .ref 0)] fun G => ?_; refine wp_seq (l5 G f9 [(2, .v (.slice none 0 0))] fun G => b5 (wp_seq (m6 G f9 [0, 1] [dE l, .tree (D.exprs [])] [(0, .ref 0), (2, .v (.slice none 0 0)), (3, .tref 1)] fun G => b5 (wp_seq (wp_seq (J3 G f9 [(2, .v (.slice none 0 0)), (3, .tref 1), (7, .ref 0), (8, iA (l.length : Int)), (9, iA 0)] fun G => b5 (wp_block ?_))))))); refine x7 (κ := Nat) (fun k => k ≤ l.length) (fun k => l.length - k) (fun k => [dE l, .tree (.exprs (l.take k))]) (fun k => [(2, .v (.slice none 0 0)), (3, .tref 1), (7, .ref 0), (8, iA (l.length : Int)), (9, iA k)]) 0 (by omega) (x9.at G _ _) ?_; clear G; intro k ρ a w hp G; replace G := x9.at G [dE l, .tree (D.exprs (bR4 k l))] [(2, .v (.slice none 0 0)), (3, .tref 1), (7, .ref 0), (8, iA (l.length : Int)), (9, iA k)]; refine wp_seq (l5 G f9 [(10, bA (decide ((k : Int) < l.length)))] fun G => b5 (wp_seq (W0 G (fun h0 q0 => ?_) fun h0 q0 => ?_)))
 ·refine wp_exit (v8 (v8 (v7 (b5 (wp_seq (l5 G f9 [(2, .tref 1)] fun G => b5 (wp_ret ?_))))))); exact M6 G [0, 1] (by show _ = mR [0, 1] [dE l, .tree (D.exprs l)]; have e1 : (bR4 k l : List b9) = (l) := (ah2 hp (by assumption)); (first | rw [e1] | simp only [e1]) <;> rfl)
 ·refine wp_skip (b5 (wp_seq (wp_block (wp_seq (M7 G f9 [0, 1, 10, 18] [dE l, .tree (D.exprs (bR4 k l)), dE (l.getD k bR0).kids, .box (eL (l.getD k bR0) 2)] [(2, .v (.slice none 0 0)), (3, .tref 1), (5, .ptr 3 0), (7, .ref 0), (8, iA (l.length : Int)), (9, iA k)] [(0 : Int) ≤ (k : Int), (k : Int) < l.length, k < l.length] ⟨(by simp [h0]), (by assumption), (by have := N6 (x := (bR0 : b9)) hp hl; simp only [bR7, bS2] at this ⊢; omega), bR2⟩ fun G => b5 (M7 G (A0 2 [2] (ih (l.getD k bR0) (ag1 (by assumption)))) [0, 36] [dE l, .tree (D.exprs (bR4 k l ++ [qzE (l.getD k bR0)]))] [(2, .v (.slice none 0 0)), (3, .tref 1), (7, .ref 0), (8, iA (l.length : Int)), (9, iA k)] [(bR4 k l).length + [qzE (l.getD k bR0)].length ≤ (9223372036854775807 : Nat), ((bR4 k l).length + [qzE (l.getD k bR0)].length) * (40 : Nat) ≤ (140737488355328 : Nat)] ⟨(by have := N6 (x := (bR0 : b9)) hp hl; simp only [bR7, bS2] at this ⊢; omega), (bg3 (N6 hp hl) (by kernel_rfl)), bR2⟩ fun G => o5 (b5 (H0 G f9 [(9, iA ((k : Int) + 1))] [wO ((k : Int) + 1)] (o1 (by omega)) fun G => b5 ?_)))))))); exact Q6 G (k + 1) (by have := N6 (x := (bR0 : b9)) hp hl; simp only [bR7, bS2] at this ⊢; omega) (by have := N6 (x := (bR0 : b9)) hp hl; simp only [bR7, bS2] at this ⊢; omega) [0, 1] (by have e1 : (bR4 (k + 1) l : List b9) = (bR4 k l ++ [qzE (l.getD k bR0)]) := ((bk0 (by omega)).symm); (first | rw [e1] | simp only [e1]) <;> rfl)
theorem bC4 (e : b9) : L4 e ≤ 1048576 → l7.ok Tryz.prog (loE e) :=
 b9.ind (P := fun e => L4 e ≤ 1048576 → l7.ok Tryz.prog (loE e)) (fun k n ks ih hb => bI6 ⟨k, n, ks⟩ (bI5 ks (aD5 (e := ⟨k, n, ks⟩) hb) fun x hx => ih x hx (by
  have h1 := ax1 hx
  have h2 : L4 ⟨k, n, ks⟩ = s8 ks := rfl
  omega))) e
abbrev loS (s : b6) : l7 := ⟨191, [sA s 0], sS s, sS s ++ [.tree (.exprs s.index.kids), .tree (.exprs s.value.kids), .tree (.stmts s.body), .tree (.stmts s.els)], .agg [iA s.kind, iA s.target, iA s.index.kind, iA s.index.value, .tref 4, iA s.value.kind, iA s.value.value, .tref 5, iA s.count, .tref 6, .tref 7]⟩
abbrev loB (l : List b6) : l7 := ⟨128, [.ref 0], [dT l], [dT l, .tree (.stmts l)], .tref 1⟩
abbrev aR9 : It := .box [iA 0, iA 0, iA 0, iA 0, .v (.slice none 0 0), iA 0, iA 0, .v (.slice none 0 0), iA 0, .v (.slice none 0 0), .v (.slice none 0 0)]
abbrev ay7 (s : b6) (r0 : List It) : List It := dE s.index.kids :: dE s.value.kids :: dT s.body :: dT s.els :: r0
theorem bI4 (s : b6) (h1 : L4 s.index ≤ 1048576) (h2 : L4 s.value ≤ 1048576) (ih1 : l7.ok Tryz.prog (loB s.body)) (ih2 : l7.ok Tryz.prog (loB s.els)) : l7.ok Tryz.prog (loS s) := by
 refine G3 20 Tryz.func191 (ay7 s []) [(0, sA s 0)] fun G => ?_; refine wp_seq (m6 G f9 [0, 1, 2, 3, 4, 12] (ay7 s [.box (sL s 0), aR9]) [(1, .ptr 4 0), (2, .ptr 5 0)] fun G => b5 (wp_seq (m6 G (A0 2 [0] (bC4 s.index (by assumption))) [0, 1, 2, 3, 4, 5, 22] (ay7 s [.box [iA s.kind, iA s.target, iA s.index.kind, iA s.index.value, .tref 6, iA s.value.kind, iA s.value.value, .ref 1, iA s.count, .ref 2, .ref 3], aR9, .tree (D.exprs s.index.kids)]) [(1, .ptr 4 0), (2, .ptr 5 0)] fun G => b5 (wp_seq (m6 G (A0 2 [1] (bC4 s.value (by assumption))) [0, 1, 2, 3, 4, 5, 6, 23] (ay7 s [.box [iA s.kind, iA s.target, iA s.index.kind, iA s.index.value, .tref 6, iA s.value.kind, iA s.value.value, .tref 7, iA s.count, .ref 2, .ref 3], aR9, .tree (D.exprs s.index.kids), .tree (D.exprs s.value.kids)]) [(1, .ptr 4 0), (2, .ptr 5 0)] fun G => b5 (wp_seq (m6 G (A0 2 [2] ih1) [0, 1, 2, 3, 4, 5, 6, 7, 24] (ay7 s [.box [iA s.kind, iA s.target, iA s.index.kind, iA s.index.value, .tref 6, iA s.value.kind, iA s.value.value, .tref 7, iA s.count, .tref 8, .ref 3], aR9, .tree (D.exprs s.index.kids), .tree (D.exprs s.value.kids), .tree (D.stmts s.body)]) [(1, .ptr 4 0), (2, .ptr 5 0)] fun G => b5 (wp_seq (m6 G (A0 2 [3] ih2) [0, 1, 2, 3, 4, 5, 6, 7, 8, 25] (ay7 s [.box [iA s.kind, iA s.target, iA s.index.kind, iA s.index.value, .tref 6, iA s.value.kind, iA s.value.value, .tref 7, iA s.count, .tref 8, .tref 9], aR9, .tree (D.exprs s.index.kids), .tree (D.exprs s.value.kids), .tree (D.stmts s.body), .tree (D.stmts s.els)]) [(1, .ptr 4 0), (2, .ptr 5 0)] fun G => b5 (wp_seq (m6 G f9 [0, 1, 2, 3, 5, 6, 7, 8, 9] (ay7 s [.box [iA s.kind, iA s.target, iA s.index.kind, iA s.index.value, .tref 5, iA s.value.kind, iA s.value.value, .tref 6, iA s.count, .tref 7, .tref 8], .tree (D.exprs s.index.kids), .tree (D.exprs s.value.kids), .tree (D.stmts s.body), .tree (D.stmts s.els)]) [(2, .ptr 4 0)] fun G => b5 (wp_ret ?_)))))))))))); exact M6 G [0, 1, 2, 3, 5, 6, 7, 8]
theorem bl7 (l : List b6) (hl : l.length ≤ 1048576) (ih : ∀ (s : b6), s ∈ l → l7.ok Tryz.prog (loS s)) : l7.ok Tryz.prog (loB l) := by
 refine G3 20 Tryz.func128 [dT l] [(0, .ref 0)] fun G => ?_; refine wp_seq (l5 G f9 [(2, .v (.slice none 0 0))] fun G => b5 (wp_seq (m6 G f9 [0, 1] [dT l, .tree (D.stmts [])] [(0, .ref 0), (2, .v (.slice none 0 0)), (3, .tref 1)] fun G => b5 (wp_seq (wp_seq (J3 G f9 [(2, .v (.slice none 0 0)), (3, .tref 1), (7, .ref 0), (8, iA (l.length : Int)), (9, iA 0)] fun G => b5 (wp_block ?_))))))); refine x7 (κ := Nat) (fun k => k ≤ l.length) (fun k => l.length - k) (fun k => [dT l, .tree (.stmts (l.take k))]) (fun k => [(2, .v (.slice none 0 0)), (3, .tref 1), (7, .ref 0), (8, iA (l.length : Int)), (9, iA k)]) 0 (by omega) (x9.at G _ _) ?_; clear G; intro k ρ a w hp G; replace G := x9.at G [dT l, .tree (D.stmts (bR4 k l))] [(2, .v (.slice none 0 0)), (3, .tref 1), (7, .ref 0), (8, iA (l.length : Int)), (9, iA k)]; refine wp_seq (l5 G f9 [(10, bA (decide ((k : Int) < l.length)))] fun G => b5 (wp_seq (W0 G (fun h0 q0 => ?_) fun h0 q0 => ?_)))
 ·refine wp_exit (v8 (v8 (v7 (b5 (wp_seq (l5 G f9 [(2, .tref 1)] fun G => b5 (wp_ret ?_))))))); exact M6 G [0, 1] (by show _ = mR [0, 1] [dT l, .tree (D.stmts l)]; have e1 : (bR4 k l : List b6) = (l) := (ah2 hp (by assumption)); (first | rw [e1] | simp only [e1]) <;> rfl)
 ·refine wp_skip (b5 (wp_seq (wp_block (wp_seq (M7 G f9 [0, 1, 10, 11, 12, 13, 18] [dT l, .tree (D.stmts (bR4 k l)), dE (l.getD k bR0).index.kids, dE (l.getD k bR0).value.kids, dT (l.getD k bR0).body, dT (l.getD k bR0).els, .box (sL (l.getD k bR0) 2)] [(2, .v (.slice none 0 0)), (3, .tref 1), (5, .ptr 6 0), (7, .ref 0), (8, iA (l.length : Int)), (9, iA k)] [(0 : Int) ≤ (k : Int), (k : Int) < l.length, k < l.length] ⟨(by simp [h0]), (by assumption), (by have := N6 (x := (bR0 : b6)) hp hl; simp only [bR7, bS2] at this ⊢; omega), bR2⟩ fun G => b5 (M7 G (A0 2 [2, 3, 4, 5] (ih (l.getD k bR0) (R6 (by assumption)))) [0, 39] [dT l, .tree (D.stmts (bR4 k l ++ [qzS (l.getD k bR0)]))] [(2, .v (.slice none 0 0)), (3, .tref 1), (7, .ref 0), (8, iA (l.length : Int)), (9, iA k)] [(bR4 k l).length + [qzS (l.getD k bR0)].length ≤ (9223372036854775807 : Nat), ((bR4 k l).length + [qzS (l.getD k bR0)].length) * (152 : Nat) ≤ (140737488355328 : Nat)] ⟨(by have := N6 (x := (bR0 : b6)) hp hl; simp only [bR7, bS2] at this ⊢; omega), (bg3 (N6 hp hl) (by kernel_rfl)), bR2⟩ fun G => o5 (b5 (H0 G f9 [(9, iA ((k : Int) + 1))] [wO ((k : Int) + 1)] (o1 (by omega)) fun G => b5 ?_)))))))); exact Q6 G (k + 1) (by have := N6 (x := (bR0 : b6)) hp hl; simp only [bR7, bS2] at this ⊢; omega) (by have := N6 (x := (bR0 : b6)) hp hl; simp only [bR7, bS2] at this ⊢; omega) [0, 1] (by have e1 : (bR4 (k + 1) l : List b6) = (bR4 k l ++ [qzS (l.getD k bR0)]) := ((bj9 (by omega)).symm); (first | rw [e1] | simp only [e1]) <;> rfl)
theorem bP6 (s : b6) : V9 s ≤ 1048576 → l7.ok Tryz.prog (loS s) :=
 b6.ind (P := fun s => V9 s ≤ 1048576 → l7.ok Tryz.prog (loS s)) (fun k t i v c b e h1 h2 hb => by
  have hz : V9 ⟨k, t, i, v, c, b, e⟩ = L4 i + L4 v + r6 b + r6 e := rfl
  refine bI4 ⟨k, t, i, v, c, b, e⟩ (show L4 i ≤ _ by omega) (show L4 v ≤ _ by omega) (bl7 b (Q3 (by omega)) fun s hs => h1 s hs ?_) (bl7 e (Q3 (by omega)) fun s hs => h2 s hs ?_)
  ·have := E6 hs; omega
  ·have := E6 hs; omega) s
theorem bM3 (l : List b6) (hb : r6 l ≤ 1048576) : l7.ok Tryz.prog (loB l) := bl7 l (Q3 hb) fun s hs => bP6 s (by have := E6 hs; omega)
abbrev a80 : It := .box [.v (.slice none 0 0), .v (.slice none 0 0), .v (.slice none 0 0)]
theorem bM2 (p : f5) (hb : p.size ≤ 1048576) : l7.ok Tryz.prog ⟨61, [pA 0], pS p, pS p ++ oP p, oA 3⟩ := by
 refine G3 18 Tryz.func61 [dI p.vars, dI p.arrays, dT p.body] [(0, pA 0)] fun G => ?_
 have hb1 : p.vars.length ≤ 1048576 ∧ p.arrays.length ≤ 1048576 ∧ r6 p.body ≤ 1048576 := by unfold f5.size at hb; omega
 refine wp_seq (m6 G f9 [0, 1, 2, 3, 11] [dI p.vars, dI p.arrays, dT p.body, .box (pL 0), a80] [(1, .ptr 3 0), (2, .ptr 4 0)] fun G => b5 (wp_seq (M7 G f9 [0, 1, 2, 3, 4, 29] [dI p.vars, dI p.arrays, dT p.body, .box [.ref 5, .ref 1, .ref 2], a80, .row 3 (D.ints ([] ++ p.vars))] [(1, .ptr 3 0), (2, .ptr 4 0)] (aP ((0 : Nat) + p.vars.length) 8 []) (aK (by omega) bR2) fun G => b5 (wp_seq (M7 G f9 [0, 1, 2, 3, 4, 5, 30] [dI p.vars, dI p.arrays, dT p.body, .box [.ref 5, .ref 6, .ref 2], a80, .row 3 (D.ints ([] ++ p.vars)), .row 3 (D.ints ([] ++ p.arrays))] [(1, .ptr 3 0), (2, .ptr 4 0)] (aP ((0 : Nat) + p.arrays.length) 8 []) (aK (by omega) bR2) fun G => b5 (wp_seq (m6 G (A0 2 [2] (bM3 p.body hb1.2.2)) [0, 1, 2, 3, 4, 5, 6, 23] [dI p.vars, dI p.arrays, dT p.body, .box [.ref 5, .ref 6, .tref 7], a80, .row 3 (D.ints ([] ++ p.vars)), .row 3 (D.ints ([] ++ p.arrays)), .tree (D.stmts p.body)] [(1, .ptr 3 0), (2, .ptr 4 0)] fun G => b5 (wp_seq (m6 G f9 [0, 1, 2, 4, 5, 6, 7] [dI p.vars, dI p.arrays, dT p.body, .box [.ref 4, .ref 5, .tref 6], .row 3 (D.ints ([] ++ p.vars)), .row 3 (D.ints ([] ++ p.arrays)), .tree (D.stmts p.body)] [(2, .ptr 3 0)] fun G => b5 (wp_ret ?_)))))))))); exact M6 G [0, 1, 2, 4, 5, 6]
section
variable {P : Program} {ι κ : Type} {φ ψ : Nat → Prop} {w0 w : World} {F : ι → Rs} {ρ ρ0 : Nat → Value} {N m n : Nat} {S : List It} {tm : List (Nat × AV)} {a : Act}
theorem n6.shrink {L L' : κ → Rs} (M : n6 φ ψ w0 w L) (h : ∀ k, L' k = L k ∨ ((∀ b, (L' k).blk b → (L k).blk b) ∧ ∀ φ', (∀ b, X5 φ L b → φ' b) → (∀ b, (L k).blk b → ¬ (L' k).blk b → φ' b) → (L' k).holds w φ')) : n6 φ ψ w0 w L' := by
 have old : ∀ k b, (L' k).blk b → (L k).blk b := fun k b hb => by
  rcases h k with e | ⟨h1, _⟩
  ·rw [e] at hb; exact hb
  ·exact h1 b hb
 have hfr : ∀ b, X5 φ L b → X5 φ L' b := fun b hb => ⟨hb.1, fun k hk => hb.2 k (old k b hk)⟩
 refine ⟨M.kept, M.fresh, fun k => ?_, fun i j g hij h1 h2 => M.dis i j g hij (old i g h1) (old j g h2), fun i b hb => M.ge i b (old i b hb), fun i b hb => M.ph i b (old i b hb)⟩
 rcases h k with e | ⟨h1, h2⟩
 ·rw [e]; exact Rs.keep (M.holds k) (T3.mono fun b _ hf => hfr b hf) fun _ _ => rfl
 ·refine h2 _ hfr fun b hb hn => ⟨M.ph k b hb, fun j hj => ?_⟩
  by_cases e : j = k
  ·subst e; exact hn hj
  ·exact M.dis j k b e (old j b hj) hb
def K5 (n : Nat) : List Ln := bT6 n .no ++ [.tree]
theorem af4 (n i : Nat) : A3 (K5 n) i = if i = n then .tree else .no := by
 unfold A3 K5
 rw [bR6]
 rcases Nat.lt_trichotomy i n with h | h | h
 ·rw [bU2 (by simpa using h), if_neg (by omega)]
  simp [List.getElem?_replicate, h]
 ·subst h; simp
 ·rw [bU7 (by simp; omega), if_neg (by omega)]; rfl
theorem l7.datPost {f : FuncId} {args : List AV} {S0 S : List It} {d : D} {res : AV} (hc : l7.ok P ⟨f, args, S0, S ++ [.tree d], res⟩) (res1 : AV) (hr : res = res1.tr (K5 S.length) := by kernel_rfl) (hk : (decide (S0.length ≤ S.length) && (res1.trOk (K5 S.length) && S.all fun x => x.ids.isEmpty)) = true := by kernel_rfl) : l7.ok P ⟨f, args, S0, S ++ [.dat d], res1⟩ := by
 simp only [bR1, decide_eq_true_eq] at hk
 obtain ⟨hl0, hk⟩ := hk
 subst hr
 intro ι φ ψ w0 w F ρ M
 refine (hc ι φ ψ w0 w F ρ M).mono ?_
 rintro x w' ⟨ρ', h1, rfl, M2⟩
 let ρ1 : Nat → Value := fun i => if (A3 (K5 S.length) i).isT then D8 (ρ' i) else ρ' i
 have hρ1 : ∀ i, ρ1 i = if (A3 (K5 S.length) i).isT then D8 (ρ' i) else ρ' i := fun _ => rfl
 have hne : ∀ i, i ≠ S.length → ρ1 i = ρ' i := fun i hi => by rw [hρ1, af4, if_neg hi]; rfl
 have heq : ρ1 S.length = D8 (ρ' S.length) := by rw [hρ1, af4, if_pos rfl]; rfl
 refine ⟨ρ1, fun i hi => by rw [hne i (by simp only at hi; omega)]; exact h1 i hi, by rw [AV.val_tr hρ1 res1 hk.1], ?_⟩
 refine M2.release fun k => ?_
 cases k with
 | inl i => exact .inl rfl
 | inr j =>
  simp only [s6]
  rcases Nat.lt_trichotomy j S.length with hj | hj | hj
  ·have e1 : v5 (S ++ [.dat d]) j = v5 S j := by simp [v5, bR6, bU2 hj]
   have e2 : v5 (S ++ [.tree d]) j = v5 S j := by simp [v5, bR6, bU2 hj]
   rw [e1, e2]
   left
   have h2 : (v5 S j).ids = [] := by
    have h3 := bR9.1 hk.2 _ (bS7 hj)
    rw [as0 hj]
    simpa using h3
   exact It.res_congr _ (fun i hi => by rw [h2] at hi; cases hi) (.inr (.inr (hne j (by omega))))
  ·subst hj
   have e1 : v5 (S ++ [.dat d]) S.length = .dat d := by simp [v5, bR6]
   have e2 : v5 (S ++ [.tree d]) S.length = .tree d := by simp [v5, bR6]
   rw [e1, e2]
   refine .inr ⟨fun b hb => hb, fun φ' hf hown => ⟨RD.nice _ _, ?_⟩⟩
   have hh := M2.holds (.inr S.length)
   simp only [s6] at hh
   rw [e2] at hh
   rw [heq]
   exact E4.read hh.2.1 fun b hb => hown b (by rw [show (It.tree d).res ρ' S.length = Rs.own (F5 (ρ' S.length)) _ from rfl]; exact hb)
  ·rw [C2 (by simp; omega), C2 (by simp; omega)]; exact .inl rfl
def bJ0 (i m : Nat) (e : TypeId) (d : D) (S1 : List It) (tm1 : List (Nat × AV)) : Bool :=
 decide (m ≤ i) && decide (i < S1.length) && natEq d.len 0 && ak6 d e && (bT4 S1.length).all (fun j => match v5 S1 j with
  | .box cs => AV.trOkL (K5 i) cs
  | _ => true) && (match v5 S1 i with | .row _ _ => true | _ => false) && tm1.all fun p => p.2.trOk (K5 i)
theorem x9.treeRow (G : x9 φ ψ w0 F N m ρ0 ρ S tm a w) (i : Nat) (e : TypeId) (d : D) (S1 : List It) (tm1 : List (Nat × AV)) (hb : bJ0 i m e d S1 tm1 = true := by kernel_rfl) (hi : v5 S1 i = .row e d := by kernel_rfl) (hS : S = (I4 (K5 i) S1).set i (.tree d) := by kernel_rfl) (ht : tm = tm1.map (fun p => (p.1, p.2.tr (K5 i))) := by kernel_rfl) :
  ∃ ρ', x9 φ ψ w0 F N m ρ0 ρ' S1 tm1 a w := by
 subst hS
 subst ht
 simp only [bJ0, bR1, decide_eq_true_eq, natEq, beq_iff_eq] at hb
 obtain ⟨⟨⟨⟨⟨⟨hm, hil⟩, hd0⟩, hte⟩, hall⟩, -⟩, htm⟩ := hb
 have hte := P6 hte
 have hlen : ((I4 (K5 i) S1).set i (.tree d)).length = S1.length := by simp [I4]
 have hlen0 : (I4 (K5 i) S1).length = S1.length := by simp [I4]
 have hat : ∀ j, v5 ((I4 (K5 i) S1).set i (.tree d)) j = if j = i then .tree d else z9 (K5 i) .no (v5 S1 j) := fun j => by
  by_cases e : j = i
  ·subst e
   rw [if_pos rfl]
   simp [v5, bR6, hlen0, hil]
  ·rw [if_neg e]
   have h1 : v5 ((I4 (K5 i) S1).set i (.tree d)) j = v5 (I4 (K5 i) S1) j := by
    simp only [v5, bR6]
    rw [List.getElem?_set_ne (fun h => e h.symm)]
   rw [h1, R5, af4, if_neg e]
 have hbox : ∀ j cs, v5 S1 j = .box cs → AV.trOkL (K5 i) cs = true := fun j cs h => by
  rcases bU6 j S1.length with hj | hj
  ·have h2 := bR9.1 hall j (List.mem_range.2 hj)
   rw [h] at h2; exact h2
  ·rw [C2 hj] at h; cases h
 let ρ1 : Nat → Value := fun j => if (A3 (K5 i) j).isT then D8 (ρ j) else ρ j
 have hρ1 : ∀ j, ρ1 j = if (A3 (K5 i) j).isT then D8 (ρ j) else ρ j := fun _ => rfl
 have hne : ∀ j, j ≠ i → ρ1 j = ρ j := fun j hj => by rw [hρ1, af4, if_neg hj]; rfl
 have heq : ρ1 i = D8 (ρ i) := by rw [hρ1, af4, if_pos rfl]; rfl
 refine ⟨ρ1, G.size, G.defs, fun t x hx => ?_, fun t x hx j hj => ?_, fun j => ⟨fun q hq => ?_, fun hj => C2 hj⟩, ?_, ?_, fun j hj => ?_⟩
 ·obtain ⟨h1, p, h2, h3⟩ := ao8 (M := K5 i) hx
  rw [G.tmv t _ h1, AV.val_tr hρ1 x (by rw [← h3]; exact bR9.1 htm p h2)]
 ·obtain ⟨h1, _⟩ := ao8 (M := K5 i) hx
  have := G.tmi t _ h1 j (by rw [AV.ids_tr]; exact hj)
  rw [hlen] at this; exact this
 ·by_cases e : j = i
  ·subst e; rw [hi] at hq; cases hq
  ·have h1 := (G.bd j).1 q
   rw [hat, if_neg e, hlen] at h1
   rcases It.ids_lend (K5 i) .no (v5 S1 j) with h | h
   ·rw [h] at hq; cases hq
   ·exact h1 (by rw [h]; exact hq)
 ·refine G.mem.shrink fun k => ?_
  cases k with
  | inl q => exact .inl rfl
  | inr j =>
   simp only [s6]
   rw [hat]
   by_cases e1 : j = i
   ·subst e1
    rw [if_pos rfl, hi]
    have hh := G.mem.holds (.inr j)
    simp only [s6] at hh
    rw [hat, if_pos rfl] at hh
    obtain ⟨_, ⟨e', xs, S', h0, h1, h2, h3, h4⟩, _⟩ := hh
    rw [hte] at h0; cases h0
    refine .inr ⟨fun b hb => ?_, fun φ' _ _ => ?_⟩
    ·simp only [It.res, Rs.blk] at hb ⊢
     rw [heq] at hb
     exact (h2 b hb).1
    ·simp only [It.res]
     rw [heq]
     exact ⟨fun xs => RW.nice d xs, xs, h1, RW.nil hd0 _⟩
   ·rw [if_neg e1]
    left
    cases hx : v5 S1 j with
    | box cs =>
     simp only [z9, It.res]
     rw [hne j e1, AV.vals_tr hρ1 cs (hbox j cs hx)]
    | none => rfl
    | dead => rfl
    | dat d => simp only [z9, It.res]; rw [hne j e1]
    | row e' d => simp only [z9, It.res]; rw [hne j e1]
    | tree d => simp only [z9, It.res]; rw [hne j e1]
    | kept e' d => cases e' <;> (simp only [z9, It.res]; rw [hne j e1])
 ·have := G.le; rw [hlen] at this; exact this
 ·rw [hne j (by omega)]; exact G.old j hj
end
theorem bz1 (e : b9) (hb : L4 e ≤ 1048576) : l7.ok Tryz.prog ⟨132, [eA e 0], eS e, eS e ++ [dE e.kids], .agg [iA e.kind, iA e.value, .ref 1]⟩ :=
 l7.datPost (S := eS e) (d := .exprs e.kids) (aQ9 e hb) (.agg [iA e.kind, iA e.value, .ref 1])
abbrev foC (f : FuncId) (e : b9) : l7 := ⟨f, [eA e 0], eS e, eS e ++ [dE (d8 e).kids], .agg [iA (d8 e).kind, iA (d8 e).value, .ref 1]⟩
theorem bb7 {nv na d k : Nat} {ss : List b6} (hs : ss.all (i5 nv na (d + 1)) = true) (hk : k < ss.length) (h4 : ¬ (ss.getD k bR0).kind = 4) : E1 (ss.getD k bR0).value = true := a49 _ _ _ _ (br4 (aE8 hs hk).1 h4)
theorem br6 {ss : List b6} {k : Nat} (hk : ss.length ≤ k) : d9 ss = d9 (ss.take k) := by rw [bS6 hk]
abbrev lbC (f : FuncId) (ss : List b6) : l7 := ⟨f, [.ref 0], [dT ss], [dT ss, dT (d9 ss)], .ref 1⟩
abbrev bj0 (ss : List b6) (k : Nat) : It := .row 106 (D.stmts (d9 (bR4 k ss) ++ ([b6.mk (ss.getD k bR0).kind (ss.getD k bR0).target (qzE (ss.getD k bR0).index) (qzE (d8 (ss.getD k bR0).value)) (ss.getD k bR0).count (d9 (ss.getD k bR0).body) (d9 (ss.getD k bR0).els)] ++ [])))
abbrev ak2 (ss : List b6) (k : Nat) : It := .row 106 (D.stmts (d9 (bR4 k ss)))
abbrev L3 (k : Nat) (r0 : List (Nat × AV)) : List (Nat × AV) := (0, .ref 0) :: (2, .v (.slice none 0 0)) :: (3, .ref 1) :: (4, iA (k : Int)) :: r0
theorem aK0 (nv na d : Nat) (ss : List b6) (hs : ss.all (i5 nv na (d + 1)) = true) (hb : r6 ss ≤ 1048576) (hf : ∀ (e : b9), E1 e = true → l7.ok Tryz.prog (foC 133 e)) (ih : ∀ (tt : List b6), tt.all (i5 nv na d) = true → r6 tt ≤ 1048576 → 0 < ss.length → l7.ok Tryz.prog (lbC 63 tt)) : l7.ok Tryz.prog (lbC 63 ss) := by
  have hcp := bz1; refine G3 98 Tryz.func63 [dT ss] [(0, .ref 0)] fun G => ?_; have hl := Q3 hb; refine wp_seq (l5 G f9 [(2, .v (.slice none 0 0))] fun G => b5 (wp_seq (m6 G f9 [0, 1] [dT ss, .tree (D.stmts [])] [(0, .ref 0), (2, .v (.slice none 0 0)), (3, .tref 1)] fun G => b5 (wp_seq (wp_seq (J3 G f9 [(0, .ref 0), (2, .v (.slice none 0 0)), (3, .tref 1), (4, iA 0)] fun G => b5 (wp_block ?_))))))); obtain ⟨ρ, G⟩ := G.treeRow 1 106 (D.stmts []) [dT ss, .row 106 (D.stmts [])] [(0, .ref 0), (2, .v (.slice none 0 0)), (3, .ref 1), (4, iA 0)]; refine x7 (κ := Nat) (fun k => k ≤ ss.length) (fun k => ss.length - k) (fun k => [dT ss, .row 106 (.stmts (d9 (ss.take k)))]) (fun k => [(0, .ref 0), (2, .v (.slice none 0 0)), (3, .ref 1), (4, iA k)]) 0 (by simp [hs]) (x9.at G _ _) ?_; clear G; intro k ρ a w hp G; replace G := x9.at G [dT ss, ak2 ss k] (L3 k []); have hfl := br5 (k := k) hb; refine wp_seq (wp_seq (l5 G f9 [(10, bA (decide ((k : Int) < ss.length)))] fun G => b5 (W0 G (fun h0 q0 => ?_) fun h0 q0 => ?_)))
  · refine wp_exit (v8 (v8 (v7 (b5 (wp_seq (J3 G f9 [(2, .ref 1)] fun G => b5 (wp_ret ?_))))))); obtain ⟨ρ, G⟩ := G.frz [.no, .row 106] [dT ss, dT (d9 (bR4 k ss))] [(2, .ref 1)]; exact M6 G [0, 1] (by show _ = mR [0, 1] [dT ss, dT (d9 ss)]; have e1 : (d9 ss : List b6) = (d9 (bR4 k ss)) := (br6 (by omega)); (first | rw [e1] | simp only [e1]) <;> rfl)
  ·
   refine wp_skip (b5 (wp_seq (wp_block (wp_seq (M7 G f9 [0, 1, 26, 27, 28, 29, 34] [dT ss, ak2 ss k, dE (ss.getD k bR0).index.kids, dE (ss.getD k bR0).value.kids, dT (ss.getD k bR0).body, dT (ss.getD k bR0).els, .box (sL (ss.getD k bR0) 2)] (L3 k [(5, .ptr 6 0)]) (iX k k ss.length []) (iK (by have h8 := o8 (m9 hb (show ((k : Nat) : Int) < ss.length by omega)).2.2.2; omega) bR2) fun G => b5 (wp_seq (m6 G (A0 2 [2] (hcp ((ss.getD k bR0).index) ((m9 hb (by assumption)).1))) [0, 1, 3, 4, 5, 6, 23] [dT ss, ak2 ss k, dE (ss.getD k bR0).value.kids, dT (ss.getD k bR0).body, dT (ss.getD k bR0).els, .box [iA (ss.getD k bR0).kind, iA (ss.getD k bR0).target, iA (ss.getD k bR0).index.kind, iA (ss.getD k bR0).index.value, .ref 6, iA (ss.getD k bR0).value.kind, iA (ss.getD k bR0).value.value, .ref 2, iA (ss.getD k bR0).count, .ref 3, .ref 4], dE (ss.getD k bR0).index.kids] (L3 k [(5, .ptr 5 0)]) fun G => b5 (wp_seq (m6 G (A0 2 [3] (ih ((ss.getD k bR0).body) ((aE8 hs (by omega)).2.1) ((m9 hb (by assumption)).2.2.1) (by have h8 := o8 (m9 hb (show ((k : Nat) : Int) < ss.length by omega)).2.2.2; omega))) [0, 1, 2, 4, 5, 6, 23] [dT ss, ak2 ss k, dE (ss.getD k bR0).value.kids, dT (ss.getD k bR0).els, .box [iA (ss.getD k bR0).kind, iA (ss.getD k bR0).target, iA (ss.getD k bR0).index.kind, iA (ss.getD k bR0).index.value, .ref 5, iA (ss.getD k bR0).value.kind, iA (ss.getD k bR0).value.value, .ref 2, iA (ss.getD k bR0).count, .ref 6, .ref 3], dE (ss.getD k bR0).index.kids, dT (d9 (ss.getD k bR0).body)] (L3 k [(5, .ptr 4 0)]) fun G => b5 (wp_seq (m6 G (A0 2 [3] (ih ((ss.getD k bR0).els) ((aE8 hs (by omega)).2.2) ((m9 hb (by assumption)).2.2.2) (by have h8 := o8 (m9 hb (show ((k : Nat) : Int) < ss.length by omega)).2.2.2; omega))) [0, 1, 2, 4, 5, 6, 23] [dT ss, ak2 ss k, dE (ss.getD k bR0).value.kids, .box [iA (ss.getD k bR0).kind, iA (ss.getD k bR0).target, iA (ss.getD k bR0).index.kind, iA (ss.getD k bR0).index.value, .ref 4, iA (ss.getD k bR0).value.kind, iA (ss.getD k bR0).value.value, .ref 2, iA (ss.getD k bR0).count, .ref 5, .ref 6], dE (ss.getD k bR0).index.kids, dT (d9 (ss.getD k bR0).body), dT (d9 (ss.getD k bR0).els)] (L3 k [(5, .ptr 3 0)]) fun G => b5 (wp_seq (wp_seq (J3 G f9 (L3 k [(5, .ptr 3 0), (31, bA ((ss.getD k bR0).kind != 4))]) fun G => b5 (rcN G (fun h1 q1 => ?_) fun h1 q1 => ?_)))))))))))))))
   ·
    refine wp_skip (b5 (wp_block (wp_seq ?_))); cases h2 : ((ss.getD k bR0).kind == 3)
    ·
     have q2 := ne_of_beq_false h2; refine l5 G (F8 (fc h2 (fc (b := false) rfl fz)) (us [(4, 7, 0), (1008, 1008, 0), (10, 13, 1), (1014, 1014, 1)])) [(40, bA false)] fun G => b5 (rF G false (by kernel_rfl) (wp_seq (J3 G (F8 (fc h2 fz) (us [(4, 7, 0), (1008, 1008, 0)])) (L3 k [(5, .ptr 3 0), (60, bA false)]) fun G => b5 (rF G false (by kernel_rfl) (wp_seq ?_))))); cases h3 : ((ss.getD k bR0).kind == 4)
     · have q3 := ne_of_beq_false h3; exact False.elim (by omega)
     ·
      have q3 := eq_of_beq h3; refine l5 G (F8 (fc h3 fz) [(4, 0), (5, 0), (6, 0), (1007, 0)]) [(74, bA ((ss.getD k bR0).count == 1))] fun G => b5 (U9 G (fun h4 q4 => ?_) fun h4 q4 => ?_)
      ·
       refine wp_seq (l5 G (F8 (fc h3 fz) (us [(4, 7, 0), (1008, 1008, 0)])) [(87, bA (((d9 (ss.getD k bR0).body).length : Int) == 0))] fun G => b5 (U9 G (fun h5 q5 => ?_) fun h5 q5 => ?_))
       · refine M7 G f9 [0, 31] [dT ss, .row 106 (D.stmts (d9 (bR4 k ss) ++ ([b6.mk (ss.getD k bR0).kind (ss.getD k bR0).target (qzE (ss.getD k bR0).index) (qzE (ss.getD k bR0).value) (ss.getD k bR0).count (d9 (ss.getD k bR0).body) (d9 (ss.getD k bR0).els)] ++ [])))] (L3 k []) (aP ((d9 (bR4 k ss)).length + 1) 152 []) (aK (by omega) bR2) fun G => o5 (o5 (b5 (H0 G f9 [(4, iA ((k : Int) + 1))] [wO ((k : Int) + 1)] (o1 (by omega)) fun G => b5 ?_))); exact Q6 G (k + 1) (by have h8 := o8 (m9 hb (show ((k : Nat) : Int) < ss.length by omega)).2.2.2; omega) (by have h8 := o8 (m9 hb (show ((k : Nat) : Int) < ss.length by omega)).2.2.2; omega) [0, 1] (by have e1 : (d9 (bR4 (k + 1) ss) : List b6) = (d9 (bR4 k ss) ++ ([b6.mk (ss.getD k bR0).kind (ss.getD k bR0).target (qzE (ss.getD k bR0).index) (qzE (ss.getD k bR0).value) (ss.getD k bR0).count (d9 (ss.getD k bR0).body) (d9 (ss.getD k bR0).els)] ++ [])) := (fo5 (by omega) (by omega) (by omega) (by omega)); (first | rw [e1] | simp only [e1]) <;> rfl)
       · refine wp_skip (o5 (o5 (b5 (M7 G f9 [0, 1] [dT ss, ak2 ss k] [(0, .ref 0), (2, .v (.slice none 0 0)), (3, .ref 1), (4, iA ((k : Int) + 1))] [wO ((k : Int) + 1)] (o1 (by omega)) fun G => b5 ?_)))); exact Q6 G (k + 1) (by have h8 := o8 (m9 hb (show ((k : Nat) : Int) < ss.length by omega)).2.2.2; omega) (by have h8 := o8 (m9 hb (show ((k : Nat) : Int) < ss.length by omega)).2.2.2; omega) [0, 1] (by have e1 : (d9 (bR4 (k + 1) ss) : List b6) = (d9 (bR4 k ss)) := (fo4 (by omega) (by omega) (by omega) (by omega)); (first | rw [e1] | simp only [e1]) <;> rfl)
      · refine M7 G f9 [0, 31] [dT ss, .row 106 (D.stmts (d9 (bR4 k ss) ++ d9 (ss.getD k bR0).body))] (L3 k []) (aP ((d9 (bR4 k ss)).length + (d9 (ss.getD k bR0).body).length) 152 []) (aK (by have h8 := o8 (m9 hb (show ((k : Nat) : Int) < ss.length by omega)).2.2.1; omega) bR2) fun G => o5 (o5 (b5 (H0 G f9 [(4, iA ((k : Int) + 1))] [wO ((k : Int) + 1)] (o1 (by omega)) fun G => b5 ?_))); exact Q6 G (k + 1) (by have h8 := o8 (m9 hb (show ((k : Nat) : Int) < ss.length by omega)).2.2.2; omega) (by have h8 := o8 (m9 hb (show ((k : Nat) : Int) < ss.length by omega)).2.2.2; omega) [0, 1] (by have e1 : (d9 (bR4 (k + 1) ss) : List b6) = (d9 (bR4 k ss) ++ d9 (ss.getD k bR0).body) := (fo3 (by omega) (by omega) (by omega)); (first | rw [e1] | simp only [e1]) <;> rfl)
    · have q2 := eq_of_beq h2; exact False.elim (by omega)
   ·
    refine m6 G (A0 2 [2] (hf ((ss.getD k bR0).value) (bb7 hs (by omega) (by omega)))) [0, 1, 3, 4, 5, 6, 23] [dT ss, ak2 ss k, .box [iA (ss.getD k bR0).kind, iA (ss.getD k bR0).target, iA (ss.getD k bR0).index.kind, iA (ss.getD k bR0).index.value, .ref 3, iA (d8 (ss.getD k bR0).value).kind, iA (d8 (ss.getD k bR0).value).value, .ref 6, iA (ss.getD k bR0).count, .ref 4, .ref 5], dE (ss.getD k bR0).index.kids, dT (d9 (ss.getD k bR0).body), dT (d9 (ss.getD k bR0).els), dE (d8 (ss.getD k bR0).value).kids] (L3 k [(5, .ptr 2 0)]) fun G => b5 (wp_block (wp_seq ?_)); cases h6 : ((ss.getD k bR0).kind == 3)
    ·
     have q6 := ne_of_beq_false h6; refine l5 G (F8 (fc h6 (fc (b := false) rfl fz)) (us [(4, 7, 0), (1008, 1008, 0), (10, 13, 1), (1014, 1014, 1)])) [(40, bA false)] fun G => b5 (rF G false (by kernel_rfl) (wp_seq (J3 G (F8 (fc h6 fz) (us [(4, 7, 0), (1008, 1008, 0)])) (L3 k [(5, .ptr 2 0), (60, bA false)]) fun G => b5 (rF G false (by kernel_rfl) (wp_seq ?_))))); cases h7 : ((ss.getD k bR0).kind == 4)
     · have q7 := ne_of_beq_false h7; refine l5 G (F8 (fc h7 fz) [(4, 0), (5, 0), (6, 0), (1007, 0)]) [(74, bA false)] fun G => b5 (rF G false (by kernel_rfl) (wp_seq (l5 G (F8 (fc h7 fz) (us [(4, 7, 0), (1008, 1008, 0)])) [(87, bA false)] fun G => b5 (rF G false (by kernel_rfl) (M7 G f9 [0, 31] [dT ss, bj0 ss k] (L3 k []) (aP ((d9 (bR4 k ss)).length + 1) 152 []) (aK (by omega) bR2) fun G => o5 (o5 (b5 (H0 G f9 [(4, iA ((k : Int) + 1))] [wO ((k : Int) + 1)] (o1 (by omega)) fun G => b5 ?_)))))))); exact Q6 G (k + 1) (by have h8 := o8 (m9 hb (show ((k : Nat) : Int) < ss.length by omega)).2.2.2; omega) (by have h8 := o8 (m9 hb (show ((k : Nat) : Int) < ss.length by omega)).2.2.2; omega) [0, 1] (by have e1 : (d9 (bR4 (k + 1) ss) : List b6) = (d9 (bR4 k ss) ++ ([b6.mk (ss.getD k bR0).kind (ss.getD k bR0).target (qzE (ss.getD k bR0).index) (qzE (d8 (ss.getD k bR0).value)) (ss.getD k bR0).count (d9 (ss.getD k bR0).body) (d9 (ss.getD k bR0).els)] ++ [])) := (fo6 (by omega) (by omega) (by omega)); (first | rw [e1] | simp only [e1]) <;> rfl)
     · have q7 := eq_of_beq h7; exact False.elim (by omega)
    ·
     have q6 := eq_of_beq h6; cases h8 : ((d8 (ss.getD k bR0).value).kind == 1)
     ·
      have q8 := ne_of_beq_false h8; refine l5 G (F8 (fc h6 (fc h8 fz)) (us [(4, 7, 0), (1008, 1008, 0), (10, 13, 1), (1014, 1014, 1)])) [(40, bA false)] fun G => b5 (rF G false (by kernel_rfl) (wp_seq (J3 G (F8 (fc h6 fz) (us [(4, 7, 0), (1008, 1008, 0)])) (L3 k [(5, .ptr 2 0), (60, bA ((d8 (ss.getD k bR0).value).kind == 1))]) fun G => b5 (rF G _ h8 (wp_seq ?_))))); cases h9 : ((ss.getD k bR0).kind == 4)
      · have q9 := ne_of_beq_false h9; refine l5 G (F8 (fc h9 fz) [(4, 0), (5, 0), (6, 0), (1007, 0)]) [(74, bA false)] fun G => b5 (rF G false (by kernel_rfl) (wp_seq (l5 G (F8 (fc h9 fz) (us [(4, 7, 0), (1008, 1008, 0)])) [(87, bA false)] fun G => b5 (rF G false (by kernel_rfl) (M7 G f9 [0, 31] [dT ss, bj0 ss k] (L3 k []) (aP ((d9 (bR4 k ss)).length + 1) 152 []) (aK (by omega) bR2) fun G => o5 (o5 (b5 (H0 G f9 [(4, iA ((k : Int) + 1))] [wO ((k : Int) + 1)] (o1 (by omega)) fun G => b5 ?_)))))))); exact Q6 G (k + 1) (by have h8 := o8 (m9 hb (show ((k : Nat) : Int) < ss.length by omega)).2.2.2; omega) (by have h8 := o8 (m9 hb (show ((k : Nat) : Int) < ss.length by omega)).2.2.2; omega) [0, 1] (by have e1 : (d9 (bR4 (k + 1) ss) : List b6) = (d9 (bR4 k ss) ++ ([b6.mk (ss.getD k bR0).kind (ss.getD k bR0).target (qzE (ss.getD k bR0).index) (qzE (d8 (ss.getD k bR0).value)) (ss.getD k bR0).count (d9 (ss.getD k bR0).body) (d9 (ss.getD k bR0).els)] ++ [])) := (fo6 (by omega) (by omega) (by omega)); (first | rw [e1] | simp only [e1]) <;> rfl)
      · have q9 := eq_of_beq h9; exact False.elim (by omega)
     ·
      have q8 := eq_of_beq h8; refine l5 G (F8 (fc h6 (fc h8 fz)) (us [(4, 7, 0), (1008, 1008, 0), (10, 13, 1), (1014, 1014, 1)])) [(40, bA ((d8 (ss.getD k bR0).value).value != 0))] fun G => b5 (rcN G (fun h10 q10 => ?_) fun h10 q10 => ?_)
      · refine wp_seq (l5 G (F8 (fc h6 fz) (us [(4, 7, 0), (1008, 1008, 0)])) [(60, bA ((d8 (ss.getD k bR0).value).kind == 1))] fun G => b5 (rT G _ h8 (M7 G f9 [0, 31] [dT ss, .row 106 (D.stmts (d9 (bR4 k ss) ++ d9 (ss.getD k bR0).els))] (L3 k []) (aP ((d9 (bR4 k ss)).length + (d9 (ss.getD k bR0).els).length) 152 []) (aK (by have h8 := o8 (m9 hb (show ((k : Nat) : Int) < ss.length by omega)).2.2.2; omega) bR2) fun G => o5 (o5 (b5 (H0 G f9 [(4, iA ((k : Int) + 1))] [wO ((k : Int) + 1)] (o1 (by omega)) fun G => b5 ?_)))))); exact Q6 G (k + 1) (by have h8 := o8 (m9 hb (show ((k : Nat) : Int) < ss.length by omega)).2.2.2; omega) (by have h8 := o8 (m9 hb (show ((k : Nat) : Int) < ss.length by omega)).2.2.2; omega) [0, 1] (by have e1 : (d9 (bR4 (k + 1) ss) : List b6) = (d9 (bR4 k ss) ++ d9 (ss.getD k bR0).els) := (fo2 (by omega) (by omega) (by omega) (by omega)); (first | rw [e1] | simp only [e1]) <;> rfl)
      · refine M7 G f9 [0, 31] [dT ss, .row 106 (D.stmts (d9 (bR4 k ss) ++ d9 (ss.getD k bR0).body))] (L3 k []) (aP ((d9 (bR4 k ss)).length + (d9 (ss.getD k bR0).body).length) 152 []) (aK (by have h8 := o8 (m9 hb (show ((k : Nat) : Int) < ss.length by omega)).2.2.1; omega) bR2) fun G => o5 (o5 (b5 (H0 G f9 [(4, iA ((k : Int) + 1))] [wO ((k : Int) + 1)] (o1 (by omega)) fun G => b5 ?_))); exact Q6 G (k + 1) (by have h8 := o8 (m9 hb (show ((k : Nat) : Int) < ss.length by omega)).2.2.2; omega) (by have h8 := o8 (m9 hb (show ((k : Nat) : Int) < ss.length by omega)).2.2.2; omega) [0, 1] (by have e1 : (d9 (bR4 (k + 1) ss) : List b6) = (d9 (bR4 k ss) ++ d9 (ss.getD k bR0).body) := (fo1 (by omega) (by omega) (by omega) (by omega)); (first | rw [e1] | simp only [e1]) <;> rfl)
abbrev bi9 (ss : List b6) (k : Nat) : It := .row 106 (D.stmts (d9 (bR4 k ss) ++ ([b6.mk (ss.getD k bR0).kind (ss.getD k bR0).target (qzE (ss.getD k bR0).index) (qzE (d8 (ss.getD k bR0).value)) (ss.getD k bR0).count (d9 (ss.getD k bR0).body) (d9 (ss.getD k bR0).els)] ++ [])))
abbrev aq6 (ss : List b6) (k : Nat) : It := .row 106 (D.stmts (d9 (bR4 k ss)))
abbrev N8 (ss : List b6) (k : Nat) (r0 : List (Nat × AV)) : List (Nat × AV) := (6, .ref 0) :: (7, iA (ss.length : Int)) :: (8, iA (k : Int)) :: r0
abbrev L2 (r0 : List (Nat × AV)) : List (Nat × AV) := (2, .v (.slice none 0 0)) :: (3, .ref 1) :: r0
theorem av2 (nv na d : Nat) (ss : List b6) (hs : ss.all (i5 nv na (d + 1)) = true) (hb : r6 ss ≤ 1048576) (hf : ∀ (e : b9), E1 e = true → l7.ok Tryz.prog (foC 127 e)) (ih : ∀ (tt : List b6), tt.all (i5 nv na d) = true → r6 tt ≤ 1048576 → 0 < ss.length → l7.ok Tryz.prog (lbC 60 tt)) : l7.ok Tryz.prog (lbC 60 ss) := by
  refine G3 90 Tryz.func60 [dT ss] [(0, .ref 0)] fun G => ?_; have hl := Q3 hb; refine wp_seq (l5 G f9 [(2, .v (.slice none 0 0))] fun G => b5 (wp_seq (l5 G f9 [(3, .v (.slice none 0 0))] fun G => b5 (wp_seq (wp_seq (J3 G f9 [(2, .v (.slice none 0 0)), (3, .v (.slice none 0 0)), (6, .ref 0), (7, iA (ss.length : Int)), (8, iA 0)] fun G => b5 (wp_block ?_))))))); obtain ⟨ρ, G⟩ := G.nil 1 106 (.stmts []) 10 [dT ss] (L2 [(6, .ref 0), (7, iA (ss.length : Int)), (8, iA 0)]); refine x7 (κ := Nat) (fun k => k ≤ ss.length) (fun k => ss.length - k) (fun k => [dT ss, .row 106 (.stmts (d9 (ss.take k)))]) (fun k => [(2, .v (.slice none 0 0)), (3, .ref 1), (6, .ref 0), (7, iA (ss.length : Int)), (8, iA k)]) 0 (by simp [hs]) (x9.at G _ _) ?_; clear G; intro k ρ a w hp G; replace G := x9.at G [dT ss, aq6 ss k] (L2 (N8 ss k [])); have hfl := br5 (k := k) hb; refine wp_seq (l5 G f9 [(9, bA (decide ((k : Int) < ss.length)))] fun G => b5 (wp_seq (W0 G (fun h0 q0 => ?_) fun h0 q0 => ?_)))
  · refine wp_exit (v8 (v8 (v7 (b5 (wp_seq (J3 G f9 [(2, .ref 1)] fun G => b5 (wp_ret ?_))))))); obtain ⟨ρ, G⟩ := G.frz [.no, .row 106] [dT ss, dT (d9 (bR4 k ss))] [(2, .ref 1)]; exact M6 G [0, 1] (by show _ = mR [0, 1] [dT ss, dT (d9 ss)]; have e1 : (d9 ss : List b6) = (d9 (bR4 k ss)) := (br6 (by omega)); (first | rw [e1] | simp only [e1]) <;> rfl)
  ·
   refine wp_skip (b5 (wp_seq (wp_block (wp_seq (M7 G f9 [0, 1, 10, 11, 12, 13, 18] [dT ss, aq6 ss k, dE (ss.getD k bR0).index.kids, dE (ss.getD k bR0).value.kids, dT (ss.getD k bR0).body, dT (ss.getD k bR0).els, .box (sL (ss.getD k bR0) 2)] (L2 ((5, .ptr 6 0) :: (N8 ss k []))) (iX k k ss.length []) (iK (by have h8 := o8 (m9 hb (show ((k : Nat) : Int) < ss.length by omega)).2.2.2; omega) bR2) fun G => b5 (wp_seq (wp_seq (l5 G f9 [(14, bA ((ss.getD k bR0).kind != 4))] fun G => b5 (rcN G (fun h1 q1 => ?_) fun h1 q1 => ?_)))))))))
   ·
    refine wp_skip (b5 (wp_seq (aC1 G (B1 ⟨[(2, _, [4]), (5, _, [5])], [], []⟩ (b8 (ih ((ss.getD k bR0).body) ((aE8 hs (by omega)).2.1) ((m9 hb (by assumption)).2.2.1) (by have h8 := o8 (m9 hb (show ((k : Nat) : Int) < ss.length by omega)).2.2.2; omega)) (b8 (ih ((ss.getD k bR0).els) ((aE8 hs (by omega)).2.2) ((m9 hb (by assumption)).2.2.2) (by have h8 := o8 (m9 hb (show ((k : Nat) : Int) < ss.length by omega)).2.2.2; omega)) d7)) bR2) [0, 1, 3, 0, 8, 31, 31, 127, 255, 511] [0, 1, 2, 3, 6, 23, 47] [dT ss, aq6 ss k, dE (ss.getD k bR0).index.kids, dE (ss.getD k bR0).value.kids, .box [iA (ss.getD k bR0).kind, iA (ss.getD k bR0).target, iA (ss.getD k bR0).index.kind, iA (ss.getD k bR0).index.value, .ref 2, iA (ss.getD k bR0).value.kind, iA (ss.getD k bR0).value.value, .ref 3, iA (ss.getD k bR0).count, .ref 5, .ref 6], dT (d9 (ss.getD k bR0).body), dT (d9 (ss.getD k bR0).els)] (L2 ((5, .ptr 4 0) :: (N8 ss k []))) fun G => b5 (wp_block (wp_seq ?_))))); cases h2 : ((ss.getD k bR0).kind == 3)
    ·
     have q2 := ne_of_beq_false h2; refine l5 G (F8 (fc h2 (fc (b := false) rfl fz)) (us [(4, 7, 0), (1008, 1008, 0), (10, 13, 1), (1014, 1014, 1)])) [(31, bA false)] fun G => b5 (rF G false (by kernel_rfl) (wp_seq (J3 G (F8 (fc h2 fz) (us [(4, 7, 0), (1008, 1008, 0)])) (L2 ((5, .ptr 4 0) :: (N8 ss k [(51, bA false)]))) fun G => b5 (rF G false (by kernel_rfl) (wp_seq ?_))))); cases h3 : ((ss.getD k bR0).kind == 4)
     · have q3 := ne_of_beq_false h3; exact False.elim (by omega)
     ·
      have q3 := eq_of_beq h3; refine l5 G (F8 (fc h3 fz) [(4, 0), (5, 0), (6, 0), (1007, 0)]) [(65, bA ((ss.getD k bR0).count == 1))] fun G => b5 (U9 G (fun h4 q4 => ?_) fun h4 q4 => ?_)
      ·
       refine wp_seq (l5 G (F8 (fc h3 fz) (us [(4, 7, 0), (1008, 1008, 0)])) [(78, bA (((d9 (ss.getD k bR0).body).length : Int) == 0))] fun G => b5 (U9 G (fun h5 q5 => ?_) fun h5 q5 => ?_))
       · refine M7 G f9 [0, 31] [dT ss, .row 106 (D.stmts (d9 (bR4 k ss) ++ ([b6.mk (ss.getD k bR0).kind (ss.getD k bR0).target (qzE (ss.getD k bR0).index) (qzE (ss.getD k bR0).value) (ss.getD k bR0).count (d9 (ss.getD k bR0).body) (d9 (ss.getD k bR0).els)] ++ [])))] (L2 (N8 ss k [])) (aP ((d9 (bR4 k ss)).length + 1) 152 []) (aK (by omega) bR2) fun G => o5 (o5 (b5 (H0 G f9 [(8, iA ((k : Int) + 1))] [wO ((k : Int) + 1)] (o1 (by omega)) fun G => b5 ?_))); exact Q6 G (k + 1) (by have h8 := o8 (m9 hb (show ((k : Nat) : Int) < ss.length by omega)).2.2.2; omega) (by have h8 := o8 (m9 hb (show ((k : Nat) : Int) < ss.length by omega)).2.2.2; omega) [0, 1] (by have e1 : (d9 (bR4 (k + 1) ss) : List b6) = (d9 (bR4 k ss) ++ ([b6.mk (ss.getD k bR0).kind (ss.getD k bR0).target (qzE (ss.getD k bR0).index) (qzE (ss.getD k bR0).value) (ss.getD k bR0).count (d9 (ss.getD k bR0).body) (d9 (ss.getD k bR0).els)] ++ [])) := (fo5 (by omega) (by omega) (by omega) (by omega)); (first | rw [e1] | simp only [e1]) <;> rfl)
       · refine wp_skip (o5 (o5 (b5 (M7 G f9 [0, 1] [dT ss, aq6 ss k] (L2 [(6, .ref 0), (7, iA (ss.length : Int)), (8, iA ((k : Int) + 1))]) [wO ((k : Int) + 1)] (o1 (by omega)) fun G => b5 ?_)))); exact Q6 G (k + 1) (by have h8 := o8 (m9 hb (show ((k : Nat) : Int) < ss.length by omega)).2.2.2; omega) (by have h8 := o8 (m9 hb (show ((k : Nat) : Int) < ss.length by omega)).2.2.2; omega) [0, 1] (by have e1 : (d9 (bR4 (k + 1) ss) : List b6) = (d9 (bR4 k ss)) := (fo4 (by omega) (by omega) (by omega) (by omega)); (first | rw [e1] | simp only [e1]) <;> rfl)
      · refine M7 G f9 [0, 31] [dT ss, .row 106 (D.stmts (d9 (bR4 k ss) ++ d9 (ss.getD k bR0).body))] (L2 (N8 ss k [])) (aP ((d9 (bR4 k ss)).length + (d9 (ss.getD k bR0).body).length) 152 []) (aK (by have h8 := o8 (m9 hb (show ((k : Nat) : Int) < ss.length by omega)).2.2.1; omega) bR2) fun G => o5 (o5 (b5 (H0 G f9 [(8, iA ((k : Int) + 1))] [wO ((k : Int) + 1)] (o1 (by omega)) fun G => b5 ?_))); exact Q6 G (k + 1) (by have h8 := o8 (m9 hb (show ((k : Nat) : Int) < ss.length by omega)).2.2.2; omega) (by have h8 := o8 (m9 hb (show ((k : Nat) : Int) < ss.length by omega)).2.2.2; omega) [0, 1] (by have e1 : (d9 (bR4 (k + 1) ss) : List b6) = (d9 (bR4 k ss) ++ d9 (ss.getD k bR0).body) := (fo3 (by omega) (by omega) (by omega)); (first | rw [e1] | simp only [e1]) <;> rfl)
    · have q2 := eq_of_beq h2; exact False.elim (by omega)
   ·
    refine m6 G (A0 2 [3] (hf ((ss.getD k bR0).value) (bb7 hs (by omega) (by omega)))) [0, 1, 2, 4, 5, 6, 23] [dT ss, aq6 ss k, dE (ss.getD k bR0).index.kids, dT (ss.getD k bR0).body, dT (ss.getD k bR0).els, .box [iA (ss.getD k bR0).kind, iA (ss.getD k bR0).target, iA (ss.getD k bR0).index.kind, iA (ss.getD k bR0).index.value, .ref 2, iA (d8 (ss.getD k bR0).value).kind, iA (d8 (ss.getD k bR0).value).value, .ref 6, iA (ss.getD k bR0).count, .ref 3, .ref 4], dE (d8 (ss.getD k bR0).value).kids] (L2 ((5, .ptr 5 0) :: (N8 ss k []))) fun G => b5 (wp_seq (aC1 G (B1 ⟨[(2, _, [3]), (5, _, [4])], [], []⟩ (b8 (ih ((ss.getD k bR0).body) ((aE8 hs (by omega)).2.1) ((m9 hb (by assumption)).2.2.1) (by have h8 := o8 (m9 hb (show ((k : Nat) : Int) < ss.length by omega)).2.2.2; omega)) (b8 (ih ((ss.getD k bR0).els) ((aE8 hs (by omega)).2.2) ((m9 hb (by assumption)).2.2.2) (by have h8 := o8 (m9 hb (show ((k : Nat) : Int) < ss.length by omega)).2.2.2; omega)) d7)) bR2) [0, 1, 3, 0, 8, 31, 31, 127, 255, 511] [0, 1, 2, 5, 6, 23, 47] [dT ss, aq6 ss k, dE (ss.getD k bR0).index.kids, .box [iA (ss.getD k bR0).kind, iA (ss.getD k bR0).target, iA (ss.getD k bR0).index.kind, iA (ss.getD k bR0).index.value, .ref 2, iA (d8 (ss.getD k bR0).value).kind, iA (d8 (ss.getD k bR0).value).value, .ref 4, iA (ss.getD k bR0).count, .ref 5, .ref 6], dE (d8 (ss.getD k bR0).value).kids, dT (d9 (ss.getD k bR0).body), dT (d9 (ss.getD k bR0).els)] (L2 ((5, .ptr 3 0) :: (N8 ss k []))) fun G => b5 (wp_block (wp_seq ?_)))); cases h6 : ((ss.getD k bR0).kind == 3)
    ·
     have q6 := ne_of_beq_false h6; refine l5 G (F8 (fc h6 (fc (b := false) rfl fz)) (us [(4, 7, 0), (1008, 1008, 0), (10, 13, 1), (1014, 1014, 1)])) [(31, bA false)] fun G => b5 (rF G false (by kernel_rfl) (wp_seq (J3 G (F8 (fc h6 fz) (us [(4, 7, 0), (1008, 1008, 0)])) (L2 ((5, .ptr 3 0) :: (N8 ss k [(51, bA false)]))) fun G => b5 (rF G false (by kernel_rfl) (wp_seq ?_))))); cases h7 : ((ss.getD k bR0).kind == 4)
     · have q7 := ne_of_beq_false h7; refine l5 G (F8 (fc h7 fz) [(4, 0), (5, 0), (6, 0), (1007, 0)]) [(65, bA false)] fun G => b5 (rF G false (by kernel_rfl) (wp_seq (l5 G (F8 (fc h7 fz) (us [(4, 7, 0), (1008, 1008, 0)])) [(78, bA false)] fun G => b5 (rF G false (by kernel_rfl) (M7 G f9 [0, 31] [dT ss, bi9 ss k] (L2 (N8 ss k [])) (aP ((d9 (bR4 k ss)).length + 1) 152 []) (aK (by omega) bR2) fun G => o5 (o5 (b5 (H0 G f9 [(8, iA ((k : Int) + 1))] [wO ((k : Int) + 1)] (o1 (by omega)) fun G => b5 ?_)))))))); exact Q6 G (k + 1) (by have h8 := o8 (m9 hb (show ((k : Nat) : Int) < ss.length by omega)).2.2.2; omega) (by have h8 := o8 (m9 hb (show ((k : Nat) : Int) < ss.length by omega)).2.2.2; omega) [0, 1] (by have e1 : (d9 (bR4 (k + 1) ss) : List b6) = (d9 (bR4 k ss) ++ ([b6.mk (ss.getD k bR0).kind (ss.getD k bR0).target (qzE (ss.getD k bR0).index) (qzE (d8 (ss.getD k bR0).value)) (ss.getD k bR0).count (d9 (ss.getD k bR0).body) (d9 (ss.getD k bR0).els)] ++ [])) := (fo6 (by omega) (by omega) (by omega)); (first | rw [e1] | simp only [e1]) <;> rfl)
     · have q7 := eq_of_beq h7; exact False.elim (by omega)
    ·
     have q6 := eq_of_beq h6; cases h8 : ((d8 (ss.getD k bR0).value).kind == 1)
     ·
      have q8 := ne_of_beq_false h8; refine l5 G (F8 (fc h6 (fc h8 fz)) (us [(4, 7, 0), (1008, 1008, 0), (10, 13, 1), (1014, 1014, 1)])) [(31, bA false)] fun G => b5 (rF G false (by kernel_rfl) (wp_seq (J3 G (F8 (fc h6 fz) (us [(4, 7, 0), (1008, 1008, 0)])) (L2 ((5, .ptr 3 0) :: (N8 ss k [(51, bA ((d8 (ss.getD k bR0).value).kind == 1))]))) fun G => b5 (rF G _ h8 (wp_seq ?_))))); cases h9 : ((ss.getD k bR0).kind == 4)
      · have q9 := ne_of_beq_false h9; refine l5 G (F8 (fc h9 fz) [(4, 0), (5, 0), (6, 0), (1007, 0)]) [(65, bA false)] fun G => b5 (rF G false (by kernel_rfl) (wp_seq (l5 G (F8 (fc h9 fz) (us [(4, 7, 0), (1008, 1008, 0)])) [(78, bA false)] fun G => b5 (rF G false (by kernel_rfl) (M7 G f9 [0, 31] [dT ss, bi9 ss k] (L2 (N8 ss k [])) (aP ((d9 (bR4 k ss)).length + 1) 152 []) (aK (by omega) bR2) fun G => o5 (o5 (b5 (H0 G f9 [(8, iA ((k : Int) + 1))] [wO ((k : Int) + 1)] (o1 (by omega)) fun G => b5 ?_)))))))); exact Q6 G (k + 1) (by have h8 := o8 (m9 hb (show ((k : Nat) : Int) < ss.length by omega)).2.2.2; omega) (by have h8 := o8 (m9 hb (show ((k : Nat) : Int) < ss.length by omega)).2.2.2; omega) [0, 1] (by have e1 : (d9 (bR4 (k + 1) ss) : List b6) = (d9 (bR4 k ss) ++ ([b6.mk (ss.getD k bR0).kind (ss.getD k bR0).target (qzE (ss.getD k bR0).index) (qzE (d8 (ss.getD k bR0).value)) (ss.getD k bR0).count (d9 (ss.getD k bR0).body) (d9 (ss.getD k bR0).els)] ++ [])) := (fo6 (by omega) (by omega) (by omega)); (first | rw [e1] | simp only [e1]) <;> rfl)
      · have q9 := eq_of_beq h9; exact False.elim (by omega)
     ·
      have q8 := eq_of_beq h8; refine l5 G (F8 (fc h6 (fc h8 fz)) (us [(4, 7, 0), (1008, 1008, 0), (10, 13, 1), (1014, 1014, 1)])) [(31, bA ((d8 (ss.getD k bR0).value).value != 0))] fun G => b5 (rcN G (fun h10 q10 => ?_) fun h10 q10 => ?_)
      · refine wp_seq (l5 G (F8 (fc h6 fz) (us [(4, 7, 0), (1008, 1008, 0)])) [(51, bA ((d8 (ss.getD k bR0).value).kind == 1))] fun G => b5 (rT G _ h8 (M7 G f9 [0, 31] [dT ss, .row 106 (D.stmts (d9 (bR4 k ss) ++ d9 (ss.getD k bR0).els))] (L2 (N8 ss k [])) (aP ((d9 (bR4 k ss)).length + (d9 (ss.getD k bR0).els).length) 152 []) (aK (by have h8 := o8 (m9 hb (show ((k : Nat) : Int) < ss.length by omega)).2.2.2; omega) bR2) fun G => o5 (o5 (b5 (H0 G f9 [(8, iA ((k : Int) + 1))] [wO ((k : Int) + 1)] (o1 (by omega)) fun G => b5 ?_)))))); exact Q6 G (k + 1) (by have h8 := o8 (m9 hb (show ((k : Nat) : Int) < ss.length by omega)).2.2.2; omega) (by have h8 := o8 (m9 hb (show ((k : Nat) : Int) < ss.length by omega)).2.2.2; omega) [0, 1] (by have e1 : (d9 (bR4 (k + 1) ss) : List b6) = (d9 (bR4 k ss) ++ d9 (ss.getD k bR0).els) := (fo2 (by omega) (by omega) (by omega) (by omega)); (first | rw [e1] | simp only [e1]) <;> rfl)
      · refine M7 G f9 [0, 31] [dT ss, .row 106 (D.stmts (d9 (bR4 k ss) ++ d9 (ss.getD k bR0).body))] (L2 (N8 ss k [])) (aP ((d9 (bR4 k ss)).length + (d9 (ss.getD k bR0).body).length) 152 []) (aK (by have h8 := o8 (m9 hb (show ((k : Nat) : Int) < ss.length by omega)).2.2.1; omega) bR2) fun G => o5 (o5 (b5 (H0 G f9 [(8, iA ((k : Int) + 1))] [wO ((k : Int) + 1)] (o1 (by omega)) fun G => b5 ?_))); exact Q6 G (k + 1) (by have h8 := o8 (m9 hb (show ((k : Nat) : Int) < ss.length by omega)).2.2.2; omega) (by have h8 := o8 (m9 hb (show ((k : Nat) : Int) < ss.length by omega)).2.2.2; omega) [0, 1] (by have e1 : (d9 (bR4 (k + 1) ss) : List b6) = (d9 (bR4 k ss) ++ d9 (ss.getD k bR0).body) := (fo1 (by omega) (by omega) (by omega) (by omega)); (first | rw [e1] | simp only [e1]) <;> rfl)
theorem bp6 (nv na : Nat) (hf : ∀ (e : b9), E1 e = true → l7.ok Tryz.prog (foC 133 e)) : ∀ (d : Nat) (ss : List b6), ss.all (i5 nv na d) = true → r6 ss ≤ 1048576 → l7.ok Tryz.prog (lbC 63 ss) := by
 intro d
 induction d with
 | zero =>
  intro ss hs hb
  have h0 : ss = [] := by
   cases ss with
   | nil => rfl
   | cons a r => simp [i5] at hs
  subst h0
  exact aK0 nv na 0 [] rfl hb hf fun _ _ _ h => absurd h (by simp)
 | succ d ih => intro ss hs hb; exact aK0 nv na d ss hs hb hf fun tt h1 h2 _ => ih tt h1 h2
theorem a50 (nv na : Nat) (hf : ∀ (e : b9), E1 e = true → l7.ok Tryz.prog (foC 127 e)) : ∀ (d : Nat) (ss : List b6), ss.all (i5 nv na d) = true → r6 ss ≤ 1048576 → l7.ok Tryz.prog (lbC 60 ss) := by
 intro d
 induction d with
 | zero =>
  intro ss hs hb
  have h0 : ss = [] := by
   cases ss with
   | nil => rfl
   | cons a r => simp [i5] at hs
  subst h0
  exact av2 nv na 0 [] rfl hb hf fun _ _ _ h => absurd h (by simp)
 | succ d ih => intro ss hs hb; exact av2 nv na d ss hs hb hf fun tt h1 h2 _ => ih tt h1 h2
theorem bL8 (p : f5) (hb : p.size ≤ 1048576) : l7.ok Tryz.prog ⟨61, [pA 0], pS p, pS p ++ [.row 3 (.ints p.vars), .row 3 (.ints p.arrays), dT p.body], pA 3⟩ :=
 l7.datPost (S0 := pS p) (S := pS p ++ [.row 3 (.ints p.vars), .row 3 (.ints p.arrays)]) (d := .stmts p.body) (bM2 p hb) (pA 3)
theorem bL7 (p : f5) (hb : p.size ≤ 1048576) : l7.ok Tryz.prog ⟨58, [pA 0], pS p, pS p ++ [.row 3 (.ints p.vars), .row 3 (.ints p.arrays), dT p.body], pA 3⟩ :=
 l7.datPost (S0 := pS p) (S := pS p ++ [.row 3 (.ints p.vars), .row 3 (.ints p.arrays)]) (d := .stmts p.body) (bM1 p hb) (pA 3)
theorem bb6 {p : f5} (h : m0 p = true) : p.body.all (i5 p.vars.length p.arrays.length 5) = true := by
 simp only [m0, Q4, bR1, decide_eq_true_eq] at h
 exact h.1.2
abbrev ak1 (r0 : List (Nat × AV)) : List (Nat × AV) := (1, .ptr 3 0) :: (2, .ptr 4 0) :: (3, bA false) :: r0
theorem aG9 (p : f5) (hb : p.size ≤ 1048576) (hblk : ∀ (ss : List b6), ss.all (i5 p.vars.length p.arrays.length 5) = true → r6 ss ≤ 1048576 → l7.ok Tryz.prog (lbC 63 ss)) : l7.ok Tryz.prog ⟨17, [pA 0], pS p, pS p ++ pS (l6 p), .tup [pA 3, bA (m0 p)]⟩ := by
 have hlo := bL8 p; refine G3 22 Tryz.func17 [dI p.vars, dI p.arrays, dT p.body] [(0, pA 0)] fun G => ?_
 have hb1 : p.vars.length ≤ 1048576 ∧ p.arrays.length ≤ 1048576 ∧ r6 p.body ≤ 1048576 := by unfold f5.size at hb; omega
 refine wp_seq (m6 G f9 [0, 1, 2, 3, 11] [dI p.vars, dI p.arrays, dT p.body, .box (pL 0), .box [.v (.slice none 0 0), .v (.slice none 0 0), .v (.slice none 0 0)]] (ak1 []) fun G => b5 (wp_seq (m6 G (A0 1 [0, 1, 2] (hlo (by assumption))) [0, 1, 2, 3, 4, 13, 14, 15] [dI p.vars, dI p.arrays, dT p.body, .box (pL 5), .box [.v (.slice none 0 0), .v (.slice none 0 0), .v (.slice none 0 0)], .row 3 (D.ints p.vars), .row 3 (D.ints p.arrays), dT p.body] (ak1 []) fun G => b5 (wp_seq (wp_seq (l5 G (A0 1 [5, 6, 7] (l7.lend (O6 p hb1.2.2) [.row 3, .row 3])) [(8, .v (.bool !m0 p))] fun G => b5 ?_)))))); cases h0 : (!m0 p)
 ·have q0 : (m0 p) = true := (Eq.mp (bS3 _) h0); refine rF G _ h0 (wp_skip (b5 (wp_seq (Y2 G (A0 10 [7] (hblk p.body (bb6 (by with_reducible assumption)) hb1.2.2)) [0, 0, 2, 7, 0, 0, 32, 127, 0, 256, 1023, 2047, 4095, 8191] [0, 1, 2, 4, 32, 64, 88] [dI p.vars, dI p.arrays, dT p.body, .box (pL 4), .row 3 (D.ints ([] ++ p.vars)), .row 3 (D.ints ([] ++ p.arrays)), dT (d9 p.body)] [(2, .ptr 3 0), (3, bA true)] (aP ((0 : Nat) + p.vars.length) 8 (aP ((0 : Nat) + p.arrays.length) 8 [])) (aK (by omega) (aK (by omega) bR2)) fun G => b5 (wp_ret ?_))))); obtain ⟨ρ, G⟩ := G.frz [.no, .no, .no, .no, .row 3, .row 3] [dI p.vars, dI p.arrays, dT p.body, .box (pL 4), dI ([] ++ p.vars), dI ([] ++ p.arrays), dT (d9 p.body)] [(2, .ptr 3 0), (3, bA true)]; exact rxv (.tup [pA 4, bA true]) G [0, 1, 2, 4, 5, 6] (by have e1 : (m0 p : Bool) = (true) := (by assumption); (first | rw [e1] | simp only [e1]) <;> rfl) (by show _ = mR [0, 1, 2, 4, 5, 6] [dI p.vars, dI p.arrays, dT p.body, dI (l6 p).vars, dI (l6 p).arrays, dT (l6 p).body]; have e3 : ((l6 p).body : List b6) = (d9 p.body) := (by rw [U5 (by with_reducible assumption)]; done); rw [e3, U5 (by with_reducible assumption), List.nil_append] <;> rfl)
 ·have q0 : (m0 p) = false := (Eq.mp (bS1 _) h0); refine rT G _ h0 (wp_seq (J3 G f9 (ak1 []) fun G => b5 (wp_ret (m8 ?_)))); obtain ⟨ρ, G⟩ := G.nil 8 0 (.ints []) 1 [dI p.vars, dI p.arrays, dT p.body, .box (pL 5), .box [.ref 8, .v (.slice none 0 0), .v (.slice none 0 0)], .row 3 (D.ints p.vars), .row 3 (D.ints p.arrays), dT p.body] (ak1 []); obtain ⟨ρ, G⟩ := G.nil 9 0 (.ints []) 1 [dI p.vars, dI p.arrays, dT p.body, .box (pL 5), .box [.ref 8, .ref 9, .v (.slice none 0 0)], .row 3 (D.ints p.vars), .row 3 (D.ints p.arrays), dT p.body, .row 0 (D.ints [])] (ak1 []); obtain ⟨ρ, G⟩ := G.nil 10 0 (.stmts []) 10 [dI p.vars, dI p.arrays, dT p.body, .box (pL 5), .box (pL 8), .row 3 (D.ints p.vars), .row 3 (D.ints p.arrays), dT p.body, .row 0 (D.ints []), .row 0 (D.ints [])] (ak1 []); obtain ⟨ρ, G⟩ := G.frz [.no, .no, .no, .no, .no, .no, .no, .no, .row 0, .row 0, .row 0] [dI p.vars, dI p.arrays, dT p.body, .box (pL 5), .box (pL 8), .row 3 (D.ints p.vars), .row 3 (D.ints p.arrays), dT p.body, dI [], dI [], dT []] (ak1 []); exact rxv (.tup [pA 8, bA false]) G [0, 1, 2, 8, 9, 10] (by have e1 : (m0 p : Bool) = (false) := (by assumption); (first | rw [e1] | simp only [e1]) <;> rfl) (by show _ = mR [0, 1, 2, 8, 9, 10] [dI p.vars, dI p.arrays, dT p.body, dI (l6 p).vars, dI (l6 p).arrays, dT (l6 p).body]; rw [aE4 (by with_reducible assumption)] <;> rfl)
abbrev aL7 (p : f5) : List It := [dI p.vars, dI p.arrays, dT p.body, .row 3 (D.ints (l6 p).vars), .row 3 (D.ints (l6 p).arrays), .tree (D.stmts (l6 p).body)]
abbrev a07 : It := .box [.v (.slice none 0 0), .v (.slice none 0 0), .v (.slice none 0 0)]
theorem aB7 (p : f5) (hb : p.size ≤ 1048576) (hblk : ∀ (ss : List b6), ss.all (i5 p.vars.length p.arrays.length 5) = true → r6 ss ≤ 1048576 → l7.ok Tryz.prog (lbC 60 ss)) : l7.ok Tryz.prog ⟨16, [pA 0], pS p, pS p ++ oP (l6 p), .tup [oA 3, bA (m0 p)]⟩ := by
 have how := bL7 p; refine G3 17 Tryz.func16 [dI p.vars, dI p.arrays, dT p.body] [(0, pA 0)] fun G => ?_
 have hb1 : p.vars.length ≤ 1048576 ∧ p.arrays.length ≤ 1048576 ∧ r6 p.body ≤ 1048576 := by unfold f5.size at hb; omega
 refine wp_seq (m6 G f9 [0, 1, 2, 3, 11] [dI p.vars, dI p.arrays, dT p.body, .box (pL 0), a07] [(1, .ptr 3 0), (2, .ptr 4 0), (3, bA false)] fun G => b5 (wp_seq (wp_seq (l5 G (A0 1 [0, 1, 2] (ac9 p)) [(7, .v (.bool !m0 p))] fun G => b5 ?_)))); cases h0 : (!m0 p)
 ·have q0 : (m0 p) = true := (Eq.mp (bS3 _) h0); refine rF G _ h0 (wp_skip (b5 (wp_seq (m6 G (A0 1 [0, 1, 2] (how (by assumption))) [0, 1, 2, 4, 13, 14, 15, 21] [dI p.vars, dI p.arrays, dT p.body, a07, .row 3 (D.ints p.vars), .row 3 (D.ints p.arrays), dT p.body, .box (pL 4)] [(2, .ptr 3 0), (3, bA false), (4, .ptr 7 0)] fun G => b5 (wp_seq (m6 G (B1 ⟨[(2, _, [6]), (3, _, [24])], [], []⟩ (b8 (hblk p.body (bb6 (by with_reducible assumption)) hb1.2.2) (b8 (bt2 (d9 p.body) (bU1 (P8 p.body) hb1.2.2)) d7)) bR2) [0, 1, 2, 3, 4, 5, 7, 32] [dI p.vars, dI p.arrays, dT p.body, a07, .row 3 (D.ints p.vars), .row 3 (D.ints p.arrays), .box [.ref 4, .ref 5, .tref 7], .tree (D.stmts (d9 p.body))] [(2, .ptr 3 0), (3, bA false), (4, .ptr 6 0)] fun G => b5 (wp_seq (m6 G f9 [0, 1, 2, 3, 4, 5, 7] [dI p.vars, dI p.arrays, dT p.body, .box [.ref 4, .ref 5, .tref 6], .row 3 (D.ints p.vars), .row 3 (D.ints p.arrays), .tree (D.stmts (d9 p.body))] [(2, .ptr 3 0), (3, bA true)] fun G => b5 (wp_ret ?_))))))))); exact rxv (.tup [.agg [.ref 4, .ref 5, .tref 6], bA true]) G [0, 1, 2, 4, 5, 6] (by have e1 : (m0 p : Bool) = (true) := (by assumption); (first | rw [e1] | simp only [e1]) <;> rfl) (by show _ = mR [0, 1, 2, 4, 5, 6] (aL7 p); unfold aL7; rw [U5 (by with_reducible assumption)] <;> rfl)
 ·have q0 : (m0 p) = false := (Eq.mp (bS1 _) h0); refine rT G _ h0 (wp_seq (J3 G f9 [(1, .ptr 3 0), (2, .ptr 4 0), (3, bA false)] fun G => b5 (wp_ret (m8 ?_)))); obtain ⟨ρ, G⟩ := G.nil 5 3 (.ints []) 1 [dI p.vars, dI p.arrays, dT p.body, .box (pL 0), .box [.ref 5, .v (.slice none 0 0), .v (.slice none 0 0)]] [(1, .ptr 3 0), (2, .ptr 4 0), (3, bA false)]; obtain ⟨ρ, G⟩ := G.nil 6 3 (.ints []) 1 [dI p.vars, dI p.arrays, dT p.body, .box (pL 0), .box [.ref 5, .ref 6, .v (.slice none 0 0)], .row 3 (D.ints [])] [(1, .ptr 3 0), (2, .ptr 4 0), (3, bA false)]; obtain ⟨ρ, G⟩ := G.nilT 7 (.stmts []) [dI p.vars, dI p.arrays, dT p.body, .box (pL 0), .box [.ref 5, .ref 6, .tref 7], .row 3 (D.ints []), .row 3 (D.ints [])] [(1, .ptr 3 0), (2, .ptr 4 0), (3, bA false)]; exact rxv (.tup [.agg [.ref 5, .ref 6, .tref 7], bA false]) G [0, 1, 2, 5, 6, 7] (by have e1 : (m0 p : Bool) = (false) := (by assumption); (first | rw [e1] | simp only [e1]) <;> rfl) (by show _ = mR [0, 1, 2, 5, 6, 7] (aL7 p); unfold aL7; rw [aE4 (by with_reducible assumption)] <;> rfl)
theorem aR2 (a b : Nat) (ha : a < 9223372036854775808) (hb : b < 9223372036854775808) : bits .and .i64 (a : Int) (b : Int) = ((a &&& b : Nat) : Int) := by
 have hx : a &&& b < 2 ^ 63 := Nat.and_lt_two_pow _ (by omega)
 have h1 : (BitVec.ofInt 64 (a : Int)).toNat = a := by
  rw [BitVec.ofInt_natCast, BitVec.toNat_ofNat]; exact Nat.mod_eq_of_lt (by omega)
 have h2 : (BitVec.ofInt 64 (b : Int)).toNat = b := by
  rw [BitVec.ofInt_natCast, BitVec.toNat_ofNat]; exact Nat.mod_eq_of_lt (by omega)
 show IntKind.i64.wrap ((BitVec.ofInt 64 (a : Int) &&& BitVec.ofInt 64 (b : Int)).toNat : Int) = _
 rw [BitVec.toNat_and, h1, h2, IntKind.wrap_i64]
 omega
theorem aR1 (a b : Nat) (ha : a < 9223372036854775808) (hb : b < 9223372036854775808) : bits .xor .i64 (a : Int) (b : Int) = ((a ^^^ b : Nat) : Int) := by
 have hx : a ^^^ b < 2 ^ 63 := Nat.xor_lt_two_pow (by omega) (by omega)
 have h1 : (BitVec.ofInt 64 (a : Int)).toNat = a := by
  rw [BitVec.ofInt_natCast, BitVec.toNat_ofNat]; exact Nat.mod_eq_of_lt (by omega)
 have h2 : (BitVec.ofInt 64 (b : Int)).toNat = b := by
  rw [BitVec.ofInt_natCast, BitVec.toNat_ofNat]; exact Nat.mod_eq_of_lt (by omega)
 show IntKind.i64.wrap ((BitVec.ofInt 64 (a : Int) ^^^ BitVec.ofInt 64 (b : Int)).toNat : Int) = _
 rw [BitVec.toNat_xor, h1, h2, IntKind.wrap_i64]
 omega
theorem aq4 {a b : Int} (h1 : 0 ≤ a) (h2 : a ≤ 255) (h3 : 0 ≤ b) (h4 : b ≤ 255) : bits .and .i64 a b = ((a.toNat &&& b.toNat : Nat) : Int) := by
 rw [← aR2 _ _ (by omega) (by omega), Int.toNat_of_nonneg h1, Int.toNat_of_nonneg h3]
theorem aq3 {a b : Int} (h1 : 0 ≤ a) (h2 : a ≤ 255) (h3 : 0 ≤ b) (h4 : b ≤ 255) : bits .xor .i64 a b = ((a.toNat ^^^ b.toNat : Nat) : Int) := by
 rw [← aR1 _ _ (by omega) (by omega), Int.toNat_of_nonneg h1, Int.toNat_of_nonneg h3]
theorem au8 (b : Bool) (w : World) : Calls Tryz.prog 254 #[.bool b] w fun e w' => e = .returned (.int .i64 (ag8 b)) ∧ w = w' := by
 cases b
 all_goals
  go_enter Tryz.func254, Tryz.ntmps254
  go_wp2_with fail
  go_ret
  exact ⟨rfl, rfl⟩
theorem aE0 (b : Bool) (w : World) : Calls Tryz.prog 230 #[.bool b] w fun e w' => e = .returned (.int .i64 (ag8 b)) ∧ w = w' := by
 cases b
 all_goals
  go_enter Tryz.func230, Tryz.ntmps230
  go_wp2_with fail
  go_ret
  exact ⟨rfl, rfl⟩
theorem a19 (k a b : Int) (w : World) (h1 : 0 ≤ a) (h2 : a ≤ 255) (h3 : 0 ≤ b) (h4 : b ≤ 255) : Calls Tryz.prog 236 #[.int .i64 k, .int .i64 a, .int .i64 b] w fun e w' => e = .returned (.int .i64 (t7 k a b)) ∧ w = w' := by
 have hm : 0 ≤ a * b := Int.mul_nonneg h1 h3
 have hm2 : a * b ≤ 65025 := by
  have := Int.mul_le_mul h2 h4 h3 (by omega : (0 : Int) ≤ 255)
  omega
 by_cases k4 : k = 4
 ·subst k4
  have HV : Hid (t7 4 a b = (a + b).tmod 256) := by unfold Hid t7; simp
  go_enter Tryz.func236, Tryz.ntmps236
  go_wp2_with fail
  go_ret
  exact ⟨B4 (by rw [HV.out]; exact (Int.tmod_eq_emod_of_nonneg (by first | assumption | omega)).symm), rfl⟩
 by_cases k5 : k = 5
 ·subst k5
  have HV : Hid (t7 5 a b = (a - b + 256).tmod 256) := by unfold Hid t7; simp
  go_enter Tryz.func236, Tryz.ntmps236
  go_wp2_with fail
  go_ret
  exact ⟨B4 (by rw [HV.out]; exact (Int.tmod_eq_emod_of_nonneg (by first | assumption | omega)).symm), rfl⟩
 by_cases k6 : k = 6
 ·subst k6
  have HV : Hid (t7 6 a b = (a * b).tmod 256) := by unfold Hid t7; simp
  go_enter Tryz.func236, Tryz.ntmps236
  go_wp2_with fail
  go_ret
  exact ⟨B4 (by rw [HV.out]; exact (Int.tmod_eq_emod_of_nonneg (by first | assumption | omega)).symm), rfl⟩
 by_cases k7 : k = 7
 ·subst k7
  have HV : Hid (t7 7 a b = bits .and .i64 a b) := by unfold Hid; rw [aq4 h1 h2 h3 h4]; unfold t7; simp
  go_enter Tryz.func236, Tryz.ntmps236
  go_wp2_with fail
  go_ret
  exact ⟨B4 (by rw [HV.out]), rfl⟩
 by_cases k8 : k = 8
 ·subst k8
  have HV : Hid (t7 8 a b = bits .xor .i64 a b) := by unfold Hid; rw [aq3 h1 h2 h3 h4]; unfold t7; simp
  go_enter Tryz.func236, Tryz.ntmps236
  go_wp2_with fail
  go_ret
  exact ⟨B4 (by rw [HV.out]), rfl⟩
 have HK := show Hid _ from And.intro k4 (And.intro k5 (And.intro k6 (And.intro k7 k8)))
 have p4 : (k == 4) = false := by simp [k4]
 have p5 : (k == 5) = false := by simp [k5]
 have p6 : (k == 6) = false := by simp [k6]
 have p7 : (k == 7) = false := by simp [k7]
 have p8 : (k == 8) = false := by simp [k8]
 clear k4 k5 k6 k7 k8
 by_cases k9 : k = 9
 ·subst k9
  have HV : Hid (t7 9 a b = ag8 (decide (a = b))) := by unfold Hid t7; simp
  clear hm hm2
  go_enter Tryz.func236, Tryz.ntmps236
  go_wp2_with fail
  refine (au8 _ _).mono ?_
  rintro x w1 ⟨rfl, rfl⟩
  go_wp2_with fail
  go_ret
  exact ⟨B4 (by rw [HV.out]; congr 1), rfl⟩
 ·have HV : Hid (t7 k a b = ag8 (decide (a < b))) := by
   obtain ⟨k4, k5, k6, k7, k8⟩ := HK.out
   unfold Hid t7; rw [if_neg k4, if_neg k5, if_neg k6, if_neg k7, if_neg k8, if_neg k9]
  have p9 : (k == 9) = false := by simp [k9]
  clear hm hm2 k9
  go_enter Tryz.func236, Tryz.ntmps236
  go_wp2_with fail
  refine (au8 _ _).mono ?_
  rintro x w1 ⟨rfl, rfl⟩
  go_wp2_with fail
  go_ret
  exact ⟨B4 (by rw [HV.out]), rfl⟩
theorem aP8 (k a b : Int) (w : World) (h1 : 0 ≤ a) (h2 : a ≤ 255) (h3 : 0 ≤ b) (h4 : b ≤ 255) : Calls Tryz.prog 189 #[.int .i64 k, .int .i64 a, .int .i64 b] w fun e w' => e = .returned (.int .i64 (t7 k a b)) ∧ w = w' := by
 have hm : 0 ≤ a * b := Int.mul_nonneg h1 h3
 have hm2 : a * b ≤ 65025 := by
  have := Int.mul_le_mul h2 h4 h3 (by omega : (0 : Int) ≤ 255)
  omega
 by_cases k4 : k = 4
 ·subst k4
  have HV : Hid (t7 4 a b = (a + b).tmod 256) := by unfold Hid t7; simp
  go_enter Tryz.func189, Tryz.ntmps189
  go_wp2_with fail
  go_ret
  exact ⟨B4 (by rw [HV.out]; exact (Int.tmod_eq_emod_of_nonneg (by first | assumption | omega)).symm), rfl⟩
 by_cases k5 : k = 5
 ·subst k5
  have HV : Hid (t7 5 a b = (a - b + 256).tmod 256) := by unfold Hid t7; simp
  go_enter Tryz.func189, Tryz.ntmps189
  go_wp2_with fail
  go_ret
  exact ⟨B4 (by rw [HV.out]; exact (Int.tmod_eq_emod_of_nonneg (by first | assumption | omega)).symm), rfl⟩
 by_cases k6 : k = 6
 ·subst k6
  have HV : Hid (t7 6 a b = (a * b).tmod 256) := by unfold Hid t7; simp
  go_enter Tryz.func189, Tryz.ntmps189
  go_wp2_with fail
  go_ret
  exact ⟨B4 (by rw [HV.out]; exact (Int.tmod_eq_emod_of_nonneg (by first | assumption | omega)).symm), rfl⟩
 by_cases k7 : k = 7
 ·subst k7
  have HV : Hid (t7 7 a b = bits .and .i64 a b) := by unfold Hid; rw [aq4 h1 h2 h3 h4]; unfold t7; simp
  go_enter Tryz.func189, Tryz.ntmps189
  go_wp2_with fail
  go_ret
  exact ⟨B4 (by rw [HV.out]), rfl⟩
 by_cases k8 : k = 8
 ·subst k8
  have HV : Hid (t7 8 a b = bits .xor .i64 a b) := by unfold Hid; rw [aq3 h1 h2 h3 h4]; unfold t7; simp
  go_enter Tryz.func189, Tryz.ntmps189
  go_wp2_with fail
  go_ret
  exact ⟨B4 (by rw [HV.out]), rfl⟩
 have HK := show Hid _ from And.intro k4 (And.intro k5 (And.intro k6 (And.intro k7 k8)))
 have p4 : (k == 4) = false := by simp [k4]
 have p5 : (k == 5) = false := by simp [k5]
 have p6 : (k == 6) = false := by simp [k6]
 have p7 : (k == 7) = false := by simp [k7]
 have p8 : (k == 8) = false := by simp [k8]
 clear k4 k5 k6 k7 k8
 by_cases k9 : k = 9
 ·subst k9
  have HV : Hid (t7 9 a b = ag8 (decide (a = b))) := by unfold Hid t7; simp
  clear hm hm2
  go_enter Tryz.func189, Tryz.ntmps189
  go_wp2_with fail
  refine (aE0 _ _).mono ?_
  rintro x w1 ⟨rfl, rfl⟩
  go_wp2_with fail
  go_ret
  exact ⟨B4 (by rw [HV.out]; congr 1), rfl⟩
 ·have HV : Hid (t7 k a b = ag8 (decide (a < b))) := by
   obtain ⟨k4, k5, k6, k7, k8⟩ := HK.out
   unfold Hid t7; rw [if_neg k4, if_neg k5, if_neg k6, if_neg k7, if_neg k8, if_neg k9]
  have p9 : (k == 9) = false := by simp [k9]
  clear hm hm2 k9
  go_enter Tryz.func189, Tryz.ntmps189
  go_wp2_with fail
  refine (aE0 _ _).mono ?_
  rintro x w1 ⟨rfl, rfl⟩
  go_wp2_with fail
  go_ret
  exact ⟨B4 (by rw [HV.out]), rfl⟩
theorem x8 (k n m : Int) (kv : Value) (w : World) : Calls Tryz.prog 237 #[.agg #[.int .i64 k, .int .i64 n, kv], .int .i64 m] w fun e w' => e = .returned (.bool (decide (k = 1) && decide (n = m))) ∧ Below w.heap.size w w' := by
 by_cases q1 : k = 1
 ·have p1 : (k == 1) = true := by simp [q1]
  have HQ := show Hid _ from q1
  clear q1
  by_cases q2 : n = m
  ·have p2 : (n == m) = true := by simp [q2]
   have HQ2 := show Hid _ from q2
   clear q2
   go_enter Tryz.func237, Tryz.ntmps237
   go_wp2_with fail
   go_ret
   exact ⟨f8 (by rw [decide_eq_true HQ.out, decide_eq_true HQ2.out]; rfl), by go_grown⟩
  ·have p2 : (n == m) = false := by simp [q2]
   have HQ2 := show Hid _ from q2
   clear q2
   go_enter Tryz.func237, Tryz.ntmps237
   go_wp2_with fail
   go_ret
   exact ⟨f8 (by rw [decide_eq_true HQ.out, decide_eq_false HQ2.out]; rfl), by go_grown⟩
 ·have p1 : (k == 1) = false := by simp [q1]
  have HQ := show Hid _ from q1
  clear q1
  go_enter Tryz.func237, Tryz.ntmps237
  go_wp2_with fail
  go_ret
  exact ⟨f8 (by rw [decide_eq_false HQ.out]; rfl), by go_grown⟩
theorem t6 (k n m : Int) (kv : Value) (w : World) : Calls Tryz.prog 190 #[.agg #[.int .i64 k, .int .i64 n, kv], .int .i64 m] w fun e w' => e = .returned (.bool (decide (k = 1) && decide (n = m))) ∧ Below w.heap.size w w' := by
 by_cases q1 : k = 1
 ·have p1 : (k == 1) = true := by simp [q1]
  have HQ := show Hid _ from q1
  clear q1
  by_cases q2 : n = m
  ·have p2 : (n == m) = true := by simp [q2]
   have HQ2 := show Hid _ from q2
   clear q2
   go_enter Tryz.func190, Tryz.ntmps190
   go_wp2_with fail
   go_ret
   exact ⟨f8 (by rw [decide_eq_true HQ.out, decide_eq_true HQ2.out]; rfl), by go_grown⟩
  ·have p2 : (n == m) = false := by simp [q2]
   have HQ2 := show Hid _ from q2
   clear q2
   go_enter Tryz.func190, Tryz.ntmps190
   go_wp2_with fail
   go_ret
   exact ⟨f8 (by rw [decide_eq_true HQ.out, decide_eq_false HQ2.out]; rfl), by go_grown⟩
 ·have p1 : (k == 1) = false := by simp [q1]
  have HQ := show Hid _ from q1
  clear q1
  go_enter Tryz.func190, Tryz.ntmps190
  go_wp2_with fail
  go_ret
  exact ⟨f8 (by rw [decide_eq_false HQ.out]; rfl), by go_grown⟩
theorem aM7 (n : Int) (w : World) : Calls Tryz.prog 203 #[.int .i64 n] w fun e w' => e = .returned (.agg #[.int .i64 1, .int .i64 n, .slice none 0 0]) ∧ Below w.heap.size w w' := by
 have HM : Hid (r8 (fun _ => True) (fun _ => True) w _ [.box w.heap.size [.int .i64 1, .int .i64 n, .slice none 0 0]]) := (r8.start fun _ _ => trivial).box [.int .i64 1, .int .i64 n, .slice none 0 0] 104
 go_enter Tryz.func203, Tryz.ntmps203
 go_wp2_with fail
 have M2 := HM.out
 have r0 : World.cell? _ ⟨w.heap.size, 0, none⟩ = some (.int .i64 1) := M2.c 0 0 rfl rfl
 have r1 : World.cell? _ ⟨w.heap.size, 1, none⟩ = some (.int .i64 n) := M2.c 0 1 rfl rfl
 have r2 : World.cell? _ ⟨w.heap.size, 2, none⟩ = some (.slice none 0 0) := M2.c 0 2 rfl rfl
 exact bodyPost_ret (v := .agg #[.int .i64 1, .int .i64 n, .slice none 0 0]) (by simp [results, Tryz.results203, go_sem, r0, r1, r2]) rfl ⟨rfl, M2.below fun _ _ => trivial⟩
theorem aW3 (n : Int) (w : World) : Calls Tryz.prog 188 #[.int .i64 n] w fun e w' => e = .returned (.agg #[.int .i64 1, .int .i64 n, .slice none 0 0]) ∧ Below w.heap.size w w' := by
 have HM : Hid (r8 (fun _ => True) (fun _ => True) w _ [.box w.heap.size [.int .i64 1, .int .i64 n, .slice none 0 0]]) := (r8.start fun _ _ => trivial).box [.int .i64 1, .int .i64 n, .slice none 0 0] 104
 go_enter Tryz.func188, Tryz.ntmps188
 go_wp2_with fail
 have M2 := HM.out
 have r0 : World.cell? _ ⟨w.heap.size, 0, none⟩ = some (.int .i64 1) := M2.c 0 0 rfl rfl
 have r1 : World.cell? _ ⟨w.heap.size, 1, none⟩ = some (.int .i64 n) := M2.c 0 1 rfl rfl
 have r2 : World.cell? _ ⟨w.heap.size, 2, none⟩ = some (.slice none 0 0) := M2.c 0 2 rfl rfl
 exact bodyPost_ret (v := .agg #[.int .i64 1, .int .i64 n, .slice none 0 0]) (by simp [results, Tryz.results188, go_sem, r0, r1, r2]) rfl ⟨rfl, M2.below fun _ _ => trivial⟩
def QuE (e : b9) : Prop := ∀ (φ : Nat → Prop) (v : Value) (w : World), L1 w φ v e →
 Calls Tryz.prog 235 #[v] w fun x w' => x = .returned (.bool (B5 e)) ∧ Below w.heap.size w w'
theorem ao0 (e : b9) : QuE e := by
 refine b9.ind (P := QuE) (fun k0 n0 ks ih => ?_) e
 obtain ⟨e, he⟩ : ∃ e : b9, e = ⟨k0, n0, ks⟩ := ⟨_, rfl⟩
 have hks : ks = e.kids := by rw [he]; rfl
 rw [← he]
 subst hks
 clear he
 intro φ v w h
 obtain ⟨kv, rfl, hk⟩ := h
 obtain ⟨ak, ck, rfl, -, hn, -, hc⟩ := hk.open
 have HD := show Hid _ from aC2 e
 obtain ⟨W, hW, M⟩ : ∃ W, W = w.alloc (.cells #[.int .i64 e.kind, .int .i64 e.value, .slice ak e.kids.length ck] 104) ∧ r8 (fun _ => True) (fun _ => True) w W [.box w.heap.size [.int .i64 e.kind, .int .i64 e.value, .slice ak e.kids.length ck]] :=
  ⟨_, rfl, (r8.start fun _ _ => trivial).box _ _⟩
 have HC := show Hid _ from hc
 have y0 := M.c 0 0 rfl rfl
 rw [hW] at y0
 clear hk hc
 by_cases q : e.kind = 3
 ·have p : (e.kind == 3) = true := by simp [q]
  have HF : Hid (B5 e = false) := by rw [Hid, HD.out]; simp [q]
  have HB := show Hid _ from M.below fun _ _ => trivial
  clear q M
  go_enter Tryz.func235, Tryz.ntmps235
  go_wp2_with fail
  rw [← hW]
  clear hW
  go_ret
  exact ⟨f8 HF.out.symm, HB.out⟩
 have p : (e.kind == 3) = false := by simp [q]
 have HF : Hid (B5 e = e.kids.all B5) := by rw [Hid, HD.out, decide_eq_true q]; rfl
 clear q
 go_enter Tryz.func235, Tryz.ntmps235
 go_wp2_with fail
 rw [← hW]
 clear hW y0 p
 go_loopw [3] (fun i wr => ∃ k : Nat, k ≤ e.kids.length ∧ i = .int .i64 k ∧ (e.kids.take k).all B5 = true ∧ r8 (fun _ => True) (fun _ => True) w wr [.box w.heap.size [.int .i64 e.kind, .int .i64 e.value, .slice ak e.kids.length ck]]) (fun i _ => e.kids.length - (intOf i).toNat)
 case atStart => exact ⟨0, bU3 _, rfl, rfl, M⟩
 case round =>
  clear M
  obtain ⟨k, hk, rfl, hall, M⟩ := hrel
  have HALL := show Hid _ from hall
  have hB := M.below fun _ _ => trivial
  have y2 := M.c 0 2 rfl rfl
  clear hall
  by_cases hlt : k < e.kids.length
  ·obtain ⟨b, off, kv, rfl, hbk, hf, c0, c1', c2', hkv⟩ := HC.out k hlt
   rw [← (V8 hB).1 _ _ hbk] at c0 c1' c2'
   have HE := show Hid (L1 wr φ (.agg #[.int .i64 e.kids[k].kind, .int .i64 e.kids[k].value, kv]) e.kids[k]) from ⟨kv, rfl, s7.nice _ _ _ _ _ _ (T3.below hB) hkv⟩
   have HM := show Hid _ from M
   have hlt' : (k : Int) < e.kids.length := by omega
   clear hkv M hB
   go_wp2_with fail
   refine (ih _ (bS7 hlt) φ _ _ HE.out).mono ?_
   rintro x w2 ⟨rfl, b2⟩
   have HM2 := show Hid _ from HM.out.call b2
   obtain ⟨q, hq⟩ : ∃ q, q = B5 e.kids[k] := ⟨_, rfl⟩
   rw [← hq]
   have HQ := show Hid _ from hq
   clear b2 hq
   cases q
   ·go_wp2_with fail
    go_ret
    exact ⟨f8 (by rw [HF.out]; symm; exact List.all_eq_false.2 ⟨_, bS7 hlt, by rw [← HQ.out]; simp⟩), HM2.out.below fun _ _ => trivial⟩
   ·go_wp2_with fail
    refine ⟨⟨k + 1, by omega, by go_num, ?_, HM2.out⟩, by simp [intOf]; omega⟩
    rw [E8 _ _ hlt, List.all_append, HALL.out]
    simp [← HQ.out]
  ·have hkn : k = e.kids.length := by omega
   subst hkn
   have HB := show Hid _ from hB
   have hall := HALL.out
   rw [bS6 (bS8 _)] at hall
   have HAL := show Hid _ from hall
   clear M hB hall
   go_wp2_with fail
   go_ret
   exact ⟨f8 (by rw [HF.out, HAL.out]), HB.out⟩
theorem aD9 (p : b9 → Bool) (f : FuncId) (v : Value) (ks : List b9) (φ : Nat → Prop) (w : World) (h : s7 w φ v ks) (he : ∀ args w, (callFunc f args).run Tryz.prog w = .ok (.enter f args) w)
  (hf : ∀ x ∈ ks, ∀ u w', L1 w' φ u x → Calls Tryz.prog f #[u] w' fun e w'' => e = .returned (.bool (p x)) ∧ Below w'.heap.size w' w'') :
  Calls Tryz.prog 238 #[v, .func (.func f) #[] #[]] w fun e w' => ∃ r : Int, e = .returned (.int .i64 r) ∧ decide (0 ≤ r) = ks.any p ∧ Below w.heap.size w w' := by
 obtain ⟨ak, ck, rfl, -, hn, -, hc⟩ := h.open
 have HF := show Hid _ from hf
 have HC := show Hid _ from hc
 clear h hf hc
 go_enter Tryz.func238, Tryz.ntmps238
 go_wp2_with fail
 go_loopw [5, 8] (fun _ i wr => ∃ k : Nat, k ≤ ks.length ∧ i = .int .i64 k ∧ (ks.take k).any p = false ∧ Below w.heap.size w wr) (fun _ i _ => ks.length - (intOf i).toNat)
 case atStart => exact ⟨0, bU3 _, rfl, rfl, Below.refl _ _⟩
 case round =>
  obtain ⟨k, hk, rfl, ha, hB⟩ := hrel
  have HA := show Hid _ from ha
  have HB := show Hid _ from hB
  clear ha hB
  by_cases hlt : k < ks.length
  ·obtain ⟨b, off, kv, rfl, hbk, hf, c0, c1', c2', hkv⟩ := HC.out k hlt
   rw [← (V8 HB.out).1 _ _ hbk] at c0 c1' c2'
   have HE := show Hid (L1 wr φ (.agg #[.int .i64 ks[k].kind, .int .i64 ks[k].value, kv]) ks[k]) from ⟨kv, rfl, s7.nice _ _ _ _ _ _ (T3.below HB.out) hkv⟩
   have hlt' : (k : Int) < ks.length := by omega
   clear hkv
   go_wp2_with fail
   refine (HF.out _ (bS7 hlt) _ _ HE.out).mono ?_
   rintro e w1 ⟨rfl, b1⟩
   have HB1 := show Hid _ from HB.out.trans (b1.mono HB.out.size)
   clear b1
   obtain ⟨q, hq⟩ : ∃ q, q = p ks[k] := ⟨_, rfl⟩
   rw [← hq]
   have HQ := show Hid _ from hq
   clear hq
   cases q
   ·go_wp2_with fail
    exact ⟨⟨k + 1, by omega, by go_num, by rw [s5 _ _ hlt, List.any_append, HA.out]; simp [← HQ.out], HB1.out⟩, by simp [intOf]; omega⟩
   ·go_wp2_with fail
    go_ret
    exact ⟨_, rfl, by rw [decide_eq_true (by omega)]; symm; rw [List.any_eq_true]; exact ⟨_, bS7 hlt, HQ.out.symm⟩, HB1.out⟩
  ·go_wp2_with fail
   go_ret
   refine ⟨_, rfl, ?_, HB.out⟩
   have := HA.out
   rw [bS6 (by omega)] at this
   rw [this]; rfl
theorem ap7 (p : b9 → Bool) (f : FuncId) (v : Value) (ks : List b9) (φ : Nat → Prop) (w : World) (h : s7 w φ v ks) (he : ∀ args w, (callFunc f args).run Tryz.prog w = .ok (.enter f args) w)
  (hf : ∀ x ∈ ks, ∀ u w', L1 w' φ u x → Calls Tryz.prog f #[u] w' fun e w'' => e = .returned (.bool (p x)) ∧ Below w'.heap.size w' w'') :
  Calls Tryz.prog 196 #[v, .func (.func f) #[] #[]] w fun e w' => e = .returned (.bool (ks.any p)) ∧ Below w.heap.size w w' := by
 obtain ⟨a1, c1, rfl, -⟩ := h.open
 have HF := show Hid _ from hf
 have HE := show Hid _ from he
 have HH := show Hid _ from h
 clear hf he h
 go_enter Tryz.func196, Tryz.ntmps196
 go_wp2_with fail
 refine (aD9 p f _ ks φ _ HH.out HE.out HF.out).mono ?_
 rintro e w1 ⟨r, rfl, hr, b1⟩
 have HR := show Hid _ from hr
 have HB := show Hid _ from b1
 clear hr b1
 go_wp2_with fail
 go_ret
 exact ⟨f8 HR.out, HB.out⟩
def ReE (e : b9) : Prop := ∀ (φ : Nat → Prop) (v : Value) (w : World), L1 w φ v e →
 Calls Tryz.prog 187 #[v] w fun x w' => x = .returned (.bool (!B5 e)) ∧ Below w.heap.size w w'
theorem bi5 (ks : List b9) : ks.any (fun e => !B5 e) = !ks.all B5 := by
 induction ks with
 | nil => rfl
 | cons a r ih => simp only [List.any_cons, List.all_cons, ih]; cases B5 a <;> simp
theorem aE1 (e : b9) : ReE e := by
 refine b9.ind (P := ReE) (fun k0 n0 ks ih => ?_) e
 obtain ⟨e, he⟩ : ∃ e : b9, e = ⟨k0, n0, ks⟩ := ⟨_, rfl⟩
 have hks : ks = e.kids := by rw [he]; rfl
 rw [← he]
 subst hks
 clear he
 intro φ v w h
 obtain ⟨kv, rfl, hk⟩ := h
 have HD := show Hid _ from aC2 e
 obtain ⟨W, hW, M⟩ : ∃ W, W = w.alloc (.cells #[.int .i64 e.kind, .int .i64 e.value, kv] 104) ∧ r8 (fun _ => True) (fun _ => True) w W [.box w.heap.size [.int .i64 e.kind, .int .i64 e.value, kv]] :=
  ⟨_, rfl, (r8.start fun _ _ => trivial).box _ _⟩
 have HB := show Hid _ from M.below fun _ _ => trivial
 have HK := show Hid _ from s7.nice _ _ _ _ _ _ (T3.below HB.out) hk
 have y0 := M.c 0 0 rfl rfl
 have y2 := M.c 0 2 rfl rfl
 rw [hW] at y0 y2
 clear hk M
 by_cases q : e.kind = 3
 ·have p : (e.kind == 3) = true := by simp [q]
  have HF : Hid (B5 e = false) := by rw [Hid, HD.out]; simp [q]
  clear q
  go_enter Tryz.func187, Tryz.ntmps187
  go_wp2_with fail
  rw [← hW]
  clear hW
  go_ret
  exact ⟨f8 (by rw [HF.out]; rfl), HB.out⟩
 have p : (e.kind == 3) = false := by simp [q]
 have HF : Hid (B5 e = e.kids.all B5) := by rw [Hid, HD.out, decide_eq_true q]; rfl
 clear q
 go_enter Tryz.func187, Tryz.ntmps187
 go_wp2_with fail
 rw [← hW]
 clear hW y0 p y2
 refine (ap7 (fun e => !B5 e) 187 _ e.kids φ _ HK.out (as5 Tryz.func187 (by kernel_rfl) rfl) fun x hx u w' hu => ih x hx φ u w' hu).mono ?_
 rintro x w1 ⟨rfl, b1⟩
 rw [bi5]
 have HB1 := show Hid _ from HB.out.trans (b1.mono HB.out.size)
 clear b1
 go_wp2_with fail
 go_ret
 exact ⟨f8 (by rw [HF.out]), HB1.out⟩
theorem m5.two {w : World} {S : Nat → Prop} {a b : b9} {v : Value} (h : m5 w v [a, b] S) : ∃ g off cap av ac bv bc, v = .slice (some ⟨g, off, none⟩) 2 cap ∧ g < w.heap.size ∧ S g ∧
  (w.cell? ⟨g, off, none⟩ = some (.int .i64 a.kind) ∧ w.cell? ⟨g, off + 1, none⟩ = some (.int .i64 a.value) ∧ w.cell? ⟨g, off + 2, none⟩ = some (.slice av a.kids.length ac) ∧
   w.cell? ⟨g, off + 3, none⟩ = some (.int .i64 b.kind) ∧ w.cell? ⟨g, off + 4, none⟩ = some (.int .i64 b.value) ∧ w.cell? ⟨g, off + 5, none⟩ = some (.slice bv b.kids.length bc)) ∧
  m5 w (.slice av a.kids.length ac) a.kids S ∧ m5 w (.slice bv b.kids.length bc) b.kids S := by
 obtain ⟨ad, cap, rfl, -, -, -, hc⟩ := h.open
 obtain ⟨g, off, kv, rfl, hg, hs, c0, c1, c2, k0⟩ := hc 0 (by simp)
 obtain ⟨g', off', kv', he, -, -, c3, c4, c5, k1⟩ := hc 1 (by simp)
 cases he
 obtain ⟨av, ac, rfl, -⟩ := k0.open
 obtain ⟨bv, bc, rfl, -⟩ := k1.open
 exact ⟨g, off, cap, av, ac, bv, bc, rfl, hg, hs, ⟨c0, c1, c2, c3, c4, c5⟩, k0, k1⟩
theorem m5.three {w : World} {S : Nat → Prop} {a b c : b9} {v : Value} (h : m5 w v [a, b, c] S) : ∃ g off cap av ac bv bc cv cc, v = .slice (some ⟨g, off, none⟩) 3 cap ∧ g < w.heap.size ∧ S g ∧
  (w.cell? ⟨g, off, none⟩ = some (.int .i64 a.kind) ∧ w.cell? ⟨g, off + 1, none⟩ = some (.int .i64 a.value) ∧ w.cell? ⟨g, off + 2, none⟩ = some (.slice av a.kids.length ac) ∧
   w.cell? ⟨g, off + 3, none⟩ = some (.int .i64 b.kind) ∧ w.cell? ⟨g, off + 4, none⟩ = some (.int .i64 b.value) ∧ w.cell? ⟨g, off + 5, none⟩ = some (.slice bv b.kids.length bc) ∧
   w.cell? ⟨g, off + 6, none⟩ = some (.int .i64 c.kind) ∧ w.cell? ⟨g, off + 7, none⟩ = some (.int .i64 c.value) ∧ w.cell? ⟨g, off + 8, none⟩ = some (.slice cv c.kids.length cc)) ∧
  m5 w (.slice av a.kids.length ac) a.kids S ∧ m5 w (.slice bv b.kids.length bc) b.kids S ∧ m5 w (.slice cv c.kids.length cc) c.kids S := by
 obtain ⟨ad, cap, rfl, -, -, -, hc⟩ := h.open
 obtain ⟨g, off, kv, rfl, hg, hs, c0, c1, c2, k0⟩ := hc 0 (by simp)
 obtain ⟨g', off', kv', he, -, -, c3, c4, c5, k1⟩ := hc 1 (by simp)
 cases he
 obtain ⟨g', off', kv'', he, -, -, c6, c7, c8, k2⟩ := hc 2 (by simp)
 cases he
 obtain ⟨av, ac, rfl, -⟩ := k0.open
 obtain ⟨bv, bc, rfl, -⟩ := k1.open
 obtain ⟨cv, cc, rfl, -⟩ := k2.open
 exact ⟨g, off, cap, av, ac, bv, bc, cv, cc, rfl, hg, hs, ⟨c0, c1, c2, c3, c4, c5, c6, c7, c8⟩, k0, k1, k2⟩
def bd9 (w : World) (S : Nat → Prop) (e : b9) (x : Ending) (w' : World) : Prop :=
 ∃ a c, x = .returned (.agg #[.int .i64 e.kind, .int .i64 e.value, .slice a e.kids.length c]) ∧ m5 w' (.slice a e.kids.length c) e.kids S ∧ Below w.heap.size w w'
theorem aM6 (k n : Int) (a b : b9) (v : Value) (S : Nat → Prop) (w : World) (h : m5 w v [a, b] S) (h4 : 4 ≤ k) (h10 : k ≤ 10) (ha : a.kind = 1 → 0 ≤ a.value ∧ a.value ≤ 255) (hb : b.kind = 1 → 0 ≤ b.value ∧ b.value ≤ 255) :
  Calls Tryz.prog 194 #[.agg #[.int .i64 k, .int .i64 n, v]] w fun x w' => bd9 w S (o3 ⟨k, n, [a, b]⟩) x w' := by
 have hh := h
 obtain ⟨g, off, cap, av, ac, bv, bc, rfl, hg, hs, hcell, k0, k1⟩ := h.two
 have HCELL : Hid (∀ W, Below w.heap.size w W → W.cell? ⟨g, off, none⟩ = some (.int .i64 a.kind) ∧ W.cell? ⟨g, off + 1, none⟩ = some (.int .i64 a.value) ∧ W.cell? ⟨g, off + 2, none⟩ = some (.slice av a.kids.length ac) ∧
   W.cell? ⟨g, off + 3, none⟩ = some (.int .i64 b.kind) ∧ W.cell? ⟨g, off + 4, none⟩ = some (.int .i64 b.value) ∧ W.cell? ⟨g, off + 5, none⟩ = some (.slice bv b.kids.length bc)) := fun W hW => by
  have hc := fun o => (V8 hW).1 g o hg
  simp only [hc]; exact hcell
 have HKK : Hid (∀ W, Below w.heap.size w W → m5 W (.slice av a.kids.length ac) a.kids S ∧ m5 W (.slice bv b.kids.length bc) b.kids S ∧ m5 W (.slice (some ⟨g, off, none⟩) 2 cap) [a, b] S) := fun W hW =>
  ⟨m5.same k0 fun b _ hl => hW.block b hl, m5.same k1 fun b _ hl => hW.block b hl, m5.same hh fun b _ hl => hW.block b hl⟩
 clear hcell k0 k1 h hh hs
 have p11 : (k == 11) = false := by simp; omega
 have p3 : ¬ (k < 4) := by omega
 obtain ⟨W, hW, M⟩ : ∃ W, W = (w.alloc (.cells #[.int .i64 k, .int .i64 n, .slice (some ⟨g, off, none⟩) 2 cap] 104)).alloc (.cells #[.int .i64 0, .int .i64 0, .slice none 0 0] 104) ∧ r8 (fun _ => True) (fun _ => True) w W [.box w.heap.size [.int .i64 k, .int .i64 n, .slice (some ⟨g, off, none⟩) 2 cap], .box (w.heap.size + 1) [.int .i64 0, .int .i64 0, .slice none 0 0]] :=
  ⟨_, rfl, ((r8.start fun _ _ => trivial).box _ _).box' _ _ (by simp)⟩
 by_cases qa : a.kind = 1
 ·have pa : (a.kind == 1) = true := by simp [qa]
  by_cases qb : b.kind = 1
  ·have pb : (b.kind == 1) = true := by simp [qb]
   have HN : Hid (o3 ⟨k, n, [a, b]⟩ = ⟨1, t7 k a.value b.value, []⟩) := by rw [Hid, G4, if_pos ⟨qa, qb⟩]; rfl
   have HA := ha qa
   have HB := hb qb
   clear qa qb ha hb
   have y0 := M.c 0 0 rfl rfl
   have y1 := M.c 0 1 rfl rfl
   have y2 := M.c 0 2 rfl rfl
   have d0 := M.c 1 0 rfl rfl
   have d1 := M.c 1 1 rfl rfl
   have d2 := M.c 1 2 rfl rfl
   have ff := M.f 1 rfl
   obtain ⟨c0, c1, c2, c3, c4, c5⟩ := HCELL.out _ (M.below fun _ _ => trivial)
   have HM := show Hid _ from M
   rw [hW] at y0 y1 y2 d0 d1 d2 ff c0 c1 c2 c3 c4 c5
   clear M
   go_enter Tryz.func194, Tryz.ntmps194
   go_wp2_with fail
   rw [← hW]
   clear hW
   have M := HM.out
   clear HM y0 y1 y2 d0 d1 d2 ff c0 c1 c2 c3 c4 c5
   have y0 := M.c 0 0 rfl rfl
   have y2 := M.c 0 2 rfl rfl
   have d0 := M.c 1 0 rfl rfl
   have d1 := M.c 1 1 rfl rfl
   have d2 := M.c 1 2 rfl rfl
   have ff := M.f 1 rfl
   obtain ⟨c0, c1, c2, c3, c4, c5⟩ := HCELL.out _ (M.below fun _ _ => trivial)
   have z0 := fun X => n7 y0 X
   have z2 := fun X => n7 y2 X
   have z3 := fun X => n7 d0 X
   have z4 := fun X => n7 d1 X
   have z5 := fun X => n7 d2 X
   have z6 := fun X => al9 (M.lt (r := .box (w.heap.size + 1) [.int .i64 0, .int .i64 0, .slice none 0 0]) (bS9 _ bS4) rfl) (ff 0) X
   have z7 := fun X => al9 (M.lt (r := .box (w.heap.size + 1) [.int .i64 0, .int .i64 0, .slice none 0 0]) (bS9 _ bS4) rfl) (ff 1) X
   have z8 := fun X => al9 (M.lt (r := .box (w.heap.size + 1) [.int .i64 0, .int .i64 0, .slice none 0 0]) (bS9 _ bS4) rfl) (ff 2) X
   have e0 := fun X => n7 c0 X
   have e1 := fun X => n7 c1 X
   have e3 := fun X => n7 c3 X
   have e4 := fun X => n7 c4 X
   have HC1 : Hid (∀ X, Calls Tryz.prog 236 #[.int .i64 k, .int .i64 a.value, .int .i64 b.value] (W.ext X) fun x w'' => x = .returned (.int .i64 (t7 k a.value b.value)) ∧ ∃ Y, w'' = W.ext Y) := fun X =>
    Calls.ext_of' ((a19 k a.value b.value _ HA.1 HA.2 HB.1 HB.2).mono fun x w' h => ⟨h.1, h.2 ▸ Below.refl _ _⟩)
   have HC2 : Hid (∀ X, Calls Tryz.prog 203 #[.int .i64 (t7 k a.value b.value)] (W.ext X) fun x w'' => x = .returned (.agg #[.int .i64 1, .int .i64 (t7 k a.value b.value), .slice none 0 0]) ∧ ∃ Y, w'' = W.ext Y) := fun X =>
    Calls.ext_of' (aM7 _ _)
   have HM := show Hid _ from M
   clear M y0 y2 d0 d1 d2 ff c0 c1 c2 c3 c4 c5 HA HB
   refine aA2 14 _ rfl (by kernel_rfl) (by kernel_rfl) ?_
   simp only [List.set_cons_succ, List.set_cons_zero, ad4]
   repeat (any_goals (first | go_big_quiet_step (((first | (go_at_call 236; exact HC1.out _) | (go_at_call 203; exact HC2.out _)))) | quiet_step (((first | (go_at_call 236; exact HC1.out _) | (go_at_call 203; exact HC2.out _))))))
   refine wpQuiet_nil ?_
   rintro _ ⟨X, rfl⟩
   replace HM := show Hid _ from (((HM.out.call (v9 W X)).set 1 rfl 0 (.int .i64 1)).set 1 rfl 1 (.int .i64 (t7 k a.value b.value))).set 1 rfl 2 (.slice none 0 0)
   go_wp2_with fail
   have M2 := HM.out
   have r0 : World.cell? _ ⟨w.heap.size + 1, 0, none⟩ = some (.int .i64 1) := M2.c 1 0 rfl rfl
   have r1 : World.cell? _ ⟨w.heap.size + 1, 1, none⟩ = some (.int .i64 (t7 k a.value b.value)) := M2.c 1 1 rfl rfl
   have r2 : World.cell? _ ⟨w.heap.size + 1, 2, none⟩ = some (.slice none 0 0) := M2.c 1 2 rfl rfl
   refine bodyPost_ret (v := .agg #[.int .i64 1, .int .i64 (t7 k a.value b.value), .slice none 0 0]) (by simp [results, Tryz.results194, go_sem, r0, r1, r2]) rfl ?_
   rw [HN.out]
   exact ⟨_, _, rfl, m5.nil _ _, M2.below fun _ _ => trivial⟩
  ·have pb : (b.kind == 1) = false := by simp [qb]
   have HCN : Hid (¬ (a.kind = 1 ∧ b.kind = 1)) := fun h => qb h.2
   clear qa qb ha hb
   by_cases q4 : k = 4
   ·subst q4
    have y0 := M.c 0 0 rfl rfl
    have y1 := M.c 0 1 rfl rfl
    have y2 := M.c 0 2 rfl rfl
    have d0 := M.c 1 0 rfl rfl
    have d1 := M.c 1 1 rfl rfl
    have d2 := M.c 1 2 rfl rfl
    have ff := M.f 1 rfl
    obtain ⟨c0, c1, c2, c3, c4, c5⟩ := HCELL.out _ (M.below fun _ _ => trivial)
    have HM := show Hid _ from M
    rw [hW] at y0 y1 y2 d0 d1 d2 ff c0 c1 c2 c3 c4 c5
    clear M
    go_enter Tryz.func194, Tryz.ntmps194
    go_wp2_with fail
    rw [← hW]
    clear hW
    have M := HM.out
    clear HM y0 y1 y2 d0 d1 d2 ff c0 c1 c2 c3 c4 c5
    refine (x8 a.kind a.value 0 (.slice av a.kids.length ac) _).mono ?_
    rintro x w1 ⟨rfl, b1⟩
    rw [show (decide (a.kind = 1) && decide (a.value = 0)) = n5 a 0 from rfl]
    replace M := M.call b1
    clear b1
    cases hK : n5 a 0
    ·have y0 := M.c 0 0 rfl rfl
     have y1 := M.c 0 1 rfl rfl
     have y2 := M.c 0 2 rfl rfl
     have d0 := M.c 1 0 rfl rfl
     have d1 := M.c 1 1 rfl rfl
     have d2 := M.c 1 2 rfl rfl
     have ff := M.f 1 rfl
     obtain ⟨c0, c1, c2, c3, c4, c5⟩ := HCELL.out _ (M.below fun _ _ => trivial)
     have HM := show Hid _ from M
     clear M
     go_wp2_with fail
     have M := HM.out
     clear HM y0 y1 y2 d0 d1 d2 ff c0 c1 c2 c3 c4 c5
     refine (x8 b.kind b.value 0 (.slice bv b.kids.length bc) _).mono ?_
     rintro x w1 ⟨rfl, b1⟩
     rw [show (decide (b.kind = 1) && decide (b.value = 0)) = n5 b 0 from rfl]
     replace M := M.call b1
     clear b1
     cases hK2 : n5 b 0
     ·have HN : Hid (o3 ⟨4, n, [a, b]⟩ = ⟨4, n, [a, b]⟩) := by rw [Hid, G4, if_neg HCN.out, if_neg (by simp [hK]), if_neg (by simp [hK2])]
      clear hK hK2
      have y0 := M.c 0 0 rfl rfl
      have y1 := M.c 0 1 rfl rfl
      have y2 := M.c 0 2 rfl rfl
      have d0 := M.c 1 0 rfl rfl
      have d1 := M.c 1 1 rfl rfl
      have d2 := M.c 1 2 rfl rfl
      have ff := M.f 1 rfl
      obtain ⟨c0, c1, c2, c3, c4, c5⟩ := HCELL.out _ (M.below fun _ _ => trivial)
      have HM := show Hid _ from ((M.set 1 rfl 0 (.int .i64 4)).set 1 rfl 1 (.int .i64 n)).set 1 rfl 2 (.slice (some ⟨g, off, none⟩) 2 cap)
      clear M
      go_wp2_with fail
      have M2 := HM.out
      have r0 : World.cell? _ ⟨w.heap.size + 1, 0, none⟩ = some (.int .i64 4) := M2.c 1 0 rfl rfl
      have r1 : World.cell? _ ⟨w.heap.size + 1, 1, none⟩ = some (.int .i64 n) := M2.c 1 1 rfl rfl
      have r2 : World.cell? _ ⟨w.heap.size + 1, 2, none⟩ = some (.slice (some ⟨g, off, none⟩) 2 cap) := M2.c 1 2 rfl rfl
      refine bodyPost_ret (v := .agg #[.int .i64 4, .int .i64 n, .slice (some ⟨g, off, none⟩) 2 cap]) (by simp [results, Tryz.results194, go_sem, r0, r1, r2]) rfl ?_
      rw [HN.out]
      exact ⟨_, _, rfl, HKK.out _ (M2.below fun _ _ => trivial) |>.2.2, M2.below fun _ _ => trivial⟩
     ·have HN : Hid (o3 ⟨4, n, [a, b]⟩ = a) := by rw [Hid, G4, if_neg HCN.out, if_neg (by simp [hK]), if_pos (by simp [hK2])]
      clear hK hK2
      have y0 := M.c 0 0 rfl rfl
      have y1 := M.c 0 1 rfl rfl
      have y2 := M.c 0 2 rfl rfl
      have d0 := M.c 1 0 rfl rfl
      have d1 := M.c 1 1 rfl rfl
      have d2 := M.c 1 2 rfl rfl
      have ff := M.f 1 rfl
      obtain ⟨c0, c1, c2, c3, c4, c5⟩ := HCELL.out _ (M.below fun _ _ => trivial)
      have HM := show Hid _ from ((M.set 1 rfl 0 (.int .i64 a.kind)).set 1 rfl 1 (.int .i64 a.value)).set 1 rfl 2 (.slice av a.kids.length ac)
      clear M
      go_wp2_with fail
      have M2 := HM.out
      have r0 : World.cell? _ ⟨w.heap.size + 1, 0, none⟩ = some (.int .i64 a.kind) := M2.c 1 0 rfl rfl
      have r1 : World.cell? _ ⟨w.heap.size + 1, 1, none⟩ = some (.int .i64 a.value) := M2.c 1 1 rfl rfl
      have r2 : World.cell? _ ⟨w.heap.size + 1, 2, none⟩ = some (.slice av a.kids.length ac) := M2.c 1 2 rfl rfl
      refine bodyPost_ret (v := .agg #[.int .i64 a.kind, .int .i64 a.value, .slice av a.kids.length ac]) (by simp [results, Tryz.results194, go_sem, r0, r1, r2]) rfl ?_
      rw [HN.out]
      exact ⟨_, _, rfl, HKK.out _ (M2.below fun _ _ => trivial) |>.1, M2.below fun _ _ => trivial⟩
    ·have HN : Hid (o3 ⟨4, n, [a, b]⟩ = b) := by rw [Hid, G4, if_neg HCN.out, if_pos (by simp [hK])]
     clear hK
     have y0 := M.c 0 0 rfl rfl
     have y1 := M.c 0 1 rfl rfl
     have y2 := M.c 0 2 rfl rfl
     have d0 := M.c 1 0 rfl rfl
     have d1 := M.c 1 1 rfl rfl
     have d2 := M.c 1 2 rfl rfl
     have ff := M.f 1 rfl
     obtain ⟨c0, c1, c2, c3, c4, c5⟩ := HCELL.out _ (M.below fun _ _ => trivial)
     have HM := show Hid _ from ((M.set 1 rfl 0 (.int .i64 b.kind)).set 1 rfl 1 (.int .i64 b.value)).set 1 rfl 2 (.slice bv b.kids.length bc)
     clear M
     go_wp2_with fail
     have M2 := HM.out
     have r0 : World.cell? _ ⟨w.heap.size + 1, 0, none⟩ = some (.int .i64 b.kind) := M2.c 1 0 rfl rfl
     have r1 : World.cell? _ ⟨w.heap.size + 1, 1, none⟩ = some (.int .i64 b.value) := M2.c 1 1 rfl rfl
     have r2 : World.cell? _ ⟨w.heap.size + 1, 2, none⟩ = some (.slice bv b.kids.length bc) := M2.c 1 2 rfl rfl
     refine bodyPost_ret (v := .agg #[.int .i64 b.kind, .int .i64 b.value, .slice bv b.kids.length bc]) (by simp [results, Tryz.results194, go_sem, r0, r1, r2]) rfl ?_
     rw [HN.out]
     exact ⟨_, _, rfl, HKK.out _ (M2.below fun _ _ => trivial) |>.2.1, M2.below fun _ _ => trivial⟩
   by_cases q8 : k = 8
   ·subst q8
    have y0 := M.c 0 0 rfl rfl
    have y1 := M.c 0 1 rfl rfl
    have y2 := M.c 0 2 rfl rfl
    have d0 := M.c 1 0 rfl rfl
    have d1 := M.c 1 1 rfl rfl
    have d2 := M.c 1 2 rfl rfl
    have ff := M.f 1 rfl
    obtain ⟨c0, c1, c2, c3, c4, c5⟩ := HCELL.out _ (M.below fun _ _ => trivial)
    have HM := show Hid _ from M
    rw [hW] at y0 y1 y2 d0 d1 d2 ff c0 c1 c2 c3 c4 c5
    clear M
    go_enter Tryz.func194, Tryz.ntmps194
    go_wp2_with fail
    rw [← hW]
    clear hW
    have M := HM.out
    clear HM y0 y1 y2 d0 d1 d2 ff c0 c1 c2 c3 c4 c5
    refine (x8 a.kind a.value 0 (.slice av a.kids.length ac) _).mono ?_
    rintro x w1 ⟨rfl, b1⟩
    rw [show (decide (a.kind = 1) && decide (a.value = 0)) = n5 a 0 from rfl]
    replace M := M.call b1
    clear b1
    cases hK : n5 a 0
    ·have y0 := M.c 0 0 rfl rfl
     have y1 := M.c 0 1 rfl rfl
     have y2 := M.c 0 2 rfl rfl
     have d0 := M.c 1 0 rfl rfl
     have d1 := M.c 1 1 rfl rfl
     have d2 := M.c 1 2 rfl rfl
     have ff := M.f 1 rfl
     obtain ⟨c0, c1, c2, c3, c4, c5⟩ := HCELL.out _ (M.below fun _ _ => trivial)
     have HM := show Hid _ from M
     clear M
     go_wp2_with fail
     have M := HM.out
     clear HM y0 y1 y2 d0 d1 d2 ff c0 c1 c2 c3 c4 c5
     refine (x8 b.kind b.value 0 (.slice bv b.kids.length bc) _).mono ?_
     rintro x w1 ⟨rfl, b1⟩
     rw [show (decide (b.kind = 1) && decide (b.value = 0)) = n5 b 0 from rfl]
     replace M := M.call b1
     clear b1
     cases hK2 : n5 b 0
     ·have HN : Hid (o3 ⟨8, n, [a, b]⟩ = ⟨8, n, [a, b]⟩) := by rw [Hid, G4, if_neg HCN.out, if_neg (by simp [hK]), if_neg (by simp [hK2])]
      clear hK hK2
      have y0 := M.c 0 0 rfl rfl
      have y1 := M.c 0 1 rfl rfl
      have y2 := M.c 0 2 rfl rfl
      have d0 := M.c 1 0 rfl rfl
      have d1 := M.c 1 1 rfl rfl
      have d2 := M.c 1 2 rfl rfl
      have ff := M.f 1 rfl
      obtain ⟨c0, c1, c2, c3, c4, c5⟩ := HCELL.out _ (M.below fun _ _ => trivial)
      have HM := show Hid _ from ((M.set 1 rfl 0 (.int .i64 8)).set 1 rfl 1 (.int .i64 n)).set 1 rfl 2 (.slice (some ⟨g, off, none⟩) 2 cap)
      clear M
      go_wp2_with fail
      have M2 := HM.out
      have r0 : World.cell? _ ⟨w.heap.size + 1, 0, none⟩ = some (.int .i64 8) := M2.c 1 0 rfl rfl
      have r1 : World.cell? _ ⟨w.heap.size + 1, 1, none⟩ = some (.int .i64 n) := M2.c 1 1 rfl rfl
      have r2 : World.cell? _ ⟨w.heap.size + 1, 2, none⟩ = some (.slice (some ⟨g, off, none⟩) 2 cap) := M2.c 1 2 rfl rfl
      refine bodyPost_ret (v := .agg #[.int .i64 8, .int .i64 n, .slice (some ⟨g, off, none⟩) 2 cap]) (by simp [results, Tryz.results194, go_sem, r0, r1, r2]) rfl ?_
      rw [HN.out]
      exact ⟨_, _, rfl, HKK.out _ (M2.below fun _ _ => trivial) |>.2.2, M2.below fun _ _ => trivial⟩
     ·have HN : Hid (o3 ⟨8, n, [a, b]⟩ = a) := by rw [Hid, G4, if_neg HCN.out, if_neg (by simp [hK]), if_pos (by simp [hK2])]
      clear hK hK2
      have y0 := M.c 0 0 rfl rfl
      have y1 := M.c 0 1 rfl rfl
      have y2 := M.c 0 2 rfl rfl
      have d0 := M.c 1 0 rfl rfl
      have d1 := M.c 1 1 rfl rfl
      have d2 := M.c 1 2 rfl rfl
      have ff := M.f 1 rfl
      obtain ⟨c0, c1, c2, c3, c4, c5⟩ := HCELL.out _ (M.below fun _ _ => trivial)
      have HM := show Hid _ from ((M.set 1 rfl 0 (.int .i64 a.kind)).set 1 rfl 1 (.int .i64 a.value)).set 1 rfl 2 (.slice av a.kids.length ac)
      clear M
      go_wp2_with fail
      have M2 := HM.out
      have r0 : World.cell? _ ⟨w.heap.size + 1, 0, none⟩ = some (.int .i64 a.kind) := M2.c 1 0 rfl rfl
      have r1 : World.cell? _ ⟨w.heap.size + 1, 1, none⟩ = some (.int .i64 a.value) := M2.c 1 1 rfl rfl
      have r2 : World.cell? _ ⟨w.heap.size + 1, 2, none⟩ = some (.slice av a.kids.length ac) := M2.c 1 2 rfl rfl
      refine bodyPost_ret (v := .agg #[.int .i64 a.kind, .int .i64 a.value, .slice av a.kids.length ac]) (by simp [results, Tryz.results194, go_sem, r0, r1, r2]) rfl ?_
      rw [HN.out]
      exact ⟨_, _, rfl, HKK.out _ (M2.below fun _ _ => trivial) |>.1, M2.below fun _ _ => trivial⟩
    ·have HN : Hid (o3 ⟨8, n, [a, b]⟩ = b) := by rw [Hid, G4, if_neg HCN.out, if_pos (by simp [hK])]
     clear hK
     have y0 := M.c 0 0 rfl rfl
     have y1 := M.c 0 1 rfl rfl
     have y2 := M.c 0 2 rfl rfl
     have d0 := M.c 1 0 rfl rfl
     have d1 := M.c 1 1 rfl rfl
     have d2 := M.c 1 2 rfl rfl
     have ff := M.f 1 rfl
     obtain ⟨c0, c1, c2, c3, c4, c5⟩ := HCELL.out _ (M.below fun _ _ => trivial)
     have HM := show Hid _ from ((M.set 1 rfl 0 (.int .i64 b.kind)).set 1 rfl 1 (.int .i64 b.value)).set 1 rfl 2 (.slice bv b.kids.length bc)
     clear M
     go_wp2_with fail
     have M2 := HM.out
     have r0 : World.cell? _ ⟨w.heap.size + 1, 0, none⟩ = some (.int .i64 b.kind) := M2.c 1 0 rfl rfl
     have r1 : World.cell? _ ⟨w.heap.size + 1, 1, none⟩ = some (.int .i64 b.value) := M2.c 1 1 rfl rfl
     have r2 : World.cell? _ ⟨w.heap.size + 1, 2, none⟩ = some (.slice bv b.kids.length bc) := M2.c 1 2 rfl rfl
     refine bodyPost_ret (v := .agg #[.int .i64 b.kind, .int .i64 b.value, .slice bv b.kids.length bc]) (by simp [results, Tryz.results194, go_sem, r0, r1, r2]) rfl ?_
     rw [HN.out]
     exact ⟨_, _, rfl, HKK.out _ (M2.below fun _ _ => trivial) |>.2.1, M2.below fun _ _ => trivial⟩
   by_cases q5 : k = 5
   ·subst q5
    have y0 := M.c 0 0 rfl rfl
    have y1 := M.c 0 1 rfl rfl
    have y2 := M.c 0 2 rfl rfl
    have d0 := M.c 1 0 rfl rfl
    have d1 := M.c 1 1 rfl rfl
    have d2 := M.c 1 2 rfl rfl
    have ff := M.f 1 rfl
    obtain ⟨c0, c1, c2, c3, c4, c5⟩ := HCELL.out _ (M.below fun _ _ => trivial)
    have HM := show Hid _ from M
    rw [hW] at y0 y1 y2 d0 d1 d2 ff c0 c1 c2 c3 c4 c5
    clear M
    go_enter Tryz.func194, Tryz.ntmps194
    go_wp2_with fail
    rw [← hW]
    clear hW
    have M := HM.out
    clear HM y0 y1 y2 d0 d1 d2 ff c0 c1 c2 c3 c4 c5
    refine (x8 b.kind b.value 0 (.slice bv b.kids.length bc) _).mono ?_
    rintro x w1 ⟨rfl, b1⟩
    rw [show (decide (b.kind = 1) && decide (b.value = 0)) = n5 b 0 from rfl]
    replace M := M.call b1
    clear b1
    cases hK : n5 b 0
    ·have HN : Hid (o3 ⟨5, n, [a, b]⟩ = ⟨5, n, [a, b]⟩) := by rw [Hid, G4, if_neg HCN.out, if_neg (by simp), if_neg (by simp [hK])]
     clear hK
     have y0 := M.c 0 0 rfl rfl
     have y1 := M.c 0 1 rfl rfl
     have y2 := M.c 0 2 rfl rfl
     have d0 := M.c 1 0 rfl rfl
     have d1 := M.c 1 1 rfl rfl
     have d2 := M.c 1 2 rfl rfl
     have ff := M.f 1 rfl
     obtain ⟨c0, c1, c2, c3, c4, c5⟩ := HCELL.out _ (M.below fun _ _ => trivial)
     have HM := show Hid _ from ((M.set 1 rfl 0 (.int .i64 5)).set 1 rfl 1 (.int .i64 n)).set 1 rfl 2 (.slice (some ⟨g, off, none⟩) 2 cap)
     clear M
     go_wp2_with fail
     have M2 := HM.out
     have r0 : World.cell? _ ⟨w.heap.size + 1, 0, none⟩ = some (.int .i64 5) := M2.c 1 0 rfl rfl
     have r1 : World.cell? _ ⟨w.heap.size + 1, 1, none⟩ = some (.int .i64 n) := M2.c 1 1 rfl rfl
     have r2 : World.cell? _ ⟨w.heap.size + 1, 2, none⟩ = some (.slice (some ⟨g, off, none⟩) 2 cap) := M2.c 1 2 rfl rfl
     refine bodyPost_ret (v := .agg #[.int .i64 5, .int .i64 n, .slice (some ⟨g, off, none⟩) 2 cap]) (by simp [results, Tryz.results194, go_sem, r0, r1, r2]) rfl ?_
     rw [HN.out]
     exact ⟨_, _, rfl, HKK.out _ (M2.below fun _ _ => trivial) |>.2.2, M2.below fun _ _ => trivial⟩
    ·have HN : Hid (o3 ⟨5, n, [a, b]⟩ = a) := by rw [Hid, G4, if_neg HCN.out, if_neg (by simp), if_pos (by simp [hK])]
     clear hK
     have y0 := M.c 0 0 rfl rfl
     have y1 := M.c 0 1 rfl rfl
     have y2 := M.c 0 2 rfl rfl
     have d0 := M.c 1 0 rfl rfl
     have d1 := M.c 1 1 rfl rfl
     have d2 := M.c 1 2 rfl rfl
     have ff := M.f 1 rfl
     obtain ⟨c0, c1, c2, c3, c4, c5⟩ := HCELL.out _ (M.below fun _ _ => trivial)
     have HM := show Hid _ from ((M.set 1 rfl 0 (.int .i64 a.kind)).set 1 rfl 1 (.int .i64 a.value)).set 1 rfl 2 (.slice av a.kids.length ac)
     clear M
     go_wp2_with fail
     have M2 := HM.out
     have r0 : World.cell? _ ⟨w.heap.size + 1, 0, none⟩ = some (.int .i64 a.kind) := M2.c 1 0 rfl rfl
     have r1 : World.cell? _ ⟨w.heap.size + 1, 1, none⟩ = some (.int .i64 a.value) := M2.c 1 1 rfl rfl
     have r2 : World.cell? _ ⟨w.heap.size + 1, 2, none⟩ = some (.slice av a.kids.length ac) := M2.c 1 2 rfl rfl
     refine bodyPost_ret (v := .agg #[.int .i64 a.kind, .int .i64 a.value, .slice av a.kids.length ac]) (by simp [results, Tryz.results194, go_sem, r0, r1, r2]) rfl ?_
     rw [HN.out]
     exact ⟨_, _, rfl, HKK.out _ (M2.below fun _ _ => trivial) |>.1, M2.below fun _ _ => trivial⟩
   by_cases q6 : k = 6
   ·subst q6
    have y0 := M.c 0 0 rfl rfl
    have y1 := M.c 0 1 rfl rfl
    have y2 := M.c 0 2 rfl rfl
    have d0 := M.c 1 0 rfl rfl
    have d1 := M.c 1 1 rfl rfl
    have d2 := M.c 1 2 rfl rfl
    have ff := M.f 1 rfl
    obtain ⟨c0, c1, c2, c3, c4, c5⟩ := HCELL.out _ (M.below fun _ _ => trivial)
    have HM := show Hid _ from M
    rw [hW] at y0 y1 y2 d0 d1 d2 ff c0 c1 c2 c3 c4 c5
    clear M
    go_enter Tryz.func194, Tryz.ntmps194
    go_wp2_with fail
    rw [← hW]
    clear hW
    have M := HM.out
    clear HM y0 y1 y2 d0 d1 d2 ff c0 c1 c2 c3 c4 c5
    refine (x8 a.kind a.value 1 (.slice av a.kids.length ac) _).mono ?_
    rintro x w1 ⟨rfl, b1⟩
    rw [show (decide (a.kind = 1) && decide (a.value = 1)) = n5 a 1 from rfl]
    replace M := M.call b1
    clear b1
    cases hK : n5 a 1
    ·have y0 := M.c 0 0 rfl rfl
     have y1 := M.c 0 1 rfl rfl
     have y2 := M.c 0 2 rfl rfl
     have d0 := M.c 1 0 rfl rfl
     have d1 := M.c 1 1 rfl rfl
     have d2 := M.c 1 2 rfl rfl
     have ff := M.f 1 rfl
     obtain ⟨c0, c1, c2, c3, c4, c5⟩ := HCELL.out _ (M.below fun _ _ => trivial)
     have HM := show Hid _ from M
     clear M
     go_wp2_with fail
     have M := HM.out
     clear HM y0 y1 y2 d0 d1 d2 ff c0 c1 c2 c3 c4 c5
     refine (x8 b.kind b.value 1 (.slice bv b.kids.length bc) _).mono ?_
     rintro x w1 ⟨rfl, b1⟩
     rw [show (decide (b.kind = 1) && decide (b.value = 1)) = n5 b 1 from rfl]
     replace M := M.call b1
     clear b1
     cases hK2 : n5 b 1
     ·have HN : Hid (o3 ⟨6, n, [a, b]⟩ = ⟨6, n, [a, b]⟩) := by rw [Hid, G4, if_neg HCN.out, if_neg (by simp [hK]), if_neg (by simp [hK2])]
      clear hK hK2
      have y0 := M.c 0 0 rfl rfl
      have y1 := M.c 0 1 rfl rfl
      have y2 := M.c 0 2 rfl rfl
      have d0 := M.c 1 0 rfl rfl
      have d1 := M.c 1 1 rfl rfl
      have d2 := M.c 1 2 rfl rfl
      have ff := M.f 1 rfl
      obtain ⟨c0, c1, c2, c3, c4, c5⟩ := HCELL.out _ (M.below fun _ _ => trivial)
      have HM := show Hid _ from ((M.set 1 rfl 0 (.int .i64 6)).set 1 rfl 1 (.int .i64 n)).set 1 rfl 2 (.slice (some ⟨g, off, none⟩) 2 cap)
      clear M
      go_wp2_with fail
      have M2 := HM.out
      have r0 : World.cell? _ ⟨w.heap.size + 1, 0, none⟩ = some (.int .i64 6) := M2.c 1 0 rfl rfl
      have r1 : World.cell? _ ⟨w.heap.size + 1, 1, none⟩ = some (.int .i64 n) := M2.c 1 1 rfl rfl
      have r2 : World.cell? _ ⟨w.heap.size + 1, 2, none⟩ = some (.slice (some ⟨g, off, none⟩) 2 cap) := M2.c 1 2 rfl rfl
      refine bodyPost_ret (v := .agg #[.int .i64 6, .int .i64 n, .slice (some ⟨g, off, none⟩) 2 cap]) (by simp [results, Tryz.results194, go_sem, r0, r1, r2]) rfl ?_
      rw [HN.out]
      exact ⟨_, _, rfl, HKK.out _ (M2.below fun _ _ => trivial) |>.2.2, M2.below fun _ _ => trivial⟩
     ·have HN : Hid (o3 ⟨6, n, [a, b]⟩ = a) := by rw [Hid, G4, if_neg HCN.out, if_neg (by simp [hK]), if_pos (by simp [hK2])]
      clear hK hK2
      have y0 := M.c 0 0 rfl rfl
      have y1 := M.c 0 1 rfl rfl
      have y2 := M.c 0 2 rfl rfl
      have d0 := M.c 1 0 rfl rfl
      have d1 := M.c 1 1 rfl rfl
      have d2 := M.c 1 2 rfl rfl
      have ff := M.f 1 rfl
      obtain ⟨c0, c1, c2, c3, c4, c5⟩ := HCELL.out _ (M.below fun _ _ => trivial)
      have HM := show Hid _ from ((M.set 1 rfl 0 (.int .i64 a.kind)).set 1 rfl 1 (.int .i64 a.value)).set 1 rfl 2 (.slice av a.kids.length ac)
      clear M
      go_wp2_with fail
      have M2 := HM.out
      have r0 : World.cell? _ ⟨w.heap.size + 1, 0, none⟩ = some (.int .i64 a.kind) := M2.c 1 0 rfl rfl
      have r1 : World.cell? _ ⟨w.heap.size + 1, 1, none⟩ = some (.int .i64 a.value) := M2.c 1 1 rfl rfl
      have r2 : World.cell? _ ⟨w.heap.size + 1, 2, none⟩ = some (.slice av a.kids.length ac) := M2.c 1 2 rfl rfl
      refine bodyPost_ret (v := .agg #[.int .i64 a.kind, .int .i64 a.value, .slice av a.kids.length ac]) (by simp [results, Tryz.results194, go_sem, r0, r1, r2]) rfl ?_
      rw [HN.out]
      exact ⟨_, _, rfl, HKK.out _ (M2.below fun _ _ => trivial) |>.1, M2.below fun _ _ => trivial⟩
    ·have HN : Hid (o3 ⟨6, n, [a, b]⟩ = b) := by rw [Hid, G4, if_neg HCN.out, if_pos (by simp [hK])]
     clear hK
     have y0 := M.c 0 0 rfl rfl
     have y1 := M.c 0 1 rfl rfl
     have y2 := M.c 0 2 rfl rfl
     have d0 := M.c 1 0 rfl rfl
     have d1 := M.c 1 1 rfl rfl
     have d2 := M.c 1 2 rfl rfl
     have ff := M.f 1 rfl
     obtain ⟨c0, c1, c2, c3, c4, c5⟩ := HCELL.out _ (M.below fun _ _ => trivial)
     have HM := show Hid _ from ((M.set 1 rfl 0 (.int .i64 b.kind)).set 1 rfl 1 (.int .i64 b.value)).set 1 rfl 2 (.slice bv b.kids.length bc)
     clear M
     go_wp2_with fail
     have M2 := HM.out
     have r0 : World.cell? _ ⟨w.heap.size + 1, 0, none⟩ = some (.int .i64 b.kind) := M2.c 1 0 rfl rfl
     have r1 : World.cell? _ ⟨w.heap.size + 1, 1, none⟩ = some (.int .i64 b.value) := M2.c 1 1 rfl rfl
     have r2 : World.cell? _ ⟨w.heap.size + 1, 2, none⟩ = some (.slice bv b.kids.length bc) := M2.c 1 2 rfl rfl
     refine bodyPost_ret (v := .agg #[.int .i64 b.kind, .int .i64 b.value, .slice bv b.kids.length bc]) (by simp [results, Tryz.results194, go_sem, r0, r1, r2]) rfl ?_
     rw [HN.out]
     exact ⟨_, _, rfl, HKK.out _ (M2.below fun _ _ => trivial) |>.2.1, M2.below fun _ _ => trivial⟩
   have p4 : (k == 4) = false := by simp [q4]
   have p8 : (k == 8) = false := by simp [q8]
   have p5 : (k == 5) = false := by simp [q5]
   have p6 : (k == 6) = false := by simp [q6]
   have HN : Hid (o3 ⟨k, n, [a, b]⟩ = ⟨k, n, [a, b]⟩) := by rw [Hid, G4, if_neg HCN.out, if_neg (by simp [q4, q5, q6, q8]), if_neg (by simp [q4, q5, q6, q8])]
   clear q4 q5 q6 q8
   have y0 := M.c 0 0 rfl rfl
   have y1 := M.c 0 1 rfl rfl
   have y2 := M.c 0 2 rfl rfl
   have d0 := M.c 1 0 rfl rfl
   have d1 := M.c 1 1 rfl rfl
   have d2 := M.c 1 2 rfl rfl
   have ff := M.f 1 rfl
   obtain ⟨c0, c1, c2, c3, c4, c5⟩ := HCELL.out _ (M.below fun _ _ => trivial)
   rw [hW] at y0 y1 y2 d0 d1 d2 ff c0 c1 c2 c3 c4 c5
   have HM : Hid (r8 (fun _ => True) (fun _ => True) w _ [.box w.heap.size [.int .i64 k, .int .i64 n, .slice (some ⟨g, off, none⟩) 2 cap], .box (w.heap.size + 1) [.int .i64 k, .int .i64 n, .slice (some ⟨g, off, none⟩) 2 cap]]) := ((r8.start fun _ _ => trivial).box [.int .i64 k, .int .i64 n, .slice (some ⟨g, off, none⟩) 2 cap] 104).box' [.int .i64 k, .int .i64 n, .slice (some ⟨g, off, none⟩) 2 cap] 104 (by simp)
   clear M
   go_enter Tryz.func194, Tryz.ntmps194
   go_wp2_with fail
   have M2 := HM.out
   have r0 : World.cell? _ ⟨w.heap.size + 1, 0, none⟩ = some (.int .i64 k) := M2.c 1 0 rfl rfl
   have r1 : World.cell? _ ⟨w.heap.size + 1, 1, none⟩ = some (.int .i64 n) := M2.c 1 1 rfl rfl
   have r2 : World.cell? _ ⟨w.heap.size + 1, 2, none⟩ = some (.slice (some ⟨g, off, none⟩) 2 cap) := M2.c 1 2 rfl rfl
   refine bodyPost_ret (v := .agg #[.int .i64 k, .int .i64 n, .slice (some ⟨g, off, none⟩) 2 cap]) (by simp [results, Tryz.results194, go_sem, r0, r1, r2]) rfl ?_
   rw [HN.out]
   exact ⟨_, _, rfl, HKK.out _ (M2.below fun _ _ => trivial) |>.2.2, M2.below fun _ _ => trivial⟩
 ·have pa : (a.kind == 1) = false := by simp [qa]
  have HCN : Hid (¬ (a.kind = 1 ∧ b.kind = 1)) := fun h => qa h.1
  clear qa ha hb
  by_cases q4 : k = 4
  ·subst q4
   have y0 := M.c 0 0 rfl rfl
   have y1 := M.c 0 1 rfl rfl
   have y2 := M.c 0 2 rfl rfl
   have d0 := M.c 1 0 rfl rfl
   have d1 := M.c 1 1 rfl rfl
   have d2 := M.c 1 2 rfl rfl
   have ff := M.f 1 rfl
   obtain ⟨c0, c1, c2, c3, c4, c5⟩ := HCELL.out _ (M.below fun _ _ => trivial)
   have HM := show Hid _ from M
   rw [hW] at y0 y1 y2 d0 d1 d2 ff c0 c1 c2 c3 c4 c5
   clear M
   go_enter Tryz.func194, Tryz.ntmps194
   go_wp2_with fail
   rw [← hW]
   clear hW
   have M := HM.out
   clear HM y0 y1 y2 d0 d1 d2 ff c0 c1 c2 c3 c4 c5
   refine (x8 a.kind a.value 0 (.slice av a.kids.length ac) _).mono ?_
   rintro x w1 ⟨rfl, b1⟩
   rw [show (decide (a.kind = 1) && decide (a.value = 0)) = n5 a 0 from rfl]
   replace M := M.call b1
   clear b1
   cases hK : n5 a 0
   ·have y0 := M.c 0 0 rfl rfl
    have y1 := M.c 0 1 rfl rfl
    have y2 := M.c 0 2 rfl rfl
    have d0 := M.c 1 0 rfl rfl
    have d1 := M.c 1 1 rfl rfl
    have d2 := M.c 1 2 rfl rfl
    have ff := M.f 1 rfl
    obtain ⟨c0, c1, c2, c3, c4, c5⟩ := HCELL.out _ (M.below fun _ _ => trivial)
    have HM := show Hid _ from M
    clear M
    go_wp2_with fail
    have M := HM.out
    clear HM y0 y1 y2 d0 d1 d2 ff c0 c1 c2 c3 c4 c5
    refine (x8 b.kind b.value 0 (.slice bv b.kids.length bc) _).mono ?_
    rintro x w1 ⟨rfl, b1⟩
    rw [show (decide (b.kind = 1) && decide (b.value = 0)) = n5 b 0 from rfl]
    replace M := M.call b1
    clear b1
    cases hK2 : n5 b 0
    ·have HN : Hid (o3 ⟨4, n, [a, b]⟩ = ⟨4, n, [a, b]⟩) := by rw [Hid, G4, if_neg HCN.out, if_neg (by simp [hK]), if_neg (by simp [hK2])]
     clear hK hK2
     have y0 := M.c 0 0 rfl rfl
     have y1 := M.c 0 1 rfl rfl
     have y2 := M.c 0 2 rfl rfl
     have d0 := M.c 1 0 rfl rfl
     have d1 := M.c 1 1 rfl rfl
     have d2 := M.c 1 2 rfl rfl
     have ff := M.f 1 rfl
     obtain ⟨c0, c1, c2, c3, c4, c5⟩ := HCELL.out _ (M.below fun _ _ => trivial)
     have HM := show Hid _ from ((M.set 1 rfl 0 (.int .i64 4)).set 1 rfl 1 (.int .i64 n)).set 1 rfl 2 (.slice (some ⟨g, off, none⟩) 2 cap)
     clear M
     go_wp2_with fail
     have M2 := HM.out
     have r0 : World.cell? _ ⟨w.heap.size + 1, 0, none⟩ = some (.int .i64 4) := M2.c 1 0 rfl rfl
     have r1 : World.cell? _ ⟨w.heap.size + 1, 1, none⟩ = some (.int .i64 n) := M2.c 1 1 rfl rfl
     have r2 : World.cell? _ ⟨w.heap.size + 1, 2, none⟩ = some (.slice (some ⟨g, off, none⟩) 2 cap) := M2.c 1 2 rfl rfl
     refine bodyPost_ret (v := .agg #[.int .i64 4, .int .i64 n, .slice (some ⟨g, off, none⟩) 2 cap]) (by simp [results, Tryz.results194, go_sem, r0, r1, r2]) rfl ?_
     rw [HN.out]
     exact ⟨_, _, rfl, HKK.out _ (M2.below fun _ _ => trivial) |>.2.2, M2.below fun _ _ => trivial⟩
    ·have HN : Hid (o3 ⟨4, n, [a, b]⟩ = a) := by rw [Hid, G4, if_neg HCN.out, if_neg (by simp [hK]), if_pos (by simp [hK2])]
     clear hK hK2
     have y0 := M.c 0 0 rfl rfl
     have y1 := M.c 0 1 rfl rfl
     have y2 := M.c 0 2 rfl rfl
     have d0 := M.c 1 0 rfl rfl
     have d1 := M.c 1 1 rfl rfl
     have d2 := M.c 1 2 rfl rfl
     have ff := M.f 1 rfl
     obtain ⟨c0, c1, c2, c3, c4, c5⟩ := HCELL.out _ (M.below fun _ _ => trivial)
     have HM := show Hid _ from ((M.set 1 rfl 0 (.int .i64 a.kind)).set 1 rfl 1 (.int .i64 a.value)).set 1 rfl 2 (.slice av a.kids.length ac)
     clear M
     go_wp2_with fail
     have M2 := HM.out
     have r0 : World.cell? _ ⟨w.heap.size + 1, 0, none⟩ = some (.int .i64 a.kind) := M2.c 1 0 rfl rfl
     have r1 : World.cell? _ ⟨w.heap.size + 1, 1, none⟩ = some (.int .i64 a.value) := M2.c 1 1 rfl rfl
     have r2 : World.cell? _ ⟨w.heap.size + 1, 2, none⟩ = some (.slice av a.kids.length ac) := M2.c 1 2 rfl rfl
     refine bodyPost_ret (v := .agg #[.int .i64 a.kind, .int .i64 a.value, .slice av a.kids.length ac]) (by simp [results, Tryz.results194, go_sem, r0, r1, r2]) rfl ?_
     rw [HN.out]
     exact ⟨_, _, rfl, HKK.out _ (M2.below fun _ _ => trivial) |>.1, M2.below fun _ _ => trivial⟩
   ·have HN : Hid (o3 ⟨4, n, [a, b]⟩ = b) := by rw [Hid, G4, if_neg HCN.out, if_pos (by simp [hK])]
    clear hK
    have y0 := M.c 0 0 rfl rfl
    have y1 := M.c 0 1 rfl rfl
    have y2 := M.c 0 2 rfl rfl
    have d0 := M.c 1 0 rfl rfl
    have d1 := M.c 1 1 rfl rfl
    have d2 := M.c 1 2 rfl rfl
    have ff := M.f 1 rfl
    obtain ⟨c0, c1, c2, c3, c4, c5⟩ := HCELL.out _ (M.below fun _ _ => trivial)
    have HM := show Hid _ from ((M.set 1 rfl 0 (.int .i64 b.kind)).set 1 rfl 1 (.int .i64 b.value)).set 1 rfl 2 (.slice bv b.kids.length bc)
    clear M
    go_wp2_with fail
    have M2 := HM.out
    have r0 : World.cell? _ ⟨w.heap.size + 1, 0, none⟩ = some (.int .i64 b.kind) := M2.c 1 0 rfl rfl
    have r1 : World.cell? _ ⟨w.heap.size + 1, 1, none⟩ = some (.int .i64 b.value) := M2.c 1 1 rfl rfl
    have r2 : World.cell? _ ⟨w.heap.size + 1, 2, none⟩ = some (.slice bv b.kids.length bc) := M2.c 1 2 rfl rfl
    refine bodyPost_ret (v := .agg #[.int .i64 b.kind, .int .i64 b.value, .slice bv b.kids.length bc]) (by simp [results, Tryz.results194, go_sem, r0, r1, r2]) rfl ?_
    rw [HN.out]
    exact ⟨_, _, rfl, HKK.out _ (M2.below fun _ _ => trivial) |>.2.1, M2.below fun _ _ => trivial⟩
  by_cases q8 : k = 8
  ·subst q8
   have y0 := M.c 0 0 rfl rfl
   have y1 := M.c 0 1 rfl rfl
   have y2 := M.c 0 2 rfl rfl
   have d0 := M.c 1 0 rfl rfl
   have d1 := M.c 1 1 rfl rfl
   have d2 := M.c 1 2 rfl rfl
   have ff := M.f 1 rfl
   obtain ⟨c0, c1, c2, c3, c4, c5⟩ := HCELL.out _ (M.below fun _ _ => trivial)
   have HM := show Hid _ from M
   rw [hW] at y0 y1 y2 d0 d1 d2 ff c0 c1 c2 c3 c4 c5
   clear M
   go_enter Tryz.func194, Tryz.ntmps194
   go_wp2_with fail
   rw [← hW]
   clear hW
   have M := HM.out
   clear HM y0 y1 y2 d0 d1 d2 ff c0 c1 c2 c3 c4 c5
   refine (x8 a.kind a.value 0 (.slice av a.kids.length ac) _).mono ?_
   rintro x w1 ⟨rfl, b1⟩
   rw [show (decide (a.kind = 1) && decide (a.value = 0)) = n5 a 0 from rfl]
   replace M := M.call b1
   clear b1
   cases hK : n5 a 0
   ·have y0 := M.c 0 0 rfl rfl
    have y1 := M.c 0 1 rfl rfl
    have y2 := M.c 0 2 rfl rfl
    have d0 := M.c 1 0 rfl rfl
    have d1 := M.c 1 1 rfl rfl
    have d2 := M.c 1 2 rfl rfl
    have ff := M.f 1 rfl
    obtain ⟨c0, c1, c2, c3, c4, c5⟩ := HCELL.out _ (M.below fun _ _ => trivial)
    have HM := show Hid _ from M
    clear M
    go_wp2_with fail
    have M := HM.out
    clear HM y0 y1 y2 d0 d1 d2 ff c0 c1 c2 c3 c4 c5
    refine (x8 b.kind b.value 0 (.slice bv b.kids.length bc) _).mono ?_
    rintro x w1 ⟨rfl, b1⟩
    rw [show (decide (b.kind = 1) && decide (b.value = 0)) = n5 b 0 from rfl]
    replace M := M.call b1
    clear b1
    cases hK2 : n5 b 0
    ·have HN : Hid (o3 ⟨8, n, [a, b]⟩ = ⟨8, n, [a, b]⟩) := by rw [Hid, G4, if_neg HCN.out, if_neg (by simp [hK]), if_neg (by simp [hK2])]
     clear hK hK2
     have y0 := M.c 0 0 rfl rfl
     have y1 := M.c 0 1 rfl rfl
     have y2 := M.c 0 2 rfl rfl
     have d0 := M.c 1 0 rfl rfl
     have d1 := M.c 1 1 rfl rfl
     have d2 := M.c 1 2 rfl rfl
     have ff := M.f 1 rfl
     obtain ⟨c0, c1, c2, c3, c4, c5⟩ := HCELL.out _ (M.below fun _ _ => trivial)
     have HM := show Hid _ from ((M.set 1 rfl 0 (.int .i64 8)).set 1 rfl 1 (.int .i64 n)).set 1 rfl 2 (.slice (some ⟨g, off, none⟩) 2 cap)
     clear M
     go_wp2_with fail
     have M2 := HM.out
     have r0 : World.cell? _ ⟨w.heap.size + 1, 0, none⟩ = some (.int .i64 8) := M2.c 1 0 rfl rfl
     have r1 : World.cell? _ ⟨w.heap.size + 1, 1, none⟩ = some (.int .i64 n) := M2.c 1 1 rfl rfl
     have r2 : World.cell? _ ⟨w.heap.size + 1, 2, none⟩ = some (.slice (some ⟨g, off, none⟩) 2 cap) := M2.c 1 2 rfl rfl
     refine bodyPost_ret (v := .agg #[.int .i64 8, .int .i64 n, .slice (some ⟨g, off, none⟩) 2 cap]) (by simp [results, Tryz.results194, go_sem, r0, r1, r2]) rfl ?_
     rw [HN.out]
     exact ⟨_, _, rfl, HKK.out _ (M2.below fun _ _ => trivial) |>.2.2, M2.below fun _ _ => trivial⟩
    ·have HN : Hid (o3 ⟨8, n, [a, b]⟩ = a) := by rw [Hid, G4, if_neg HCN.out, if_neg (by simp [hK]), if_pos (by simp [hK2])]
     clear hK hK2
     have y0 := M.c 0 0 rfl rfl
     have y1 := M.c 0 1 rfl rfl
     have y2 := M.c 0 2 rfl rfl
     have d0 := M.c 1 0 rfl rfl
     have d1 := M.c 1 1 rfl rfl
     have d2 := M.c 1 2 rfl rfl
     have ff := M.f 1 rfl
     obtain ⟨c0, c1, c2, c3, c4, c5⟩ := HCELL.out _ (M.below fun _ _ => trivial)
     have HM := show Hid _ from ((M.set 1 rfl 0 (.int .i64 a.kind)).set 1 rfl 1 (.int .i64 a.value)).set 1 rfl 2 (.slice av a.kids.length ac)
     clear M
     go_wp2_with fail
     have M2 := HM.out
     have r0 : World.cell? _ ⟨w.heap.size + 1, 0, none⟩ = some (.int .i64 a.kind) := M2.c 1 0 rfl rfl
     have r1 : World.cell? _ ⟨w.heap.size + 1, 1, none⟩ = some (.int .i64 a.value) := M2.c 1 1 rfl rfl
     have r2 : World.cell? _ ⟨w.heap.size + 1, 2, none⟩ = some (.slice av a.kids.length ac) := M2.c 1 2 rfl rfl
     refine bodyPost_ret (v := .agg #[.int .i64 a.kind, .int .i64 a.value, .slice av a.kids.length ac]) (by simp [results, Tryz.results194, go_sem, r0, r1, r2]) rfl ?_
     rw [HN.out]
     exact ⟨_, _, rfl, HKK.out _ (M2.below fun _ _ => trivial) |>.1, M2.below fun _ _ => trivial⟩
   ·have HN : Hid (o3 ⟨8, n, [a, b]⟩ = b) := by rw [Hid, G4, if_neg HCN.out, if_pos (by simp [hK])]
    clear hK
    have y0 := M.c 0 0 rfl rfl
    have y1 := M.c 0 1 rfl rfl
    have y2 := M.c 0 2 rfl rfl
    have d0 := M.c 1 0 rfl rfl
    have d1 := M.c 1 1 rfl rfl
    have d2 := M.c 1 2 rfl rfl
    have ff := M.f 1 rfl
    obtain ⟨c0, c1, c2, c3, c4, c5⟩ := HCELL.out _ (M.below fun _ _ => trivial)
    have HM := show Hid _ from ((M.set 1 rfl 0 (.int .i64 b.kind)).set 1 rfl 1 (.int .i64 b.value)).set 1 rfl 2 (.slice bv b.kids.length bc)
    clear M
    go_wp2_with fail
    have M2 := HM.out
    have r0 : World.cell? _ ⟨w.heap.size + 1, 0, none⟩ = some (.int .i64 b.kind) := M2.c 1 0 rfl rfl
    have r1 : World.cell? _ ⟨w.heap.size + 1, 1, none⟩ = some (.int .i64 b.value) := M2.c 1 1 rfl rfl
    have r2 : World.cell? _ ⟨w.heap.size + 1, 2, none⟩ = some (.slice bv b.kids.length bc) := M2.c 1 2 rfl rfl
    refine bodyPost_ret (v := .agg #[.int .i64 b.kind, .int .i64 b.value, .slice bv b.kids.length bc]) (by simp [results, Tryz.results194, go_sem, r0, r1, r2]) rfl ?_
    rw [HN.out]
    exact ⟨_, _, rfl, HKK.out _ (M2.below fun _ _ => trivial) |>.2.1, M2.below fun _ _ => trivial⟩
  by_cases q5 : k = 5
  ·subst q5
   have y0 := M.c 0 0 rfl rfl
   have y1 := M.c 0 1 rfl rfl
   have y2 := M.c 0 2 rfl rfl
   have d0 := M.c 1 0 rfl rfl
   have d1 := M.c 1 1 rfl rfl
   have d2 := M.c 1 2 rfl rfl
   have ff := M.f 1 rfl
   obtain ⟨c0, c1, c2, c3, c4, c5⟩ := HCELL.out _ (M.below fun _ _ => trivial)
   have HM := show Hid _ from M
   rw [hW] at y0 y1 y2 d0 d1 d2 ff c0 c1 c2 c3 c4 c5
   clear M
   go_enter Tryz.func194, Tryz.ntmps194
   go_wp2_with fail
   rw [← hW]
   clear hW
   have M := HM.out
   clear HM y0 y1 y2 d0 d1 d2 ff c0 c1 c2 c3 c4 c5
   refine (x8 b.kind b.value 0 (.slice bv b.kids.length bc) _).mono ?_
   rintro x w1 ⟨rfl, b1⟩
   rw [show (decide (b.kind = 1) && decide (b.value = 0)) = n5 b 0 from rfl]
   replace M := M.call b1
   clear b1
   cases hK : n5 b 0
   ·have HN : Hid (o3 ⟨5, n, [a, b]⟩ = ⟨5, n, [a, b]⟩) := by rw [Hid, G4, if_neg HCN.out, if_neg (by simp), if_neg (by simp [hK])]
    clear hK
    have y0 := M.c 0 0 rfl rfl
    have y1 := M.c 0 1 rfl rfl
    have y2 := M.c 0 2 rfl rfl
    have d0 := M.c 1 0 rfl rfl
    have d1 := M.c 1 1 rfl rfl
    have d2 := M.c 1 2 rfl rfl
    have ff := M.f 1 rfl
    obtain ⟨c0, c1, c2, c3, c4, c5⟩ := HCELL.out _ (M.below fun _ _ => trivial)
    have HM := show Hid _ from ((M.set 1 rfl 0 (.int .i64 5)).set 1 rfl 1 (.int .i64 n)).set 1 rfl 2 (.slice (some ⟨g, off, none⟩) 2 cap)
    clear M
    go_wp2_with fail
    have M2 := HM.out
    have r0 : World.cell? _ ⟨w.heap.size + 1, 0, none⟩ = some (.int .i64 5) := M2.c 1 0 rfl rfl
    have r1 : World.cell? _ ⟨w.heap.size + 1, 1, none⟩ = some (.int .i64 n) := M2.c 1 1 rfl rfl
    have r2 : World.cell? _ ⟨w.heap.size + 1, 2, none⟩ = some (.slice (some ⟨g, off, none⟩) 2 cap) := M2.c 1 2 rfl rfl
    refine bodyPost_ret (v := .agg #[.int .i64 5, .int .i64 n, .slice (some ⟨g, off, none⟩) 2 cap]) (by simp [results, Tryz.results194, go_sem, r0, r1, r2]) rfl ?_
    rw [HN.out]
    exact ⟨_, _, rfl, HKK.out _ (M2.below fun _ _ => trivial) |>.2.2, M2.below fun _ _ => trivial⟩
   ·have HN : Hid (o3 ⟨5, n, [a, b]⟩ = a) := by rw [Hid, G4, if_neg HCN.out, if_neg (by simp), if_pos (by simp [hK])]
    clear hK
    have y0 := M.c 0 0 rfl rfl
    have y1 := M.c 0 1 rfl rfl
    have y2 := M.c 0 2 rfl rfl
    have d0 := M.c 1 0 rfl rfl
    have d1 := M.c 1 1 rfl rfl
    have d2 := M.c 1 2 rfl rfl
    have ff := M.f 1 rfl
    obtain ⟨c0, c1, c2, c3, c4, c5⟩ := HCELL.out _ (M.below fun _ _ => trivial)
    have HM := show Hid _ from ((M.set 1 rfl 0 (.int .i64 a.kind)).set 1 rfl 1 (.int .i64 a.value)).set 1 rfl 2 (.slice av a.kids.length ac)
    clear M
    go_wp2_with fail
    have M2 := HM.out
    have r0 : World.cell? _ ⟨w.heap.size + 1, 0, none⟩ = some (.int .i64 a.kind) := M2.c 1 0 rfl rfl
    have r1 : World.cell? _ ⟨w.heap.size + 1, 1, none⟩ = some (.int .i64 a.value) := M2.c 1 1 rfl rfl
    have r2 : World.cell? _ ⟨w.heap.size + 1, 2, none⟩ = some (.slice av a.kids.length ac) := M2.c 1 2 rfl rfl
    refine bodyPost_ret (v := .agg #[.int .i64 a.kind, .int .i64 a.value, .slice av a.kids.length ac]) (by simp [results, Tryz.results194, go_sem, r0, r1, r2]) rfl ?_
    rw [HN.out]
    exact ⟨_, _, rfl, HKK.out _ (M2.below fun _ _ => trivial) |>.1, M2.below fun _ _ => trivial⟩
  by_cases q6 : k = 6
  ·subst q6
   have y0 := M.c 0 0 rfl rfl
   have y1 := M.c 0 1 rfl rfl
   have y2 := M.c 0 2 rfl rfl
   have d0 := M.c 1 0 rfl rfl
   have d1 := M.c 1 1 rfl rfl
   have d2 := M.c 1 2 rfl rfl
   have ff := M.f 1 rfl
   obtain ⟨c0, c1, c2, c3, c4, c5⟩ := HCELL.out _ (M.below fun _ _ => trivial)
   have HM := show Hid _ from M
   rw [hW] at y0 y1 y2 d0 d1 d2 ff c0 c1 c2 c3 c4 c5
   clear M
   go_enter Tryz.func194, Tryz.ntmps194
   go_wp2_with fail
   rw [← hW]
   clear hW
   have M := HM.out
   clear HM y0 y1 y2 d0 d1 d2 ff c0 c1 c2 c3 c4 c5
   refine (x8 a.kind a.value 1 (.slice av a.kids.length ac) _).mono ?_
   rintro x w1 ⟨rfl, b1⟩
   rw [show (decide (a.kind = 1) && decide (a.value = 1)) = n5 a 1 from rfl]
   replace M := M.call b1
   clear b1
   cases hK : n5 a 1
   ·have y0 := M.c 0 0 rfl rfl
    have y1 := M.c 0 1 rfl rfl
    have y2 := M.c 0 2 rfl rfl
    have d0 := M.c 1 0 rfl rfl
    have d1 := M.c 1 1 rfl rfl
    have d2 := M.c 1 2 rfl rfl
    have ff := M.f 1 rfl
    obtain ⟨c0, c1, c2, c3, c4, c5⟩ := HCELL.out _ (M.below fun _ _ => trivial)
    have HM := show Hid _ from M
    clear M
    go_wp2_with fail
    have M := HM.out
    clear HM y0 y1 y2 d0 d1 d2 ff c0 c1 c2 c3 c4 c5
    refine (x8 b.kind b.value 1 (.slice bv b.kids.length bc) _).mono ?_
    rintro x w1 ⟨rfl, b1⟩
    rw [show (decide (b.kind = 1) && decide (b.value = 1)) = n5 b 1 from rfl]
    replace M := M.call b1
    clear b1
    cases hK2 : n5 b 1
    ·have HN : Hid (o3 ⟨6, n, [a, b]⟩ = ⟨6, n, [a, b]⟩) := by rw [Hid, G4, if_neg HCN.out, if_neg (by simp [hK]), if_neg (by simp [hK2])]
     clear hK hK2
     have y0 := M.c 0 0 rfl rfl
     have y1 := M.c 0 1 rfl rfl
     have y2 := M.c 0 2 rfl rfl
     have d0 := M.c 1 0 rfl rfl
     have d1 := M.c 1 1 rfl rfl
     have d2 := M.c 1 2 rfl rfl
     have ff := M.f 1 rfl
     obtain ⟨c0, c1, c2, c3, c4, c5⟩ := HCELL.out _ (M.below fun _ _ => trivial)
     have HM := show Hid _ from ((M.set 1 rfl 0 (.int .i64 6)).set 1 rfl 1 (.int .i64 n)).set 1 rfl 2 (.slice (some ⟨g, off, none⟩) 2 cap)
     clear M
     go_wp2_with fail
     have M2 := HM.out
     have r0 : World.cell? _ ⟨w.heap.size + 1, 0, none⟩ = some (.int .i64 6) := M2.c 1 0 rfl rfl
     have r1 : World.cell? _ ⟨w.heap.size + 1, 1, none⟩ = some (.int .i64 n) := M2.c 1 1 rfl rfl
     have r2 : World.cell? _ ⟨w.heap.size + 1, 2, none⟩ = some (.slice (some ⟨g, off, none⟩) 2 cap) := M2.c 1 2 rfl rfl
     refine bodyPost_ret (v := .agg #[.int .i64 6, .int .i64 n, .slice (some ⟨g, off, none⟩) 2 cap]) (by simp [results, Tryz.results194, go_sem, r0, r1, r2]) rfl ?_
     rw [HN.out]
     exact ⟨_, _, rfl, HKK.out _ (M2.below fun _ _ => trivial) |>.2.2, M2.below fun _ _ => trivial⟩
    ·have HN : Hid (o3 ⟨6, n, [a, b]⟩ = a) := by rw [Hid, G4, if_neg HCN.out, if_neg (by simp [hK]), if_pos (by simp [hK2])]
     clear hK hK2
     have y0 := M.c 0 0 rfl rfl
     have y1 := M.c 0 1 rfl rfl
     have y2 := M.c 0 2 rfl rfl
     have d0 := M.c 1 0 rfl rfl
     have d1 := M.c 1 1 rfl rfl
     have d2 := M.c 1 2 rfl rfl
     have ff := M.f 1 rfl
     obtain ⟨c0, c1, c2, c3, c4, c5⟩ := HCELL.out _ (M.below fun _ _ => trivial)
     have HM := show Hid _ from ((M.set 1 rfl 0 (.int .i64 a.kind)).set 1 rfl 1 (.int .i64 a.value)).set 1 rfl 2 (.slice av a.kids.length ac)
     clear M
     go_wp2_with fail
     have M2 := HM.out
     have r0 : World.cell? _ ⟨w.heap.size + 1, 0, none⟩ = some (.int .i64 a.kind) := M2.c 1 0 rfl rfl
     have r1 : World.cell? _ ⟨w.heap.size + 1, 1, none⟩ = some (.int .i64 a.value) := M2.c 1 1 rfl rfl
     have r2 : World.cell? _ ⟨w.heap.size + 1, 2, none⟩ = some (.slice av a.kids.length ac) := M2.c 1 2 rfl rfl
     refine bodyPost_ret (v := .agg #[.int .i64 a.kind, .int .i64 a.value, .slice av a.kids.length ac]) (by simp [results, Tryz.results194, go_sem, r0, r1, r2]) rfl ?_
     rw [HN.out]
     exact ⟨_, _, rfl, HKK.out _ (M2.below fun _ _ => trivial) |>.1, M2.below fun _ _ => trivial⟩
   ·have HN : Hid (o3 ⟨6, n, [a, b]⟩ = b) := by rw [Hid, G4, if_neg HCN.out, if_pos (by simp [hK])]
    clear hK
    have y0 := M.c 0 0 rfl rfl
    have y1 := M.c 0 1 rfl rfl
    have y2 := M.c 0 2 rfl rfl
    have d0 := M.c 1 0 rfl rfl
    have d1 := M.c 1 1 rfl rfl
    have d2 := M.c 1 2 rfl rfl
    have ff := M.f 1 rfl
    obtain ⟨c0, c1, c2, c3, c4, c5⟩ := HCELL.out _ (M.below fun _ _ => trivial)
    have HM := show Hid _ from ((M.set 1 rfl 0 (.int .i64 b.kind)).set 1 rfl 1 (.int .i64 b.value)).set 1 rfl 2 (.slice bv b.kids.length bc)
    clear M
    go_wp2_with fail
    have M2 := HM.out
    have r0 : World.cell? _ ⟨w.heap.size + 1, 0, none⟩ = some (.int .i64 b.kind) := M2.c 1 0 rfl rfl
    have r1 : World.cell? _ ⟨w.heap.size + 1, 1, none⟩ = some (.int .i64 b.value) := M2.c 1 1 rfl rfl
    have r2 : World.cell? _ ⟨w.heap.size + 1, 2, none⟩ = some (.slice bv b.kids.length bc) := M2.c 1 2 rfl rfl
    refine bodyPost_ret (v := .agg #[.int .i64 b.kind, .int .i64 b.value, .slice bv b.kids.length bc]) (by simp [results, Tryz.results194, go_sem, r0, r1, r2]) rfl ?_
    rw [HN.out]
    exact ⟨_, _, rfl, HKK.out _ (M2.below fun _ _ => trivial) |>.2.1, M2.below fun _ _ => trivial⟩
  have p4 : (k == 4) = false := by simp [q4]
  have p8 : (k == 8) = false := by simp [q8]
  have p5 : (k == 5) = false := by simp [q5]
  have p6 : (k == 6) = false := by simp [q6]
  have HN : Hid (o3 ⟨k, n, [a, b]⟩ = ⟨k, n, [a, b]⟩) := by rw [Hid, G4, if_neg HCN.out, if_neg (by simp [q4, q5, q6, q8]), if_neg (by simp [q4, q5, q6, q8])]
  clear q4 q5 q6 q8
  have y0 := M.c 0 0 rfl rfl
  have y1 := M.c 0 1 rfl rfl
  have y2 := M.c 0 2 rfl rfl
  have d0 := M.c 1 0 rfl rfl
  have d1 := M.c 1 1 rfl rfl
  have d2 := M.c 1 2 rfl rfl
  have ff := M.f 1 rfl
  obtain ⟨c0, c1, c2, c3, c4, c5⟩ := HCELL.out _ (M.below fun _ _ => trivial)
  rw [hW] at y0 y1 y2 d0 d1 d2 ff c0 c1 c2 c3 c4 c5
  have HM : Hid (r8 (fun _ => True) (fun _ => True) w _ [.box w.heap.size [.int .i64 k, .int .i64 n, .slice (some ⟨g, off, none⟩) 2 cap], .box (w.heap.size + 1) [.int .i64 k, .int .i64 n, .slice (some ⟨g, off, none⟩) 2 cap]]) := ((r8.start fun _ _ => trivial).box [.int .i64 k, .int .i64 n, .slice (some ⟨g, off, none⟩) 2 cap] 104).box' [.int .i64 k, .int .i64 n, .slice (some ⟨g, off, none⟩) 2 cap] 104 (by simp)
  clear M
  go_enter Tryz.func194, Tryz.ntmps194
  go_wp2_with fail
  have M2 := HM.out
  have r0 : World.cell? _ ⟨w.heap.size + 1, 0, none⟩ = some (.int .i64 k) := M2.c 1 0 rfl rfl
  have r1 : World.cell? _ ⟨w.heap.size + 1, 1, none⟩ = some (.int .i64 n) := M2.c 1 1 rfl rfl
  have r2 : World.cell? _ ⟨w.heap.size + 1, 2, none⟩ = some (.slice (some ⟨g, off, none⟩) 2 cap) := M2.c 1 2 rfl rfl
  refine bodyPost_ret (v := .agg #[.int .i64 k, .int .i64 n, .slice (some ⟨g, off, none⟩) 2 cap]) (by simp [results, Tryz.results194, go_sem, r0, r1, r2]) rfl ?_
  rw [HN.out]
  exact ⟨_, _, rfl, HKK.out _ (M2.below fun _ _ => trivial) |>.2.2, M2.below fun _ _ => trivial⟩
theorem aM5 (n : Int) (a b c : b9) (v : Value) (S : Nat → Prop) (w : World) (h : m5 w v [a, b, c] S) :
  Calls Tryz.prog 194 #[.agg #[.int .i64 11, .int .i64 n, v]] w fun x w' => bd9 w S (o3 ⟨11, n, [a, b, c]⟩) x w' := by
 have hh := h
 obtain ⟨g, off, cap, av, ac, bv, bc, cv, cc, rfl, hg, hs, hcell, k0, k1, k2⟩ := h.three
 have HCELL : Hid (∀ W, Below w.heap.size w W → W.cell? ⟨g, off, none⟩ = some (.int .i64 a.kind) ∧ W.cell? ⟨g, off + 1, none⟩ = some (.int .i64 a.value) ∧ W.cell? ⟨g, off + 2, none⟩ = some (.slice av a.kids.length ac) ∧
   W.cell? ⟨g, off + 3, none⟩ = some (.int .i64 b.kind) ∧ W.cell? ⟨g, off + 4, none⟩ = some (.int .i64 b.value) ∧ W.cell? ⟨g, off + 5, none⟩ = some (.slice bv b.kids.length bc) ∧
   W.cell? ⟨g, off + 6, none⟩ = some (.int .i64 c.kind) ∧ W.cell? ⟨g, off + 7, none⟩ = some (.int .i64 c.value) ∧ W.cell? ⟨g, off + 8, none⟩ = some (.slice cv c.kids.length cc)) := fun W hW => by
  have hc := fun o => (V8 hW).1 g o hg
  simp only [hc]; exact hcell
 have HKK : Hid (∀ W, Below w.heap.size w W → m5 W (.slice av a.kids.length ac) a.kids S ∧ m5 W (.slice bv b.kids.length bc) b.kids S ∧ m5 W (.slice cv c.kids.length cc) c.kids S ∧ m5 W (.slice (some ⟨g, off, none⟩) 3 cap) [a, b, c] S) := fun W hW =>
  ⟨m5.same k0 fun b _ hl => hW.block b hl, m5.same k1 fun b _ hl => hW.block b hl, m5.same k2 fun b _ hl => hW.block b hl, m5.same hh fun b _ hl => hW.block b hl⟩
 clear hcell k0 k1 k2 h hh hs
 obtain ⟨W, hW, M⟩ : ∃ W, W = (w.alloc (.cells #[.int .i64 11, .int .i64 n, .slice (some ⟨g, off, none⟩) 3 cap] 104)).alloc (.cells #[.int .i64 0, .int .i64 0, .slice none 0 0] 104) ∧ r8 (fun _ => True) (fun _ => True) w W [.box w.heap.size [.int .i64 11, .int .i64 n, .slice (some ⟨g, off, none⟩) 3 cap], .box (w.heap.size + 1) [.int .i64 0, .int .i64 0, .slice none 0 0]] :=
  ⟨_, rfl, ((r8.start fun _ _ => trivial).box _ _).box' _ _ (by simp)⟩
 by_cases qa : a.kind = 1
 case neg =>
  have pa : (a.kind != 1) = true := by simp [qa]
  have HN : Hid (o3 ⟨11, n, [a, b, c]⟩ = ⟨11, n, [a, b, c]⟩) := by rw [Hid, aC8, if_neg (fun h => qa h.1)]
  clear qa
  have y0 := M.c 0 0 rfl rfl
  have y1 := M.c 0 1 rfl rfl
  have y2 := M.c 0 2 rfl rfl
  have d0 := M.c 1 0 rfl rfl
  have d1 := M.c 1 1 rfl rfl
  have d2 := M.c 1 2 rfl rfl
  have ff := M.f 1 rfl
  obtain ⟨c0, c1, c2, c3, c4, c5, c6, c7, c8⟩ := HCELL.out _ (M.below fun _ _ => trivial)
  rw [hW] at y0 y1 y2 d0 d1 d2 ff c0 c1 c2 c3 c4 c5 c6 c7 c8
  have HM : Hid (r8 (fun _ => True) (fun _ => True) w _ [.box w.heap.size [.int .i64 11, .int .i64 n, .slice (some ⟨g, off, none⟩) 3 cap], .box (w.heap.size + 1) [.int .i64 11, .int .i64 n, .slice (some ⟨g, off, none⟩) 3 cap]]) := ((r8.start fun _ _ => trivial).box [.int .i64 11, .int .i64 n, .slice (some ⟨g, off, none⟩) 3 cap] 104).box' [.int .i64 11, .int .i64 n, .slice (some ⟨g, off, none⟩) 3 cap] 104 (by simp)
  clear M
  go_enter Tryz.func194, Tryz.ntmps194
  go_wp2_with fail
  have M2 := HM.out
  have r0 : World.cell? _ ⟨w.heap.size + 1, 0, none⟩ = some (.int .i64 11) := M2.c 1 0 rfl rfl
  have r1 : World.cell? _ ⟨w.heap.size + 1, 1, none⟩ = some (.int .i64 n) := M2.c 1 1 rfl rfl
  have r2 : World.cell? _ ⟨w.heap.size + 1, 2, none⟩ = some (.slice (some ⟨g, off, none⟩) 3 cap) := M2.c 1 2 rfl rfl
  refine bodyPost_ret (v := .agg #[.int .i64 11, .int .i64 n, .slice (some ⟨g, off, none⟩) 3 cap]) (by simp [results, Tryz.results194, go_sem, r0, r1, r2]) rfl ?_
  rw [HN.out]
  exact ⟨_, _, rfl, HKK.out _ (M2.below fun _ _ => trivial) |>.2.2.2, M2.below fun _ _ => trivial⟩
 have pa : (a.kind != 1) = false := by simp [qa]
 have HQA := show Hid _ from qa
 clear qa
 have y0 := M.c 0 0 rfl rfl
 have y1 := M.c 0 1 rfl rfl
 have y2 := M.c 0 2 rfl rfl
 have d0 := M.c 1 0 rfl rfl
 have d1 := M.c 1 1 rfl rfl
 have d2 := M.c 1 2 rfl rfl
 have ff := M.f 1 rfl
 obtain ⟨c0, c1, c2, c3, c4, c5, c6, c7, c8⟩ := HCELL.out _ (M.below fun _ _ => trivial)
 have HM := show Hid _ from M
 rw [hW] at y0 y1 y2 d0 d1 d2 ff c0 c1 c2 c3 c4 c5 c6 c7 c8
 clear M
 go_enter Tryz.func194, Tryz.ntmps194
 go_wp2_with fail
 rw [← hW]
 clear hW
 have M := HM.out
 clear HM y0 y1 y2 d0 d1 d2 ff c0 c1 c2 c3 c4 c5 c6 c7 c8
 refine (ao0 b S _ _ ⟨_, rfl, m5.read (HKK.out _ (M.below fun _ _ => trivial) |>.2.1) fun _ h => h⟩).mono ?_
 rintro x w1 ⟨rfl, b1⟩
 replace M := M.call b1
 clear b1
 cases hb : B5 b
 ·have HN : Hid (o3 ⟨11, n, [a, b, c]⟩ = ⟨11, n, [a, b, c]⟩) := by rw [Hid, aC8, if_neg (fun h => by rw [hb] at h; exact absurd h.2.1 (by simp))]
  clear hb
  have y0 := M.c 0 0 rfl rfl
  have y1 := M.c 0 1 rfl rfl
  have y2 := M.c 0 2 rfl rfl
  have d0 := M.c 1 0 rfl rfl
  have d1 := M.c 1 1 rfl rfl
  have d2 := M.c 1 2 rfl rfl
  have ff := M.f 1 rfl
  obtain ⟨c0, c1, c2, c3, c4, c5, c6, c7, c8⟩ := HCELL.out _ (M.below fun _ _ => trivial)
  have HM := show Hid _ from ((M.set 1 rfl 0 (.int .i64 11)).set 1 rfl 1 (.int .i64 n)).set 1 rfl 2 (.slice (some ⟨g, off, none⟩) 3 cap)
  clear M
  go_wp2_with fail
  have M2 := HM.out
  have r0 : World.cell? _ ⟨w.heap.size + 1, 0, none⟩ = some (.int .i64 11) := M2.c 1 0 rfl rfl
  have r1 : World.cell? _ ⟨w.heap.size + 1, 1, none⟩ = some (.int .i64 n) := M2.c 1 1 rfl rfl
  have r2 : World.cell? _ ⟨w.heap.size + 1, 2, none⟩ = some (.slice (some ⟨g, off, none⟩) 3 cap) := M2.c 1 2 rfl rfl
  refine bodyPost_ret (v := .agg #[.int .i64 11, .int .i64 n, .slice (some ⟨g, off, none⟩) 3 cap]) (by simp [results, Tryz.results194, go_sem, r0, r1, r2]) rfl ?_
  rw [HN.out]
  exact ⟨_, _, rfl, HKK.out _ (M2.below fun _ _ => trivial) |>.2.2.2, M2.below fun _ _ => trivial⟩
 ·have y0 := M.c 0 0 rfl rfl
  have y1 := M.c 0 1 rfl rfl
  have y2 := M.c 0 2 rfl rfl
  have d0 := M.c 1 0 rfl rfl
  have d1 := M.c 1 1 rfl rfl
  have d2 := M.c 1 2 rfl rfl
  have ff := M.f 1 rfl
  obtain ⟨c0, c1, c2, c3, c4, c5, c6, c7, c8⟩ := HCELL.out _ (M.below fun _ _ => trivial)
  have HM := show Hid _ from M
  clear M
  go_wp2_with fail
  have M := HM.out
  clear HM y0 y1 y2 d0 d1 d2 ff c0 c1 c2 c3 c4 c5 c6 c7 c8
  refine (ao0 c S _ _ ⟨_, rfl, m5.read (HKK.out _ (M.below fun _ _ => trivial) |>.2.2.1) fun _ h => h⟩).mono ?_
  rintro x w1 ⟨rfl, b1⟩
  replace M := M.call b1
  clear b1
  cases hc : B5 c
  ·have HN : Hid (o3 ⟨11, n, [a, b, c]⟩ = ⟨11, n, [a, b, c]⟩) := by rw [Hid, aC8, if_neg (fun h => by rw [hc] at h; exact absurd h.2.2 (by simp))]
   clear hb hc
   have y0 := M.c 0 0 rfl rfl
   have y1 := M.c 0 1 rfl rfl
   have y2 := M.c 0 2 rfl rfl
   have d0 := M.c 1 0 rfl rfl
   have d1 := M.c 1 1 rfl rfl
   have d2 := M.c 1 2 rfl rfl
   have ff := M.f 1 rfl
   obtain ⟨c0, c1, c2, c3, c4, c5, c6, c7, c8⟩ := HCELL.out _ (M.below fun _ _ => trivial)
   have HM := show Hid _ from ((M.set 1 rfl 0 (.int .i64 11)).set 1 rfl 1 (.int .i64 n)).set 1 rfl 2 (.slice (some ⟨g, off, none⟩) 3 cap)
   clear M
   go_wp2_with fail
   have M2 := HM.out
   have r0 : World.cell? _ ⟨w.heap.size + 1, 0, none⟩ = some (.int .i64 11) := M2.c 1 0 rfl rfl
   have r1 : World.cell? _ ⟨w.heap.size + 1, 1, none⟩ = some (.int .i64 n) := M2.c 1 1 rfl rfl
   have r2 : World.cell? _ ⟨w.heap.size + 1, 2, none⟩ = some (.slice (some ⟨g, off, none⟩) 3 cap) := M2.c 1 2 rfl rfl
   refine bodyPost_ret (v := .agg #[.int .i64 11, .int .i64 n, .slice (some ⟨g, off, none⟩) 3 cap]) (by simp [results, Tryz.results194, go_sem, r0, r1, r2]) rfl ?_
   rw [HN.out]
   exact ⟨_, _, rfl, HKK.out _ (M2.below fun _ _ => trivial) |>.2.2.2, M2.below fun _ _ => trivial⟩
  ·by_cases qv : a.value = 0
   ·have pv : (a.value != 0) = false := by simp [qv]
    have HN : Hid (o3 ⟨11, n, [a, b, c]⟩ = c) := by rw [Hid, aC8, if_pos ⟨HQA.out, hb, hc⟩, if_neg (by simp [qv])]
    clear qv hb hc
    have y0 := M.c 0 0 rfl rfl
    have y1 := M.c 0 1 rfl rfl
    have y2 := M.c 0 2 rfl rfl
    have d0 := M.c 1 0 rfl rfl
    have d1 := M.c 1 1 rfl rfl
    have d2 := M.c 1 2 rfl rfl
    have ff := M.f 1 rfl
    obtain ⟨c0, c1, c2, c3, c4, c5, c6, c7, c8⟩ := HCELL.out _ (M.below fun _ _ => trivial)
    have HM := show Hid _ from ((M.set 1 rfl 0 (.int .i64 c.kind)).set 1 rfl 1 (.int .i64 c.value)).set 1 rfl 2 (.slice cv c.kids.length cc)
    clear M
    go_wp2_with fail
    have M2 := HM.out
    have r0 : World.cell? _ ⟨w.heap.size + 1, 0, none⟩ = some (.int .i64 c.kind) := M2.c 1 0 rfl rfl
    have r1 : World.cell? _ ⟨w.heap.size + 1, 1, none⟩ = some (.int .i64 c.value) := M2.c 1 1 rfl rfl
    have r2 : World.cell? _ ⟨w.heap.size + 1, 2, none⟩ = some (.slice cv c.kids.length cc) := M2.c 1 2 rfl rfl
    refine bodyPost_ret (v := .agg #[.int .i64 c.kind, .int .i64 c.value, .slice cv c.kids.length cc]) (by simp [results, Tryz.results194, go_sem, r0, r1, r2]) rfl ?_
    rw [HN.out]
    exact ⟨_, _, rfl, HKK.out _ (M2.below fun _ _ => trivial) |>.2.2.1, M2.below fun _ _ => trivial⟩
   ·have pv : (a.value != 0) = true := by simp [qv]
    have HN : Hid (o3 ⟨11, n, [a, b, c]⟩ = b) := by rw [Hid, aC8, if_pos ⟨HQA.out, hb, hc⟩, if_pos qv]
    clear qv hb hc
    have y0 := M.c 0 0 rfl rfl
    have y1 := M.c 0 1 rfl rfl
    have y2 := M.c 0 2 rfl rfl
    have d0 := M.c 1 0 rfl rfl
    have d1 := M.c 1 1 rfl rfl
    have d2 := M.c 1 2 rfl rfl
    have ff := M.f 1 rfl
    obtain ⟨c0, c1, c2, c3, c4, c5, c6, c7, c8⟩ := HCELL.out _ (M.below fun _ _ => trivial)
    have HM := show Hid _ from ((M.set 1 rfl 0 (.int .i64 b.kind)).set 1 rfl 1 (.int .i64 b.value)).set 1 rfl 2 (.slice bv b.kids.length bc)
    clear M
    go_wp2_with fail
    have M2 := HM.out
    have r0 : World.cell? _ ⟨w.heap.size + 1, 0, none⟩ = some (.int .i64 b.kind) := M2.c 1 0 rfl rfl
    have r1 : World.cell? _ ⟨w.heap.size + 1, 1, none⟩ = some (.int .i64 b.value) := M2.c 1 1 rfl rfl
    have r2 : World.cell? _ ⟨w.heap.size + 1, 2, none⟩ = some (.slice bv b.kids.length bc) := M2.c 1 2 rfl rfl
    refine bodyPost_ret (v := .agg #[.int .i64 b.kind, .int .i64 b.value, .slice bv b.kids.length bc]) (by simp [results, Tryz.results194, go_sem, r0, r1, r2]) rfl ?_
    rw [HN.out]
    exact ⟨_, _, rfl, HKK.out _ (M2.below fun _ _ => trivial) |>.2.1, M2.below fun _ _ => trivial⟩
theorem ac5 (k n : Int) (ks : List b9) (v : Value) (S : Nat → Prop) (w : World) (h : m5 w v ks S) (hk : k < 4) (hN : o3 ⟨k, n, ks⟩ = ⟨k, n, ks⟩) :
  Calls Tryz.prog 194 #[.agg #[.int .i64 k, .int .i64 n, v]] w fun x w' => bd9 w S (o3 ⟨k, n, ks⟩) x w' := by
 have HN := show Hid _ from hN
 obtain ⟨ad, cap, rfl, -⟩ := h.open
 have HKK : Hid (∀ W, Below w.heap.size w W → m5 W (.slice ad ks.length cap) ks S) := fun W hW => m5.same h fun b _ hl => hW.block b hl
 have p11 : (k == 11) = false := by simp; omega
 clear h hN
 obtain ⟨W, hW, M⟩ : ∃ W, W = (w.alloc (.cells #[.int .i64 k, .int .i64 n, .slice ad ks.length cap] 104)).alloc (.cells #[.int .i64 0, .int .i64 0, .slice none 0 0] 104) ∧ r8 (fun _ => True) (fun _ => True) w W [.box w.heap.size [.int .i64 k, .int .i64 n, .slice ad ks.length cap], .box (w.heap.size + 1) [.int .i64 0, .int .i64 0, .slice none 0 0]] :=
  ⟨_, rfl, ((r8.start fun _ _ => trivial).box _ _).box' _ _ (by simp)⟩
 have y0 := M.c 0 0 rfl rfl
 have y1 := M.c 0 1 rfl rfl
 have y2 := M.c 0 2 rfl rfl
 have d0 := M.c 1 0 rfl rfl
 have d1 := M.c 1 1 rfl rfl
 have d2 := M.c 1 2 rfl rfl
 have ff := M.f 1 rfl
 rw [hW] at y0 y1 y2 d0 d1 d2 ff
 have HM : Hid (r8 (fun _ => True) (fun _ => True) w _ [.box w.heap.size [.int .i64 k, .int .i64 n, .slice ad ks.length cap], .box (w.heap.size + 1) [.int .i64 k, .int .i64 n, .slice ad ks.length cap]]) := ((r8.start fun _ _ => trivial).box [.int .i64 k, .int .i64 n, .slice ad ks.length cap] 104).box' [.int .i64 k, .int .i64 n, .slice ad ks.length cap] 104 (by simp)
 clear M
 go_enter Tryz.func194, Tryz.ntmps194
 go_wp2_with fail
 have M2 := HM.out
 have r0 : World.cell? _ ⟨w.heap.size + 1, 0, none⟩ = some (.int .i64 k) := M2.c 1 0 rfl rfl
 have r1 : World.cell? _ ⟨w.heap.size + 1, 1, none⟩ = some (.int .i64 n) := M2.c 1 1 rfl rfl
 have r2 : World.cell? _ ⟨w.heap.size + 1, 2, none⟩ = some (.slice ad ks.length cap) := M2.c 1 2 rfl rfl
 refine bodyPost_ret (v := .agg #[.int .i64 k, .int .i64 n, .slice ad ks.length cap]) (by simp [results, Tryz.results194, go_sem, r0, r1, r2]) rfl ?_
 rw [HN.out]
 exact ⟨_, _, rfl, HKK.out _ (M2.below fun _ _ => trivial), M2.below fun _ _ => trivial⟩
theorem aE2 {e : b9} (h : E1 e = true) : (e.kind = 11 ∧ e.kids.length = 3) ∨ (4 ≤ e.kind ∧ e.kind ≤ 10 ∧ e.kids.length = 2) ∨ (e.kind < 4 ∧ 1 ≤ e.kind ∧ e.kids.length ≤ 1) := by
 have h1 := as2 h
 unfold o6 at h1
 split at h1
 ·right; right; omega
 split at h1
 ·right; right; omega
 split at h1
 ·right; left; omega
 split at h1
 ·left; omega
 ·omega
theorem aT2 (e : b9) (hg : E1 e = true) (v : Value) (S : Nat → Prop) (w : World) (h : m5 w v e.kids S) :
  Calls Tryz.prog 194 #[.agg #[.int .i64 e.kind, .int .i64 e.value, v]] w fun x w' => bd9 w S (o3 e) x w' := by
 rcases e with ⟨k, n, ks⟩
 have hk := (C0 _).1 (J4 hg)
 rcases aE2 hg with ⟨h1, h2⟩ | ⟨h1, h2, h3⟩ | ⟨h1, h2, h3⟩
 ·have h1' : k = 11 := h1
  subst h1'
  match ks, h2, h with
  | [a, b, c], _, h => exact aM5 n a b c v S w h
 ·match ks, h3, h, hk with
  | [a, b], _, h, hk => exact aM6 k n a b v S w h h1 h2 (U3 (hk a (by simp [b9.kids]))) (U3 (hk b (by simp [b9.kids])))
 ·match ks, h3, h with
  | [], _, h => exact ac5 k n _ v S w h h1 rfl
  | [a], _, h => exact ac5 k n _ v S w h h1 rfl
theorem bd5 {w : World} {g : Nat} {cs : List Value} (h : Y9 w g cs) : X4 w (.slice (some ⟨g, 0, none⟩) 1 1) 1 cs.length cs := by
 refine ⟨by simp, _, _, rfl, bS8 _, by unfold maxLen; omega, fun _ => ⟨_, _, rfl, h.lt, fun j u hj => ?_⟩⟩
 rw [bU9, h.cell j]; exact hj
theorem aW5 {e : b9} (h : E1 e = true) : E1 ⟨e.kind, e.value, e.kids.map d8⟩ = true := by
 rw [U4] at h ⊢
 simp only [b9.kids, b9.kind, b9.value, List.length_map, bR1] at h ⊢
 refine ⟨h.1, (C0 _).2 fun x hx => ?_⟩
 obtain ⟨y, hy, rfl⟩ := List.mem_map.1 hx
 exact a52 y ((C0 _).1 h.2 y hy)
def FoE (e : b9) : Prop := E1 e = true → ∀ (φ : Nat → Prop) (v : Value) (w : World), L1 w φ v e →
 Calls Tryz.prog 133 #[v] w fun x w' => ∃ a c S, x = .returned (.agg #[.int .i64 (d8 e).kind, .int .i64 (d8 e).value, .slice a (d8 e).kids.length c]) ∧ m5 w' (.slice a (d8 e).kids.length c) (d8 e).kids S ∧ (∀ b, S b → w.heap.size ≤ b ∧ b < w'.heap.size) ∧ Below w.heap.size w w'
theorem aT3 (e : b9) : FoE e := by
 refine b9.ind (P := FoE) (fun k0 n0 ks ih => ?_) e
 obtain ⟨e, he⟩ : ∃ e : b9, e = ⟨k0, n0, ks⟩ := ⟨_, rfl⟩
 have hks : ks = e.kids := by rw [he]; rfl
 rw [← he]
 subst hks
 clear he
 intro hgood φ v w h
 obtain ⟨kv, rfl, hk⟩ := h
 obtain ⟨ak, ck, rfl, -, hn, -, hc⟩ := hk.open
 have hl3 : e.kids.length ≤ 3 := by have h1 := as2 hgood; have h2 := a01 e.kind; omega
 obtain ⟨W, hW, M⟩ : ∃ W, W = ((w.alloc (.cells #[.int .i64 e.kind, .int .i64 e.value, .slice ak e.kids.length ck] 104)).alloc (.cells #[.int .i64 0, .int .i64 0, .slice none 0 0] 104)).alloc (.cells #[.int .i64 e.kind, .int .i64 e.value, .slice none 0 0] 104) ∧
   r8 (fun _ => True) (fun _ => True) w W [.box w.heap.size [.int .i64 e.kind, .int .i64 e.value, .slice ak e.kids.length ck], .box (w.heap.size + 1) [.int .i64 0, .int .i64 0, .slice none 0 0], .box (w.heap.size + 1 + 1) [.int .i64 e.kind, .int .i64 e.value, .slice none 0 0], .row 104 3 (.slice none 0 0) 0 [], .own (fun _ => False) (fun w => l8 w [] (fun _ => False) [])] :=
  ⟨_, rfl, (((((r8.start fun _ _ => trivial).box _ _).box' _ _ (by simp)).box' _ _ (by simp)).nil 104 3).noneE⟩
 have HC0 := show Hid _ from hc
 have HGK := show Hid (∀ x ∈ e.kids, E1 x = true) from (C0 _).1 (J4 hgood)
 have HM := show Hid _ from M
 clear hk hc M
 go_enter Tryz.func133, Tryz.ntmps133
 go_wp2_with fail
 rw [← hW]
 clear hW
 go_loopw [4] (fun i wr => ∃ (k : Nat) (a : Option Addr) (c : Nat) (S : Nat → Prop) (ys : List Value), k ≤ e.kids.length ∧ i = .int .i64 k ∧ r8 (fun _ => True) (fun _ => True) w wr [.box w.heap.size [.int .i64 e.kind, .int .i64 e.value, .slice ak e.kids.length ck], .box (w.heap.size + 1) [.int .i64 0, .int .i64 0, .slice none 0 0], .box (w.heap.size + 1 + 1) [.int .i64 e.kind, .int .i64 e.value, .slice a k c], .row 104 3 (.slice a k c) k ys, .own S (fun w => l8 w ((e.kids.take k).map d8) S ys)]) (fun i _ => e.kids.length - (intOf i).toNat)
 case atStart => exact ⟨0, none, 0, fun _ => False, [], bU3 _, rfl, HM.out⟩
 case round =>
  clear HM
  obtain ⟨k, a, c, S, ys, hk, rfl, M⟩ := hrel
  by_cases hlt : k < e.kids.length
  ·obtain ⟨b, off, kv, rfl, hbk, hf, c0, c1, c2, hkv⟩ := HC0.out k hlt
   obtain ⟨ka, kc, rfl, -⟩ := hkv.open
   have HE : Hid (∀ w', Below w.heap.size w w' → Calls Tryz.prog 133 #[.agg #[.int .i64 e.kids[k].kind, .int .i64 e.kids[k].value, .slice ka e.kids[k].kids.length kc]] w' fun x w'' => ∃ a c S, x = .returned (.agg #[.int .i64 (d8 e.kids[k]).kind, .int .i64 (d8 e.kids[k]).value, .slice a (d8 e.kids[k]).kids.length c]) ∧ m5 w'' (.slice a (d8 e.kids[k]).kids.length c) (d8 e.kids[k]).kids S ∧ (∀ b, S b → w'.heap.size ≤ b ∧ b < w''.heap.size) ∧ Below w'.heap.size w' w'') := fun w' hw =>
    ih _ (bS7 hlt) (HGK.out _ (bS7 hlt)) φ _ _ ⟨_, rfl, s7.nice _ _ _ _ _ _ (T3.below hw) hkv⟩
   have HC : Hid (∀ (s : Nat) (g : Nat → Value) (w' : World), (fun (s : Nat) (g : Nat → Value) (w' : World) => match s with
 | 0 => r8 (fun _ => True) (fun _ => True) w w' ([.box w.heap.size [.int .i64 e.kind, .int .i64 e.value, .slice (some ⟨b, off, none⟩) e.kids.length ck], .box (w.heap.size + 1) [.int .i64 0, .int .i64 0, .slice none 0 0], .box (w.heap.size + 1 + 1) [.int .i64 e.kind, .int .i64 e.value, .slice a k c], .row 104 3 (.slice a k c) k ys, .own S (fun w => l8 w ((e.kids.take k).map d8) S ys)])
 | 1 => ∃ a7 c7 T, g 0 = .agg #[.int .i64 (d8 e.kids[k]).kind, .int .i64 (d8 e.kids[k]).value, .slice a7 (d8 e.kids[k]).kids.length c7] ∧ r8 (fun _ => True) (fun _ => True) w w' ([.box w.heap.size [.int .i64 e.kind, .int .i64 e.value, .slice (some ⟨b, off, none⟩) e.kids.length ck], .box (w.heap.size + 1) [.int .i64 0, .int .i64 0, .slice none 0 0], .box (w.heap.size + 1 + 1) [.int .i64 e.kind, .int .i64 e.value, .slice a k c], .row 104 3 (.slice a k c) k ys, .own S (fun w => l8 w ((e.kids.take k).map d8) S ys), .own T (fun w => m5 w (.slice a7 (d8 e.kids[k]).kids.length c7) (d8 e.kids[k]).kids T)])
 | 2 => ∃ a7 c7 T gb, g 1 = .slice (some ⟨gb, 0, none⟩) 1 1 ∧ r8 (fun _ => True) (fun _ => True) w w' ([.box w.heap.size [.int .i64 e.kind, .int .i64 e.value, .slice (some ⟨b, off, none⟩) e.kids.length ck], .box (w.heap.size + 1) [.int .i64 0, .int .i64 0, .slice none 0 0], .box (w.heap.size + 1 + 1) [.int .i64 e.kind, .int .i64 e.value, .slice a k c], .row 104 3 (.slice a k c) k ys, .own S (fun w => l8 w ((e.kids.take k).map d8) S ys), .own T (fun w => m5 w (.slice a7 (d8 e.kids[k]).kids.length c7) (d8 e.kids[k]).kids T), .box gb [.int .i64 (d8 e.kids[k]).kind, .int .i64 (d8 e.kids[k]).value, .slice a7 (d8 e.kids[k]).kids.length c7]])
 | 3 => ∃ a7 c7 T gb a9 c9, g 2 = .slice a9 (k + 1) c9 ∧ r8 (fun _ => True) (fun _ => True) w w' ([.box w.heap.size [.int .i64 e.kind, .int .i64 e.value, .slice (some ⟨b, off, none⟩) e.kids.length ck], .box (w.heap.size + 1) [.int .i64 0, .int .i64 0, .slice none 0 0], .box (w.heap.size + 1 + 1) [.int .i64 e.kind, .int .i64 e.value, .slice a k c], .row 104 3 (.slice a9 (k + 1) c9) (k + 1) (ys ++ [.int .i64 (d8 e.kids[k]).kind, .int .i64 (d8 e.kids[k]).value, .slice a7 (d8 e.kids[k]).kids.length c7]), .own S (fun w => l8 w ((e.kids.take k).map d8) S ys), .own T (fun w => m5 w (.slice a7 (d8 e.kids[k]).kids.length c7) (d8 e.kids[k]).kids T), .box gb [.int .i64 (d8 e.kids[k]).kind, .int .i64 (d8 e.kids[k]).value, .slice a7 (d8 e.kids[k]).kids.length c7]])
 | _ => False : Nat → (Nat → Value) → World → Prop) s g w' → w'.cell? ⟨w.heap.size + 1 + 1, 2, none⟩ = some (.slice a k c) ∧ w'.cell? ⟨w.heap.size, 2, none⟩ = some (.slice (some ⟨b, off, none⟩) e.kids.length ck) ∧ w'.cell? ⟨b, off + k * 3, none⟩ = some (.int .i64 e.kids[k].kind) ∧ w'.cell? ⟨b, off + k * 3 + 1, none⟩ = some (.int .i64 e.kids[k].value) ∧ w'.cell? ⟨b, off + k * 3 + 2, none⟩ = some (.slice ka e.kids[k].kids.length kc)) := by
    intro s g w' h
    have key : ∀ (L : List Q5), r8 (fun _ => True) (fun _ => True) w w' L → L[0]? = some (.box w.heap.size [.int .i64 e.kind, .int .i64 e.value, .slice (some ⟨b, off, none⟩) e.kids.length ck]) → L[2]? = some (.box (w.heap.size + 1 + 1) [.int .i64 e.kind, .int .i64 e.value, .slice a k c]) → w'.cell? ⟨w.heap.size + 1 + 1, 2, none⟩ = some (.slice a k c) ∧ w'.cell? ⟨w.heap.size, 2, none⟩ = some (.slice (some ⟨b, off, none⟩) e.kids.length ck) ∧ w'.cell? ⟨b, off + k * 3, none⟩ = some (.int .i64 e.kids[k].kind) ∧ w'.cell? ⟨b, off + k * 3 + 1, none⟩ = some (.int .i64 e.kids[k].value) ∧ w'.cell? ⟨b, off + k * 3 + 2, none⟩ = some (.slice ka e.kids[k].kids.length kc) := fun L M h0 h2 => by
     have bb := M.below fun _ _ => trivial
     refine ⟨M.c 2 2 h2 rfl, M.c 0 2 h0 rfl, ?_, ?_, ?_⟩
     ·rw [(V8 bb).1 _ _ hbk]; exact c0
     ·rw [(V8 bb).1 _ _ hbk]; exact c1
     ·rw [(V8 bb).1 _ _ hbk]; exact c2
    match s, h with
    | 0, h => exact key _ h rfl rfl
    | 1, ⟨_, _, _, _, h⟩ => exact key _ h rfl rfl
    | 2, ⟨_, _, _, _, _, h⟩ => exact key _ h rfl rfl
    | 3, ⟨_, _, _, _, _, _, _, h⟩ => exact key _ h rfl rfl
   have x2 := M.c 0 2 rfl rfl
   have hlt' : (k : Int) < e.kids.length := by omega
   have HM := show Hid _ from M
   clear M hkv c0 c1 c2
   go_wp2_with fail
   clear x2
   refine ac4 11 [7, 8, 9] (fun i => [.pointer (some ⟨w.heap.size + 1 + 1, 2, none⟩), .slice a k c, .pointer (some ⟨w.heap.size, 2, none⟩), .slice (some ⟨b, off, none⟩) e.kids.length ck, .int .i64 k, .pointer (some ⟨b, off + k * 3, none⟩), .agg #[.int .i64 e.kids[k].kind, .int .i64 e.kids[k].value, .slice ka e.kids[k].kids.length kc], undef, undef, undef, .pointer (some ⟨w.heap.size + 1 + 1, 2, none⟩)].getD i undef) (fun (s : Nat) (g : Nat → Value) (w' : World) => match s with
    | 0 => r8 (fun _ => True) (fun _ => True) w w' ([.box w.heap.size [.int .i64 e.kind, .int .i64 e.value, .slice (some ⟨b, off, none⟩) e.kids.length ck], .box (w.heap.size + 1) [.int .i64 0, .int .i64 0, .slice none 0 0], .box (w.heap.size + 1 + 1) [.int .i64 e.kind, .int .i64 e.value, .slice a k c], .row 104 3 (.slice a k c) k ys, .own S (fun w => l8 w ((e.kids.take k).map d8) S ys)])
    | 1 => ∃ a7 c7 T, g 0 = .agg #[.int .i64 (d8 e.kids[k]).kind, .int .i64 (d8 e.kids[k]).value, .slice a7 (d8 e.kids[k]).kids.length c7] ∧ r8 (fun _ => True) (fun _ => True) w w' ([.box w.heap.size [.int .i64 e.kind, .int .i64 e.value, .slice (some ⟨b, off, none⟩) e.kids.length ck], .box (w.heap.size + 1) [.int .i64 0, .int .i64 0, .slice none 0 0], .box (w.heap.size + 1 + 1) [.int .i64 e.kind, .int .i64 e.value, .slice a k c], .row 104 3 (.slice a k c) k ys, .own S (fun w => l8 w ((e.kids.take k).map d8) S ys), .own T (fun w => m5 w (.slice a7 (d8 e.kids[k]).kids.length c7) (d8 e.kids[k]).kids T)])
    | 2 => ∃ a7 c7 T gb, g 1 = .slice (some ⟨gb, 0, none⟩) 1 1 ∧ r8 (fun _ => True) (fun _ => True) w w' ([.box w.heap.size [.int .i64 e.kind, .int .i64 e.value, .slice (some ⟨b, off, none⟩) e.kids.length ck], .box (w.heap.size + 1) [.int .i64 0, .int .i64 0, .slice none 0 0], .box (w.heap.size + 1 + 1) [.int .i64 e.kind, .int .i64 e.value, .slice a k c], .row 104 3 (.slice a k c) k ys, .own S (fun w => l8 w ((e.kids.take k).map d8) S ys), .own T (fun w => m5 w (.slice a7 (d8 e.kids[k]).kids.length c7) (d8 e.kids[k]).kids T), .box gb [.int .i64 (d8 e.kids[k]).kind, .int .i64 (d8 e.kids[k]).value, .slice a7 (d8 e.kids[k]).kids.length c7]])
    | 3 => ∃ a7 c7 T gb a9 c9, g 2 = .slice a9 (k + 1) c9 ∧ r8 (fun _ => True) (fun _ => True) w w' ([.box w.heap.size [.int .i64 e.kind, .int .i64 e.value, .slice (some ⟨b, off, none⟩) e.kids.length ck], .box (w.heap.size + 1) [.int .i64 0, .int .i64 0, .slice none 0 0], .box (w.heap.size + 1 + 1) [.int .i64 e.kind, .int .i64 e.value, .slice a k c], .row 104 3 (.slice a9 (k + 1) c9) (k + 1) (ys ++ [.int .i64 (d8 e.kids[k]).kind, .int .i64 (d8 e.kids[k]).value, .slice a7 (d8 e.kids[k]).kids.length c7]), .own S (fun w => l8 w ((e.kids.take k).map d8) S ys), .own T (fun w => m5 w (.slice a7 (d8 e.kids[k]).kids.length c7) (d8 e.kids[k]).kids T), .box gb [.int .i64 (d8 e.kids[k]).kind, .int .i64 (d8 e.kids[k]).value, .slice a7 (d8 e.kids[k]).kids.length c7]])
    | _ => False) (by kernel_rfl) (by kernel_rfl) (by kernel_rfl) (by kernel_rfl) (by decide) (by decide) ?_ ?_ ?_ ?_ ?_
   ·intro s g g' w' hg h
    match s, h with
    | 0, h => exact h
    | 1, ⟨a7, c7, T, h1, h2⟩ => exact ⟨a7, c7, T, (hg 0 (by omega)).symm.trans h1, h2⟩
    | 2, ⟨a7, c7, T, gb, h1, h2⟩ => exact ⟨a7, c7, T, gb, (hg 1 (by omega)).symm.trans h1, h2⟩
    | 3, ⟨a7, c7, T, gb, a9, c9, h1, h2⟩ => exact ⟨a7, c7, T, gb, a9, c9, (hg 2 (by omega)).symm.trans h1, h2⟩
   ·intro g
    exact HM.out.drew
   ·intro i o hi hn ho s f w' hst hdep Q' hQ
    have HQ := show Hid _ from hQ
    clear hQ
    have hc : i = 0 ∨ i = 1 ∨ i = 2 ∨ i = 3 ∨ i = 4 ∨ i = 5 ∨ i = 6 ∨ i = 10 := by simp at hn; omega
    clear hn
    rcases hc with rfl | rfl | rfl | rfl | rfl | rfl | rfl | rfl
    all_goals
     simp only [bT0, bT7, Option.some.injEq] at ho
     subst ho
    ·clear hdep hst
     simp only [n4]
     go_wp2_with fail
     exact t8 HQ.out (by kernel_rfl)
    ·have e0 : f 0 = .pointer (some ⟨w.heap.size + 1 + 1, 2, none⟩) := hdep { on := 0, ground := .data } (by simp) (by kernel_rfl) (by simp)
     obtain ⟨x0, x1, x2, x3, x4⟩ := HC.out _ _ _ hst
     clear hdep hst
     obtain ⟨f', rfl⟩ := t2 e0
     clear e0
     simp only [n4, P5, ↓reduceIte, bT1]
     go_wp2_with fail
     exact t8 HQ.out (by kernel_rfl)
    ·clear hdep hst
     simp only [n4]
     go_wp2_with fail
     exact t8 HQ.out (by kernel_rfl)
    ·have e2 : f 2 = .pointer (some ⟨w.heap.size, 2, none⟩) := hdep { on := 2, ground := .data } (by simp) (by kernel_rfl) (by simp)
     obtain ⟨x0, x1, x2, x3, x4⟩ := HC.out _ _ _ hst
     clear hdep hst
     obtain ⟨f', rfl⟩ := t2 e2
     clear e2
     simp only [n4, P5, ↓reduceIte, bT1]
     go_wp2_with fail
     exact t8 HQ.out (by kernel_rfl)
    ·clear hdep hst
     simp only [n4]
     go_wp2_with fail
     exact t8 HQ.out (by kernel_rfl)
    ·have e3 : f 3 = .slice (some ⟨b, off, none⟩) e.kids.length ck := hdep { on := 3, ground := .data } (by simp) (by kernel_rfl) (by simp)
     have e4 : f 4 = .int .i64 k := hdep { on := 4, ground := .data } (by simp) (by kernel_rfl) (by simp)
     obtain ⟨x0, x1, x2, x3, x4⟩ := HC.out _ _ _ hst
     clear hdep hst
     obtain ⟨f', rfl⟩ := t2 e3
     clear e3
     simp only [P5, ↓reduceIte, bT1] at e4
     obtain ⟨f'', rfl⟩ := t2 e4
     clear e4
     simp only [n4, P5, ↓reduceIte, bT1]
     go_wp2_with fail
     exact t8 HQ.out (by kernel_rfl)
    ·have e5 : f 5 = .pointer (some ⟨b, off + k * 3, none⟩) := hdep { on := 5, ground := .data } (by simp) (by kernel_rfl) (by simp)
     obtain ⟨x0, x1, x2, x3, x4⟩ := HC.out _ _ _ hst
     clear hdep hst
     obtain ⟨f', rfl⟩ := t2 e5
     clear e5
     simp only [n4, P5, ↓reduceIte, bT1]
     go_wp2_with fail
     exact t8 HQ.out (by kernel_rfl)
    ·clear hdep hst
     simp only [n4]
     go_wp2_with fail
     exact t8 HQ.out (by kernel_rfl)
   ·intro s j o hs ho f w' hst hdep Q' hQ
    have HQ := show Hid _ from hQ
    clear hQ
    match s, hs, hst, HQ with
    | 0, hs, hst, HQ =>
     simp only [bT0, Option.some.injEq] at hs
     subst hs
     simp only [bT0, bT7, Option.some.injEq] at ho
     subst ho
     have M : r8 (fun _ => True) (fun _ => True) w w' ([.box w.heap.size [.int .i64 e.kind, .int .i64 e.value, .slice (some ⟨b, off, none⟩) e.kids.length ck], .box (w.heap.size + 1) [.int .i64 0, .int .i64 0, .slice none 0 0], .box (w.heap.size + 1 + 1) [.int .i64 e.kind, .int .i64 e.value, .slice a k c], .row 104 3 (.slice a k c) k ys, .own S (fun w => l8 w ((e.kids.take k).map d8) S ys)]) := hst
     have HM7 := show Hid _ from M
     have e6 : f 6 = .agg #[.int .i64 e.kids[k].kind, .int .i64 e.kids[k].value, .slice ka e.kids[k].kids.length kc] := hdep { on := 6, ground := .data } (by simp) (by kernel_rfl) (by simp)
     clear hdep hst M
     obtain ⟨f', rfl⟩ := t2 e6
     clear e6
     simp only [n4, P5, ↓reduceIte, bT1]
     go_wp2_with fail
     refine (HE.out w' (HM7.out.below fun _ _ => trivial)).mono ?_
     rintro x w7 ⟨a7, c7, T, rfl, hO, hT, b7⟩
     have HM8 := show Hid _ from HM7.out.callO b7 (S := T) (R := fun w => m5 w (.slice a7 (d8 e.kids[k]).kids.length c7) (d8 e.kids[k]).kids T) (fun _ _ h hs => m5.same h hs) hO hT
     clear hO hT b7
     go_wp2_with fail
     exact t8 (HQ.out (.agg #[.int .i64 (d8 e.kids[k]).kind, .int .i64 (d8 e.kids[k]).value, .slice a7 (d8 e.kids[k]).kids.length c7]) _ ⟨a7, c7, T, rfl, HM8.out⟩) (by kernel_rfl)
    | 1, hs, hst, HQ =>
     simp only [bT0, bT7, Option.some.injEq] at hs
     subst hs
     simp only [bT0, bT7, Option.some.injEq] at ho
     subst ho
     obtain ⟨a7, c7, T, e7, M⟩ := hst
     have e7 : f 7 = .agg #[.int .i64 (d8 e.kids[k]).kind, .int .i64 (d8 e.kids[k]).value, .slice a7 (d8 e.kids[k]).kids.length c7] := e7
     have HM7 := show Hid _ from M.box [.int .i64 (d8 e.kids[k]).kind, .int .i64 (d8 e.kids[k]).value, .slice a7 (d8 e.kids[k]).kids.length c7] 104
     clear hdep M
     obtain ⟨f', rfl⟩ := t2 e7
     clear e7
     simp only [n4, P5, ↓reduceIte, bT1]
     go_wp2_with fail
     exact t8 (HQ.out (.slice (some ⟨w'.heap.size, 0, none⟩) 1 1) _ ⟨a7, c7, T, w'.heap.size, rfl, HM7.out⟩) (by kernel_rfl)
    | 2, hs, hst, HQ =>
     simp only [bT0, bT7, Option.some.injEq] at hs
     subst hs
     simp only [bT0, bT7, Option.some.injEq] at ho
     subst ho
     obtain ⟨a7, c7, T, gb, e8, M⟩ := hst
     have e8 : f 8 = .slice (some ⟨gb, 0, none⟩) 1 1 := e8
     have e1 : f 1 = .slice a k c := hdep { on := 1, ground := .data } (by simp) (by kernel_rfl) (by simp)
     clear hdep
     refine ak3 rfl _ _ rfl Tryz.underlying102 bB9 rfl (by omega) (Eq.trans (by kernel_rfl) e1) (M.r 3 rfl) (Eq.trans (by kernel_rfl) e8) (bd5 (M.blk 6 rfl)) (fun u hu => by simp at hu; rcases hu with rfl | rfl | rfl <;> rfl) (by omega) (by omega) (bU3 _) ?_
     intro a9 c9 w9 o9 _ g9 n9
     exact wpList_nil (HQ.out _ _ ⟨a7, c7, T, gb, a9, c9, rfl, M.app 3 rfl o9 g9 n9⟩)
    | s + 3, hs, _, _ => simp at hs
   ·intro o ho f w' hst hall
    simp only [bT0, bT7, Option.some.injEq] at ho
    subst ho
    obtain ⟨a7, c7, T, gb, a9, c9, e9, M⟩ := hst
    have e9 : f 9 = .slice a9 (k + 1) c9 := e9
    have e10 : f 10 = .pointer (some ⟨w.heap.size + 1 + 1, 2, none⟩) := hall 10 (by omega) (by simp)
    have x0 := M.c 2 2 rfl rfl
    have f0 := M.f 2 rfl
    have M9 : r8 (fun _ => True) (fun _ => True) w _ ([.box w.heap.size [.int .i64 e.kind, .int .i64 e.value, .slice (some ⟨b, off, none⟩) e.kids.length ck], .box (w.heap.size + 1) [.int .i64 0, .int .i64 0, .slice none 0 0], .box (w.heap.size + 1 + 1) [.int .i64 e.kind, .int .i64 e.value, .slice a9 (k + 1) c9], .row 104 3 (.slice a9 (k + 1) c9) (k + 1) (ys ++ [.int .i64 (d8 e.kids[k]).kind, .int .i64 (d8 e.kids[k]).value, .slice a7 (d8 e.kids[k]).kids.length c7])] ++ [.own S (fun w => l8 w ((e.kids.take k).map d8) S ys), .own T (fun w => m5 w (.slice a7 (d8 e.kids[k]).kids.length c7) (d8 e.kids[k]).kids T)]) := (M.set 2 rfl 2 (.slice a9 (k + 1) c9)).take 6
    have HM9 := show Hid _ from r8.joinE (e := d8 e.kids[k]) M9
    clear M9
    clear hall M HM HC
    obtain ⟨f', rfl⟩ := t2 e9
    clear e9
    simp only [P5, ↓reduceIte, bT1] at e10
    obtain ⟨f'', rfl⟩ := t2 e10
    clear e10
    simp only [n4, P5, ↓reduceIte, bT1]
    go_wp2_with fail
    refine ⟨⟨k + 1, a9, c9, _, _, by omega, by go_num, by rw [s5 _ _ hlt, List.map_append]; exact HM9.out⟩, by simp [intOf]; omega⟩
  ·have hkn : k = e.kids.length := by omega
   subst hkn
   have x0 := M.c 2 0 rfl rfl
   have x1 := M.c 2 1 rfl rfl
   have x2 := M.c 2 2 rfl rfl
   have x3 := M.c 0 2 rfl rfl
   rw [bS6 (bS8 _)] at M
   have M3 : r8 (fun _ => True) (fun _ => True) w wr ([.box w.heap.size [.int .i64 e.kind, .int .i64 e.value, .slice ak e.kids.length ck], .box (w.heap.size + 1) [.int .i64 0, .int .i64 0, .slice none 0 0], .box (w.heap.size + 1 + 1) [.int .i64 e.kind, .int .i64 e.value, .slice a e.kids.length c]] ++ [.row 104 3 (.slice a e.kids.length c) e.kids.length ys, .own S (fun w => l8 w (e.kids.map d8) S ys)]) := M
   have M4 := r8.joinK M3 (by simp)
   have HG2 := show Hid (E1 ⟨e.kind, e.value, e.kids.map d8⟩ = true) from aW5 hgood
   have HM4 := show Hid _ from M4
   clear M M3 M4
   go_wp2_with fail
   clear x0 x1 x2 x3
   refine (aT2 ⟨e.kind, e.value, e.kids.map d8⟩ HG2.out _ _ _ (HM4.out.o 3 rfl)).mono ?_
   rintro x w2 ⟨a2, c2, rfl, hO, b2⟩
   rw [← aa2] at hO ⊢
   have M5 := (HM4.out.call b2).turn 3 rfl (C6.refl _ _) (fun _ _ h hs => m5.same h hs) hO
   have d0 := M5.c 1 0 rfl rfl
   have d1 := M5.c 1 1 rfl rfl
   have d2 := M5.c 1 2 rfl rfl
   have ff := M5.f 1 rfl
   have HM6 := show Hid _ from ((M5.set 1 rfl 0 (.int .i64 (d8 e).kind)).set 1 rfl 1 (.int .i64 (d8 e).value)).set 1 rfl 2 (.slice a2 (d8 e).kids.length c2)
   clear M5 hO b2 HM4
   go_wp2_with fail
   have M2 := HM6.out
   have r0 : World.cell? _ ⟨w.heap.size + 1, 0, none⟩ = some (.int .i64 (d8 e).kind) := M2.c 1 0 rfl rfl
   have r1 : World.cell? _ ⟨w.heap.size + 1, 1, none⟩ = some (.int .i64 (d8 e).value) := M2.c 1 1 rfl rfl
   have r2 : World.cell? _ ⟨w.heap.size + 1, 2, none⟩ = some (.slice a2 (d8 e).kids.length c2) := M2.c 1 2 rfl rfl
   refine bodyPost_ret (v := .agg #[.int .i64 (d8 e).kind, .int .i64 (d8 e).value, .slice a2 (d8 e).kids.length c2]) (by simp [results, Tryz.results133, go_sem, r0, r1, r2]) rfl ⟨a2, c2, _, rfl, M2.o 3 rfl, fun b hb => ⟨?_, M2.lt (bR3 (i := 3) rfl) hb⟩, M2.below fun _ _ => trivial⟩
   exact (M2.ge _ b (bR3 (i := 3) rfl) hb).elim (fun h => h) fun h => absurd bR2 h
end Go.Proofs.YthikdkjjdeehoaaGreat
