/-
  Linearize: the statement, whatever the argument. Conditions: none beyond the statement's own.
-/
import Derived.Test.YthikdkjjdeehoaaGreatK5
import Derived.Test.YthikdkjjdeehoaaGreatEnter1M
import Derived.Test.YthikdkjjdeehoaaGreatEnter2M
import Derived.Test.YthikdkjjdeehoaaGreatEnter3M
set_option maxRecDepth 100000
set_option maxHeartbeats 16000000
open Bool renaming not_eq_false' → bG2, not_eq_true' → bF9
open Nat renaming le_refl → bF7
namespace Go.Proofs.YthikdkjjdeehoaaGreat.exLinearize
set_option linter.unusedVariables false
set_option linter.unusedSimpArgs false
open Go Go.RowKit Go.Proofs.YthikdkjjdeehoaaGreat
theorem aV0 {p : b9} (h : ¬ (J1 1048576 p.size < 0)) : p.size ≤ 1048576 := by
 by_cases h1 : (1048576 : Int) < p.size
 ·rw [w7 h1] at h; omega
 ·omega
theorem aI3 (p : b9) : p.same p = true := b9.same_eq.2 rfl
theorem ai8 {p : b9} {n : Nat} (h : p.size ≤ n) (hn : n ≤ 1048576) : ((1 : Nat) : Int) + J7 p ≤ 9000000000000000000 := by
 unfold J7
 unfold b9.size at h
 have := (C8 p.body).2
 omega
theorem a46 (q : b9) : ¬ ((!q.same q) = true) := by rw [aI3]; decide
theorem bh2 (p : b9) : ¬ (decide ((1 : Int) + J7 p < (0 : Int)) = true) := by
 have := (C8 p.body).1
 unfold J7
 simp only [decide_eq_true_eq]; omega
abbrev M8 (p : b9) (r0 : List It) : List It := dI p.vars :: dI p.arrays :: dT p.body :: .box (pL 0) :: dI (G8 p).vars :: dI (G8 p).arrays :: dT (G8 p).body :: .box (pL 4) :: r0
theorem bC2 (p : b9) : p6.ok Tryz.prog ⟨5, [pA 0], pS p, pS p, bA true⟩ := by
  have hto := aQ8 p; refine M6 96 Tryz.func5 [dI p.vars, dI p.arrays, dT p.body] [(0, pA 0)] fun G => ?_; have hself : ∀ q : b9, q.same q = true := aI3; refine wp_seq (t2 G l9 (rg 4) [dI p.vars, dI p.arrays, dT p.body, .box (pL 0)] [(1, .ptr 3 0), (2, bA false)] fun G => b7 (wp_seq (s4 G l9 [(3, iA 1048576)] fun G => b7 (wp_seq (s4 G (G7 2 [0, 1, 2] (aV7 p 1048576 (by omega) (by omega))) [(3, iA (J1 1048576 p.size))] fun G => b7 (wp_seq (wp_seq (s4 G l9 [(18, bA (decide (J1 1048576 p.size < 0)))] fun G => b7 (rcD G (fun h0 q0 => ?_) fun h0 q0 => ?_)))))))))
  ·
   refine wp_skip (b7 (wp_seq (t2 G (D6 (s7 1 [0, 1, 2] (aV6 p (aV0 (by assumption))) (s7 2 [12, 13, 14] (aW6 p (aV0 (by assumption))) D5)) fz []) [0, 1, 2, 3, 20, 21, 22, 52] (M8 p []) [(1, .ptr 3 0), (2, bA false), (4, .ptr 7 0), (5, bA (Y9 p))] fun G => b7 (wp_seq (t2 G (G7 1 [0, 1, 2] (hto (aV0 (by assumption)))) [0, 1, 2, 3, 4, 5, 6, 7, 16, 17, 18, 24] (M8 p [.row 3 (D.ints p.vars), .row 3 (D.ints p.arrays), .tree (D.stmts p.body), .box [.ref 8, .ref 9, .tref 10]]) [(1, .ptr 3 0), (2, bA false), (4, .ptr 7 0), (5, bA (Y9 p)), (6, .ptr 11 0)] fun G => b7 (wp_seq (t2 G (G7 1 [8, 9, 10] (p6.lend (as4 p (aV0 (by assumption))) [.row 3, .row 3, .tree])) [0, 1, 2, 3, 4, 5, 6, 7, 8, 9, 10, 11, 20, 21, 22, 52] (M8 p [.row 3 (D.ints p.vars), .row 3 (D.ints p.arrays), .tree (D.stmts p.body), .box [.ref 8, .ref 9, .tref 10], .row 3 (D.ints (G8 p).vars), .row 3 (D.ints (G8 p).arrays), .tree (D.stmts (G8 p).body), .box [.ref 12, .ref 13, .tref 14]]) [(1, .ptr 3 0), (2, bA false), (4, .ptr 7 0), (5, bA (Y9 p)), (6, .ptr 11 0), (7, .ptr 15 0), (8, bA (Y9 p))] fun G => b7 (wp_seq (wp_seq ?_))))))))); cases h1 : (!(G8 p).same (G8 p))
   ·
    have q1 : ((G8 p).same (G8 p)) = true := (Eq.mp (bG2 _) h1); refine s4 G (D6 (s7 2 [12, 13, 14, 4, 5, 6] (p6.lend (T8 (G8 p) (G8 p)) [.row 3, .row 3, .tree]) D5) (fc h1 fz) [(5, 0), (6, 0), (7, 0), (1008, 0)]) [(40, .v (.bool !Y9 p == Y9 p))] fun G => b7 (rF G (!Y9 p == Y9 p) (by simp [h0, h1, q1]) (wp_skip (b7 (wp_seq (wp_seq (a02 G (D6 (s7 2 [0, 1, 2] (hto (aV0 (by assumption))) (s7 3 [8, 9, 10, 32, 33, 34] (p6.lend (T8 p p) [.row 3, .row 3, .tree, .row 3, .row 3, .tree]) D5)) fz []) [0, 0, 2, 7, 15] [(45, .v (.bool !p.same p))] fun G => b7 ?_)))))); cases h2 : (!p.same p)
    ·
     have q2 : (p.same p) = true := (Eq.mp (bG2 _) h2); refine rF G _ h2 (wp_skip (b7 (wp_seq (s4 G l9 [(9, iA 1)] fun G => b7 (wp_seq (t2 G (G7 2 [8, 9, 10] (ak8 p 1 (ai8 (aV0 (by assumption)) (bF7 _)))) [0, 1, 2, 3, 4, 5, 6, 7, 12, 13, 14, 15] (M8 p [.row 3 (D.ints (G8 p).vars), .row 3 (D.ints (G8 p).arrays), .tree (D.stmts (G8 p).body), .box [.ref 8, .ref 9, .tref 10]]) [(1, .ptr 3 0), (2, bA false), (4, .ptr 7 0), (5, bA (Y9 p)), (7, .ptr 11 0), (8, bA (Y9 p)), (9, iA ((1 : Int) + J7 p))] fun G => b7 (wp_seq (wp_seq ?_)))))))); cases h3 : (decide ((1 : Int) + J7 p < 0))
     ·
      have q3 := dFf h3; refine s4 G (D6 (s7 5 [8, 9, 10, 4, 5, 6] (p6.lend (T8 (G8 p) (G8 p)) [.row 3, .row 3, .tree]) D5) (fc h3 (fc h1 fz)) (us [(3, 6, 0), (1007, 1007, 0), (9, 11, 1), (1012, 1012, 1)])) [(61, .v (.bool !Y9 p == Y9 p))] fun G => b7 (rF G (!Y9 p == Y9 p) (by simp [h0, h1, q1, h2, q2, h3]) (wp_skip (b7 (wp_seq (s4 G l9 [(10, iA 1)] fun G => b7 (wp_seq (t2 G (G7 2 [8, 9, 10] (ak8 (G8 p) 1 (ai8 (a14 p) (by omega)))) (rg 12) (M8 p [.row 3 (D.ints (mkP (G8 p) 1).vars), .row 3 (D.ints (mkP (G8 p) 1).arrays), .tree (D.stmts (mkP (G8 p) 1).body), .box [.ref 8, .ref 9, .tref 10]]) [(1, .ptr 3 0), (2, bA false), (4, .ptr 7 0), (5, bA (Y9 p)), (7, .ptr 11 0), (10, iA ((1 : Int) + J7 (G8 p)))] fun G => b7 (wp_seq (s4 G l9 [(10, iA (1 + J7 (G8 p))), (11, iA 1)] fun G => b7 (wp_seq (s4 G (G7 2 [8, 9, 10] (p6.lend (al0 (G8 p) 1 (ai8 (a14 p) (by omega))) [.row 3, .row 3, .tree])) [(11, iA ((1 : Int) + J7 (G8 p)))] fun G => b7 (wp_seq (wp_seq (s4 G l9 [(11, iA (1 + J7 (G8 p))), (69, bA (decide (1 + J7 (G8 p) < 0)))] fun G => b7 (rcD G (fun h4 q4 => ?_) fun h4 q4 => ?_)))))))))))))))
      · refine wp_skip (b7 (wp_seq (wp_seq (s4 G l9 [(72, bA (1 + J7 (G8 p) != 1 + J7 (G8 p)))] fun G => b7 (rF G ((1 : Int) + J7 (G8 p) != 1 + J7 (G8 p)) (by simp [h0, h1, q1, h2, q2, h3, h4]) (wp_skip (b7 (wp_seq (t2 G (D6 (s7 1 [0, 1, 2] (hto (aV0 (by assumption))) (s7 2 [20, 21, 22] (p6.lend (as4 p (aV0 (by assumption))) [.row 3, .row 3, .tree]) D5)) fz []) [0, 1, 2, 4, 5, 6, 7, 8, 9, 10, 11, 28, 29, 30, 60] [dI p.vars, dI p.arrays, dT p.body, dI (G8 p).vars, dI (G8 p).arrays, dT (G8 p).body, .box (pL 3), .row 3 (D.ints (mkP (G8 p) 1).vars), .row 3 (D.ints (mkP (G8 p) 1).arrays), .tree (D.stmts (mkP (G8 p) 1).body), .box [.ref 7, .ref 8, .tref 9], .row 3 (D.ints (G8 p).vars), .row 3 (D.ints (G8 p).arrays), .tree (D.stmts (G8 p).body), .box [.ref 11, .ref 12, .tref 13]] [(2, bA false), (4, .ptr 6 0), (5, bA (Y9 p)), (7, .ptr 10 0), (10, iA (1 + J7 (G8 p))), (11, iA (1 + J7 (G8 p))), (12, .ptr 14 0), (13, bA (Y9 p))] fun G => b7 (wp_seq (wp_seq (t2 G (D6 (s7 2 [11, 12, 13, 3, 4, 5] (p6.lend (T8 (G8 p) (G8 p)) [.row 3, .row 3, .tree]) D5) (fc h1 fz) [(5, 0), (6, 0), (7, 0), (1008, 0)]) [0, 1, 2, 7, 8, 9, 10] [dI p.vars, dI p.arrays, dT p.body, .row 3 (D.ints (mkP (G8 p) 1).vars), .row 3 (D.ints (mkP (G8 p) 1).arrays), .tree (D.stmts (mkP (G8 p) 1).body), .box [.ref 3, .ref 4, .tref 5]] [(2, bA false), (7, .ptr 6 0), (10, iA (1 + J7 (G8 p))), (11, iA (1 + J7 (G8 p))), (87, .v (.bool !Y9 p == Y9 p))] fun G => b7 (rF G (!Y9 p == Y9 p) (by simp [h0, h1, q1, h2, q2, h3, h4]) (wp_skip (b7 (wp_seq (s4 G l9 [(11, iA 1)] fun G => b7 (wp_seq (t2 G (G7 2 [3, 4, 5] (p6.lend (al0 (G8 p) 1 (ai8 (a14 p) (by omega))) [.row 3, .row 3, .tree])) [0, 1, 2] [dI p.vars, dI p.arrays, dT p.body] [(2, bA false), (10, iA (1 + J7 (G8 p))), (11, iA ((1 : Int) + J7 (G8 p)))] fun G => b7 (wp_seq (wp_seq (s4 G l9 [(11, iA (1 + J7 (G8 p))), (92, bA (decide (1 + J7 (G8 p) < 0)))] fun G => b7 (rF G _ h4 (wp_skip (b7 (wp_seq (wp_seq (s4 G l9 [(95, bA (1 + J7 (G8 p) != 1 + J7 (G8 p)))] fun G => b7 (rF G ((1 : Int) + J7 (G8 p) != 1 + J7 (G8 p)) (by simp [h0, h1, q1, h2, q2, h3, h4]) (wp_skip (b7 (wp_seq (s4 G l9 [(2, bA true)] fun G => b7 (wp_ret ?_)))))))))))))))))))))))))))))))))); exact W2 G [0, 1, 2]
      · refine wp_seq (s4 G l9 [] fun G => b7 (wp_ret (t9 ?_))); exact O3 false G [0, 1, 2] (by exact absurd (by with_reducible assumption) (bh2 (G8 p)))
     · have q3 := dTt h3; refine s4 G (hhF (fc h3 (fc (b := true) rfl fz)) (us [(3, 6, 0), (1007, 1007, 0), (9, 11, 1), (1012, 1012, 1)])) [(61, bA true)] fun G => b7 (rT G true (by kernel_rfl) (wp_seq (s4 G l9 [] fun G => b7 (wp_ret (t9 ?_))))); exact O3 false G [0, 1, 2] (by exact absurd (by with_reducible assumption) (bh2 p))
    · have q2 : (p.same p) = false := (Eq.mp (bF9 _) h2); refine rT G _ h2 (wp_seq (s4 G l9 [] fun G => b7 (wp_ret (t9 ?_)))); exact O3 false G [0, 1, 2] (by exact absurd (by with_reducible assumption) (a46 p))
   · have q1 : ((G8 p).same (G8 p)) = false := (Eq.mp (bF9 _) h1); refine s4 G (D6 (s7 2 [12, 13, 14, 4, 5, 6] (p6.lend (T8 (G8 p) (G8 p)) [.row 3, .row 3, .tree]) D5) (fc h1 fz) [(5, 0), (6, 0), (7, 0), (1008, 0)]) [(40, bA true)] fun G => b7 (rT G true (by kernel_rfl) (wp_seq (s4 G l9 [] fun G => b7 (wp_ret (t9 ?_))))); exact O3 false G [0, 1, 2] (by exact absurd (by with_reducible assumption) (a46 (G8 p)))
  · refine wp_seq (s4 G l9 [(2, bA true)] fun G => b7 (wp_ret (t9 ?_))); exact W2 G [0, 1, 2]
theorem bC8 (u : Value) (p : b9) (w : World) (hp : af7 w (fun _ => True) u p) : Calls Tryz.prog 5 #[u] w fun e w' => e = .returned (.bool true) ∧ Below w.heap.size w w' := bg0 (bC2 p) u w hp
end Go.Proofs.YthikdkjjdeehoaaGreat.exLinearize

namespace Go.Proofs.YthikdkjjdeehoaaGreat.exLinearize
set_option linter.unusedVariables false
set_option linter.unusedSimpArgs false
open Go Go.RowKit Go.ChangeShapes Go.WideShapes Go.ChangeAt Go.Proofs.YthikdkjjdeehoaaGreat
theorem lifted (os : Os) (started : os.Started) (H : Type) (enc : TypeId × Value → H) :
  ReturnsInHanded {} Tryz.checked os 5 .any (Rows.fnExactLinearizeSpec.pre6 enc Tryz.prog Tryz.f5 Rows.fnExactLinearizeRow.domain false) (Rows.fnExactLinearizeSpec.post enc Tryz.prog Tryz.f5 false true false false) := by
 refine returnsInHanded_of_change (C := Tryz.checked) own started (by kernel_rfl) Tryz.func5
  (ChangeSpec.witness6 (enc := enc) (C := Tryz.checked) false ⟨#[], #[.agg #[.slice none 0 0, .slice none 0 0, .slice none 0 0]], []⟩ 8 (by kernel_rfl) (by kernel_rfl) (by kernel_rfl) (by kernel_rfl)) ?_
 intro W base args ds gs before hval0 hW hcnd _
 have hval : ∀ (j : Nat) t v, Tryz.f5.params[j]? = some t → args[j]? = some v → Value.okWide Tryz.prog W .any base t v := hval0
 have hW' := hW
 obtain ⟨p, q, hA0, hV, rfl, hfz, hnd⟩ := hW
 have hA : DataW.TrodAll enc Tryz.prog W 0 (fun _ => true) true Tryz.f5.params.toList args.toList ds p := hA0
 rw [Tryz.params5] at hA hval
 obtain ⟨v0, vs0, d0, ds0, p0, q0, hargs, rfl, rfl, h0, r0⟩ := trodAll_cons hA
 obtain ⟨rfl, rfl, rfl⟩ := trodAll_nil r0
 obtain rfl : args = #[v0] := by cases args; simp_all
 obtain ⟨rfl, rfl⟩ := trodVars_none hV
 have k0 := h0
 have lt0 : ∀ x ∈ p0, x.block < W.heap.size := by obtain ⟨m, hm⟩ := k0; exact DataW.trod_lt m _ _ _ hm
 obtain ⟨x0, hx0⟩ := aN2 (hval 0 43 v0 rfl rfl) h0
 clear hA0 hval0
 refine (bC8 _ x0 W hx0).mono fun e W' ⟨he, bel⟩ => ?_
 subst he
 exact ⟨_, rfl, _, _, _, [], _, [], hW', trodAll_mk1 (shut_bool Tryz.underlying4 _), (trodAll_cons_mk (Below.trod bo7 (by kernel_rfl) (of_decide_eq_true (by kernel_rfl)) k0 bel lt0) trodAll_mk0), rfl, bel.frame _, fun h => by cases h⟩
theorem facts : joinedFacts Tryz.pinned.checked.prog 5 Tryz.f5 Rows.fnExactLinearizeSpec Rows.fnExactLinearizeRow = true := by
 unfold joinedFacts
 rw [may_enter, lifts_final, make_is]
 kernel_rfl
theorem over : Rows.fnExactLinearizeRow.holds Tryz.pinned (OpenSpec.ofChange Rows.fnExactLinearizeSpec) :=
 OpenClaim.holds_of_wide 5 Tryz.f5 rfl rfl rfl rfl rfl rfl rfl ⟨rfl, rfl, rfl, rfl, rfl⟩ rfl rfl rfl rfl rfl (by kernel_rfl) Tryz.func5 facts
  (of_decide_eq_true (by kernel_rfl)) (by unfold Func.isWrapper; first | (rw [if_pos (by decide +kernel)]; kernel_rfl) | (rw [if_neg (by decide +kernel)]; exact ⟨rfl, rfl⟩))
  (fun os started H enc _ => lifted os started H enc)
theorem proved : Rows.FnExactLinearizeSaid := over
end Go.Proofs.YthikdkjjdeehoaaGreat.exLinearize
