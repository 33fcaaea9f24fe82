/-
  LFoldFlow: the statement, whatever the argument. Conditions: none beyond the statement's own.
-/
import Derived.Test.YthikdkjjdeehoaaGreatK6
import Derived.Test.YthikdkjjdeehoaaGreatEnter1M
import Derived.Test.YthikdkjjdeehoaaGreatEnter2M
import Derived.Test.YthikdkjjdeehoaaGreatEnter3M
set_option maxRecDepth 100000
set_option maxHeartbeats 16000000
open Bool renaming and_eq_false_iff → bT9, and_eq_true_iff → bU0, not_eq_false' → bS3, not_eq_true' → bS1
open Nat renaming le_trans → bU1
open True renaming intro → bR2
namespace Go.Proofs.YthikdkjjdeehoaaGreat.exLFoldFlow
set_option linter.unusedVariables false
set_option linter.unusedSimpArgs false
open Go Go.RowKit Go.Proofs.YthikdkjjdeehoaaGreat
theorem bQ8 : ¬ ((!true) = true) := by decide
theorem bF4 {p : f5} (h : p.size ≤ 200000) : (l6 p).size ≤ 200000 := bU1 (br3 p) h
theorem a92 (p : f5) : (decide (p.vars = p.vars) && (decide (p.arrays = p.arrays) && r7 p.body p.body)) = true := by
 rw [(G0 _ _).2 rfl]; simp
theorem bI1 (p : f5) : ¬ ((!(decide (p.vars = p.vars) && (decide (p.arrays = p.arrays) && r7 p.body p.body))) = true) := by
 rw [a92]; decide
abbrev H7 (c : List UInt8) := f5.mk (l6 (t3 c)).vars (l6 (t3 c)).arrays (l6 (t3 c)).body
abbrev F0 (c : List UInt8) (r0 : List It) : List It := .row 3 (D.ints (l6 (t3 c)).vars) :: .row 3 (D.ints (l6 (t3 c)).arrays) :: .tree (D.stmts (l6 (t3 c)).body) :: .box [.ref 5, .ref 6, .tref 7] :: r0
theorem bM4 (c : List UInt8) : l7.ok Tryz.prog ⟨3, [.ref 0], [dY c], [dY c], bA true⟩ := by
  refine G3 86 Tryz.func3 [dY c] [(0, .ref 0)] fun G => ?_; have hsz := bF8 c
  have hb : r6 (t3 c).body ≤ 1048576 := by unfold f5.size at hsz; omega
  have hqz := bF4 hsz
  have hqb : r6 (l6 (t3 c)).body ≤ 1048576 := by unfold f5.size at hqz; omega
  have hA : (H3 (t3 c) false).1 = 0 → (H3 ⟨(l6 (t3 c)).vars, (l6 (t3 c)).arrays, (l6 (t3 c)).body⟩ false).1 = 0 := fun h => (ai5 h).2
  have hB : (ctR (t3 c)).1 = 0 → (ctR ⟨(l6 (t3 c)).vars, (l6 (t3 c)).arrays, (l6 (t3 c)).body⟩).1 = 0 := bb5
  have hA2 : (H3 ⟨(t3 c).vars, (t3 c).arrays, (t3 c).body⟩ false).1 = 0 → (H3 ⟨(l6 (t3 c)).vars, (l6 (t3 c)).arrays, (l6 (t3 c)).body⟩ false).1 = 0 := fun h => (ai5 h).2
  have hB2 : (ctR ⟨(t3 c).vars, (t3 c).arrays, (t3 c).body⟩).1 = 0 → (ctR ⟨(l6 (t3 c)).vars, (l6 (t3 c)).arrays, (l6 (t3 c)).body⟩).1 = 0 := bb5; refine wp_seq (l5 G f9 [(2, bA false)] fun G => b5 (wp_seq (wp_seq (l5 G f9 [(18, bA (decide ((c.length : Int) > 1048576)))] fun G => b5 (W0 G (fun h0 q0 => ?_) fun h0 q0 => ?_)))))
  ·
   refine wp_skip (b5 (wp_seq (m6 G (A0 1 [0] (aw9 c)) [0, 9, 10, 11, 17] [dY c, .row 3 (D.ints (t3 c).vars), .row 3 (D.ints (t3 c).arrays), .tree (D.stmts (t3 c).body), .box [.ref 1, .ref 2, .tref 3]] [(2, bA false), (3, .ptr 4 0)] fun G => b5 (wp_seq (m6 G (A0 1 [1, 2, 3] (l7.lend (aF8 (t3 c) (bU1 hsz (by omega))) [.row 3, .row 3, .tree])) [0, 1, 2, 3, 4, 13, 14, 15, 45] (dY c :: .row 3 (D.ints (t3 c).vars) :: .row 3 (D.ints (t3 c).arrays) :: .tree (D.stmts (t3 c).body) :: .box [.ref 1, .ref 2, .tref 3] :: (F0 c [])) [(2, bA false), (3, .ptr 4 0), (4, .ptr 8 0), (5, bA (m0 (t3 c)))] fun G => b5 (wp_seq ?_)))))); obtain ⟨ρ, G⟩ := G.frz [.no, .row 3] (dY c :: dI (t3 c).vars :: .row 3 (D.ints (t3 c).arrays) :: .tree (D.stmts (t3 c).body) :: .box [.ref 1, .ref 2, .tref 3] :: (F0 c [])) [(2, bA false), (3, .ptr 4 0), (4, .ptr 8 0), (5, bA (m0 (t3 c)))]; obtain ⟨ρ, G⟩ := G.frz [.no, .no, .row 3] (dY c :: dI (t3 c).vars :: dI (t3 c).arrays :: .tree (D.stmts (t3 c).body) :: .box [.ref 1, .ref 2, .tref 3] :: (F0 c [])) [(2, bA false), (3, .ptr 4 0), (4, .ptr 8 0), (5, bA (m0 (t3 c)))]; obtain ⟨ρ, G⟩ := G.frz [.no, .no, .no, .tree] (dY c :: dI (t3 c).vars :: dI (t3 c).arrays :: dT (t3 c).body :: .box (pL 1) :: (F0 c [])) [(2, bA false), (3, .ptr 4 0), (4, .ptr 8 0), (5, bA (m0 (t3 c)))]; refine m6 G (A0 1 [1, 2, 3] (aH9 (t3 c) (bU1 hsz (by omega)))) [0, 1, 2, 3, 4, 5, 6, 7, 8, 17, 18, 19, 49] (dY c :: dI (t3 c).vars :: dI (t3 c).arrays :: dT (t3 c).body :: .box (pL 1) :: (F0 c [dI (l6 (t3 c)).vars, dI (l6 (t3 c)).arrays, dT (l6 (t3 c)).body, .box (pL 9)])) [(2, bA false), (3, .ptr 4 0), (4, .ptr 8 0), (5, bA (m0 (t3 c))), (6, .ptr 12 0), (7, bA (m0 (t3 c)))] fun G => b5 (wp_seq (wp_seq ?_)); cases h1 : (!(decide ((l6 (t3 c)).vars = (l6 (t3 c)).vars) && (decide ((l6 (t3 c)).arrays = (l6 (t3 c)).arrays) && r7 (l6 (t3 c)).body (l6 (t3 c)).body)))
   ·
    have q1 : ((l6 (t3 c)).vars = (l6 (t3 c)).vars) ∧ (((l6 (t3 c)).arrays = (l6 (t3 c)).arrays) ∧ ((r7 (l6 (t3 c)).body (l6 (t3 c)).body) = true)) := (fun hq => And.imp (fun hq => of_decide_eq_true hq) (fun hq => And.imp (fun hq => of_decide_eq_true hq) (fun hq => (hq)) (bU0.1 hq)) (bU0.1 hq)) (Eq.mp (bS3 _) h1); refine l5 G (B1 ⟨[(6, _, [5, 6, 7, 9, 10, 11])], [(!m0 (t3 c) == m0 (t3 c), false), (!(decide ((l6 (t3 c)).vars = (l6 (t3 c)).vars) && (decide ((l6 (t3 c)).arrays = (l6 (t3 c)).arrays) && r7 (l6 (t3 c)).body (l6 (t3 c)).body)), false)], us [(4, 7, 0), (1008, 1008, 0), (10, 11, 1), (1012, 1012, 1)]⟩ (b8 (l7.lend (ag4 ((l6 (t3 c)).vars) ((l6 (t3 c)).arrays) ((l6 (t3 c)).body) ((l6 (t3 c)).vars) ((l6 (t3 c)).arrays) ((l6 (t3 c)).body)) [.row 3, .row 3, .tree]) d7) ⟨(by simp [h0, h1]), (by assumption), bR2⟩) [(43, .v (.bool !m0 (t3 c)))] fun G => b5 ?_; cases h2 : (!m0 (t3 c))
    ·
     have q2 : (m0 (t3 c)) = true := (Eq.mp (bS3 _) h2); refine rF G _ h2 (wp_skip (b5 (wp_seq (m6 G (A0 1 [1, 2, 3] (aZ1 ((t3 c).vars) ((t3 c).arrays) ((t3 c).body) (by assumption))) (rg 9) (dY c :: dI (t3 c).vars :: dI (t3 c).arrays :: dT (t3 c).body :: .box (pL 1) :: (F0 c [])) [(2, bA false), (3, .ptr 4 0), (4, .ptr 8 0), (8, iA (H3 (f5.mk (t3 c).vars (t3 c).arrays (t3 c).body) false).fst)] fun G => b5 (wp_seq (l5 G (A0 1 [5, 6, 7] (l7.lend (aZ1 ((l6 (t3 c)).vars) ((l6 (t3 c)).arrays) ((l6 (t3 c)).body) (by assumption)) [.row 3, .row 3, .tree])) [(10, iA (H3 (H7 c) false).fst)] fun G => b5 (wp_seq (m6 G (A0 1 [1, 2, 3] (aZ0 ((t3 c).vars) ((t3 c).arrays) ((t3 c).body) (by assumption))) [0, 5, 6, 7, 8] [dY c, .row 3 (D.ints (l6 (t3 c)).vars), .row 3 (D.ints (l6 (t3 c)).arrays), .tree (D.stmts (l6 (t3 c)).body), .box [.ref 1, .ref 2, .tref 3]] [(2, bA false), (4, .ptr 4 0), (8, iA (H3 (f5.mk (t3 c).vars (t3 c).arrays (t3 c).body) false).fst), (10, iA (H3 (H7 c) false).fst), (12, iA (ctR (f5.mk (t3 c).vars (t3 c).arrays (t3 c).body)).fst)] fun G => b5 (wp_seq (m6 G (A0 1 [1, 2, 3] (l7.lend (aZ0 ((l6 (t3 c)).vars) ((l6 (t3 c)).arrays) ((l6 (t3 c)).body) (by assumption)) [.row 3, .row 3, .tree])) [0] [dY c] [(2, bA false), (8, iA (H3 (f5.mk (t3 c).vars (t3 c).arrays (t3 c).body) false).fst), (10, iA (H3 (H7 c) false).fst), (12, iA (ctR (f5.mk (t3 c).vars (t3 c).arrays (t3 c).body)).fst), (14, iA (ctR (H7 c)).fst)] fun G => b5 (wp_seq ?_))))))))))); cases h3 : ((H3 (f5.mk (t3 c).vars (t3 c).arrays (t3 c).body) false).fst != 0)
     ·
      have q3 := bne_eq_false_iff_eq.1 h3; cases h4 : ((H3 (f5.mk (l6 (t3 c)).vars (l6 (t3 c)).arrays (l6 (t3 c)).body) false).fst == 0)
      · have q4 := ne_of_beq_false h4; exact False.elim (by have h9 := hB2 (by omega); omega)
      ·
       have q4 := eq_of_beq h4; cases h5 : ((ctR (f5.mk (t3 c).vars (t3 c).arrays (t3 c).body)).fst != 0)
       · have q5 := bne_eq_false_iff_eq.1 h5; refine l5 G (F8 (fc h3 (fc h4 (fc h5 fz))) [(3, 0), (4, 0), (1005, 0), (7, 1), (8, 1), (9, 1), (10, 2), (11, 2), (12, 1), (1012, 2), (1013, 1)]) [(2, bA ((ctR (H7 c)).fst == 0))] fun G => b5 (wp_ret ?_); exact C7 ((ctR (f5.mk (l6 (t3 c)).vars (l6 (t3 c)).arrays (l6 (t3 c)).body)).fst == 0) G [0] (by have h9 := hB2 (by omega); rw [h9]; rfl)
       · have q5 := bne_iff_ne.1 h5; refine l5 G (F8 (fc h3 (fc h4 (fc h5 fz))) [(3, 0), (4, 0), (1005, 0), (7, 1), (8, 1), (9, 1), (10, 2), (11, 2), (12, 1), (1012, 2), (1013, 1)]) [(2, bA true)] fun G => b5 (wp_ret ?_); exact M6 G [0]
     ·
      have q3 := bne_iff_ne.1 h3; cases h6 : ((ctR (f5.mk (t3 c).vars (t3 c).arrays (t3 c).body)).fst != 0)
      · have q6 := bne_eq_false_iff_eq.1 h6; refine l5 G (F8 (fc h3 (fc (b := true) rfl (fc h6 fz))) [(3, 0), (4, 0), (1005, 0), (7, 1), (8, 1), (9, 1), (10, 2), (11, 2), (12, 1), (1012, 2), (1013, 1)]) [(2, bA ((ctR (H7 c)).fst == 0))] fun G => b5 (wp_ret ?_); exact C7 ((ctR (f5.mk (l6 (t3 c)).vars (l6 (t3 c)).arrays (l6 (t3 c)).body)).fst == 0) G [0] (by have h9 := hB2 (by omega); rw [h9]; rfl)
      · have q6 := bne_iff_ne.1 h6; refine l5 G (F8 (fc h3 (fc (b := true) rfl (fc h6 fz))) [(3, 0), (4, 0), (1005, 0), (7, 1), (8, 1), (9, 1), (10, 2), (11, 2), (12, 1), (1012, 2), (1013, 1)]) [(2, bA true)] fun G => b5 (wp_ret ?_); exact M6 G [0]
    · have q2 : (m0 (t3 c)) = false := (Eq.mp (bS1 _) h2); refine rT G _ h2 (wp_seq (m6 G (B1 ⟨[(6, _, [5, 6, 7, 9, 10, 11])], [(m0 (t3 c) == m0 (t3 c), true)], [(4, 0), (5, 0), (6, 0), (1007, 0)]⟩ (b8 (l7.lend (ag4 ((l6 (t3 c)).vars) ((l6 (t3 c)).arrays) ((l6 (t3 c)).body) ((l6 (t3 c)).vars) ((l6 (t3 c)).arrays) ((l6 (t3 c)).body)) [.row 3, .row 3, .tree]) d7) ⟨(by rw [q2]; rfl), bR2⟩) (rg 9) (dY c :: dI (t3 c).vars :: dI (t3 c).arrays :: dT (t3 c).body :: .box (pL 1) :: (F0 c [])) [(2, bA (decide ((l6 (t3 c)).vars = (l6 (t3 c)).vars) && (decide ((l6 (t3 c)).arrays = (l6 (t3 c)).arrays) && r7 (l6 (t3 c)).body (l6 (t3 c)).body))), (3, .ptr 4 0), (4, .ptr 8 0)] fun G => b5 (wp_ret (m8 ?_)))); exact C7 (decide ((l6 (t3 c)).vars = (l6 (t3 c)).vars) && (decide ((l6 (t3 c)).arrays = (l6 (t3 c)).arrays) && r7 (l6 (t3 c)).body (l6 (t3 c)).body)) G [0] ((a92 _).symm)
   · have q1 : (¬ ((l6 (t3 c)).vars = (l6 (t3 c)).vars)) ∨ ((¬ ((l6 (t3 c)).arrays = (l6 (t3 c)).arrays)) ∨ ((r7 (l6 (t3 c)).body (l6 (t3 c)).body) = false)) := (fun hq => Or.imp (fun hq => of_decide_eq_false hq) (fun hq => Or.imp (fun hq => of_decide_eq_false hq) (fun hq => (hq)) (bT9.1 hq)) (bT9.1 hq)) (Eq.mp (bS1 _) h1); exact False.elim (bI1 _ (by with_reducible assumption))
  · refine wp_seq (l5 G f9 [(2, bA true)] fun G => b5 (wp_ret (m8 ?_))); exact M6 G [0]
theorem bN3 (u : Value) (c : List UInt8) (w : World) (hp : X4 w u c.length 1 (u8s c)) : Calls Tryz.prog 3 #[u] w fun e w' => e = .returned (.bool true) ∧ Below w.heap.size w w' :=
 bh8 (bM4 c) u w (hp.rowF fun _ _ => trivial)
end Go.Proofs.YthikdkjjdeehoaaGreat.exLFoldFlow

namespace Go.Proofs.YthikdkjjdeehoaaGreat.exLFoldFlow
set_option linter.unusedVariables false
set_option linter.unusedSimpArgs false
open Go Go.RowKit Go.ChangeShapes Go.WideShapes Go.ChangeAt Go.Proofs.YthikdkjjdeehoaaGreat
theorem lifted (os : Os) (started : os.Started) (H : Type) (enc : TypeId × Value → H) :
  ReturnsInHanded {} Tryz.checked os 3 .any (Rows.fnFoldFlowSpec.pre6 enc Tryz.prog Tryz.f3 Rows.fnFoldFlowRow.domain false) (Rows.fnFoldFlowSpec.post enc Tryz.prog Tryz.f3 false true false false) := by
 refine returnsInHanded_of_change (C := Tryz.checked) own started (by kernel_rfl) Tryz.func3
  (ChangeSpec.witness6 (enc := enc) (C := Tryz.checked) false ⟨#[], #[.slice none 0 0], []⟩ 8 (by kernel_rfl) (by kernel_rfl) (by kernel_rfl) (by kernel_rfl)) ?_
 intro W base args ds gs before hval0 hW hcnd _
 have hval : ∀ (j : Nat) t v, Tryz.f3.params[j]? = some t → args[j]? = some v → Value.okWide Tryz.prog W .any base t v := hval0
 have hW' := hW
 obtain ⟨p, q, hA0, hV, rfl, hfz, hnd⟩ := hW
 have hA : DataW.TrodAll enc Tryz.prog W 0 (fun _ => true) true Tryz.f3.params.toList args.toList ds p := hA0
 rw [Tryz.params3] at hA hval
 obtain ⟨v0, vs0, d0, ds0, p0, q0, hargs, rfl, rfl, h0, r0⟩ := trodAll_cons hA
 obtain ⟨rfl, rfl, rfl⟩ := trodAll_nil r0
 obtain rfl : args = #[v0] := by cases args; simp_all
 obtain ⟨rfl, rfl⟩ := trodVars_none hV
 have k0 := h0
 have lt0 : ∀ x ∈ p0, x.block < W.heap.size := by obtain ⟨m, hm⟩ := k0; exact DataW.trod_lt m _ _ _ hm
 obtain ⟨a0, len0, cap0, rfl⟩ := okWide_slice Tryz.underlying22 (hval 0 22 v0 rfl rfl)
 obtain ⟨x0, hx0⟩ : ∃ l : List UInt8, X4 W (.slice a0 len0 cap0) l.length 1 (u8s l) := by
  obtain ⟨fuel, hf⟩ := h0
  exact aI0 Tryz.underlying22 hf
 clear hA0 hval0
 refine (bN3 _ x0 W hx0).mono fun e W' ⟨he, bel⟩ => ?_
 subst he
 exact ⟨_, rfl, _, _, _, [], _, [], hW', trodAll_mk1 (shut_bool Tryz.underlying4 _), (trodAll_cons_mk (Below.trod bx9 (by kernel_rfl) (of_decide_eq_true (by kernel_rfl)) k0 bel lt0) trodAll_mk0), rfl, bel.frame _, fun h => by cases h⟩
theorem facts : joinedFacts Tryz.pinned.checked.prog 3 Tryz.f3 Rows.fnFoldFlowSpec Rows.fnFoldFlowRow = true := by
 unfold joinedFacts
 rw [may_enter, lifts_final, make_is]
 kernel_rfl
theorem over : Rows.fnFoldFlowRow.holds Tryz.pinned (OpenSpec.ofChange Rows.fnFoldFlowSpec) :=
 OpenClaim.holds_of_wide 3 Tryz.f3 rfl rfl rfl rfl rfl rfl rfl ⟨rfl, rfl, rfl, rfl, rfl⟩ rfl rfl rfl rfl rfl (by kernel_rfl) Tryz.func3 facts
  (of_decide_eq_true (by kernel_rfl)) (by unfold Func.isWrapper; first | (rw [if_pos (by decide +kernel)]; kernel_rfl) | (rw [if_neg (by decide +kernel)]; exact ⟨rfl, rfl⟩))
  (fun os started H enc _ => lifted os started H enc)
theorem proved : Rows.FnFoldFlowSaid := over
end Go.Proofs.YthikdkjjdeehoaaGreat.exLFoldFlow
