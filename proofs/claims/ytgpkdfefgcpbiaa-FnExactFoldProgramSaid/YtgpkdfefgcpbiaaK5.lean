/-
  Texts of this claim, part 5: what the functions on the way do, and plain laws. Conditions: as each statement says.
-/
import Derived.Test.YtgpkdfefgcpbiaaK4

namespace Go.Proofs.Ytgpkdfefgcpbiaa
set_option linter.unusedVariables false
set_option linter.unusedSimpArgs false
open Go Go.RowKit

theorem d_copyE (e : LExpr) (hb : szE e ≤ 1048576) : Ctr.ok Try.prog ⟨168, [eA e 0], eS e, eS e ++ [dE e.kids], .agg [iA e.kind, iA e.value, .ref 1]⟩ :=
  Ctr.datPost (S := eS e) (d := .exprs e.kids) (c_copyE e hb) (.agg [iA e.kind, iA e.value, .ref 1])
abbrev foC (f : FuncId) (e : LExpr) : Ctr := ⟨f, [eA e 0], eS e, eS e ++ [dE (foldE e).kids], .agg [iA (foldE e).kind, iA (foldE e).value, .ref 1]⟩
theorem fo_value {nv na : Nat} {s : LStmt} (h : headB nv na s = true) (k : ¬ s.kind = 4) : shapeB nv na 5 s.value = true := by
  have key : rightB nv na s.value = true := by
    by_cases k1 : s.kind = 1 ∨ s.kind = 5
    · rw [head1 k1] at h; simp only [Bool.and_eq_true] at h; exact h.2.2
    by_cases k2 : s.kind = 2
    · rw [head2 k2] at h; simp only [Bool.and_eq_true] at h; exact h.2.2.2
    by_cases k3 : s.kind = 3
    · rw [head3 k3] at h; simp only [Bool.and_eq_true] at h; exact h.2.2
    · rw [head0 (by omega)] at h; cases h
  unfold rightB at key; simp only [Bool.and_eq_true] at key; exact key.1
theorem fo_at {nv na d k : Nat} {ss : List LStmt} (hs : ss.all (stmtB nv na (d + 1)) = true) (hk : k < ss.length) : headB nv na (ss.getD k default) = true ∧ (ss.getD k default).body.all (stmtB nv na d) = true ∧ (ss.getD k default).els.all (stmtB nv na d) = true := by
  have h := List.all_eq_true.1 hs _ (List.getElem_mem hk)
  rw [stmtB_head, Bool.and_eq_true, Bool.and_eq_true] at h
  rw [getD_lt hk]; exact h
theorem fo_good {nv na d k : Nat} {ss : List LStmt} (hs : ss.all (stmtB nv na (d + 1)) = true) (hk : k < ss.length) (h4 : ¬ (ss.getD k default).kind = 4) : goodE (ss.getD k default).value = true := good_shape _ _ _ _ (fo_value (fo_at hs hk).1 h4)
theorem fo_end {ss : List LStmt} {k : Nat} (hk : ss.length ≤ k) : foldSs ss = foldSs (ss.take k) := by rw [List.take_of_length_le hk]
abbrev lbC (f : FuncId) (ss : List LStmt) : Ctr := ⟨f, [.ref 0], [dT ss], [dT ss, dT (foldSs ss)], .ref 1⟩
set_option maxHeartbeats 8000000 in
set_option maxRecDepth 100000 in
theorem s_l8Block (nv na d : Nat) (ss : List LStmt) (hs : ss.all (stmtB nv na (d + 1)) = true) (hb : szSs ss ≤ 1048576) (hf : ∀ (e : LExpr), goodE e = true → Ctr.ok Try.prog (foC 74 e)) (ih : ∀ (tt : List LStmt), tt.all (stmtB nv na d) = true → szSs tt ≤ 1048576 → 0 < ss.length → Ctr.ok Try.prog (lbC 119 tt)) : Ctr.ok Try.prog (lbC 119 ss) := by
  have hcp := d_copyE
  refine rx_enter 98 Try.func119 (by rfl) (by kernel_rfl) (by kernel_rfl) ?_
  intro ι φ ψ w0 w F ρ0 ρ a G
  replace G := Gam.at G [dT ss] [(0, .ref 0)]
  have hl := block_fit hb
  refine wp_seq ?_
  refine rs0s G [(0, .ref 0), (2, .v (.slice none 0 0))] ?_
  clear G; intro ρ a w G
  refine th_n ?_
  refine wp_seq ?_
  refine rs0 G [0, 1] [dT ss, .tree (D.stmts [])] [(0, .ref 0), (2, .v (.slice none 0 0)), (3, .tref 1)] ?_
  clear G; intro ρ a w G
  refine th_n ?_
  refine wp_seq ?_
  refine wp_seq ?_
  refine rs0s G [(0, .ref 0), (2, .v (.slice none 0 0)), (3, .tref 1), (4, iA 0)] ?_
  clear G; intro ρ a w G
  refine th_n ?_
  refine wp_block ?_
  have Gx := G.treeRow 1 135 (D.stmts []) [dT ss, .row 135 (D.stmts [])] [(0, .ref 0), (2, .v (.slice none 0 0)), (3, .ref 1), (4, iA 0)]
  clear G
  obtain ⟨ρ, G⟩ := Gx
  refine rx_for (κ := Nat) (fun k => k ≤ ss.length) (fun k => ss.length - k) (fun k => [dT ss, .row 135 (.stmts (foldSs (ss.take k)))]) (fun k => [(0, .ref 0), (2, .v (.slice none 0 0)), (3, .ref 1), (4, iA k)]) (0) (by simp [hs]) (Gam.at G _ _) ?_
  clear G
  intro k ρ a w hp G
  replace G := Gam.at G [dT ss, .row 135 (D.stmts (foldSs (List.take k ss)))] [(0, .ref 0), (2, .v (.slice none 0 0)), (3, .ref 1), (4, iA (↑k : Int))]
  have hfl := fo_len (k := k) hb
  refine wp_seq ?_
  refine wp_seq ?_
  refine rs0s G [(0, .ref 0), (2, .v (.slice none 0 0)), (3, .ref 1), (4, iA (↑k : Int)), (10, bA (decide ((↑k : Int) < (↑ss.length : Int))))] ?_
  clear G; intro ρ a w G
  refine th_n ?_
  cases h0 : (decide ((↑k : Int) < (↑ss.length : Int)))
  ·
   have q0 : ¬ ((↑k : Int) < (↑ss.length : Int)) := of_decide_eq_false h0
   refine rF G (decide ((↑k : Int) < (↑ss.length : Int))) (by assumption) ?_
   refine wp_exit ?_
   refine th_e ?_
   refine th_e ?_
   refine bl_hit ?_
   refine th_n ?_
   refine wp_seq ?_
   refine rs0s G [(2, .ref 1)] ?_
   clear G; intro ρ a w G
   refine th_n ?_
   refine wp_ret ?_
   have Gx := G.frz [.no, .row 135] [dT ss, dT (foldSs (List.take k ss))] [(2, .ref 1)]
   clear G
   obtain ⟨ρ, G⟩ := Gx
   exact rx_ret (v := .ref 1) G [0, 1] (by kernel_rfl) (by kernel_rfl) (by show _ = List.map (It.ren (nth [0, 1])) [dT ss, dT (foldSs ss)]; have e1 : (foldSs ss : List LStmt) = (foldSs (List.take k ss)) := (by exact fo_end (by omega)); first | (rw [e1]; done) | (rw [e1]; rfl) | (simp only [e1]; done) | (simp only [e1]; rfl)) (by kernel_rfl)
  ·
   have q0 : (↑k : Int) < (↑ss.length : Int) := of_decide_eq_true h0
   refine rT G (decide ((↑k : Int) < (↑ss.length : Int))) (by assumption) ?_
   refine wp_skip ?_
   refine th_n ?_
   refine wp_seq ?_
   refine wp_block ?_
   refine wp_seq ?_
   refine rs1 (dk := dkP) G ⟨[], [], []⟩ calls_nil trivial [0, 1, 26, 27, 28, 29, 34] [dT ss, .row 135 (D.stmts (foldSs (List.take k ss))), dE (ss.getD k default).index.kids, dE (ss.getD k default).value.kids, dT (ss.getD k default).body, dT (ss.getD k default).els, .box (sL (ss.getD k default) 2)] [(0, .ref 0), (2, .v (.slice none 0 0)), (3, .ref 1), (4, iA (↑k : Int)), (5, .ptr 6 0)] [(0 : Int) ≤ (↑k : Int), (↑k : Int) < (↑ss.length : Int), k < ss.length] ⟨(by simp [hs, h0]), (by assumption), (by have h8 := fo_lenB (fit_sub hb (show ((k : Nat) : Int) < ss.length by omega)).2.2.2; omega), trivial⟩ ?_
   clear G; intro ρ a w G
   refine th_n ?_
   refine wp_seq ?_
   refine rs1 (dk := dkP) G ⟨[(2, _, [2])], [], []⟩ (calls_cons (hcp ((ss.getD k default).index) (by exact (fit_sub hb (by assumption)).1)) calls_nil) trivial [0, 1, 3, 4, 5, 6, 23] [dT ss, .row 135 (D.stmts (foldSs (List.take k ss))), dE (ss.getD k default).value.kids, dT (ss.getD k default).body, dT (ss.getD k default).els, .box [iA (ss.getD k default).kind, iA (ss.getD k default).target, iA (ss.getD k default).index.kind, iA (ss.getD k default).index.value, .ref 6, iA (ss.getD k default).value.kind, iA (ss.getD k default).value.value, .ref 2, iA (ss.getD k default).count, .ref 3, .ref 4], dE (ss.getD k default).index.kids] [(0, .ref 0), (2, .v (.slice none 0 0)), (3, .ref 1), (4, iA (↑k : Int)), (5, .ptr 5 0)] [] trivial ?_
   clear G; intro ρ a w G
   refine th_n ?_
   refine wp_seq ?_
   refine rs1 (dk := dkP) G ⟨[(2, _, [3])], [], []⟩ (calls_cons (ih ((ss.getD k default).body) (by exact (fo_at hs (by omega)).2.1) (by exact (fit_sub hb (by assumption)).2.2.1) (by have h8 := fo_lenB (fit_sub hb (show ((k : Nat) : Int) < ss.length by omega)).2.2.2; omega)) calls_nil) trivial [0, 1, 2, 4, 5, 6, 23] [dT ss, .row 135 (D.stmts (foldSs (List.take k ss))), dE (ss.getD k default).value.kids, dT (ss.getD k default).els, .box [iA (ss.getD k default).kind, iA (ss.getD k default).target, iA (ss.getD k default).index.kind, iA (ss.getD k default).index.value, .ref 5, iA (ss.getD k default).value.kind, iA (ss.getD k default).value.value, .ref 2, iA (ss.getD k default).count, .ref 6, .ref 3], dE (ss.getD k default).index.kids, dT (foldSs (ss.getD k default).body)] [(0, .ref 0), (2, .v (.slice none 0 0)), (3, .ref 1), (4, iA (↑k : Int)), (5, .ptr 4 0)] [] trivial ?_
   clear G; intro ρ a w G
   refine th_n ?_
   refine wp_seq ?_
   refine rs1 (dk := dkP) G ⟨[(2, _, [3])], [], []⟩ (calls_cons (ih ((ss.getD k default).els) (by exact (fo_at hs (by omega)).2.2) (by exact (fit_sub hb (by assumption)).2.2.2) (by have h8 := fo_lenB (fit_sub hb (show ((k : Nat) : Int) < ss.length by omega)).2.2.2; omega)) calls_nil) trivial [0, 1, 2, 4, 5, 6, 23] [dT ss, .row 135 (D.stmts (foldSs (List.take k ss))), dE (ss.getD k default).value.kids, .box [iA (ss.getD k default).kind, iA (ss.getD k default).target, iA (ss.getD k default).index.kind, iA (ss.getD k default).index.value, .ref 4, iA (ss.getD k default).value.kind, iA (ss.getD k default).value.value, .ref 2, iA (ss.getD k default).count, .ref 5, .ref 6], dE (ss.getD k default).index.kids, dT (foldSs (ss.getD k default).body), dT (foldSs (ss.getD k default).els)] [(0, .ref 0), (2, .v (.slice none 0 0)), (3, .ref 1), (4, iA (↑k : Int)), (5, .ptr 3 0)] [] trivial ?_
   clear G; intro ρ a w G
   refine th_n ?_
   refine wp_seq ?_
   refine wp_seq ?_
   refine rs0s G [(0, .ref 0), (2, .v (.slice none 0 0)), (3, .ref 1), (4, iA (↑k : Int)), (5, .ptr 3 0), (31, bA ((ss.getD k default).kind != 4))] ?_
   clear G; intro ρ a w G
   refine th_n ?_
   cases h1 : ((ss.getD k default).kind != (4 : Int))
   ·
    have q1 : (ss.getD k default).kind = 4 := (by simpa using h1)
    refine rF G ((ss.getD k default).kind != (4 : Int)) (by assumption) ?_
    refine wp_skip ?_
    refine th_n ?_
    refine wp_block ?_
    refine wp_seq ?_
    cases h2 : ((ss.getD k default).kind == (3 : Int))
    ·
     have q2 : ¬ ((ss.getD k default).kind = 3) := ne_of_beq_false h2
     refine rs1s G ⟨[], [((ss.getD k default).kind == (3 : Int), false), (false, false)], [(4, 0), (5, 0), (6, 0), (7, 0), (1008, 0), (10, 1), (11, 1), (12, 1), (13, 1), (1014, 1)]⟩ calls_nil ⟨(by assumption), (by kernel_rfl), trivial⟩ [(0, .ref 0), (2, .v (.slice none 0 0)), (3, .ref 1), (4, iA (↑k : Int)), (5, .ptr 3 0), (40, bA false)] [] trivial ?_
     clear G; intro ρ a w G
     refine th_n ?_
     refine rF G (false) (by kernel_rfl) ?_
     refine wp_seq ?_
     refine rs1s G ⟨[], [((ss.getD k default).kind == (3 : Int), false)], [(4, 0), (5, 0), (6, 0), (7, 0), (1008, 0)]⟩ calls_nil ⟨(by assumption), trivial⟩ [(0, .ref 0), (2, .v (.slice none 0 0)), (3, .ref 1), (4, iA (↑k : Int)), (5, .ptr 3 0), (60, bA false)] [] trivial ?_
     clear G; intro ρ a w G
     refine th_n ?_
     refine rF G (false) (by kernel_rfl) ?_
     refine wp_seq ?_
     cases h3 : ((ss.getD k default).kind == (4 : Int))
     ·
      have q3 : ¬ ((ss.getD k default).kind = 4) := ne_of_beq_false h3
      refine rs1s G ⟨[], [((ss.getD k default).kind == (4 : Int), false)], [(4, 0), (5, 0), (6, 0), (1007, 0)]⟩ calls_nil ⟨(by assumption), trivial⟩ [(0, .ref 0), (2, .v (.slice none 0 0)), (3, .ref 1), (4, iA (↑k : Int)), (5, .ptr 3 0), (74, bA false)] [] trivial ?_
      clear G; intro ρ a w G
      refine th_n ?_
      refine rF G (false) (by kernel_rfl) ?_
      refine wp_seq ?_
      refine rs1s G ⟨[], [((ss.getD k default).kind == (4 : Int), false)], [(4, 0), (5, 0), (6, 0), (7, 0), (1008, 0)]⟩ calls_nil ⟨(by assumption), trivial⟩ [(0, .ref 0), (2, .v (.slice none 0 0)), (3, .ref 1), (4, iA (↑k : Int)), (5, .ptr 3 0), (87, bA false)] [] trivial ?_
      clear G; intro ρ a w G
      refine th_n ?_
      refine rF G (false) (by kernel_rfl) ?_
      refine rs1 (dk := dkP) G ⟨[], [], []⟩ calls_nil trivial [0, 31] [dT ss, .row 135 (D.stmts (foldSs (List.take k ss) ++ ([LStmt.mk (ss.getD k default).kind (ss.getD k default).target (LExpr.mk (ss.getD k default).index.kind (ss.getD k default).index.value (ss.getD k default).index.kids) (LExpr.mk (ss.getD k default).value.kind (ss.getD k default).value.value (ss.getD k default).value.kids) (ss.getD k default).count (foldSs (ss.getD k default).body) (foldSs (ss.getD k default).els)] ++ [])))] [(0, .ref 0), (2, .v (.slice none 0 0)), (3, .ref 1), (4, iA (↑k : Int))] [(foldSs (List.take k ss)).length + ([LStmt.mk (ss.getD k default).kind (ss.getD k default).target (LExpr.mk (ss.getD k default).index.kind (ss.getD k default).index.value (ss.getD k default).index.kids) (LExpr.mk (ss.getD k default).value.kind (ss.getD k default).value.value (ss.getD k default).value.kids) (ss.getD k default).count (foldSs (ss.getD k default).body) (foldSs (ss.getD k default).els)] ++ []).length ≤ (9223372036854775807 : Nat), ((foldSs (List.take k ss)).length + ([LStmt.mk (ss.getD k default).kind (ss.getD k default).target (LExpr.mk (ss.getD k default).index.kind (ss.getD k default).index.value (ss.getD k default).index.kids) (LExpr.mk (ss.getD k default).value.kind (ss.getD k default).value.value (ss.getD k default).value.kids) (ss.getD k default).count (foldSs (ss.getD k default).body) (foldSs (ss.getD k default).els)] ++ []).length) * (152 : Nat) ≤ (140737488355328 : Nat)] ⟨(by have h8 := fo_lenB (fit_sub hb (show ((k : Nat) : Int) < ss.length by omega)).2.2.2; omega), (by have h8 := fo_lenB (fit_sub hb (show ((k : Nat) : Int) < ss.length by omega)).2.2.2; omega), trivial⟩ ?_
      clear G; intro ρ a w G
      refine bl_n ?_
      refine bl_n ?_
      refine th_n ?_
      refine rs1s G ⟨[], [], []⟩ calls_nil trivial [(0, .ref 0), (2, .v (.slice none 0 0)), (3, .ref 1), (4, iA ((↑k : Int) + 1))] [IntKind.i64.wrap ((↑k : Int) + (1 : Int)) = (↑k : Int) + (1 : Int)] ⟨(by have h8 := fo_lenB (fit_sub hb (show ((k : Nat) : Int) < ss.length by omega)).2.2.2; omega), trivial⟩ ?_
      clear G; intro ρ a w G
      refine th_n ?_
      exact rx_next G (k + 1) (by have h8 := fo_lenB (fit_sub hb (show ((k : Nat) : Int) < ss.length by omega)).2.2.2; omega) (by have h8 := fo_lenB (fit_sub hb (show ((k : Nat) : Int) < ss.length by omega)).2.2.2; omega) [0, 1] [dT ss, .row 135 (D.stmts (foldSs (List.take (k + 1) ss)))] [(0, .ref 0), (2, .v (.slice none 0 0)), (3, .ref 1), (4, iA (↑(k + 1) : Int))] (by kernel_rfl) (by kernel_rfl) (by kernel_rfl) (by have e1 : (foldSs (List.take (k + 1) ss) : List LStmt) = (foldSs (List.take k ss) ++ ([LStmt.mk (ss.getD k default).kind (ss.getD k default).target (LExpr.mk (ss.getD k default).index.kind (ss.getD k default).index.value (ss.getD k default).index.kids) (LExpr.mk (ss.getD k default).value.kind (ss.getD k default).value.value (ss.getD k default).value.kids) (ss.getD k default).count (foldSs (ss.getD k default).body) (foldSs (ss.getD k default).els)] ++ [])) := (by have h8 := fo_lenB (fit_sub hb (show ((k : Nat) : Int) < ss.length by omega)).2.2.2; omega); first | (rw [e1]; done) | (rw [e1]; rfl) | (simp only [e1]; done) | (simp only [e1]; rfl)) (by kernel_rfl)
     ·
      have q3 : (ss.getD k default).kind = 4 := eq_of_beq h3
      refine rs1s G ⟨[], [((ss.getD k default).kind == (4 : Int), true)], [(4, 0), (5, 0), (6, 0), (1007, 0)]⟩ calls_nil ⟨(by assumption), trivial⟩ [(0, .ref 0), (2, .v (.slice none 0 0)), (3, .ref 1), (4, iA (↑k : Int)), (5, .ptr 3 0), (74, bA ((ss.getD k default).count == 1))] [] trivial ?_
      clear G; intro ρ a w G
      refine th_n ?_
      cases h4 : ((ss.getD k default).count == (1 : Int))
      ·
       have q4 : ¬ ((ss.getD k default).count = 1) := ne_of_beq_false h4
       refine rF G ((ss.getD k default).count == (1 : Int)) (by assumption) ?_
       refine wp_seq ?_
       refine rs1s G ⟨[], [((ss.getD k default).kind == (4 : Int), true)], [(4, 0), (5, 0), (6, 0), (7, 0), (1008, 0)]⟩ calls_nil ⟨(by assumption), trivial⟩ [(0, .ref 0), (2, .v (.slice none 0 0)), (3, .ref 1), (4, iA (↑k : Int)), (5, .ptr 3 0), (87, bA ((↑(foldSs (ss.getD k default).body).length : Int) == 0))] [] trivial ?_
       clear G; intro ρ a w G
       refine th_n ?_
       cases h5 : ((↑(foldSs (ss.getD k default).body).length : Int) == (0 : Int))
       ·
        have q5 : ¬ ((↑(foldSs (ss.getD k default).body).length : Int) = 0) := ne_of_beq_false h5
        refine rF G ((↑(foldSs (ss.getD k default).body).length : Int) == (0 : Int)) (by assumption) ?_
        refine rs1 (dk := dkP) G ⟨[], [], []⟩ calls_nil trivial [0, 31] [dT ss, .row 135 (D.stmts (foldSs (List.take k ss) ++ ([LStmt.mk (ss.getD k default).kind (ss.getD k default).target (LExpr.mk (ss.getD k default).index.kind (ss.getD k default).index.value (ss.getD k default).index.kids) (LExpr.mk (ss.getD k default).value.kind (ss.getD k default).value.value (ss.getD k default).value.kids) (ss.getD k default).count (foldSs (ss.getD k default).body) (foldSs (ss.getD k default).els)] ++ [])))] [(0, .ref 0), (2, .v (.slice none 0 0)), (3, .ref 1), (4, iA (↑k : Int))] [(foldSs (List.take k ss)).length + ([LStmt.mk (ss.getD k default).kind (ss.getD k default).target (LExpr.mk (ss.getD k default).index.kind (ss.getD k default).index.value (ss.getD k default).index.kids) (LExpr.mk (ss.getD k default).value.kind (ss.getD k default).value.value (ss.getD k default).value.kids) (ss.getD k default).count (foldSs (ss.getD k default).body) (foldSs (ss.getD k default).els)] ++ []).length ≤ (9223372036854775807 : Nat), ((foldSs (List.take k ss)).length + ([LStmt.mk (ss.getD k default).kind (ss.getD k default).target (LExpr.mk (ss.getD k default).index.kind (ss.getD k default).index.value (ss.getD k default).index.kids) (LExpr.mk (ss.getD k default).value.kind (ss.getD k default).value.value (ss.getD k default).value.kids) (ss.getD k default).count (foldSs (ss.getD k default).body) (foldSs (ss.getD k default).els)] ++ []).length) * (152 : Nat) ≤ (140737488355328 : Nat)] ⟨(by simp only [List.length_append, List.length_cons, List.length_nil]; omega), (by simp only [List.length_append, List.length_cons, List.length_nil]; omega), trivial⟩ ?_
        clear G; intro ρ a w G
        refine bl_n ?_
        refine bl_n ?_
        refine th_n ?_
        refine rs1s G ⟨[], [], []⟩ calls_nil trivial [(0, .ref 0), (2, .v (.slice none 0 0)), (3, .ref 1), (4, iA ((↑k : Int) + 1))] [IntKind.i64.wrap ((↑k : Int) + (1 : Int)) = (↑k : Int) + (1 : Int)] ⟨(by exact w64 (by omega) (by omega)), trivial⟩ ?_
        clear G; intro ρ a w G
        refine th_n ?_
        exact rx_next G (k + 1) (by have h8 := fo_lenB (fit_sub hb (show ((k : Nat) : Int) < ss.length by omega)).2.2.2; omega) (by have h8 := fo_lenB (fit_sub hb (show ((k : Nat) : Int) < ss.length by omega)).2.2.2; omega) [0, 1] [dT ss, .row 135 (D.stmts (foldSs (List.take (k + 1) ss)))] [(0, .ref 0), (2, .v (.slice none 0 0)), (3, .ref 1), (4, iA (↑(k + 1) : Int))] (by kernel_rfl) (by kernel_rfl) (by kernel_rfl) (by have e1 : (foldSs (List.take (k + 1) ss) : List LStmt) = (foldSs (List.take k ss) ++ ([LStmt.mk (ss.getD k default).kind (ss.getD k default).target (LExpr.mk (ss.getD k default).index.kind (ss.getD k default).index.value (ss.getD k default).index.kids) (LExpr.mk (ss.getD k default).value.kind (ss.getD k default).value.value (ss.getD k default).value.kids) (ss.getD k default).count (foldSs (ss.getD k default).body) (foldSs (ss.getD k default).els)] ++ [])) := (by exact fo5 (by omega) (by omega) (by omega) (by omega)); first | (rw [e1]; done) | (rw [e1]; rfl) | (simp only [e1]; done) | (simp only [e1]; rfl)) (by kernel_rfl)
       ·
        have q5 : (↑(foldSs (ss.getD k default).body).length : Int) = 0 := eq_of_beq h5
        refine rT G ((↑(foldSs (ss.getD k default).body).length : Int) == (0 : Int)) (by assumption) ?_
        refine wp_skip ?_
        refine bl_n ?_
        refine bl_n ?_
        refine th_n ?_
        refine rs1 (dk := dkP) G ⟨[], [], []⟩ calls_nil trivial [0, 1] [dT ss, .row 135 (D.stmts (foldSs (List.take k ss)))] [(0, .ref 0), (2, .v (.slice none 0 0)), (3, .ref 1), (4, iA ((↑k : Int) + 1))] [IntKind.i64.wrap ((↑k : Int) + (1 : Int)) = (↑k : Int) + (1 : Int)] ⟨(by exact w64 (by omega) (by omega)), trivial⟩ ?_
        clear G; intro ρ a w G
        refine th_n ?_
        exact rx_next G (k + 1) (by have h8 := fo_lenB (fit_sub hb (show ((k : Nat) : Int) < ss.length by omega)).2.2.2; omega) (by have h8 := fo_lenB (fit_sub hb (show ((k : Nat) : Int) < ss.length by omega)).2.2.2; omega) [0, 1] [dT ss, .row 135 (D.stmts (foldSs (List.take (k + 1) ss)))] [(0, .ref 0), (2, .v (.slice none 0 0)), (3, .ref 1), (4, iA (↑(k + 1) : Int))] (by kernel_rfl) (by kernel_rfl) (by kernel_rfl) (by have e1 : (foldSs (List.take (k + 1) ss) : List LStmt) = (foldSs (List.take k ss)) := (by exact fo4 (by omega) (by omega) (by omega) (by omega)); first | (rw [e1]; done) | (rw [e1]; rfl) | (simp only [e1]; done) | (simp only [e1]; rfl)) (by kernel_rfl)
      ·
       have q4 : (ss.getD k default).count = 1 := eq_of_beq h4
       refine rT G ((ss.getD k default).count == (1 : Int)) (by assumption) ?_
       refine rs1 (dk := dkP) G ⟨[], [], []⟩ calls_nil trivial [0, 31] [dT ss, .row 135 (D.stmts (foldSs (List.take k ss) ++ foldSs (ss.getD k default).body))] [(0, .ref 0), (2, .v (.slice none 0 0)), (3, .ref 1), (4, iA (↑k : Int))] [(foldSs (List.take k ss)).length + (foldSs (ss.getD k default).body).length ≤ (9223372036854775807 : Nat), ((foldSs (List.take k ss)).length + (foldSs (ss.getD k default).body).length) * (152 : Nat) ≤ (140737488355328 : Nat)] ⟨(by have h8 := fo_lenB (fit_sub hb (show ((k : Nat) : Int) < ss.length by omega)).2.2.1; omega), (by have h8 := fo_lenB (fit_sub hb (show ((k : Nat) : Int) < ss.length by omega)).2.2.1; omega), trivial⟩ ?_
       clear G; intro ρ a w G
       refine bl_n ?_
       refine bl_n ?_
       refine th_n ?_
       refine rs1s G ⟨[], [], []⟩ calls_nil trivial [(0, .ref 0), (2, .v (.slice none 0 0)), (3, .ref 1), (4, iA ((↑k : Int) + 1))] [IntKind.i64.wrap ((↑k : Int) + (1 : Int)) = (↑k : Int) + (1 : Int)] ⟨(by exact w64 (by omega) (by omega)), trivial⟩ ?_
       clear G; intro ρ a w G
       refine th_n ?_
       exact rx_next G (k + 1) (by have h8 := fo_lenB (fit_sub hb (show ((k : Nat) : Int) < ss.length by omega)).2.2.2; omega) (by have h8 := fo_lenB (fit_sub hb (show ((k : Nat) : Int) < ss.length by omega)).2.2.2; omega) [0, 1] [dT ss, .row 135 (D.stmts (foldSs (List.take (k + 1) ss)))] [(0, .ref 0), (2, .v (.slice none 0 0)), (3, .ref 1), (4, iA (↑(k + 1) : Int))] (by kernel_rfl) (by kernel_rfl) (by kernel_rfl) (by have e1 : (foldSs (List.take (k + 1) ss) : List LStmt) = (foldSs (List.take k ss) ++ foldSs (ss.getD k default).body) := (by exact fo3 (by omega) (by omega) (by omega)); first | (rw [e1]; done) | (rw [e1]; rfl) | (simp only [e1]; done) | (simp only [e1]; rfl)) (by kernel_rfl)
    ·
     have q2 : (ss.getD k default).kind = 3 := eq_of_beq h2
     cases h6 : ((ss.getD k default).value.kind == (1 : Int))
     ·
      have q6 : ¬ ((ss.getD k default).value.kind = 1) := ne_of_beq_false h6
      refine rs1s G ⟨[], [((ss.getD k default).kind == (3 : Int), true), ((ss.getD k default).value.kind == (1 : Int), false)], [(4, 0), (5, 0), (6, 0), (7, 0), (1008, 0), (10, 1), (11, 1), (12, 1), (13, 1), (1014, 1)]⟩ calls_nil ⟨(by assumption), (by assumption), trivial⟩ [(0, .ref 0), (2, .v (.slice none 0 0)), (3, .ref 1), (4, iA (↑k : Int)), (5, .ptr 3 0), (40, bA false)] [] trivial ?_
      clear G; intro ρ a w G
      refine th_n ?_
      refine rF G (false) (by kernel_rfl) ?_
      refine wp_seq ?_
      refine rs1s G ⟨[], [((ss.getD k default).kind == (3 : Int), true)], [(4, 0), (5, 0), (6, 0), (7, 0), (1008, 0)]⟩ calls_nil ⟨(by assumption), trivial⟩ [(0, .ref 0), (2, .v (.slice none 0 0)), (3, .ref 1), (4, iA (↑k : Int)), (5, .ptr 3 0), (60, bA ((ss.getD k default).value.kind == 1))] [] trivial ?_
      clear G; intro ρ a w G
      refine th_n ?_
      refine rF G ((ss.getD k default).value.kind == (1 : Int)) (by assumption) ?_
      refine wp_seq ?_
      cases h7 : ((ss.getD k default).kind == (4 : Int))
      ·
       have q7 : ¬ ((ss.getD k default).kind = 4) := ne_of_beq_false h7
       refine rs1s G ⟨[], [((ss.getD k default).kind == (4 : Int), false)], [(4, 0), (5, 0), (6, 0), (1007, 0)]⟩ calls_nil ⟨(by assumption), trivial⟩ [(0, .ref 0), (2, .v (.slice none 0 0)), (3, .ref 1), (4, iA (↑k : Int)), (5, .ptr 3 0), (74, bA false)] [] trivial ?_
       clear G; intro ρ a w G
       refine th_n ?_
       refine rF G (false) (by kernel_rfl) ?_
       refine wp_seq ?_
       refine rs1s G ⟨[], [((ss.getD k default).kind == (4 : Int), false)], [(4, 0), (5, 0), (6, 0), (7, 0), (1008, 0)]⟩ calls_nil ⟨(by assumption), trivial⟩ [(0, .ref 0), (2, .v (.slice none 0 0)), (3, .ref 1), (4, iA (↑k : Int)), (5, .ptr 3 0), (87, bA false)] [] trivial ?_
       clear G; intro ρ a w G
       refine th_n ?_
       refine rF G (false) (by kernel_rfl) ?_
       refine rs1 (dk := dkP) G ⟨[], [], []⟩ calls_nil trivial [0, 31] [dT ss, .row 135 (D.stmts (foldSs (List.take k ss) ++ ([LStmt.mk (ss.getD k default).kind (ss.getD k default).target (LExpr.mk (ss.getD k default).index.kind (ss.getD k default).index.value (ss.getD k default).index.kids) (LExpr.mk (ss.getD k default).value.kind (ss.getD k default).value.value (ss.getD k default).value.kids) (ss.getD k default).count (foldSs (ss.getD k default).body) (foldSs (ss.getD k default).els)] ++ [])))] [(0, .ref 0), (2, .v (.slice none 0 0)), (3, .ref 1), (4, iA (↑k : Int))] [(foldSs (List.take k ss)).length + ([LStmt.mk (ss.getD k default).kind (ss.getD k default).target (LExpr.mk (ss.getD k default).index.kind (ss.getD k default).index.value (ss.getD k default).index.kids) (LExpr.mk (ss.getD k default).value.kind (ss.getD k default).value.value (ss.getD k default).value.kids) (ss.getD k default).count (foldSs (ss.getD k default).body) (foldSs (ss.getD k default).els)] ++ []).length ≤ (9223372036854775807 : Nat), ((foldSs (List.take k ss)).length + ([LStmt.mk (ss.getD k default).kind (ss.getD k default).target (LExpr.mk (ss.getD k default).index.kind (ss.getD k default).index.value (ss.getD k default).index.kids) (LExpr.mk (ss.getD k default).value.kind (ss.getD k default).value.value (ss.getD k default).value.kids) (ss.getD k default).count (foldSs (ss.getD k default).body) (foldSs (ss.getD k default).els)] ++ []).length) * (152 : Nat) ≤ (140737488355328 : Nat)] ⟨(by have h8 := fo_lenB (fit_sub hb (show ((k : Nat) : Int) < ss.length by omega)).2.2.2; omega), (by have h8 := fo_lenB (fit_sub hb (show ((k : Nat) : Int) < ss.length by omega)).2.2.2; omega), trivial⟩ ?_
       clear G; intro ρ a w G
       refine bl_n ?_
       refine bl_n ?_
       refine th_n ?_
       refine rs1s G ⟨[], [], []⟩ calls_nil trivial [(0, .ref 0), (2, .v (.slice none 0 0)), (3, .ref 1), (4, iA ((↑k : Int) + 1))] [IntKind.i64.wrap ((↑k : Int) + (1 : Int)) = (↑k : Int) + (1 : Int)] ⟨(by have h8 := fo_lenB (fit_sub hb (show ((k : Nat) : Int) < ss.length by omega)).2.2.2; omega), trivial⟩ ?_
       clear G; intro ρ a w G
       refine th_n ?_
       exact rx_next G (k + 1) (by have h8 := fo_lenB (fit_sub hb (show ((k : Nat) : Int) < ss.length by omega)).2.2.2; omega) (by have h8 := fo_lenB (fit_sub hb (show ((k : Nat) : Int) < ss.length by omega)).2.2.2; omega) [0, 1] [dT ss, .row 135 (D.stmts (foldSs (List.take (k + 1) ss)))] [(0, .ref 0), (2, .v (.slice none 0 0)), (3, .ref 1), (4, iA (↑(k + 1) : Int))] (by kernel_rfl) (by kernel_rfl) (by kernel_rfl) (by have e1 : (foldSs (List.take (k + 1) ss) : List LStmt) = (foldSs (List.take k ss) ++ ([LStmt.mk (ss.getD k default).kind (ss.getD k default).target (LExpr.mk (ss.getD k default).index.kind (ss.getD k default).index.value (ss.getD k default).index.kids) (LExpr.mk (ss.getD k default).value.kind (ss.getD k default).value.value (ss.getD k default).value.kids) (ss.getD k default).count (foldSs (ss.getD k default).body) (foldSs (ss.getD k default).els)] ++ [])) := (by have h8 := fo_lenB (fit_sub hb (show ((k : Nat) : Int) < ss.length by omega)).2.2.2; omega); first | (rw [e1]; done) | (rw [e1]; rfl) | (simp only [e1]; done) | (simp only [e1]; rfl)) (by kernel_rfl)
      ·
       have q7 : (ss.getD k default).kind = 4 := eq_of_beq h7
       refine rs1s G ⟨[], [((ss.getD k default).kind == (4 : Int), true)], [(4, 0), (5, 0), (6, 0), (1007, 0)]⟩ calls_nil ⟨(by assumption), trivial⟩ [(0, .ref 0), (2, .v (.slice none 0 0)), (3, .ref 1), (4, iA (↑k : Int)), (5, .ptr 3 0), (74, bA ((ss.getD k default).count == 1))] [] trivial ?_
       clear G; intro ρ a w G
       refine th_n ?_
       cases h8 : ((ss.getD k default).count == (1 : Int))
       ·
        have q8 : ¬ ((ss.getD k default).count = 1) := ne_of_beq_false h8
        refine rF G ((ss.getD k default).count == (1 : Int)) (by assumption) ?_
        refine wp_seq ?_
        refine rs1s G ⟨[], [((ss.getD k default).kind == (4 : Int), true)], [(4, 0), (5, 0), (6, 0), (7, 0), (1008, 0)]⟩ calls_nil ⟨(by assumption), trivial⟩ [(0, .ref 0), (2, .v (.slice none 0 0)), (3, .ref 1), (4, iA (↑k : Int)), (5, .ptr 3 0), (87, bA ((↑(foldSs (ss.getD k default).body).length : Int) == 0))] [] trivial ?_
        clear G; intro ρ a w G
        refine th_n ?_
        cases h9 : ((↑(foldSs (ss.getD k default).body).length : Int) == (0 : Int))
        ·
         have q9 : ¬ ((↑(foldSs (ss.getD k default).body).length : Int) = 0) := ne_of_beq_false h9
         refine rF G ((↑(foldSs (ss.getD k default).body).length : Int) == (0 : Int)) (by assumption) ?_
         refine rs1 (dk := dkP) G ⟨[], [], []⟩ calls_nil trivial [0, 31] [dT ss, .row 135 (D.stmts (foldSs (List.take k ss) ++ ([LStmt.mk (ss.getD k default).kind (ss.getD k default).target (LExpr.mk (ss.getD k default).index.kind (ss.getD k default).index.value (ss.getD k default).index.kids) (LExpr.mk (ss.getD k default).value.kind (ss.getD k default).value.value (ss.getD k default).value.kids) (ss.getD k default).count (foldSs (ss.getD k default).body) (foldSs (ss.getD k default).els)] ++ [])))] [(0, .ref 0), (2, .v (.slice none 0 0)), (3, .ref 1), (4, iA (↑k : Int))] [(foldSs (List.take k ss)).length + ([LStmt.mk (ss.getD k default).kind (ss.getD k default).target (LExpr.mk (ss.getD k default).index.kind (ss.getD k default).index.value (ss.getD k default).index.kids) (LExpr.mk (ss.getD k default).value.kind (ss.getD k default).value.value (ss.getD k default).value.kids) (ss.getD k default).count (foldSs (ss.getD k default).body) (foldSs (ss.getD k default).els)] ++ []).length ≤ (9223372036854775807 : Nat), ((foldSs (List.take k ss)).length + ([LStmt.mk (ss.getD k default).kind (ss.getD k default).target (LExpr.mk (ss.getD k default).index.kind (ss.getD k default).index.value (ss.getD k default).index.kids) (LExpr.mk (ss.getD k default).value.kind (ss.getD k default).value.value (ss.getD k default).value.kids) (ss.getD k default).count (foldSs (ss.getD k default).body) (foldSs (ss.getD k default).els)] ++ []).length) * (152 : Nat) ≤ (140737488355328 : Nat)] ⟨(by have h8 := fo_lenB (fit_sub hb (show ((k : Nat) : Int) < ss.length by omega)).2.2.2; omega), (by have h8 := fo_lenB (fit_sub hb (show ((k : Nat) : Int) < ss.length by omega)).2.2.2; omega), trivial⟩ ?_
         clear G; intro ρ a w G
         refine bl_n ?_
         refine bl_n ?_
         refine th_n ?_
         refine rs1s G ⟨[], [], []⟩ calls_nil trivial [(0, .ref 0), (2, .v (.slice none 0 0)), (3, .ref 1), (4, iA ((↑k : Int) + 1))] [IntKind.i64.wrap ((↑k : Int) + (1 : Int)) = (↑k : Int) + (1 : Int)] ⟨(by have h8 := fo_lenB (fit_sub hb (show ((k : Nat) : Int) < ss.length by omega)).2.2.2; omega), trivial⟩ ?_
         clear G; intro ρ a w G
         refine th_n ?_
         exact rx_next G (k + 1) (by have h8 := fo_lenB (fit_sub hb (show ((k : Nat) : Int) < ss.length by omega)).2.2.2; omega) (by have h8 := fo_lenB (fit_sub hb (show ((k : Nat) : Int) < ss.length by omega)).2.2.2; omega) [0, 1] [dT ss, .row 135 (D.stmts (foldSs (List.take (k + 1) ss)))] [(0, .ref 0), (2, .v (.slice none 0 0)), (3, .ref 1), (4, iA (↑(k + 1) : Int))] (by kernel_rfl) (by kernel_rfl) (by kernel_rfl) (by have e1 : (foldSs (List.take (k + 1) ss) : List LStmt) = (foldSs (List.take k ss) ++ ([LStmt.mk (ss.getD k default).kind (ss.getD k default).target (LExpr.mk (ss.getD k default).index.kind (ss.getD k default).index.value (ss.getD k default).index.kids) (LExpr.mk (ss.getD k default).value.kind (ss.getD k default).value.value (ss.getD k default).value.kids) (ss.getD k default).count (foldSs (ss.getD k default).body) (foldSs (ss.getD k default).els)] ++ [])) := (by have h8 := fo_lenB (fit_sub hb (show ((k : Nat) : Int) < ss.length by omega)).2.2.2; omega); first | (rw [e1]; done) | (rw [e1]; rfl) | (simp only [e1]; done) | (simp only [e1]; rfl)) (by kernel_rfl)
        ·
         have q9 : (↑(foldSs (ss.getD k default).body).length : Int) = 0 := eq_of_beq h9
         refine rT G ((↑(foldSs (ss.getD k default).body).length : Int) == (0 : Int)) (by assumption) ?_
         refine wp_skip ?_
         refine bl_n ?_
         refine bl_n ?_
         refine th_n ?_
         refine rs1 (dk := dkP) G ⟨[], [], []⟩ calls_nil trivial [0, 1] [dT ss, .row 135 (D.stmts (foldSs (List.take k ss)))] [(0, .ref 0), (2, .v (.slice none 0 0)), (3, .ref 1), (4, iA ((↑k : Int) + 1))] [IntKind.i64.wrap ((↑k : Int) + (1 : Int)) = (↑k : Int) + (1 : Int)] ⟨(by have h8 := fo_lenB (fit_sub hb (show ((k : Nat) : Int) < ss.length by omega)).2.2.2; omega), trivial⟩ ?_
         clear G; intro ρ a w G
         refine th_n ?_
         exact rx_next G (k + 1) (by have h8 := fo_lenB (fit_sub hb (show ((k : Nat) : Int) < ss.length by omega)).2.2.2; omega) (by have h8 := fo_lenB (fit_sub hb (show ((k : Nat) : Int) < ss.length by omega)).2.2.2; omega) [0, 1] [dT ss, .row 135 (D.stmts (foldSs (List.take (k + 1) ss)))] [(0, .ref 0), (2, .v (.slice none 0 0)), (3, .ref 1), (4, iA (↑(k + 1) : Int))] (by kernel_rfl) (by kernel_rfl) (by kernel_rfl) (by have e1 : (foldSs (List.take (k + 1) ss) : List LStmt) = (foldSs (List.take k ss)) := (by have h8 := fo_lenB (fit_sub hb (show ((k : Nat) : Int) < ss.length by omega)).2.2.2; omega); first | (rw [e1]; done) | (rw [e1]; rfl) | (simp only [e1]; done) | (simp only [e1]; rfl)) (by kernel_rfl)
       ·
        have q8 : (ss.getD k default).count = 1 := eq_of_beq h8
        refine rT G ((ss.getD k default).count == (1 : Int)) (by assumption) ?_
        refine rs1 (dk := dkP) G ⟨[], [], []⟩ calls_nil trivial [0, 31] [dT ss, .row 135 (D.stmts (foldSs (List.take k ss) ++ foldSs (ss.getD k default).body))] [(0, .ref 0), (2, .v (.slice none 0 0)), (3, .ref 1), (4, iA (↑k : Int))] [(foldSs (List.take k ss)).length + (foldSs (ss.getD k default).body).length ≤ (9223372036854775807 : Nat), ((foldSs (List.take k ss)).length + (foldSs (ss.getD k default).body).length) * (152 : Nat) ≤ (140737488355328 : Nat)] ⟨(by have h8 := fo_lenB (fit_sub hb (show ((k : Nat) : Int) < ss.length by omega)).2.2.2; omega), (by have h8 := fo_lenB (fit_sub hb (show ((k : Nat) : Int) < ss.length by omega)).2.2.2; omega), trivial⟩ ?_
        clear G; intro ρ a w G
        refine bl_n ?_
        refine bl_n ?_
        refine th_n ?_
        refine rs1s G ⟨[], [], []⟩ calls_nil trivial [(0, .ref 0), (2, .v (.slice none 0 0)), (3, .ref 1), (4, iA ((↑k : Int) + 1))] [IntKind.i64.wrap ((↑k : Int) + (1 : Int)) = (↑k : Int) + (1 : Int)] ⟨(by have h8 := fo_lenB (fit_sub hb (show ((k : Nat) : Int) < ss.length by omega)).2.2.2; omega), trivial⟩ ?_
        clear G; intro ρ a w G
        refine th_n ?_
        exact rx_next G (k + 1) (by have h8 := fo_lenB (fit_sub hb (show ((k : Nat) : Int) < ss.length by omega)).2.2.2; omega) (by have h8 := fo_lenB (fit_sub hb (show ((k : Nat) : Int) < ss.length by omega)).2.2.2; omega) [0, 1] [dT ss, .row 135 (D.stmts (foldSs (List.take (k + 1) ss)))] [(0, .ref 0), (2, .v (.slice none 0 0)), (3, .ref 1), (4, iA (↑(k + 1) : Int))] (by kernel_rfl) (by kernel_rfl) (by kernel_rfl) (by have e1 : (foldSs (List.take (k + 1) ss) : List LStmt) = (foldSs (List.take k ss) ++ foldSs (ss.getD k default).body) := (by have h8 := fo_lenB (fit_sub hb (show ((k : Nat) : Int) < ss.length by omega)).2.2.2; omega); first | (rw [e1]; done) | (rw [e1]; rfl) | (simp only [e1]; done) | (simp only [e1]; rfl)) (by kernel_rfl)
     ·
      have q6 : (ss.getD k default).value.kind = 1 := eq_of_beq h6
      refine rs1s G ⟨[], [((ss.getD k default).kind == (3 : Int), true), ((ss.getD k default).value.kind == (1 : Int), true)], [(4, 0), (5, 0), (6, 0), (7, 0), (1008, 0), (10, 1), (11, 1), (12, 1), (13, 1), (1014, 1)]⟩ calls_nil ⟨(by assumption), (by assumption), trivial⟩ [(0, .ref 0), (2, .v (.slice none 0 0)), (3, .ref 1), (4, iA (↑k : Int)), (5, .ptr 3 0), (40, bA ((ss.getD k default).value.value != 0))] [] trivial ?_
      clear G; intro ρ a w G
      refine th_n ?_
      cases h10 : ((ss.getD k default).value.value != (0 : Int))
      ·
       have q10 : (ss.getD k default).value.value = 0 := (by simpa using h10)
       refine rF G ((ss.getD k default).value.value != (0 : Int)) (by assumption) ?_
       refine wp_seq ?_
       refine rs1s G ⟨[], [((ss.getD k default).kind == (3 : Int), true)], [(4, 0), (5, 0), (6, 0), (7, 0), (1008, 0)]⟩ calls_nil ⟨(by assumption), trivial⟩ [(0, .ref 0), (2, .v (.slice none 0 0)), (3, .ref 1), (4, iA (↑k : Int)), (5, .ptr 3 0), (60, bA ((ss.getD k default).value.kind == 1))] [] trivial ?_
       clear G; intro ρ a w G
       refine th_n ?_
       refine rT G ((ss.getD k default).value.kind == (1 : Int)) (by assumption) ?_
       refine rs1 (dk := dkP) G ⟨[], [], []⟩ calls_nil trivial [0, 31] [dT ss, .row 135 (D.stmts (foldSs (List.take k ss) ++ foldSs (ss.getD k default).els))] [(0, .ref 0), (2, .v (.slice none 0 0)), (3, .ref 1), (4, iA (↑k : Int))] [(foldSs (List.take k ss)).length + (foldSs (ss.getD k default).els).length ≤ (9223372036854775807 : Nat), ((foldSs (List.take k ss)).length + (foldSs (ss.getD k default).els).length) * (152 : Nat) ≤ (140737488355328 : Nat)] ⟨(by have h8 := fo_lenB (fit_sub hb (show ((k : Nat) : Int) < ss.length by omega)).2.2.2; omega), (by have h8 := fo_lenB (fit_sub hb (show ((k : Nat) : Int) < ss.length by omega)).2.2.2; omega), trivial⟩ ?_
       clear G; intro ρ a w G
       refine bl_n ?_
       refine bl_n ?_
       refine th_n ?_
       refine rs1s G ⟨[], [], []⟩ calls_nil trivial [(0, .ref 0), (2, .v (.slice none 0 0)), (3, .ref 1), (4, iA ((↑k : Int) + 1))] [IntKind.i64.wrap ((↑k : Int) + (1 : Int)) = (↑k : Int) + (1 : Int)] ⟨(by have h8 := fo_lenB (fit_sub hb (show ((k : Nat) : Int) < ss.length by omega)).2.2.2; omega), trivial⟩ ?_
       clear G; intro ρ a w G
       refine th_n ?_
       exact rx_next G (k + 1) (by have h8 := fo_lenB (fit_sub hb (show ((k : Nat) : Int) < ss.length by omega)).2.2.2; omega) (by have h8 := fo_lenB (fit_sub hb (show ((k : Nat) : Int) < ss.length by omega)).2.2.2; omega) [0, 1] [dT ss, .row 135 (D.stmts (foldSs (List.take (k + 1) ss)))] [(0, .ref 0), (2, .v (.slice none 0 0)), (3, .ref 1), (4, iA (↑(k + 1) : Int))] (by kernel_rfl) (by kernel_rfl) (by kernel_rfl) (by have e1 : (foldSs (List.take (k + 1) ss) : List LStmt) = (foldSs (List.take k ss) ++ foldSs (ss.getD k default).els) := (by have h8 := fo_lenB (fit_sub hb (show ((k : Nat) : Int) < ss.length by omega)).2.2.2; omega); first | (rw [e1]; done) | (rw [e1]; rfl) | (simp only [e1]; done) | (simp only [e1]; rfl)) (by kernel_rfl)
      ·
       have q10 : ¬ ((ss.getD k default).value.value = 0) := bne_iff_ne.1 h10
       refine rT G ((ss.getD k default).value.value != (0 : Int)) (by assumption) ?_
       refine rs1 (dk := dkP) G ⟨[], [], []⟩ calls_nil trivial [0, 31] [dT ss, .row 135 (D.stmts (foldSs (List.take k ss) ++ foldSs (ss.getD k default).body))] [(0, .ref 0), (2, .v (.slice none 0 0)), (3, .ref 1), (4, iA (↑k : Int))] [(foldSs (List.take k ss)).length + (foldSs (ss.getD k default).body).length ≤ (9223372036854775807 : Nat), ((foldSs (List.take k ss)).length + (foldSs (ss.getD k default).body).length) * (152 : Nat) ≤ (140737488355328 : Nat)] ⟨(by have h8 := fo_lenB (fit_sub hb (show ((k : Nat) : Int) < ss.length by omega)).2.2.2; omega), (by have h8 := fo_lenB (fit_sub hb (show ((k : Nat) : Int) < ss.length by omega)).2.2.2; omega), trivial⟩ ?_
       clear G; intro ρ a w G
       refine bl_n ?_
       refine bl_n ?_
       refine th_n ?_
       refine rs1s G ⟨[], [], []⟩ calls_nil trivial [(0, .ref 0), (2, .v (.slice none 0 0)), (3, .ref 1), (4, iA ((↑k : Int) + 1))] [IntKind.i64.wrap ((↑k : Int) + (1 : Int)) = (↑k : Int) + (1 : Int)] ⟨(by have h8 := fo_lenB (fit_sub hb (show ((k : Nat) : Int) < ss.length by omega)).2.2.2; omega), trivial⟩ ?_
       clear G; intro ρ a w G
       refine th_n ?_
       exact rx_next G (k + 1) (by have h8 := fo_lenB (fit_sub hb (show ((k : Nat) : Int) < ss.length by omega)).2.2.2; omega) (by have h8 := fo_lenB (fit_sub hb (show ((k : Nat) : Int) < ss.length by omega)).2.2.2; omega) [0, 1] [dT ss, .row 135 (D.stmts (foldSs (List.take (k + 1) ss)))] [(0, .ref 0), (2, .v (.slice none 0 0)), (3, .ref 1), (4, iA (↑(k + 1) : Int))] (by kernel_rfl) (by kernel_rfl) (by kernel_rfl) (by have e1 : (foldSs (List.take (k + 1) ss) : List LStmt) = (foldSs (List.take k ss) ++ foldSs (ss.getD k default).body) := (by have h8 := fo_lenB (fit_sub hb (show ((k : Nat) : Int) < ss.length by omega)).2.2.2; omega); first | (rw [e1]; done) | (rw [e1]; rfl) | (simp only [e1]; done) | (simp only [e1]; rfl)) (by kernel_rfl)
   ·
    have q1 : ¬ ((ss.getD k default).kind = 4) := bne_iff_ne.1 h1
    refine rT G ((ss.getD k default).kind != (4 : Int)) (by assumption) ?_
    refine rs1 (dk := dkP) G ⟨[(2, _, [2])], [], []⟩ (calls_cons (hf ((ss.getD k default).value) (by exact fo_good hs (by omega) (by omega))) calls_nil) trivial [0, 1, 3, 4, 5, 6, 23] [dT ss, .row 135 (D.stmts (foldSs (List.take k ss))), .box [iA (ss.getD k default).kind, iA (ss.getD k default).target, iA (ss.getD k default).index.kind, iA (ss.getD k default).index.value, .ref 3, iA (foldE (ss.getD k default).value).kind, iA (foldE (ss.getD k default).value).value, .ref 6, iA (ss.getD k default).count, .ref 4, .ref 5], dE (ss.getD k default).index.kids, dT (foldSs (ss.getD k default).body), dT (foldSs (ss.getD k default).els), dE (foldE (ss.getD k default).value).kids] [(0, .ref 0), (2, .v (.slice none 0 0)), (3, .ref 1), (4, iA (↑k : Int)), (5, .ptr 2 0)] [] trivial ?_
    clear G; intro ρ a w G
    refine th_n ?_
    refine wp_block ?_
    refine wp_seq ?_
    cases h11 : ((ss.getD k default).kind == (3 : Int))
    ·
     have q11 : ¬ ((ss.getD k default).kind = 3) := ne_of_beq_false h11
     refine rs1s G ⟨[], [((ss.getD k default).kind == (3 : Int), false), (false, false)], [(4, 0), (5, 0), (6, 0), (7, 0), (1008, 0), (10, 1), (11, 1), (12, 1), (13, 1), (1014, 1)]⟩ calls_nil ⟨(by assumption), (by kernel_rfl), trivial⟩ [(0, .ref 0), (2, .v (.slice none 0 0)), (3, .ref 1), (4, iA (↑k : Int)), (5, .ptr 2 0), (40, bA false)] [] trivial ?_
     clear G; intro ρ a w G
     refine th_n ?_
     refine rF G (false) (by kernel_rfl) ?_
     refine wp_seq ?_
     refine rs1s G ⟨[], [((ss.getD k default).kind == (3 : Int), false)], [(4, 0), (5, 0), (6, 0), (7, 0), (1008, 0)]⟩ calls_nil ⟨(by assumption), trivial⟩ [(0, .ref 0), (2, .v (.slice none 0 0)), (3, .ref 1), (4, iA (↑k : Int)), (5, .ptr 2 0), (60, bA false)] [] trivial ?_
     clear G; intro ρ a w G
     refine th_n ?_
     refine rF G (false) (by kernel_rfl) ?_
     refine wp_seq ?_
     cases h12 : ((ss.getD k default).kind == (4 : Int))
     ·
      have q12 : ¬ ((ss.getD k default).kind = 4) := ne_of_beq_false h12
      refine rs1s G ⟨[], [((ss.getD k default).kind == (4 : Int), false)], [(4, 0), (5, 0), (6, 0), (1007, 0)]⟩ calls_nil ⟨(by assumption), trivial⟩ [(0, .ref 0), (2, .v (.slice none 0 0)), (3, .ref 1), (4, iA (↑k : Int)), (5, .ptr 2 0), (74, bA false)] [] trivial ?_
      clear G; intro ρ a w G
      refine th_n ?_
      refine rF G (false) (by kernel_rfl) ?_
      refine wp_seq ?_
      refine rs1s G ⟨[], [((ss.getD k default).kind == (4 : Int), false)], [(4, 0), (5, 0), (6, 0), (7, 0), (1008, 0)]⟩ calls_nil ⟨(by assumption), trivial⟩ [(0, .ref 0), (2, .v (.slice none 0 0)), (3, .ref 1), (4, iA (↑k : Int)), (5, .ptr 2 0), (87, bA false)] [] trivial ?_
      clear G; intro ρ a w G
      refine th_n ?_
      refine rF G (false) (by kernel_rfl) ?_
      refine rs1 (dk := dkP) G ⟨[], [], []⟩ calls_nil trivial [0, 31] [dT ss, .row 135 (D.stmts (foldSs (List.take k ss) ++ ([LStmt.mk (ss.getD k default).kind (ss.getD k default).target (LExpr.mk (ss.getD k default).index.kind (ss.getD k default).index.value (ss.getD k default).index.kids) (LExpr.mk (foldE (ss.getD k default).value).kind (foldE (ss.getD k default).value).value (foldE (ss.getD k default).value).kids) (ss.getD k default).count (foldSs (ss.getD k default).body) (foldSs (ss.getD k default).els)] ++ [])))] [(0, .ref 0), (2, .v (.slice none 0 0)), (3, .ref 1), (4, iA (↑k : Int))] [(foldSs (List.take k ss)).length + ([LStmt.mk (ss.getD k default).kind (ss.getD k default).target (LExpr.mk (ss.getD k default).index.kind (ss.getD k default).index.value (ss.getD k default).index.kids) (LExpr.mk (foldE (ss.getD k default).value).kind (foldE (ss.getD k default).value).value (foldE (ss.getD k default).value).kids) (ss.getD k default).count (foldSs (ss.getD k default).body) (foldSs (ss.getD k default).els)] ++ []).length ≤ (9223372036854775807 : Nat), ((foldSs (List.take k ss)).length + ([LStmt.mk (ss.getD k default).kind (ss.getD k default).target (LExpr.mk (ss.getD k default).index.kind (ss.getD k default).index.value (ss.getD k default).index.kids) (LExpr.mk (foldE (ss.getD k default).value).kind (foldE (ss.getD k default).value).value (foldE (ss.getD k default).value).kids) (ss.getD k default).count (foldSs (ss.getD k default).body) (foldSs (ss.getD k default).els)] ++ []).length) * (152 : Nat) ≤ (140737488355328 : Nat)] ⟨(by simp only [List.length_append, List.length_cons, List.length_nil]; omega), (by simp only [List.length_append, List.length_cons, List.length_nil]; omega), trivial⟩ ?_
      clear G; intro ρ a w G
      refine bl_n ?_
      refine bl_n ?_
      refine th_n ?_
      refine rs1s G ⟨[], [], []⟩ calls_nil trivial [(0, .ref 0), (2, .v (.slice none 0 0)), (3, .ref 1), (4, iA ((↑k : Int) + 1))] [IntKind.i64.wrap ((↑k : Int) + (1 : Int)) = (↑k : Int) + (1 : Int)] ⟨(by exact w64 (by omega) (by omega)), trivial⟩ ?_
      clear G; intro ρ a w G
      refine th_n ?_
      exact rx_next G (k + 1) (by have h8 := fo_lenB (fit_sub hb (show ((k : Nat) : Int) < ss.length by omega)).2.2.2; omega) (by have h8 := fo_lenB (fit_sub hb (show ((k : Nat) : Int) < ss.length by omega)).2.2.2; omega) [0, 1] [dT ss, .row 135 (D.stmts (foldSs (List.take (k + 1) ss)))] [(0, .ref 0), (2, .v (.slice none 0 0)), (3, .ref 1), (4, iA (↑(k + 1) : Int))] (by kernel_rfl) (by kernel_rfl) (by kernel_rfl) (by have e1 : (foldSs (List.take (k + 1) ss) : List LStmt) = (foldSs (List.take k ss) ++ ([LStmt.mk (ss.getD k default).kind (ss.getD k default).target (LExpr.mk (ss.getD k default).index.kind (ss.getD k default).index.value (ss.getD k default).index.kids) (LExpr.mk (foldE (ss.getD k default).value).kind (foldE (ss.getD k default).value).value (foldE (ss.getD k default).value).kids) (ss.getD k default).count (foldSs (ss.getD k default).body) (foldSs (ss.getD k default).els)] ++ [])) := (by exact fo6 (by omega) (by omega) (by omega)); first | (rw [e1]; done) | (rw [e1]; rfl) | (simp only [e1]; done) | (simp only [e1]; rfl)) (by kernel_rfl)
     ·
      have q12 : (ss.getD k default).kind = 4 := eq_of_beq h12
      refine rs1s G ⟨[], [((ss.getD k default).kind == (4 : Int), true)], [(4, 0), (5, 0), (6, 0), (1007, 0)]⟩ calls_nil ⟨(by assumption), trivial⟩ [(0, .ref 0), (2, .v (.slice none 0 0)), (3, .ref 1), (4, iA (↑k : Int)), (5, .ptr 2 0), (74, bA ((ss.getD k default).count == 1))] [] trivial ?_
      clear G; intro ρ a w G
      refine th_n ?_
      cases h13 : ((ss.getD k default).count == (1 : Int))
      ·
       have q13 : ¬ ((ss.getD k default).count = 1) := ne_of_beq_false h13
       refine rF G ((ss.getD k default).count == (1 : Int)) (by assumption) ?_
       refine wp_seq ?_
       refine rs1s G ⟨[], [((ss.getD k default).kind == (4 : Int), true)], [(4, 0), (5, 0), (6, 0), (7, 0), (1008, 0)]⟩ calls_nil ⟨(by assumption), trivial⟩ [(0, .ref 0), (2, .v (.slice none 0 0)), (3, .ref 1), (4, iA (↑k : Int)), (5, .ptr 2 0), (87, bA ((↑(foldSs (ss.getD k default).body).length : Int) == 0))] [] trivial ?_
       clear G; intro ρ a w G
       refine th_n ?_
       cases h14 : ((↑(foldSs (ss.getD k default).body).length : Int) == (0 : Int))
       ·
        have q14 : ¬ ((↑(foldSs (ss.getD k default).body).length : Int) = 0) := ne_of_beq_false h14
        refine rF G ((↑(foldSs (ss.getD k default).body).length : Int) == (0 : Int)) (by assumption) ?_
        refine rs1 (dk := dkP) G ⟨[], [], []⟩ calls_nil trivial [0, 31] [dT ss, .row 135 (D.stmts (foldSs (List.take k ss) ++ ([LStmt.mk (ss.getD k default).kind (ss.getD k default).target (LExpr.mk (ss.getD k default).index.kind (ss.getD k default).index.value (ss.getD k default).index.kids) (LExpr.mk (foldE (ss.getD k default).value).kind (foldE (ss.getD k default).value).value (foldE (ss.getD k default).value).kids) (ss.getD k default).count (foldSs (ss.getD k default).body) (foldSs (ss.getD k default).els)] ++ [])))] [(0, .ref 0), (2, .v (.slice none 0 0)), (3, .ref 1), (4, iA (↑k : Int))] [(foldSs (List.take k ss)).length + ([LStmt.mk (ss.getD k default).kind (ss.getD k default).target (LExpr.mk (ss.getD k default).index.kind (ss.getD k default).index.value (ss.getD k default).index.kids) (LExpr.mk (foldE (ss.getD k default).value).kind (foldE (ss.getD k default).value).value (foldE (ss.getD k default).value).kids) (ss.getD k default).count (foldSs (ss.getD k default).body) (foldSs (ss.getD k default).els)] ++ []).length ≤ (9223372036854775807 : Nat), ((foldSs (List.take k ss)).length + ([LStmt.mk (ss.getD k default).kind (ss.getD k default).target (LExpr.mk (ss.getD k default).index.kind (ss.getD k default).index.value (ss.getD k default).index.kids) (LExpr.mk (foldE (ss.getD k default).value).kind (foldE (ss.getD k default).value).value (foldE (ss.getD k default).value).kids) (ss.getD k default).count (foldSs (ss.getD k default).body) (foldSs (ss.getD k default).els)] ++ []).length) * (152 : Nat) ≤ (140737488355328 : Nat)] ⟨(by have h8 := fo_lenB (fit_sub hb (show ((k : Nat) : Int) < ss.length by omega)).2.2.2; omega), (by have h8 := fo_lenB (fit_sub hb (show ((k : Nat) : Int) < ss.length by omega)).2.2.2; omega), trivial⟩ ?_
        clear G; intro ρ a w G
        refine bl_n ?_
        refine bl_n ?_
        refine th_n ?_
        refine rs1s G ⟨[], [], []⟩ calls_nil trivial [(0, .ref 0), (2, .v (.slice none 0 0)), (3, .ref 1), (4, iA ((↑k : Int) + 1))] [IntKind.i64.wrap ((↑k : Int) + (1 : Int)) = (↑k : Int) + (1 : Int)] ⟨(by have h8 := fo_lenB (fit_sub hb (show ((k : Nat) : Int) < ss.length by omega)).2.2.2; omega), trivial⟩ ?_
        clear G; intro ρ a w G
        refine th_n ?_
        exact rx_next G (k + 1) (by have h8 := fo_lenB (fit_sub hb (show ((k : Nat) : Int) < ss.length by omega)).2.2.2; omega) (by have h8 := fo_lenB (fit_sub hb (show ((k : Nat) : Int) < ss.length by omega)).2.2.2; omega) [0, 1] [dT ss, .row 135 (D.stmts (foldSs (List.take (k + 1) ss)))] [(0, .ref 0), (2, .v (.slice none 0 0)), (3, .ref 1), (4, iA (↑(k + 1) : Int))] (by kernel_rfl) (by kernel_rfl) (by kernel_rfl) (by have e1 : (foldSs (List.take (k + 1) ss) : List LStmt) = (foldSs (List.take k ss) ++ ([LStmt.mk (ss.getD k default).kind (ss.getD k default).target (LExpr.mk (ss.getD k default).index.kind (ss.getD k default).index.value (ss.getD k default).index.kids) (LExpr.mk (foldE (ss.getD k default).value).kind (foldE (ss.getD k default).value).value (foldE (ss.getD k default).value).kids) (ss.getD k default).count (foldSs (ss.getD k default).body) (foldSs (ss.getD k default).els)] ++ [])) := (by have h8 := fo_lenB (fit_sub hb (show ((k : Nat) : Int) < ss.length by omega)).2.2.2; omega); first | (rw [e1]; done) | (rw [e1]; rfl) | (simp only [e1]; done) | (simp only [e1]; rfl)) (by kernel_rfl)
       ·
        have q14 : (↑(foldSs (ss.getD k default).body).length : Int) = 0 := eq_of_beq h14
        refine rT G ((↑(foldSs (ss.getD k default).body).length : Int) == (0 : Int)) (by assumption) ?_
        refine wp_skip ?_
        refine bl_n ?_
        refine bl_n ?_
        refine th_n ?_
        refine rs1 (dk := dkP) G ⟨[], [], []⟩ calls_nil trivial [0, 1] [dT ss, .row 135 (D.stmts (foldSs (List.take k ss)))] [(0, .ref 0), (2, .v (.slice none 0 0)), (3, .ref 1), (4, iA ((↑k : Int) + 1))] [IntKind.i64.wrap ((↑k : Int) + (1 : Int)) = (↑k : Int) + (1 : Int)] ⟨(by have h8 := fo_lenB (fit_sub hb (show ((k : Nat) : Int) < ss.length by omega)).2.2.2; omega), trivial⟩ ?_
        clear G; intro ρ a w G
        refine th_n ?_
        exact rx_next G (k + 1) (by have h8 := fo_lenB (fit_sub hb (show ((k : Nat) : Int) < ss.length by omega)).2.2.2; omega) (by have h8 := fo_lenB (fit_sub hb (show ((k : Nat) : Int) < ss.length by omega)).2.2.2; omega) [0, 1] [dT ss, .row 135 (D.stmts (foldSs (List.take (k + 1) ss)))] [(0, .ref 0), (2, .v (.slice none 0 0)), (3, .ref 1), (4, iA (↑(k + 1) : Int))] (by kernel_rfl) (by kernel_rfl) (by kernel_rfl) (by have e1 : (foldSs (List.take (k + 1) ss) : List LStmt) = (foldSs (List.take k ss)) := (by have h8 := fo_lenB (fit_sub hb (show ((k : Nat) : Int) < ss.length by omega)).2.2.2; omega); first | (rw [e1]; done) | (rw [e1]; rfl) | (simp only [e1]; done) | (simp only [e1]; rfl)) (by kernel_rfl)
      ·
       have q13 : (ss.getD k default).count = 1 := eq_of_beq h13
       refine rT G ((ss.getD k default).count == (1 : Int)) (by assumption) ?_
       refine rs1 (dk := dkP) G ⟨[], [], []⟩ calls_nil trivial [0, 31] [dT ss, .row 135 (D.stmts (foldSs (List.take k ss) ++ foldSs (ss.getD k default).body))] [(0, .ref 0), (2, .v (.slice none 0 0)), (3, .ref 1), (4, iA (↑k : Int))] [(foldSs (List.take k ss)).length + (foldSs (ss.getD k default).body).length ≤ (9223372036854775807 : Nat), ((foldSs (List.take k ss)).length + (foldSs (ss.getD k default).body).length) * (152 : Nat) ≤ (140737488355328 : Nat)] ⟨(by have h8 := fo_lenB (fit_sub hb (show ((k : Nat) : Int) < ss.length by omega)).2.2.2; omega), (by have h8 := fo_lenB (fit_sub hb (show ((k : Nat) : Int) < ss.length by omega)).2.2.2; omega), trivial⟩ ?_
       clear G; intro ρ a w G
       refine bl_n ?_
       refine bl_n ?_
       refine th_n ?_
       refine rs1s G ⟨[], [], []⟩ calls_nil trivial [(0, .ref 0), (2, .v (.slice none 0 0)), (3, .ref 1), (4, iA ((↑k : Int) + 1))] [IntKind.i64.wrap ((↑k : Int) + (1 : Int)) = (↑k : Int) + (1 : Int)] ⟨(by have h8 := fo_lenB (fit_sub hb (show ((k : Nat) : Int) < ss.length by omega)).2.2.2; omega), trivial⟩ ?_
       clear G; intro ρ a w G
       refine th_n ?_
       exact rx_next G (k + 1) (by have h8 := fo_lenB (fit_sub hb (show ((k : Nat) : Int) < ss.length by omega)).2.2.2; omega) (by have h8 := fo_lenB (fit_sub hb (show ((k : Nat) : Int) < ss.length by omega)).2.2.2; omega) [0, 1] [dT ss, .row 135 (D.stmts (foldSs (List.take (k + 1) ss)))] [(0, .ref 0), (2, .v (.slice none 0 0)), (3, .ref 1), (4, iA (↑(k + 1) : Int))] (by kernel_rfl) (by kernel_rfl) (by kernel_rfl) (by have e1 : (foldSs (List.take (k + 1) ss) : List LStmt) = (foldSs (List.take k ss) ++ foldSs (ss.getD k default).body) := (by have h8 := fo_lenB (fit_sub hb (show ((k : Nat) : Int) < ss.length by omega)).2.2.2; omega); first | (rw [e1]; done) | (rw [e1]; rfl) | (simp only [e1]; done) | (simp only [e1]; rfl)) (by kernel_rfl)
    ·
     have q11 : (ss.getD k default).kind = 3 := eq_of_beq h11
     cases h15 : ((foldE (ss.getD k default).value).kind == (1 : Int))
     ·
      have q15 : ¬ ((foldE (ss.getD k default).value).kind = 1) := ne_of_beq_false h15
      refine rs1s G ⟨[], [((ss.getD k default).kind == (3 : Int), true), ((foldE (ss.getD k default).value).kind == (1 : Int), false)], [(4, 0), (5, 0), (6, 0), (7, 0), (1008, 0), (10, 1), (11, 1), (12, 1), (13, 1), (1014, 1)]⟩ calls_nil ⟨(by assumption), (by assumption), trivial⟩ [(0, .ref 0), (2, .v (.slice none 0 0)), (3, .ref 1), (4, iA (↑k : Int)), (5, .ptr 2 0), (40, bA false)] [] trivial ?_
      clear G; intro ρ a w G
      refine th_n ?_
      refine rF G (false) (by kernel_rfl) ?_
      refine wp_seq ?_
      refine rs1s G ⟨[], [((ss.getD k default).kind == (3 : Int), true)], [(4, 0), (5, 0), (6, 0), (7, 0), (1008, 0)]⟩ calls_nil ⟨(by assumption), trivial⟩ [(0, .ref 0), (2, .v (.slice none 0 0)), (3, .ref 1), (4, iA (↑k : Int)), (5, .ptr 2 0), (60, bA ((foldE (ss.getD k default).value).kind == 1))] [] trivial ?_
      clear G; intro ρ a w G
      refine th_n ?_
      refine rF G ((foldE (ss.getD k default).value).kind == (1 : Int)) (by assumption) ?_
      refine wp_seq ?_
      cases h16 : ((ss.getD k default).kind == (4 : Int))
      ·
       have q16 : ¬ ((ss.getD k default).kind = 4) := ne_of_beq_false h16
       refine rs1s G ⟨[], [((ss.getD k default).kind == (4 : Int), false)], [(4, 0), (5, 0), (6, 0), (1007, 0)]⟩ calls_nil ⟨(by assumption), trivial⟩ [(0, .ref 0), (2, .v (.slice none 0 0)), (3, .ref 1), (4, iA (↑k : Int)), (5, .ptr 2 0), (74, bA false)] [] trivial ?_
       clear G; intro ρ a w G
       refine th_n ?_
       refine rF G (false) (by kernel_rfl) ?_
       refine wp_seq ?_
       refine rs1s G ⟨[], [((ss.getD k default).kind == (4 : Int), false)], [(4, 0), (5, 0), (6, 0), (7, 0), (1008, 0)]⟩ calls_nil ⟨(by assumption), trivial⟩ [(0, .ref 0), (2, .v (.slice none 0 0)), (3, .ref 1), (4, iA (↑k : Int)), (5, .ptr 2 0), (87, bA false)] [] trivial ?_
       clear G; intro ρ a w G
       refine th_n ?_
       refine rF G (false) (by kernel_rfl) ?_
       refine rs1 (dk := dkP) G ⟨[], [], []⟩ calls_nil trivial [0, 31] [dT ss, .row 135 (D.stmts (foldSs (List.take k ss) ++ ([LStmt.mk (ss.getD k default).kind (ss.getD k default).target (LExpr.mk (ss.getD k default).index.kind (ss.getD k default).index.value (ss.getD k default).index.kids) (LExpr.mk (foldE (ss.getD k default).value).kind (foldE (ss.getD k default).value).value (foldE (ss.getD k default).value).kids) (ss.getD k default).count (foldSs (ss.getD k default).body) (foldSs (ss.getD k default).els)] ++ [])))] [(0, .ref 0), (2, .v (.slice none 0 0)), (3, .ref 1), (4, iA (↑k : Int))] [(foldSs (List.take k ss)).length + ([LStmt.mk (ss.getD k default).kind (ss.getD k default).target (LExpr.mk (ss.getD k default).index.kind (ss.getD k default).index.value (ss.getD k default).index.kids) (LExpr.mk (foldE (ss.getD k default).value).kind (foldE (ss.getD k default).value).value (foldE (ss.getD k default).value).kids) (ss.getD k default).count (foldSs (ss.getD k default).body) (foldSs (ss.getD k default).els)] ++ []).length ≤ (9223372036854775807 : Nat), ((foldSs (List.take k ss)).length + ([LStmt.mk (ss.getD k default).kind (ss.getD k default).target (LExpr.mk (ss.getD k default).index.kind (ss.getD k default).index.value (ss.getD k default).index.kids) (LExpr.mk (foldE (ss.getD k default).value).kind (foldE (ss.getD k default).value).value (foldE (ss.getD k default).value).kids) (ss.getD k default).count (foldSs (ss.getD k default).body) (foldSs (ss.getD k default).els)] ++ []).length) * (152 : Nat) ≤ (140737488355328 : Nat)] ⟨(by simp only [List.length_append, List.length_cons, List.length_nil]; omega), (by simp only [List.length_append, List.length_cons, List.length_nil]; omega), trivial⟩ ?_
       clear G; intro ρ a w G
       refine bl_n ?_
       refine bl_n ?_
       refine th_n ?_
       refine rs1s G ⟨[], [], []⟩ calls_nil trivial [(0, .ref 0), (2, .v (.slice none 0 0)), (3, .ref 1), (4, iA ((↑k : Int) + 1))] [IntKind.i64.wrap ((↑k : Int) + (1 : Int)) = (↑k : Int) + (1 : Int)] ⟨(by exact w64 (by omega) (by omega)), trivial⟩ ?_
       clear G; intro ρ a w G
       refine th_n ?_
       exact rx_next G (k + 1) (by have h8 := fo_lenB (fit_sub hb (show ((k : Nat) : Int) < ss.length by omega)).2.2.2; omega) (by have h8 := fo_lenB (fit_sub hb (show ((k : Nat) : Int) < ss.length by omega)).2.2.2; omega) [0, 1] [dT ss, .row 135 (D.stmts (foldSs (List.take (k + 1) ss)))] [(0, .ref 0), (2, .v (.slice none 0 0)), (3, .ref 1), (4, iA (↑(k + 1) : Int))] (by kernel_rfl) (by kernel_rfl) (by kernel_rfl) (by have e1 : (foldSs (List.take (k + 1) ss) : List LStmt) = (foldSs (List.take k ss) ++ ([LStmt.mk (ss.getD k default).kind (ss.getD k default).target (LExpr.mk (ss.getD k default).index.kind (ss.getD k default).index.value (ss.getD k default).index.kids) (LExpr.mk (foldE (ss.getD k default).value).kind (foldE (ss.getD k default).value).value (foldE (ss.getD k default).value).kids) (ss.getD k default).count (foldSs (ss.getD k default).body) (foldSs (ss.getD k default).els)] ++ [])) := (by exact fo6 (by omega) (by omega) (by omega)); first | (rw [e1]; done) | (rw [e1]; rfl) | (simp only [e1]; done) | (simp only [e1]; rfl)) (by kernel_rfl)
      ·
       have q16 : (ss.getD k default).kind = 4 := eq_of_beq h16
       refine rs1s G ⟨[], [((ss.getD k default).kind == (4 : Int), true)], [(4, 0), (5, 0), (6, 0), (1007, 0)]⟩ calls_nil ⟨(by assumption), trivial⟩ [(0, .ref 0), (2, .v (.slice none 0 0)), (3, .ref 1), (4, iA (↑k : Int)), (5, .ptr 2 0), (74, bA ((ss.getD k default).count == 1))] [] trivial ?_
       clear G; intro ρ a w G
       refine th_n ?_
       cases h17 : ((ss.getD k default).count == (1 : Int))
       ·
        have q17 : ¬ ((ss.getD k default).count = 1) := ne_of_beq_false h17
        refine rF G ((ss.getD k default).count == (1 : Int)) (by assumption) ?_
        refine wp_seq ?_
        refine rs1s G ⟨[], [((ss.getD k default).kind == (4 : Int), true)], [(4, 0), (5, 0), (6, 0), (7, 0), (1008, 0)]⟩ calls_nil ⟨(by assumption), trivial⟩ [(0, .ref 0), (2, .v (.slice none 0 0)), (3, .ref 1), (4, iA (↑k : Int)), (5, .ptr 2 0), (87, bA ((↑(foldSs (ss.getD k default).body).length : Int) == 0))] [] trivial ?_
        clear G; intro ρ a w G
        refine th_n ?_
        cases h18 : ((↑(foldSs (ss.getD k default).body).length : Int) == (0 : Int))
        ·
         have q18 : ¬ ((↑(foldSs (ss.getD k default).body).length : Int) = 0) := ne_of_beq_false h18
         refine rF G ((↑(foldSs (ss.getD k default).body).length : Int) == (0 : Int)) (by assumption) ?_
         refine rs1 (dk := dkP) G ⟨[], [], []⟩ calls_nil trivial [0, 31] [dT ss, .row 135 (D.stmts (foldSs (List.take k ss) ++ ([LStmt.mk (ss.getD k default).kind (ss.getD k default).target (LExpr.mk (ss.getD k default).index.kind (ss.getD k default).index.value (ss.getD k default).index.kids) (LExpr.mk (foldE (ss.getD k default).value).kind (foldE (ss.getD k default).value).value (foldE (ss.getD k default).value).kids) (ss.getD k default).count (foldSs (ss.getD k default).body) (foldSs (ss.getD k default).els)] ++ [])))] [(0, .ref 0), (2, .v (.slice none 0 0)), (3, .ref 1), (4, iA (↑k : Int))] [(foldSs (List.take k ss)).length + ([LStmt.mk (ss.getD k default).kind (ss.getD k default).target (LExpr.mk (ss.getD k default).index.kind (ss.getD k default).index.value (ss.getD k default).index.kids) (LExpr.mk (foldE (ss.getD k default).value).kind (foldE (ss.getD k default).value).value (foldE (ss.getD k default).value).kids) (ss.getD k default).count (foldSs (ss.getD k default).body) (foldSs (ss.getD k default).els)] ++ []).length ≤ (9223372036854775807 : Nat), ((foldSs (List.take k ss)).length + ([LStmt.mk (ss.getD k default).kind (ss.getD k default).target (LExpr.mk (ss.getD k default).index.kind (ss.getD k default).index.value (ss.getD k default).index.kids) (LExpr.mk (foldE (ss.getD k default).value).kind (foldE (ss.getD k default).value).value (foldE (ss.getD k default).value).kids) (ss.getD k default).count (foldSs (ss.getD k default).body) (foldSs (ss.getD k default).els)] ++ []).length) * (152 : Nat) ≤ (140737488355328 : Nat)] ⟨(by have h8 := fo_lenB (fit_sub hb (show ((k : Nat) : Int) < ss.length by omega)).2.2.2; omega), (by have h8 := fo_lenB (fit_sub hb (show ((k : Nat) : Int) < ss.length by omega)).2.2.2; omega), trivial⟩ ?_
         clear G; intro ρ a w G
         refine bl_n ?_
         refine bl_n ?_
         refine th_n ?_
         refine rs1s G ⟨[], [], []⟩ calls_nil trivial [(0, .ref 0), (2, .v (.slice none 0 0)), (3, .ref 1), (4, iA ((↑k : Int) + 1))] [IntKind.i64.wrap ((↑k : Int) + (1 : Int)) = (↑k : Int) + (1 : Int)] ⟨(by have h8 := fo_lenB (fit_sub hb (show ((k : Nat) : Int) < ss.length by omega)).2.2.2; omega), trivial⟩ ?_
         clear G; intro ρ a w G
         refine th_n ?_
         exact rx_next G (k + 1) (by have h8 := fo_lenB (fit_sub hb (show ((k : Nat) : Int) < ss.length by omega)).2.2.2; omega) (by have h8 := fo_lenB (fit_sub hb (show ((k : Nat) : Int) < ss.length by omega)).2.2.2; omega) [0, 1] [dT ss, .row 135 (D.stmts (foldSs (List.take (k + 1) ss)))] [(0, .ref 0), (2, .v (.slice none 0 0)), (3, .ref 1), (4, iA (↑(k + 1) : Int))] (by kernel_rfl) (by kernel_rfl) (by kernel_rfl) (by have e1 : (foldSs (List.take (k + 1) ss) : List LStmt) = (foldSs (List.take k ss) ++ ([LStmt.mk (ss.getD k default).kind (ss.getD k default).target (LExpr.mk (ss.getD k default).index.kind (ss.getD k default).index.value (ss.getD k default).index.kids) (LExpr.mk (foldE (ss.getD k default).value).kind (foldE (ss.getD k default).value).value (foldE (ss.getD k default).value).kids) (ss.getD k default).count (foldSs (ss.getD k default).body) (foldSs (ss.getD k default).els)] ++ [])) := (by have h8 := fo_lenB (fit_sub hb (show ((k : Nat) : Int) < ss.length by omega)).2.2.2; omega); first | (rw [e1]; done) | (rw [e1]; rfl) | (simp only [e1]; done) | (simp only [e1]; rfl)) (by kernel_rfl)
        ·
         have q18 : (↑(foldSs (ss.getD k default).body).length : Int) = 0 := eq_of_beq h18
         refine rT G ((↑(foldSs (ss.getD k default).body).length : Int) == (0 : Int)) (by assumption) ?_
         refine wp_skip ?_
         refine bl_n ?_
         refine bl_n ?_
         refine th_n ?_
         refine rs1 (dk := dkP) G ⟨[], [], []⟩ calls_nil trivial [0, 1] [dT ss, .row 135 (D.stmts (foldSs (List.take k ss)))] [(0, .ref 0), (2, .v (.slice none 0 0)), (3, .ref 1), (4, iA ((↑k : Int) + 1))] [IntKind.i64.wrap ((↑k : Int) + (1 : Int)) = (↑k : Int) + (1 : Int)] ⟨(by have h8 := fo_lenB (fit_sub hb (show ((k : Nat) : Int) < ss.length by omega)).2.2.2; omega), trivial⟩ ?_
         clear G; intro ρ a w G
         refine th_n ?_
         exact rx_next G (k + 1) (by have h8 := fo_lenB (fit_sub hb (show ((k : Nat) : Int) < ss.length by omega)).2.2.2; omega) (by have h8 := fo_lenB (fit_sub hb (show ((k : Nat) : Int) < ss.length by omega)).2.2.2; omega) [0, 1] [dT ss, .row 135 (D.stmts (foldSs (List.take (k + 1) ss)))] [(0, .ref 0), (2, .v (.slice none 0 0)), (3, .ref 1), (4, iA (↑(k + 1) : Int))] (by kernel_rfl) (by kernel_rfl) (by kernel_rfl) (by have e1 : (foldSs (List.take (k + 1) ss) : List LStmt) = (foldSs (List.take k ss)) := (by have h8 := fo_lenB (fit_sub hb (show ((k : Nat) : Int) < ss.length by omega)).2.2.2; omega); first | (rw [e1]; done) | (rw [e1]; rfl) | (simp only [e1]; done) | (simp only [e1]; rfl)) (by kernel_rfl)
       ·
        have q17 : (ss.getD k default).count = 1 := eq_of_beq h17
        refine rT G ((ss.getD k default).count == (1 : Int)) (by assumption) ?_
        refine rs1 (dk := dkP) G ⟨[], [], []⟩ calls_nil trivial [0, 31] [dT ss, .row 135 (D.stmts (foldSs (List.take k ss) ++ foldSs (ss.getD k default).body))] [(0, .ref 0), (2, .v (.slice none 0 0)), (3, .ref 1), (4, iA (↑k : Int))] [(foldSs (List.take k ss)).length + (foldSs (ss.getD k default).body).length ≤ (9223372036854775807 : Nat), ((foldSs (List.take k ss)).length + (foldSs (ss.getD k default).body).length) * (152 : Nat) ≤ (140737488355328 : Nat)] ⟨(by have h8 := fo_lenB (fit_sub hb (show ((k : Nat) : Int) < ss.length by omega)).2.2.2; omega), (by have h8 := fo_lenB (fit_sub hb (show ((k : Nat) : Int) < ss.length by omega)).2.2.2; omega), trivial⟩ ?_
        clear G; intro ρ a w G
        refine bl_n ?_
        refine bl_n ?_
        refine th_n ?_
        refine rs1s G ⟨[], [], []⟩ calls_nil trivial [(0, .ref 0), (2, .v (.slice none 0 0)), (3, .ref 1), (4, iA ((↑k : Int) + 1))] [IntKind.i64.wrap ((↑k : Int) + (1 : Int)) = (↑k : Int) + (1 : Int)] ⟨(by have h8 := fo_lenB (fit_sub hb (show ((k : Nat) : Int) < ss.length by omega)).2.2.2; omega), trivial⟩ ?_
        clear G; intro ρ a w G
        refine th_n ?_
        exact rx_next G (k + 1) (by have h8 := fo_lenB (fit_sub hb (show ((k : Nat) : Int) < ss.length by omega)).2.2.2; omega) (by have h8 := fo_lenB (fit_sub hb (show ((k : Nat) : Int) < ss.length by omega)).2.2.2; omega) [0, 1] [dT ss, .row 135 (D.stmts (foldSs (List.take (k + 1) ss)))] [(0, .ref 0), (2, .v (.slice none 0 0)), (3, .ref 1), (4, iA (↑(k + 1) : Int))] (by kernel_rfl) (by kernel_rfl) (by kernel_rfl) (by have e1 : (foldSs (List.take (k + 1) ss) : List LStmt) = (foldSs (List.take k ss) ++ foldSs (ss.getD k default).body) := (by have h8 := fo_lenB (fit_sub hb (show ((k : Nat) : Int) < ss.length by omega)).2.2.2; omega); first | (rw [e1]; done) | (rw [e1]; rfl) | (simp only [e1]; done) | (simp only [e1]; rfl)) (by kernel_rfl)
     ·
      have q15 : (foldE (ss.getD k default).value).kind = 1 := eq_of_beq h15
      refine rs1s G ⟨[], [((ss.getD k default).kind == (3 : Int), true), ((foldE (ss.getD k default).value).kind == (1 : Int), true)], [(4, 0), (5, 0), (6, 0), (7, 0), (1008, 0), (10, 1), (11, 1), (12, 1), (13, 1), (1014, 1)]⟩ calls_nil ⟨(by assumption), (by assumption), trivial⟩ [(0, .ref 0), (2, .v (.slice none 0 0)), (3, .ref 1), (4, iA (↑k : Int)), (5, .ptr 2 0), (40, bA ((foldE (ss.getD k default).value).value != 0))] [] trivial ?_
      clear G; intro ρ a w G
      refine th_n ?_
      cases h19 : ((foldE (ss.getD k default).value).value != (0 : Int))
      ·
       have q19 : (foldE (ss.getD k default).value).value = 0 := (by simpa using h19)
       refine rF G ((foldE (ss.getD k default).value).value != (0 : Int)) (by assumption) ?_
       refine wp_seq ?_
       refine rs1s G ⟨[], [((ss.getD k default).kind == (3 : Int), true)], [(4, 0), (5, 0), (6, 0), (7, 0), (1008, 0)]⟩ calls_nil ⟨(by assumption), trivial⟩ [(0, .ref 0), (2, .v (.slice none 0 0)), (3, .ref 1), (4, iA (↑k : Int)), (5, .ptr 2 0), (60, bA ((foldE (ss.getD k default).value).kind == 1))] [] trivial ?_
       clear G; intro ρ a w G
       refine th_n ?_
       refine rT G ((foldE (ss.getD k default).value).kind == (1 : Int)) (by assumption) ?_
       refine rs1 (dk := dkP) G ⟨[], [], []⟩ calls_nil trivial [0, 31] [dT ss, .row 135 (D.stmts (foldSs (List.take k ss) ++ foldSs (ss.getD k default).els))] [(0, .ref 0), (2, .v (.slice none 0 0)), (3, .ref 1), (4, iA (↑k : Int))] [(foldSs (List.take k ss)).length + (foldSs (ss.getD k default).els).length ≤ (9223372036854775807 : Nat), ((foldSs (List.take k ss)).length + (foldSs (ss.getD k default).els).length) * (152 : Nat) ≤ (140737488355328 : Nat)] ⟨(by have h8 := fo_lenB (fit_sub hb (show ((k : Nat) : Int) < ss.length by omega)).2.2.2; omega), (by have h8 := fo_lenB (fit_sub hb (show ((k : Nat) : Int) < ss.length by omega)).2.2.2; omega), trivial⟩ ?_
       clear G; intro ρ a w G
       refine bl_n ?_
       refine bl_n ?_
       refine th_n ?_
       refine rs1s G ⟨[], [], []⟩ calls_nil trivial [(0, .ref 0), (2, .v (.slice none 0 0)), (3, .ref 1), (4, iA ((↑k : Int) + 1))] [IntKind.i64.wrap ((↑k : Int) + (1 : Int)) = (↑k : Int) + (1 : Int)] ⟨(by exact w64 (by omega) (by omega)), trivial⟩ ?_
       clear G; intro ρ a w G
       refine th_n ?_
       exact rx_next G (k + 1) (by have h8 := fo_lenB (fit_sub hb (show ((k : Nat) : Int) < ss.length by omega)).2.2.2; omega) (by have h8 := fo_lenB (fit_sub hb (show ((k : Nat) : Int) < ss.length by omega)).2.2.2; omega) [0, 1] [dT ss, .row 135 (D.stmts (foldSs (List.take (k + 1) ss)))] [(0, .ref 0), (2, .v (.slice none 0 0)), (3, .ref 1), (4, iA (↑(k + 1) : Int))] (by kernel_rfl) (by kernel_rfl) (by kernel_rfl) (by have e1 : (foldSs (List.take (k + 1) ss) : List LStmt) = (foldSs (List.take k ss) ++ foldSs (ss.getD k default).els) := (by exact fo2 (by omega) (by omega) (by omega) (by omega)); first | (rw [e1]; done) | (rw [e1]; rfl) | (simp only [e1]; done) | (simp only [e1]; rfl)) (by kernel_rfl)
      ·
       have q19 : ¬ ((foldE (ss.getD k default).value).value = 0) := bne_iff_ne.1 h19
       refine rT G ((foldE (ss.getD k default).value).value != (0 : Int)) (by assumption) ?_
       refine rs1 (dk := dkP) G ⟨[], [], []⟩ calls_nil trivial [0, 31] [dT ss, .row 135 (D.stmts (foldSs (List.take k ss) ++ foldSs (ss.getD k default).body))] [(0, .ref 0), (2, .v (.slice none 0 0)), (3, .ref 1), (4, iA (↑k : Int))] [(foldSs (List.take k ss)).length + (foldSs (ss.getD k default).body).length ≤ (9223372036854775807 : Nat), ((foldSs (List.take k ss)).length + (foldSs (ss.getD k default).body).length) * (152 : Nat) ≤ (140737488355328 : Nat)] ⟨(by have h8 := fo_lenB (fit_sub hb (show ((k : Nat) : Int) < ss.length by omega)).2.2.1; omega), (by have h8 := fo_lenB (fit_sub hb (show ((k : Nat) : Int) < ss.length by omega)).2.2.1; omega), trivial⟩ ?_
       clear G; intro ρ a w G
       refine bl_n ?_
       refine bl_n ?_
       refine th_n ?_
       refine rs1s G ⟨[], [], []⟩ calls_nil trivial [(0, .ref 0), (2, .v (.slice none 0 0)), (3, .ref 1), (4, iA ((↑k : Int) + 1))] [IntKind.i64.wrap ((↑k : Int) + (1 : Int)) = (↑k : Int) + (1 : Int)] ⟨(by exact w64 (by omega) (by omega)), trivial⟩ ?_
       clear G; intro ρ a w G
       refine th_n ?_
       exact rx_next G (k + 1) (by have h8 := fo_lenB (fit_sub hb (show ((k : Nat) : Int) < ss.length by omega)).2.2.2; omega) (by have h8 := fo_lenB (fit_sub hb (show ((k : Nat) : Int) < ss.length by omega)).2.2.2; omega) [0, 1] [dT ss, .row 135 (D.stmts (foldSs (List.take (k + 1) ss)))] [(0, .ref 0), (2, .v (.slice none 0 0)), (3, .ref 1), (4, iA (↑(k + 1) : Int))] (by kernel_rfl) (by kernel_rfl) (by kernel_rfl) (by have e1 : (foldSs (List.take (k + 1) ss) : List LStmt) = (foldSs (List.take k ss) ++ foldSs (ss.getD k default).body) := (by exact fo1 (by omega) (by omega) (by omega) (by omega)); first | (rw [e1]; done) | (rw [e1]; rfl) | (simp only [e1]; done) | (simp only [e1]; rfl)) (by kernel_rfl)

set_option maxHeartbeats 8000000 in
set_option maxRecDepth 100000 in
theorem s_foldStmts (nv na d : Nat) (ss : List LStmt) (hs : ss.all (stmtB nv na (d + 1)) = true) (hb : szSs ss ≤ 1048576) (hf : ∀ (e : LExpr), goodE e = true → Ctr.ok Try.prog (foC 77 e)) (ih : ∀ (tt : List LStmt), tt.all (stmtB nv na d) = true → szSs tt ≤ 1048576 → 0 < ss.length → Ctr.ok Try.prog (lbC 121 tt)) : Ctr.ok Try.prog (lbC 121 ss) := by
  refine rx_enter 90 Try.func121 (by rfl) (by kernel_rfl) (by kernel_rfl) ?_
  intro ι φ ψ w0 w F ρ0 ρ a G
  replace G := Gam.at G [dT ss] [(0, .ref 0)]
  have hl := block_fit hb
  refine wp_seq ?_
  refine rs0s G [(0, .ref 0), (2, .v (.slice none 0 0))] ?_
  clear G; intro ρ a w G
  refine th_n ?_
  refine wp_seq ?_
  refine rs0s G [(0, .ref 0), (2, .v (.slice none 0 0)), (3, .v (.slice none 0 0))] ?_
  clear G; intro ρ a w G
  refine th_n ?_
  refine wp_seq ?_
  refine wp_seq ?_
  refine rs0s G [(2, .v (.slice none 0 0)), (3, .v (.slice none 0 0)), (6, .ref 0), (7, iA (↑ss.length : Int)), (8, iA 0)] ?_
  clear G; intro ρ a w G
  refine th_n ?_
  refine wp_block ?_
  have Gx := G.nil 1 135 (.stmts []) 10 [dT ss] [(2, .v (.slice none 0 0)), (3, .ref 1), (6, .ref 0), (7, iA (↑ss.length : Int)), (8, iA 0)]
  clear G
  obtain ⟨ρ, G⟩ := Gx
  replace G := Gam.at G [dT ss, .row 135 (D.stmts [])] [(2, .v (.slice none 0 0)), (3, .ref 1), (6, .ref 0), (7, iA (↑ss.length : Int)), (8, iA 0)]
  refine rx_for (κ := Nat) (fun k => k ≤ ss.length) (fun k => ss.length - k) (fun k => [dT ss, .row 135 (.stmts (foldSs (ss.take k)))]) (fun k => [(2, .v (.slice none 0 0)), (3, .ref 1), (6, .ref 0), (7, iA (↑ss.length : Int)), (8, iA k)]) (0) (by simp [hs]) (Gam.at G _ _) ?_
  clear G
  intro k ρ a w hp G
  replace G := Gam.at G [dT ss, .row 135 (D.stmts (foldSs (List.take k ss)))] [(2, .v (.slice none 0 0)), (3, .ref 1), (6, .ref 0), (7, iA (↑ss.length : Int)), (8, iA (↑k : Int))]
  have hfl := fo_len (k := k) hb
  refine wp_seq ?_
  refine rs0s G [(2, .v (.slice none 0 0)), (3, .ref 1), (6, .ref 0), (7, iA (↑ss.length : Int)), (8, iA (↑k : Int)), (9, bA (decide ((↑k : Int) < (↑ss.length : Int))))] ?_
  clear G; intro ρ a w G
  refine th_n ?_
  refine wp_seq ?_
  cases h0 : (decide ((↑k : Int) < (↑ss.length : Int)))
  ·
   have q0 : ¬ ((↑k : Int) < (↑ss.length : Int)) := of_decide_eq_false h0
   refine rF G (decide ((↑k : Int) < (↑ss.length : Int))) (by assumption) ?_
   refine wp_exit ?_
   refine th_e ?_
   refine th_e ?_
   refine bl_hit ?_
   refine th_n ?_
   refine wp_seq ?_
   refine rs0s G [(2, .ref 1)] ?_
   clear G; intro ρ a w G
   refine th_n ?_
   refine wp_ret ?_
   have Gx := G.frz [.no, .row 135] [dT ss, dT (foldSs (List.take k ss))] [(2, .ref 1)]
   clear G
   obtain ⟨ρ, G⟩ := Gx
   exact rx_ret (v := .ref 1) G [0, 1] (by kernel_rfl) (by kernel_rfl) (by show _ = List.map (It.ren (nth [0, 1])) [dT ss, dT (foldSs ss)]; have e1 : (foldSs ss : List LStmt) = (foldSs (List.take k ss)) := (by exact fo_end (by omega)); first | (rw [e1]; done) | (rw [e1]; rfl) | (simp only [e1]; done) | (simp only [e1]; rfl)) (by kernel_rfl)
  ·
   have q0 : (↑k : Int) < (↑ss.length : Int) := of_decide_eq_true h0
   refine rT G (decide ((↑k : Int) < (↑ss.length : Int))) (by assumption) ?_
   refine wp_skip ?_
   refine th_n ?_
   refine wp_seq ?_
   refine wp_block ?_
   refine wp_seq ?_
   refine rs1 (dk := dkP) G ⟨[], [], []⟩ calls_nil trivial [0, 1, 10, 11, 12, 13, 18] [dT ss, .row 135 (D.stmts (foldSs (List.take k ss))), dE (ss.getD k default).index.kids, dE (ss.getD k default).value.kids, dT (ss.getD k default).body, dT (ss.getD k default).els, .box (sL (ss.getD k default) 2)] [(2, .v (.slice none 0 0)), (3, .ref 1), (5, .ptr 6 0), (6, .ref 0), (7, iA (↑ss.length : Int)), (8, iA (↑k : Int))] [(0 : Int) ≤ (↑k : Int), (↑k : Int) < (↑ss.length : Int), k < ss.length] ⟨(by simp [hs, h0]), (by assumption), (by have h8 := fo_lenB (fit_sub hb (show ((k : Nat) : Int) < ss.length by omega)).2.2.2; omega), trivial⟩ ?_
   clear G; intro ρ a w G
   refine th_n ?_
   refine wp_seq ?_
   refine wp_seq ?_
   refine rs0s G [(2, .v (.slice none 0 0)), (3, .ref 1), (5, .ptr 6 0), (6, .ref 0), (7, iA (↑ss.length : Int)), (8, iA (↑k : Int)), (14, bA ((ss.getD k default).kind != 4))] ?_
   clear G; intro ρ a w G
   refine th_n ?_
   cases h1 : ((ss.getD k default).kind != (4 : Int))
   ·
    have q1 : (ss.getD k default).kind = 4 := (by simpa using h1)
    refine rF G ((ss.getD k default).kind != (4 : Int)) (by assumption) ?_
    refine wp_skip ?_
    refine th_n ?_
    refine wp_seq ?_
    refine rd1 (dk := dkP) G ⟨[(2, _, [4]), (5, _, [5])], [], []⟩ (calls_cons (ih ((ss.getD k default).body) (by exact (fo_at hs (by omega)).2.1) (by exact (fit_sub hb (by assumption)).2.2.1) (by have h8 := fo_lenB (fit_sub hb (show ((k : Nat) : Int) < ss.length by omega)).2.2.2; omega)) (calls_cons (ih ((ss.getD k default).els) (by exact (fo_at hs (by omega)).2.2) (by exact (fit_sub hb (by assumption)).2.2.2) (by have h8 := fo_lenB (fit_sub hb (show ((k : Nat) : Int) < ss.length by omega)).2.2.2; omega)) calls_nil)) trivial [0, 1, 3, 0, 8, 31, 31, 127, 255, 511] [0, 1, 2, 3, 6, 23, 47] [dT ss, .row 135 (D.stmts (foldSs (List.take k ss))), dE (ss.getD k default).index.kids, dE (ss.getD k default).value.kids, .box [iA (ss.getD k default).kind, iA (ss.getD k default).target, iA (ss.getD k default).index.kind, iA (ss.getD k default).index.value, .ref 2, iA (ss.getD k default).value.kind, iA (ss.getD k default).value.value, .ref 3, iA (ss.getD k default).count, .ref 5, .ref 6], dT (foldSs (ss.getD k default).body), dT (foldSs (ss.getD k default).els)] [(2, .v (.slice none 0 0)), (3, .ref 1), (5, .ptr 4 0), (6, .ref 0), (7, iA (↑ss.length : Int)), (8, iA (↑k : Int))] [] trivial ?_
    clear G; intro ρ a w G
    refine th_n ?_
    refine wp_block ?_
    refine wp_seq ?_
    cases h2 : ((ss.getD k default).kind == (3 : Int))
    ·
     have q2 : ¬ ((ss.getD k default).kind = 3) := ne_of_beq_false h2
     refine rs1s G ⟨[], [((ss.getD k default).kind == (3 : Int), false), (false, false)], [(4, 0), (5, 0), (6, 0), (7, 0), (1008, 0), (10, 1), (11, 1), (12, 1), (13, 1), (1014, 1)]⟩ calls_nil ⟨(by assumption), (by kernel_rfl), trivial⟩ [(2, .v (.slice none 0 0)), (3, .ref 1), (5, .ptr 4 0), (6, .ref 0), (7, iA (↑ss.length : Int)), (8, iA (↑k : Int)), (31, bA false)] [] trivial ?_
     clear G; intro ρ a w G
     refine th_n ?_
     refine rF G (false) (by kernel_rfl) ?_
     refine wp_seq ?_
     refine rs1s G ⟨[], [((ss.getD k default).kind == (3 : Int), false)], [(4, 0), (5, 0), (6, 0), (7, 0), (1008, 0)]⟩ calls_nil ⟨(by assumption), trivial⟩ [(2, .v (.slice none 0 0)), (3, .ref 1), (5, .ptr 4 0), (6, .ref 0), (7, iA (↑ss.length : Int)), (8, iA (↑k : Int)), (51, bA false)] [] trivial ?_
     clear G; intro ρ a w G
     refine th_n ?_
     refine rF G (false) (by kernel_rfl) ?_
     refine wp_seq ?_
     cases h3 : ((ss.getD k default).kind == (4 : Int))
     ·
      have q3 : ¬ ((ss.getD k default).kind = 4) := ne_of_beq_false h3
      refine rs1s G ⟨[], [((ss.getD k default).kind == (4 : Int), false)], [(4, 0), (5, 0), (6, 0), (1007, 0)]⟩ calls_nil ⟨(by assumption), trivial⟩ [(2, .v (.slice none 0 0)), (3, .ref 1), (5, .ptr 4 0), (6, .ref 0), (7, iA (↑ss.length : Int)), (8, iA (↑k : Int)), (65, bA false)] [] trivial ?_
      clear G; intro ρ a w G
      refine th_n ?_
      refine rF G (false) (by kernel_rfl) ?_
      refine wp_seq ?_
      refine rs1s G ⟨[], [((ss.getD k default).kind == (4 : Int), false)], [(4, 0), (5, 0), (6, 0), (7, 0), (1008, 0)]⟩ calls_nil ⟨(by assumption), trivial⟩ [(2, .v (.slice none 0 0)), (3, .ref 1), (5, .ptr 4 0), (6, .ref 0), (7, iA (↑ss.length : Int)), (8, iA (↑k : Int)), (78, bA false)] [] trivial ?_
      clear G; intro ρ a w G
      refine th_n ?_
      refine rF G (false) (by kernel_rfl) ?_
      refine rs1 (dk := dkP) G ⟨[], [], []⟩ calls_nil trivial [0, 31] [dT ss, .row 135 (D.stmts (foldSs (List.take k ss) ++ ([LStmt.mk (ss.getD k default).kind (ss.getD k default).target (LExpr.mk (ss.getD k default).index.kind (ss.getD k default).index.value (ss.getD k default).index.kids) (LExpr.mk (ss.getD k default).value.kind (ss.getD k default).value.value (ss.getD k default).value.kids) (ss.getD k default).count (foldSs (ss.getD k default).body) (foldSs (ss.getD k default).els)] ++ [])))] [(2, .v (.slice none 0 0)), (3, .ref 1), (6, .ref 0), (7, iA (↑ss.length : Int)), (8, iA (↑k : Int))] [(foldSs (List.take k ss)).length + ([LStmt.mk (ss.getD k default).kind (ss.getD k default).target (LExpr.mk (ss.getD k default).index.kind (ss.getD k default).index.value (ss.getD k default).index.kids) (LExpr.mk (ss.getD k default).value.kind (ss.getD k default).value.value (ss.getD k default).value.kids) (ss.getD k default).count (foldSs (ss.getD k default).body) (foldSs (ss.getD k default).els)] ++ []).length ≤ (9223372036854775807 : Nat), ((foldSs (List.take k ss)).length + ([LStmt.mk (ss.getD k default).kind (ss.getD k default).target (LExpr.mk (ss.getD k default).index.kind (ss.getD k default).index.value (ss.getD k default).index.kids) (LExpr.mk (ss.getD k default).value.kind (ss.getD k default).value.value (ss.getD k default).value.kids) (ss.getD k default).count (foldSs (ss.getD k default).body) (foldSs (ss.getD k default).els)] ++ []).length) * (152 : Nat) ≤ (140737488355328 : Nat)] ⟨(by have h8 := fo_lenB (fit_sub hb (show ((k : Nat) : Int) < ss.length by omega)).2.2.2; omega), (by have h8 := fo_lenB (fit_sub hb (show ((k : Nat) : Int) < ss.length by omega)).2.2.2; omega), trivial⟩ ?_
      clear G; intro ρ a w G
      refine bl_n ?_
      refine bl_n ?_
      refine th_n ?_
      refine rs1s G ⟨[], [], []⟩ calls_nil trivial [(2, .v (.slice none 0 0)), (3, .ref 1), (6, .ref 0), (7, iA (↑ss.length : Int)), (8, iA ((↑k : Int) + 1))] [IntKind.i64.wrap ((↑k : Int) + (1 : Int)) = (↑k : Int) + (1 : Int)] ⟨(by have h8 := fo_lenB (fit_sub hb (show ((k : Nat) : Int) < ss.length by omega)).2.2.2; omega), trivial⟩ ?_
      clear G; intro ρ a w G
      refine th_n ?_
      exact rx_next G (k + 1) (by have h8 := fo_lenB (fit_sub hb (show ((k : Nat) : Int) < ss.length by omega)).2.2.2; omega) (by have h8 := fo_lenB (fit_sub hb (show ((k : Nat) : Int) < ss.length by omega)).2.2.2; omega) [0, 1] [dT ss, .row 135 (D.stmts (foldSs (List.take (k + 1) ss)))] [(2, .v (.slice none 0 0)), (3, .ref 1), (6, .ref 0), (7, iA (↑ss.length : Int)), (8, iA (↑(k + 1) : Int))] (by kernel_rfl) (by kernel_rfl) (by kernel_rfl) (by have e1 : (foldSs (List.take (k + 1) ss) : List LStmt) = (foldSs (List.take k ss) ++ ([LStmt.mk (ss.getD k default).kind (ss.getD k default).target (LExpr.mk (ss.getD k default).index.kind (ss.getD k default).index.value (ss.getD k default).index.kids) (LExpr.mk (ss.getD k default).value.kind (ss.getD k default).value.value (ss.getD k default).value.kids) (ss.getD k default).count (foldSs (ss.getD k default).body) (foldSs (ss.getD k default).els)] ++ [])) := (by have h8 := fo_lenB (fit_sub hb (show ((k : Nat) : Int) < ss.length by omega)).2.2.2; omega); first | (rw [e1]; done) | (rw [e1]; rfl) | (simp only [e1]; done) | (simp only [e1]; rfl)) (by kernel_rfl)
     ·
      have q3 : (ss.getD k default).kind = 4 := eq_of_beq h3
      refine rs1s G ⟨[], [((ss.getD k default).kind == (4 : Int), true)], [(4, 0), (5, 0), (6, 0), (1007, 0)]⟩ calls_nil ⟨(by assumption), trivial⟩ [(2, .v (.slice none 0 0)), (3, .ref 1), (5, .ptr 4 0), (6, .ref 0), (7, iA (↑ss.length : Int)), (8, iA (↑k : Int)), (65, bA ((ss.getD k default).count == 1))] [] trivial ?_
      clear G; intro ρ a w G
      refine th_n ?_
      cases h4 : ((ss.getD k default).count == (1 : Int))
      ·
       have q4 : ¬ ((ss.getD k default).count = 1) := ne_of_beq_false h4
       refine rF G ((ss.getD k default).count == (1 : Int)) (by assumption) ?_
       refine wp_seq ?_
       refine rs1s G ⟨[], [((ss.getD k default).kind == (4 : Int), true)], [(4, 0), (5, 0), (6, 0), (7, 0), (1008, 0)]⟩ calls_nil ⟨(by assumption), trivial⟩ [(2, .v (.slice none 0 0)), (3, .ref 1), (5, .ptr 4 0), (6, .ref 0), (7, iA (↑ss.length : Int)), (8, iA (↑k : Int)), (78, bA ((↑(foldSs (ss.getD k default).body).length : Int) == 0))] [] trivial ?_
       clear G; intro ρ a w G
       refine th_n ?_
       cases h5 : ((↑(foldSs (ss.getD k default).body).length : Int) == (0 : Int))
       ·
        have q5 : ¬ ((↑(foldSs (ss.getD k default).body).length : Int) = 0) := ne_of_beq_false h5
        refine rF G ((↑(foldSs (ss.getD k default).body).length : Int) == (0 : Int)) (by assumption) ?_
        refine rs1 (dk := dkP) G ⟨[], [], []⟩ calls_nil trivial [0, 31] [dT ss, .row 135 (D.stmts (foldSs (List.take k ss) ++ ([LStmt.mk (ss.getD k default).kind (ss.getD k default).target (LExpr.mk (ss.getD k default).index.kind (ss.getD k default).index.value (ss.getD k default).index.kids) (LExpr.mk (ss.getD k default).value.kind (ss.getD k default).value.value (ss.getD k default).value.kids) (ss.getD k default).count (foldSs (ss.getD k default).body) (foldSs (ss.getD k default).els)] ++ [])))] [(2, .v (.slice none 0 0)), (3, .ref 1), (6, .ref 0), (7, iA (↑ss.length : Int)), (8, iA (↑k : Int))] [(foldSs (List.take k ss)).length + ([LStmt.mk (ss.getD k default).kind (ss.getD k default).target (LExpr.mk (ss.getD k default).index.kind (ss.getD k default).index.value (ss.getD k default).index.kids) (LExpr.mk (ss.getD k default).value.kind (ss.getD k default).value.value (ss.getD k default).value.kids) (ss.getD k default).count (foldSs (ss.getD k default).body) (foldSs (ss.getD k default).els)] ++ []).length ≤ (9223372036854775807 : Nat), ((foldSs (List.take k ss)).length + ([LStmt.mk (ss.getD k default).kind (ss.getD k default).target (LExpr.mk (ss.getD k default).index.kind (ss.getD k default).index.value (ss.getD k default).index.kids) (LExpr.mk (ss.getD k default).value.kind (ss.getD k default).value.value (ss.getD k default).value.kids) (ss.getD k default).count (foldSs (ss.getD k default).body) (foldSs (ss.getD k default).els)] ++ []).length) * (152 : Nat) ≤ (140737488355328 : Nat)] ⟨(by simp only [List.length_append, List.length_cons, List.length_nil]; omega), (by simp only [List.length_append, List.length_cons, List.length_nil]; omega), trivial⟩ ?_
        clear G; intro ρ a w G
        refine bl_n ?_
        refine bl_n ?_
        refine th_n ?_
        refine rs1s G ⟨[], [], []⟩ calls_nil trivial [(2, .v (.slice none 0 0)), (3, .ref 1), (6, .ref 0), (7, iA (↑ss.length : Int)), (8, iA ((↑k : Int) + 1))] [IntKind.i64.wrap ((↑k : Int) + (1 : Int)) = (↑k : Int) + (1 : Int)] ⟨(by exact w64 (by omega) (by omega)), trivial⟩ ?_
        clear G; intro ρ a w G
        refine th_n ?_
        exact rx_next G (k + 1) (by have h8 := fo_lenB (fit_sub hb (show ((k : Nat) : Int) < ss.length by omega)).2.2.2; omega) (by have h8 := fo_lenB (fit_sub hb (show ((k : Nat) : Int) < ss.length by omega)).2.2.2; omega) [0, 1] [dT ss, .row 135 (D.stmts (foldSs (List.take (k + 1) ss)))] [(2, .v (.slice none 0 0)), (3, .ref 1), (6, .ref 0), (7, iA (↑ss.length : Int)), (8, iA (↑(k + 1) : Int))] (by kernel_rfl) (by kernel_rfl) (by kernel_rfl) (by have e1 : (foldSs (List.take (k + 1) ss) : List LStmt) = (foldSs (List.take k ss) ++ ([LStmt.mk (ss.getD k default).kind (ss.getD k default).target (LExpr.mk (ss.getD k default).index.kind (ss.getD k default).index.value (ss.getD k default).index.kids) (LExpr.mk (ss.getD k default).value.kind (ss.getD k default).value.value (ss.getD k default).value.kids) (ss.getD k default).count (foldSs (ss.getD k default).body) (foldSs (ss.getD k default).els)] ++ [])) := (by exact fo5 (by omega) (by omega) (by omega) (by omega)); first | (rw [e1]; done) | (rw [e1]; rfl) | (simp only [e1]; done) | (simp only [e1]; rfl)) (by kernel_rfl)
       ·
        have q5 : (↑(foldSs (ss.getD k default).body).length : Int) = 0 := eq_of_beq h5
        refine rT G ((↑(foldSs (ss.getD k default).body).length : Int) == (0 : Int)) (by assumption) ?_
        refine wp_skip ?_
        refine bl_n ?_
        refine bl_n ?_
        refine th_n ?_
        refine rs1 (dk := dkP) G ⟨[], [], []⟩ calls_nil trivial [0, 1] [dT ss, .row 135 (D.stmts (foldSs (List.take k ss)))] [(2, .v (.slice none 0 0)), (3, .ref 1), (6, .ref 0), (7, iA (↑ss.length : Int)), (8, iA ((↑k : Int) + 1))] [IntKind.i64.wrap ((↑k : Int) + (1 : Int)) = (↑k : Int) + (1 : Int)] ⟨(by exact w64 (by omega) (by omega)), trivial⟩ ?_
        clear G; intro ρ a w G
        refine th_n ?_
        exact rx_next G (k + 1) (by have h8 := fo_lenB (fit_sub hb (show ((k : Nat) : Int) < ss.length by omega)).2.2.2; omega) (by have h8 := fo_lenB (fit_sub hb (show ((k : Nat) : Int) < ss.length by omega)).2.2.2; omega) [0, 1] [dT ss, .row 135 (D.stmts (foldSs (List.take (k + 1) ss)))] [(2, .v (.slice none 0 0)), (3, .ref 1), (6, .ref 0), (7, iA (↑ss.length : Int)), (8, iA (↑(k + 1) : Int))] (by kernel_rfl) (by kernel_rfl) (by kernel_rfl) (by have e1 : (foldSs (List.take (k + 1) ss) : List LStmt) = (foldSs (List.take k ss)) := (by exact fo4 (by omega) (by omega) (by omega) (by omega)); first | (rw [e1]; done) | (rw [e1]; rfl) | (simp only [e1]; done) | (simp only [e1]; rfl)) (by kernel_rfl)
      ·
       have q4 : (ss.getD k default).count = 1 := eq_of_beq h4
       refine rT G ((ss.getD k default).count == (1 : Int)) (by assumption) ?_
       refine rs1 (dk := dkP) G ⟨[], [], []⟩ calls_nil trivial [0, 31] [dT ss, .row 135 (D.stmts (foldSs (List.take k ss) ++ foldSs (ss.getD k default).body))] [(2, .v (.slice none 0 0)), (3, .ref 1), (6, .ref 0), (7, iA (↑ss.length : Int)), (8, iA (↑k : Int))] [(foldSs (List.take k ss)).length + (foldSs (ss.getD k default).body).length ≤ (9223372036854775807 : Nat), ((foldSs (List.take k ss)).length + (foldSs (ss.getD k default).body).length) * (152 : Nat) ≤ (140737488355328 : Nat)] ⟨(by have h8 := fo_lenB (fit_sub hb (show ((k : Nat) : Int) < ss.length by omega)).2.2.1; omega), (by have h8 := fo_lenB (fit_sub hb (show ((k : Nat) : Int) < ss.length by omega)).2.2.1; omega), trivial⟩ ?_
       clear G; intro ρ a w G
       refine bl_n ?_
       refine bl_n ?_
       refine th_n ?_
       refine rs1s G ⟨[], [], []⟩ calls_nil trivial [(2, .v (.slice none 0 0)), (3, .ref 1), (6, .ref 0), (7, iA (↑ss.length : Int)), (8, iA ((↑k : Int) + 1))] [IntKind.i64.wrap ((↑k : Int) + (1 : Int)) = (↑k : Int) + (1 : Int)] ⟨(by exact w64 (by omega) (by omega)), trivial⟩ ?_
       clear G; intro ρ a w G
       refine th_n ?_
       exact rx_next G (k + 1) (by have h8 := fo_lenB (fit_sub hb (show ((k : Nat) : Int) < ss.length by omega)).2.2.2; omega) (by have h8 := fo_lenB (fit_sub hb (show ((k : Nat) : Int) < ss.length by omega)).2.2.2; omega) [0, 1] [dT ss, .row 135 (D.stmts (foldSs (List.take (k + 1) ss)))] [(2, .v (.slice none 0 0)), (3, .ref 1), (6, .ref 0), (7, iA (↑ss.length : Int)), (8, iA (↑(k + 1) : Int))] (by kernel_rfl) (by kernel_rfl) (by kernel_rfl) (by have e1 : (foldSs (List.take (k + 1) ss) : List LStmt) = (foldSs (List.take k ss) ++ foldSs (ss.getD k default).body) := (by exact fo3 (by omega) (by omega) (by omega)); first | (rw [e1]; done) | (rw [e1]; rfl) | (simp only [e1]; done) | (simp only [e1]; rfl)) (by kernel_rfl)
    ·
     have q2 : (ss.getD k default).kind = 3 := eq_of_beq h2
     cases h6 : ((ss.getD k default).value.kind == (1 : Int))
     ·
      have q6 : ¬ ((ss.getD k default).value.kind = 1) := ne_of_beq_false h6
      refine rs1s G ⟨[], [((ss.getD k default).kind == (3 : Int), true), ((ss.getD k default).value.kind == (1 : Int), false)], [(4, 0), (5, 0), (6, 0), (7, 0), (1008, 0), (10, 1), (11, 1), (12, 1), (13, 1), (1014, 1)]⟩ calls_nil ⟨(by assumption), (by assumption), trivial⟩ [(2, .v (.slice none 0 0)), (3, .ref 1), (5, .ptr 4 0), (6, .ref 0), (7, iA (↑ss.length : Int)), (8, iA (↑k : Int)), (31, bA false)] [] trivial ?_
      clear G; intro ρ a w G
      refine th_n ?_
      refine rF G (false) (by kernel_rfl) ?_
      refine wp_seq ?_
      refine rs1s G ⟨[], [((ss.getD k default).kind == (3 : Int), true)], [(4, 0), (5, 0), (6, 0), (7, 0), (1008, 0)]⟩ calls_nil ⟨(by assumption), trivial⟩ [(2, .v (.slice none 0 0)), (3, .ref 1), (5, .ptr 4 0), (6, .ref 0), (7, iA (↑ss.length : Int)), (8, iA (↑k : Int)), (51, bA ((ss.getD k default).value.kind == 1))] [] trivial ?_
      clear G; intro ρ a w G
      refine th_n ?_
      refine rF G ((ss.getD k default).value.kind == (1 : Int)) (by assumption) ?_
      refine wp_seq ?_
      cases h7 : ((ss.getD k default).kind == (4 : Int))
      ·
       have q7 : ¬ ((ss.getD k default).kind = 4) := ne_of_beq_false h7
       refine rs1s G ⟨[], [((ss.getD k default).kind == (4 : Int), false)], [(4, 0), (5, 0), (6, 0), (1007, 0)]⟩ calls_nil ⟨(by assumption), trivial⟩ [(2, .v (.slice none 0 0)), (3, .ref 1), (5, .ptr 4 0), (6, .ref 0), (7, iA (↑ss.length : Int)), (8, iA (↑k : Int)), (65, bA false)] [] trivial ?_
       clear G; intro ρ a w G
       refine th_n ?_
       refine rF G (false) (by kernel_rfl) ?_
       refine wp_seq ?_
       refine rs1s G ⟨[], [((ss.getD k default).kind == (4 : Int), false)], [(4, 0), (5, 0), (6, 0), (7, 0), (1008, 0)]⟩ calls_nil ⟨(by assumption), trivial⟩ [(2, .v (.slice none 0 0)), (3, .ref 1), (5, .ptr 4 0), (6, .ref 0), (7, iA (↑ss.length : Int)), (8, iA (↑k : Int)), (78, bA false)] [] trivial ?_
       clear G; intro ρ a w G
       refine th_n ?_
       refine rF G (false) (by kernel_rfl) ?_
       refine rs1 (dk := dkP) G ⟨[], [], []⟩ calls_nil trivial [0, 31] [dT ss, .row 135 (D.stmts (foldSs (List.take k ss) ++ ([LStmt.mk (ss.getD k default).kind (ss.getD k default).target (LExpr.mk (ss.getD k default).index.kind (ss.getD k default).index.value (ss.getD k default).index.kids) (LExpr.mk (ss.getD k default).value.kind (ss.getD k default).value.value (ss.getD k default).value.kids) (ss.getD k default).count (foldSs (ss.getD k default).body) (foldSs (ss.getD k default).els)] ++ [])))] [(2, .v (.slice none 0 0)), (3, .ref 1), (6, .ref 0), (7, iA (↑ss.length : Int)), (8, iA (↑k : Int))] [(foldSs (List.take k ss)).length + ([LStmt.mk (ss.getD k default).kind (ss.getD k default).target (LExpr.mk (ss.getD k default).index.kind (ss.getD k default).index.value (ss.getD k default).index.kids) (LExpr.mk (ss.getD k default).value.kind (ss.getD k default).value.value (ss.getD k default).value.kids) (ss.getD k default).count (foldSs (ss.getD k default).body) (foldSs (ss.getD k default).els)] ++ []).length ≤ (9223372036854775807 : Nat), ((foldSs (List.take k ss)).length + ([LStmt.mk (ss.getD k default).kind (ss.getD k default).target (LExpr.mk (ss.getD k default).index.kind (ss.getD k default).index.value (ss.getD k default).index.kids) (LExpr.mk (ss.getD k default).value.kind (ss.getD k default).value.value (ss.getD k default).value.kids) (ss.getD k default).count (foldSs (ss.getD k default).body) (foldSs (ss.getD k default).els)] ++ []).length) * (152 : Nat) ≤ (140737488355328 : Nat)] ⟨(by have h8 := fo_lenB (fit_sub hb (show ((k : Nat) : Int) < ss.length by omega)).2.2.2; omega), (by have h8 := fo_lenB (fit_sub hb (show ((k : Nat) : Int) < ss.length by omega)).2.2.2; omega), trivial⟩ ?_
       clear G; intro ρ a w G
       refine bl_n ?_
       refine bl_n ?_
       refine th_n ?_
       refine rs1s G ⟨[], [], []⟩ calls_nil trivial [(2, .v (.slice none 0 0)), (3, .ref 1), (6, .ref 0), (7, iA (↑ss.length : Int)), (8, iA ((↑k : Int) + 1))] [IntKind.i64.wrap ((↑k : Int) + (1 : Int)) = (↑k : Int) + (1 : Int)] ⟨(by have h8 := fo_lenB (fit_sub hb (show ((k : Nat) : Int) < ss.length by omega)).2.2.2; omega), trivial⟩ ?_
       clear G; intro ρ a w G
       refine th_n ?_
       exact rx_next G (k + 1) (by have h8 := fo_lenB (fit_sub hb (show ((k : Nat) : Int) < ss.length by omega)).2.2.2; omega) (by have h8 := fo_lenB (fit_sub hb (show ((k : Nat) : Int) < ss.length by omega)).2.2.2; omega) [0, 1] [dT ss, .row 135 (D.stmts (foldSs (List.take (k + 1) ss)))] [(2, .v (.slice none 0 0)), (3, .ref 1), (6, .ref 0), (7, iA (↑ss.length : Int)), (8, iA (↑(k + 1) : Int))] (by kernel_rfl) (by kernel_rfl) (by kernel_rfl) (by have e1 : (foldSs (List.take (k + 1) ss) : List LStmt) = (foldSs (List.take k ss) ++ ([LStmt.mk (ss.getD k default).kind (ss.getD k default).target (LExpr.mk (ss.getD k default).index.kind (ss.getD k default).index.value (ss.getD k default).index.kids) (LExpr.mk (ss.getD k default).value.kind (ss.getD k default).value.value (ss.getD k default).value.kids) (ss.getD k default).count (foldSs (ss.getD k default).body) (foldSs (ss.getD k default).els)] ++ [])) := (by have h8 := fo_lenB (fit_sub hb (show ((k : Nat) : Int) < ss.length by omega)).2.2.2; omega); first | (rw [e1]; done) | (rw [e1]; rfl) | (simp only [e1]; done) | (simp only [e1]; rfl)) (by kernel_rfl)
      ·
       have q7 : (ss.getD k default).kind = 4 := eq_of_beq h7
       refine rs1s G ⟨[], [((ss.getD k default).kind == (4 : Int), true)], [(4, 0), (5, 0), (6, 0), (1007, 0)]⟩ calls_nil ⟨(by assumption), trivial⟩ [(2, .v (.slice none 0 0)), (3, .ref 1), (5, .ptr 4 0), (6, .ref 0), (7, iA (↑ss.length : Int)), (8, iA (↑k : Int)), (65, bA ((ss.getD k default).count == 1))] [] trivial ?_
       clear G; intro ρ a w G
       refine th_n ?_
       cases h8 : ((ss.getD k default).count == (1 : Int))
       ·
        have q8 : ¬ ((ss.getD k default).count = 1) := ne_of_beq_false h8
        refine rF G ((ss.getD k default).count == (1 : Int)) (by assumption) ?_
        refine wp_seq ?_
        refine rs1s G ⟨[], [((ss.getD k default).kind == (4 : Int), true)], [(4, 0), (5, 0), (6, 0), (7, 0), (1008, 0)]⟩ calls_nil ⟨(by assumption), trivial⟩ [(2, .v (.slice none 0 0)), (3, .ref 1), (5, .ptr 4 0), (6, .ref 0), (7, iA (↑ss.length : Int)), (8, iA (↑k : Int)), (78, bA ((↑(foldSs (ss.getD k default).body).length : Int) == 0))] [] trivial ?_
        clear G; intro ρ a w G
        refine th_n ?_
        cases h9 : ((↑(foldSs (ss.getD k default).body).length : Int) == (0 : Int))
        ·
         have q9 : ¬ ((↑(foldSs (ss.getD k default).body).length : Int) = 0) := ne_of_beq_false h9
         refine rF G ((↑(foldSs (ss.getD k default).body).length : Int) == (0 : Int)) (by assumption) ?_
         refine rs1 (dk := dkP) G ⟨[], [], []⟩ calls_nil trivial [0, 31] [dT ss, .row 135 (D.stmts (foldSs (List.take k ss) ++ ([LStmt.mk (ss.getD k default).kind (ss.getD k default).target (LExpr.mk (ss.getD k default).index.kind (ss.getD k default).index.value (ss.getD k default).index.kids) (LExpr.mk (ss.getD k default).value.kind (ss.getD k default).value.value (ss.getD k default).value.kids) (ss.getD k default).count (foldSs (ss.getD k default).body) (foldSs (ss.getD k default).els)] ++ [])))] [(2, .v (.slice none 0 0)), (3, .ref 1), (6, .ref 0), (7, iA (↑ss.length : Int)), (8, iA (↑k : Int))] [(foldSs (List.take k ss)).length + ([LStmt.mk (ss.getD k default).kind (ss.getD k default).target (LExpr.mk (ss.getD k default).index.kind (ss.getD k default).index.value (ss.getD k default).index.kids) (LExpr.mk (ss.getD k default).value.kind (ss.getD k default).value.value (ss.getD k default).value.kids) (ss.getD k default).count (foldSs (ss.getD k default).body) (foldSs (ss.getD k default).els)] ++ []).length ≤ (9223372036854775807 : Nat), ((foldSs (List.take k ss)).length + ([LStmt.mk (ss.getD k default).kind (ss.getD k default).target (LExpr.mk (ss.getD k default).index.kind (ss.getD k default).index.value (ss.getD k default).index.kids) (LExpr.mk (ss.getD k default).value.kind (ss.getD k default).value.value (ss.getD k default).value.kids) (ss.getD k default).count (foldSs (ss.getD k default).body) (foldSs (ss.getD k default).els)] ++ []).length) * (152 : Nat) ≤ (140737488355328 : Nat)] ⟨(by have h8 := fo_lenB (fit_sub hb (show ((k : Nat) : Int) < ss.length by omega)).2.2.2; omega), (by have h8 := fo_lenB (fit_sub hb (show ((k : Nat) : Int) < ss.length by omega)).2.2.2; omega), trivial⟩ ?_
         clear G; intro ρ a w G
         refine bl_n ?_
         refine bl_n ?_
         refine th_n ?_
         refine rs1s G ⟨[], [], []⟩ calls_nil trivial [(2, .v (.slice none 0 0)), (3, .ref 1), (6, .ref 0), (7, iA (↑ss.length : Int)), (8, iA ((↑k : Int) + 1))] [IntKind.i64.wrap ((↑k : Int) + (1 : Int)) = (↑k : Int) + (1 : Int)] ⟨(by have h8 := fo_lenB (fit_sub hb (show ((k : Nat) : Int) < ss.length by omega)).2.2.2; omega), trivial⟩ ?_
         clear G; intro ρ a w G
         refine th_n ?_
         exact rx_next G (k + 1) (by have h8 := fo_lenB (fit_sub hb (show ((k : Nat) : Int) < ss.length by omega)).2.2.2; omega) (by have h8 := fo_lenB (fit_sub hb (show ((k : Nat) : Int) < ss.length by omega)).2.2.2; omega) [0, 1] [dT ss, .row 135 (D.stmts (foldSs (List.take (k + 1) ss)))] [(2, .v (.slice none 0 0)), (3, .ref 1), (6, .ref 0), (7, iA (↑ss.length : Int)), (8, iA (↑(k + 1) : Int))] (by kernel_rfl) (by kernel_rfl) (by kernel_rfl) (by have e1 : (foldSs (List.take (k + 1) ss) : List LStmt) = (foldSs (List.take k ss) ++ ([LStmt.mk (ss.getD k default).kind (ss.getD k default).target (LExpr.mk (ss.getD k default).index.kind (ss.getD k default).index.value (ss.getD k default).index.kids) (LExpr.mk (ss.getD k default).value.kind (ss.getD k default).value.value (ss.getD k default).value.kids) (ss.getD k default).count (foldSs (ss.getD k default).body) (foldSs (ss.getD k default).els)] ++ [])) := (by have h8 := fo_lenB (fit_sub hb (show ((k : Nat) : Int) < ss.length by omega)).2.2.2; omega); first | (rw [e1]; done) | (rw [e1]; rfl) | (simp only [e1]; done) | (simp only [e1]; rfl)) (by kernel_rfl)
        ·
         have q9 : (↑(foldSs (ss.getD k default).body).length : Int) = 0 := eq_of_beq h9
         refine rT G ((↑(foldSs (ss.getD k default).body).length : Int) == (0 : Int)) (by assumption) ?_
         refine wp_skip ?_
         refine bl_n ?_
         refine bl_n ?_
         refine th_n ?_
         refine rs1 (dk := dkP) G ⟨[], [], []⟩ calls_nil trivial [0, 1] [dT ss, .row 135 (D.stmts (foldSs (List.take k ss)))] [(2, .v (.slice none 0 0)), (3, .ref 1), (6, .ref 0), (7, iA (↑ss.length : Int)), (8, iA ((↑k : Int) + 1))] [IntKind.i64.wrap ((↑k : Int) + (1 : Int)) = (↑k : Int) + (1 : Int)] ⟨(by have h8 := fo_lenB (fit_sub hb (show ((k : Nat) : Int) < ss.length by omega)).2.2.2; omega), trivial⟩ ?_
         clear G; intro ρ a w G
         refine th_n ?_
         exact rx_next G (k + 1) (by have h8 := fo_lenB (fit_sub hb (show ((k : Nat) : Int) < ss.length by omega)).2.2.2; omega) (by have h8 := fo_lenB (fit_sub hb (show ((k : Nat) : Int) < ss.length by omega)).2.2.2; omega) [0, 1] [dT ss, .row 135 (D.stmts (foldSs (List.take (k + 1) ss)))] [(2, .v (.slice none 0 0)), (3, .ref 1), (6, .ref 0), (7, iA (↑ss.length : Int)), (8, iA (↑(k + 1) : Int))] (by kernel_rfl) (by kernel_rfl) (by kernel_rfl) (by have e1 : (foldSs (List.take (k + 1) ss) : List LStmt) = (foldSs (List.take k ss)) := (by have h8 := fo_lenB (fit_sub hb (show ((k : Nat) : Int) < ss.length by omega)).2.2.2; omega); first | (rw [e1]; done) | (rw [e1]; rfl) | (simp only [e1]; done) | (simp only [e1]; rfl)) (by kernel_rfl)
       ·
        have q8 : (ss.getD k default).count = 1 := eq_of_beq h8
        refine rT G ((ss.getD k default).count == (1 : Int)) (by assumption) ?_
        refine rs1 (dk := dkP) G ⟨[], [], []⟩ calls_nil trivial [0, 31] [dT ss, .row 135 (D.stmts (foldSs (List.take k ss) ++ foldSs (ss.getD k default).body))] [(2, .v (.slice none 0 0)), (3, .ref 1), (6, .ref 0), (7, iA (↑ss.length : Int)), (8, iA (↑k : Int))] [(foldSs (List.take k ss)).length + (foldSs (ss.getD k default).body).length ≤ (9223372036854775807 : Nat), ((foldSs (List.take k ss)).length + (foldSs (ss.getD k default).body).length) * (152 : Nat) ≤ (140737488355328 : Nat)] ⟨(by have h8 := fo_lenB (fit_sub hb (show ((k : Nat) : Int) < ss.length by omega)).2.2.2; omega), (by have h8 := fo_lenB (fit_sub hb (show ((k : Nat) : Int) < ss.length by omega)).2.2.2; omega), trivial⟩ ?_
        clear G; intro ρ a w G
        refine bl_n ?_
        refine bl_n ?_
        refine th_n ?_
        refine rs1s G ⟨[], [], []⟩ calls_nil trivial [(2, .v (.slice none 0 0)), (3, .ref 1), (6, .ref 0), (7, iA (↑ss.length : Int)), (8, iA ((↑k : Int) + 1))] [IntKind.i64.wrap ((↑k : Int) + (1 : Int)) = (↑k : Int) + (1 : Int)] ⟨(by have h8 := fo_lenB (fit_sub hb (show ((k : Nat) : Int) < ss.length by omega)).2.2.2; omega), trivial⟩ ?_
        clear G; intro ρ a w G
        refine th_n ?_
        exact rx_next G (k + 1) (by have h8 := fo_lenB (fit_sub hb (show ((k : Nat) : Int) < ss.length by omega)).2.2.2; omega) (by have h8 := fo_lenB (fit_sub hb (show ((k : Nat) : Int) < ss.length by omega)).2.2.2; omega) [0, 1] [dT ss, .row 135 (D.stmts (foldSs (List.take (k + 1) ss)))] [(2, .v (.slice none 0 0)), (3, .ref 1), (6, .ref 0), (7, iA (↑ss.length : Int)), (8, iA (↑(k + 1) : Int))] (by kernel_rfl) (by kernel_rfl) (by kernel_rfl) (by have e1 : (foldSs (List.take (k + 1) ss) : List LStmt) = (foldSs (List.take k ss) ++ foldSs (ss.getD k default).body) := (by have h8 := fo_lenB (fit_sub hb (show ((k : Nat) : Int) < ss.length by omega)).2.2.2; omega); first | (rw [e1]; done) | (rw [e1]; rfl) | (simp only [e1]; done) | (simp only [e1]; rfl)) (by kernel_rfl)
     ·
      have q6 : (ss.getD k default).value.kind = 1 := eq_of_beq h6
      refine rs1s G ⟨[], [((ss.getD k default).kind == (3 : Int), true), ((ss.getD k default).value.kind == (1 : Int), true)], [(4, 0), (5, 0), (6, 0), (7, 0), (1008, 0), (10, 1), (11, 1), (12, 1), (13, 1), (1014, 1)]⟩ calls_nil ⟨(by assumption), (by assumption), trivial⟩ [(2, .v (.slice none 0 0)), (3, .ref 1), (5, .ptr 4 0), (6, .ref 0), (7, iA (↑ss.length : Int)), (8, iA (↑k : Int)), (31, bA ((ss.getD k default).value.value != 0))] [] trivial ?_
      clear G; intro ρ a w G
      refine th_n ?_
      cases h10 : ((ss.getD k default).value.value != (0 : Int))
      ·
       have q10 : (ss.getD k default).value.value = 0 := (by simpa using h10)
       refine rF G ((ss.getD k default).value.value != (0 : Int)) (by assumption) ?_
       refine wp_seq ?_
       refine rs1s G ⟨[], [((ss.getD k default).kind == (3 : Int), true)], [(4, 0), (5, 0), (6, 0), (7, 0), (1008, 0)]⟩ calls_nil ⟨(by assumption), trivial⟩ [(2, .v (.slice none 0 0)), (3, .ref 1), (5, .ptr 4 0), (6, .ref 0), (7, iA (↑ss.length : Int)), (8, iA (↑k : Int)), (51, bA ((ss.getD k default).value.kind == 1))] [] trivial ?_
       clear G; intro ρ a w G
       refine th_n ?_
       refine rT G ((ss.getD k default).value.kind == (1 : Int)) (by assumption) ?_
       refine rs1 (dk := dkP) G ⟨[], [], []⟩ calls_nil trivial [0, 31] [dT ss, .row 135 (D.stmts (foldSs (List.take k ss) ++ foldSs (ss.getD k default).els))] [(2, .v (.slice none 0 0)), (3, .ref 1), (6, .ref 0), (7, iA (↑ss.length : Int)), (8, iA (↑k : Int))] [(foldSs (List.take k ss)).length + (foldSs (ss.getD k default).els).length ≤ (9223372036854775807 : Nat), ((foldSs (List.take k ss)).length + (foldSs (ss.getD k default).els).length) * (152 : Nat) ≤ (140737488355328 : Nat)] ⟨(by have h8 := fo_lenB (fit_sub hb (show ((k : Nat) : Int) < ss.length by omega)).2.2.2; omega), (by have h8 := fo_lenB (fit_sub hb (show ((k : Nat) : Int) < ss.length by omega)).2.2.2; omega), trivial⟩ ?_
       clear G; intro ρ a w G
       refine bl_n ?_
       refine bl_n ?_
       refine th_n ?_
       refine rs1s G ⟨[], [], []⟩ calls_nil trivial [(2, .v (.slice none 0 0)), (3, .ref 1), (6, .ref 0), (7, iA (↑ss.length : Int)), (8, iA ((↑k : Int) + 1))] [IntKind.i64.wrap ((↑k : Int) + (1 : Int)) = (↑k : Int) + (1 : Int)] ⟨(by have h8 := fo_lenB (fit_sub hb (show ((k : Nat) : Int) < ss.length by omega)).2.2.2; omega), trivial⟩ ?_
       clear G; intro ρ a w G
       refine th_n ?_
       exact rx_next G (k + 1) (by have h8 := fo_lenB (fit_sub hb (show ((k : Nat) : Int) < ss.length by omega)).2.2.2; omega) (by have h8 := fo_lenB (fit_sub hb (show ((k : Nat) : Int) < ss.length by omega)).2.2.2; omega) [0, 1] [dT ss, .row 135 (D.stmts (foldSs (List.take (k + 1) ss)))] [(2, .v (.slice none 0 0)), (3, .ref 1), (6, .ref 0), (7, iA (↑ss.length : Int)), (8, iA (↑(k + 1) : Int))] (by kernel_rfl) (by kernel_rfl) (by kernel_rfl) (by have e1 : (foldSs (List.take (k + 1) ss) : List LStmt) = (foldSs (List.take k ss) ++ foldSs (ss.getD k default).els) := (by have h8 := fo_lenB (fit_sub hb (show ((k : Nat) : Int) < ss.length by omega)).2.2.2; omega); first | (rw [e1]; done) | (rw [e1]; rfl) | (simp only [e1]; done) | (simp only [e1]; rfl)) (by kernel_rfl)
      ·
       have q10 : ¬ ((ss.getD k default).value.value = 0) := bne_iff_ne.1 h10
       refine rT G ((ss.getD k default).value.value != (0 : Int)) (by assumption) ?_
       refine rs1 (dk := dkP) G ⟨[], [], []⟩ calls_nil trivial [0, 31] [dT ss, .row 135 (D.stmts (foldSs (List.take k ss) ++ foldSs (ss.getD k default).body))] [(2, .v (.slice none 0 0)), (3, .ref 1), (6, .ref 0), (7, iA (↑ss.length : Int)), (8, iA (↑k : Int))] [(foldSs (List.take k ss)).length + (foldSs (ss.getD k default).body).length ≤ (9223372036854775807 : Nat), ((foldSs (List.take k ss)).length + (foldSs (ss.getD k default).body).length) * (152 : Nat) ≤ (140737488355328 : Nat)] ⟨(by have h8 := fo_lenB (fit_sub hb (show ((k : Nat) : Int) < ss.length by omega)).2.2.2; omega), (by have h8 := fo_lenB (fit_sub hb (show ((k : Nat) : Int) < ss.length by omega)).2.2.2; omega), trivial⟩ ?_
       clear G; intro ρ a w G
       refine bl_n ?_
       refine bl_n ?_
       refine th_n ?_
       refine rs1s G ⟨[], [], []⟩ calls_nil trivial [(2, .v (.slice none 0 0)), (3, .ref 1), (6, .ref 0), (7, iA (↑ss.length : Int)), (8, iA ((↑k : Int) + 1))] [IntKind.i64.wrap ((↑k : Int) + (1 : Int)) = (↑k : Int) + (1 : Int)] ⟨(by have h8 := fo_lenB (fit_sub hb (show ((k : Nat) : Int) < ss.length by omega)).2.2.2; omega), trivial⟩ ?_
       clear G; intro ρ a w G
       refine th_n ?_
       exact rx_next G (k + 1) (by have h8 := fo_lenB (fit_sub hb (show ((k : Nat) : Int) < ss.length by omega)).2.2.2; omega) (by have h8 := fo_lenB (fit_sub hb (show ((k : Nat) : Int) < ss.length by omega)).2.2.2; omega) [0, 1] [dT ss, .row 135 (D.stmts (foldSs (List.take (k + 1) ss)))] [(2, .v (.slice none 0 0)), (3, .ref 1), (6, .ref 0), (7, iA (↑ss.length : Int)), (8, iA (↑(k + 1) : Int))] (by kernel_rfl) (by kernel_rfl) (by kernel_rfl) (by have e1 : (foldSs (List.take (k + 1) ss) : List LStmt) = (foldSs (List.take k ss) ++ foldSs (ss.getD k default).body) := (by have h8 := fo_lenB (fit_sub hb (show ((k : Nat) : Int) < ss.length by omega)).2.2.2; omega); first | (rw [e1]; done) | (rw [e1]; rfl) | (simp only [e1]; done) | (simp only [e1]; rfl)) (by kernel_rfl)
   ·
    have q1 : ¬ ((ss.getD k default).kind = 4) := bne_iff_ne.1 h1
    refine rT G ((ss.getD k default).kind != (4 : Int)) (by assumption) ?_
    refine rs1 (dk := dkP) G ⟨[(2, _, [3])], [], []⟩ (calls_cons (hf ((ss.getD k default).value) (by exact fo_good hs (by omega) (by omega))) calls_nil) trivial [0, 1, 2, 4, 5, 6, 23] [dT ss, .row 135 (D.stmts (foldSs (List.take k ss))), dE (ss.getD k default).index.kids, dT (ss.getD k default).body, dT (ss.getD k default).els, .box [iA (ss.getD k default).kind, iA (ss.getD k default).target, iA (ss.getD k default).index.kind, iA (ss.getD k default).index.value, .ref 2, iA (foldE (ss.getD k default).value).kind, iA (foldE (ss.getD k default).value).value, .ref 6, iA (ss.getD k default).count, .ref 3, .ref 4], dE (foldE (ss.getD k default).value).kids] [(2, .v (.slice none 0 0)), (3, .ref 1), (5, .ptr 5 0), (6, .ref 0), (7, iA (↑ss.length : Int)), (8, iA (↑k : Int))] [] trivial ?_
    clear G; intro ρ a w G
    refine th_n ?_
    refine wp_seq ?_
    refine rd1 (dk := dkP) G ⟨[(2, _, [3]), (5, _, [4])], [], []⟩ (calls_cons (ih ((ss.getD k default).body) (by exact (fo_at hs (by omega)).2.1) (by exact (fit_sub hb (by assumption)).2.2.1) (by have h8 := fo_lenB (fit_sub hb (show ((k : Nat) : Int) < ss.length by omega)).2.2.2; omega)) (calls_cons (ih ((ss.getD k default).els) (by exact (fo_at hs (by omega)).2.2) (by exact (fit_sub hb (by assumption)).2.2.2) (by have h8 := fo_lenB (fit_sub hb (show ((k : Nat) : Int) < ss.length by omega)).2.2.2; omega)) calls_nil)) trivial [0, 1, 3, 0, 8, 31, 31, 127, 255, 511] [0, 1, 2, 5, 6, 23, 47] [dT ss, .row 135 (D.stmts (foldSs (List.take k ss))), dE (ss.getD k default).index.kids, .box [iA (ss.getD k default).kind, iA (ss.getD k default).target, iA (ss.getD k default).index.kind, iA (ss.getD k default).index.value, .ref 2, iA (foldE (ss.getD k default).value).kind, iA (foldE (ss.getD k default).value).value, .ref 4, iA (ss.getD k default).count, .ref 5, .ref 6], dE (foldE (ss.getD k default).value).kids, dT (foldSs (ss.getD k default).body), dT (foldSs (ss.getD k default).els)] [(2, .v (.slice none 0 0)), (3, .ref 1), (5, .ptr 3 0), (6, .ref 0), (7, iA (↑ss.length : Int)), (8, iA (↑k : Int))] [] trivial ?_
    clear G; intro ρ a w G
    refine th_n ?_
    refine wp_block ?_
    refine wp_seq ?_
    cases h11 : ((ss.getD k default).kind == (3 : Int))
    ·
     have q11 : ¬ ((ss.getD k default).kind = 3) := ne_of_beq_false h11
     refine rs1s G ⟨[], [((ss.getD k default).kind == (3 : Int), false), (false, false)], [(4, 0), (5, 0), (6, 0), (7, 0), (1008, 0), (10, 1), (11, 1), (12, 1), (13, 1), (1014, 1)]⟩ calls_nil ⟨(by assumption), (by kernel_rfl), trivial⟩ [(2, .v (.slice none 0 0)), (3, .ref 1), (5, .ptr 3 0), (6, .ref 0), (7, iA (↑ss.length : Int)), (8, iA (↑k : Int)), (31, bA false)] [] trivial ?_
     clear G; intro ρ a w G
     refine th_n ?_
     refine rF G (false) (by kernel_rfl) ?_
     refine wp_seq ?_
     refine rs1s G ⟨[], [((ss.getD k default).kind == (3 : Int), false)], [(4, 0), (5, 0), (6, 0), (7, 0), (1008, 0)]⟩ calls_nil ⟨(by assumption), trivial⟩ [(2, .v (.slice none 0 0)), (3, .ref 1), (5, .ptr 3 0), (6, .ref 0), (7, iA (↑ss.length : Int)), (8, iA (↑k : Int)), (51, bA false)] [] trivial ?_
     clear G; intro ρ a w G
     refine th_n ?_
     refine rF G (false) (by kernel_rfl) ?_
     refine wp_seq ?_
     cases h12 : ((ss.getD k default).kind == (4 : Int))
     ·
      have q12 : ¬ ((ss.getD k default).kind = 4) := ne_of_beq_false h12
      refine rs1s G ⟨[], [((ss.getD k default).kind == (4 : Int), false)], [(4, 0), (5, 0), (6, 0), (1007, 0)]⟩ calls_nil ⟨(by assumption), trivial⟩ [(2, .v (.slice none 0 0)), (3, .ref 1), (5, .ptr 3 0), (6, .ref 0), (7, iA (↑ss.length : Int)), (8, iA (↑k : Int)), (65, bA false)] [] trivial ?_
      clear G; intro ρ a w G
      refine th_n ?_
      refine rF G (false) (by kernel_rfl) ?_
      refine wp_seq ?_
      refine rs1s G ⟨[], [((ss.getD k default).kind == (4 : Int), false)], [(4, 0), (5, 0), (6, 0), (7, 0), (1008, 0)]⟩ calls_nil ⟨(by assumption), trivial⟩ [(2, .v (.slice none 0 0)), (3, .ref 1), (5, .ptr 3 0), (6, .ref 0), (7, iA (↑ss.length : Int)), (8, iA (↑k : Int)), (78, bA false)] [] trivial ?_
      clear G; intro ρ a w G
      refine th_n ?_
      refine rF G (false) (by kernel_rfl) ?_
      refine rs1 (dk := dkP) G ⟨[], [], []⟩ calls_nil trivial [0, 31] [dT ss, .row 135 (D.stmts (foldSs (List.take k ss) ++ ([LStmt.mk (ss.getD k default).kind (ss.getD k default).target (LExpr.mk (ss.getD k default).index.kind (ss.getD k default).index.value (ss.getD k default).index.kids) (LExpr.mk (foldE (ss.getD k default).value).kind (foldE (ss.getD k default).value).value (foldE (ss.getD k default).value).kids) (ss.getD k default).count (foldSs (ss.getD k default).body) (foldSs (ss.getD k default).els)] ++ [])))] [(2, .v (.slice none 0 0)), (3, .ref 1), (6, .ref 0), (7, iA (↑ss.length : Int)), (8, iA (↑k : Int))] [(foldSs (List.take k ss)).length + ([LStmt.mk (ss.getD k default).kind (ss.getD k default).target (LExpr.mk (ss.getD k default).index.kind (ss.getD k default).index.value (ss.getD k default).index.kids) (LExpr.mk (foldE (ss.getD k default).value).kind (foldE (ss.getD k default).value).value (foldE (ss.getD k default).value).kids) (ss.getD k default).count (foldSs (ss.getD k default).body) (foldSs (ss.getD k default).els)] ++ []).length ≤ (9223372036854775807 : Nat), ((foldSs (List.take k ss)).length + ([LStmt.mk (ss.getD k default).kind (ss.getD k default).target (LExpr.mk (ss.getD k default).index.kind (ss.getD k default).index.value (ss.getD k default).index.kids) (LExpr.mk (foldE (ss.getD k default).value).kind (foldE (ss.getD k default).value).value (foldE (ss.getD k default).value).kids) (ss.getD k default).count (foldSs (ss.getD k default).body) (foldSs (ss.getD k default).els)] ++ []).length) * (152 : Nat) ≤ (140737488355328 : Nat)] ⟨(by simp only [List.length_append, List.length_cons, List.length_nil]; omega), (by simp only [List.length_append, List.length_cons, List.length_nil]; omega), trivial⟩ ?_
      clear G; intro ρ a w G
      refine bl_n ?_
      refine bl_n ?_
      refine th_n ?_
      refine rs1s G ⟨[], [], []⟩ calls_nil trivial [(2, .v (.slice none 0 0)), (3, .ref 1), (6, .ref 0), (7, iA (↑ss.length : Int)), (8, iA ((↑k : Int) + 1))] [IntKind.i64.wrap ((↑k : Int) + (1 : Int)) = (↑k : Int) + (1 : Int)] ⟨(by exact w64 (by omega) (by omega)), trivial⟩ ?_
      clear G; intro ρ a w G
      refine th_n ?_
      exact rx_next G (k + 1) (by have h8 := fo_lenB (fit_sub hb (show ((k : Nat) : Int) < ss.length by omega)).2.2.2; omega) (by have h8 := fo_lenB (fit_sub hb (show ((k : Nat) : Int) < ss.length by omega)).2.2.2; omega) [0, 1] [dT ss, .row 135 (D.stmts (foldSs (List.take (k + 1) ss)))] [(2, .v (.slice none 0 0)), (3, .ref 1), (6, .ref 0), (7, iA (↑ss.length : Int)), (8, iA (↑(k + 1) : Int))] (by kernel_rfl) (by kernel_rfl) (by kernel_rfl) (by have e1 : (foldSs (List.take (k + 1) ss) : List LStmt) = (foldSs (List.take k ss) ++ ([LStmt.mk (ss.getD k default).kind (ss.getD k default).target (LExpr.mk (ss.getD k default).index.kind (ss.getD k default).index.value (ss.getD k default).index.kids) (LExpr.mk (foldE (ss.getD k default).value).kind (foldE (ss.getD k default).value).value (foldE (ss.getD k default).value).kids) (ss.getD k default).count (foldSs (ss.getD k default).body) (foldSs (ss.getD k default).els)] ++ [])) := (by exact fo6 (by omega) (by omega) (by omega)); first | (rw [e1]; done) | (rw [e1]; rfl) | (simp only [e1]; done) | (simp only [e1]; rfl)) (by kernel_rfl)
     ·
      have q12 : (ss.getD k default).kind = 4 := eq_of_beq h12
      refine rs1s G ⟨[], [((ss.getD k default).kind == (4 : Int), true)], [(4, 0), (5, 0), (6, 0), (1007, 0)]⟩ calls_nil ⟨(by assumption), trivial⟩ [(2, .v (.slice none 0 0)), (3, .ref 1), (5, .ptr 3 0), (6, .ref 0), (7, iA (↑ss.length : Int)), (8, iA (↑k : Int)), (65, bA ((ss.getD k default).count == 1))] [] trivial ?_
      clear G; intro ρ a w G
      refine th_n ?_
      cases h13 : ((ss.getD k default).count == (1 : Int))
      ·
       have q13 : ¬ ((ss.getD k default).count = 1) := ne_of_beq_false h13
       refine rF G ((ss.getD k default).count == (1 : Int)) (by assumption) ?_
       refine wp_seq ?_
       refine rs1s G ⟨[], [((ss.getD k default).kind == (4 : Int), true)], [(4, 0), (5, 0), (6, 0), (7, 0), (1008, 0)]⟩ calls_nil ⟨(by assumption), trivial⟩ [(2, .v (.slice none 0 0)), (3, .ref 1), (5, .ptr 3 0), (6, .ref 0), (7, iA (↑ss.length : Int)), (8, iA (↑k : Int)), (78, bA ((↑(foldSs (ss.getD k default).body).length : Int) == 0))] [] trivial ?_
       clear G; intro ρ a w G
       refine th_n ?_
       cases h14 : ((↑(foldSs (ss.getD k default).body).length : Int) == (0 : Int))
       ·
        have q14 : ¬ ((↑(foldSs (ss.getD k default).body).length : Int) = 0) := ne_of_beq_false h14
        refine rF G ((↑(foldSs (ss.getD k default).body).length : Int) == (0 : Int)) (by assumption) ?_
        refine rs1 (dk := dkP) G ⟨[], [], []⟩ calls_nil trivial [0, 31] [dT ss, .row 135 (D.stmts (foldSs (List.take k ss) ++ ([LStmt.mk (ss.getD k default).kind (ss.getD k default).target (LExpr.mk (ss.getD k default).index.kind (ss.getD k default).index.value (ss.getD k default).index.kids) (LExpr.mk (foldE (ss.getD k default).value).kind (foldE (ss.getD k default).value).value (foldE (ss.getD k default).value).kids) (ss.getD k default).count (foldSs (ss.getD k default).body) (foldSs (ss.getD k default).els)] ++ [])))] [(2, .v (.slice none 0 0)), (3, .ref 1), (6, .ref 0), (7, iA (↑ss.length : Int)), (8, iA (↑k : Int))] [(foldSs (List.take k ss)).length + ([LStmt.mk (ss.getD k default).kind (ss.getD k default).target (LExpr.mk (ss.getD k default).index.kind (ss.getD k default).index.value (ss.getD k default).index.kids) (LExpr.mk (foldE (ss.getD k default).value).kind (foldE (ss.getD k default).value).value (foldE (ss.getD k default).value).kids) (ss.getD k default).count (foldSs (ss.getD k default).body) (foldSs (ss.getD k default).els)] ++ []).length ≤ (9223372036854775807 : Nat), ((foldSs (List.take k ss)).length + ([LStmt.mk (ss.getD k default).kind (ss.getD k default).target (LExpr.mk (ss.getD k default).index.kind (ss.getD k default).index.value (ss.getD k default).index.kids) (LExpr.mk (foldE (ss.getD k default).value).kind (foldE (ss.getD k default).value).value (foldE (ss.getD k default).value).kids) (ss.getD k default).count (foldSs (ss.getD k default).body) (foldSs (ss.getD k default).els)] ++ []).length) * (152 : Nat) ≤ (140737488355328 : Nat)] ⟨(by have h8 := fo_lenB (fit_sub hb (show ((k : Nat) : Int) < ss.length by omega)).2.2.2; omega), (by have h8 := fo_lenB (fit_sub hb (show ((k : Nat) : Int) < ss.length by omega)).2.2.2; omega), trivial⟩ ?_
        clear G; intro ρ a w G
        refine bl_n ?_
        refine bl_n ?_
        refine th_n ?_
        refine rs1s G ⟨[], [], []⟩ calls_nil trivial [(2, .v (.slice none 0 0)), (3, .ref 1), (6, .ref 0), (7, iA (↑ss.length : Int)), (8, iA ((↑k : Int) + 1))] [IntKind.i64.wrap ((↑k : Int) + (1 : Int)) = (↑k : Int) + (1 : Int)] ⟨(by have h8 := fo_lenB (fit_sub hb (show ((k : Nat) : Int) < ss.length by omega)).2.2.2; omega), trivial⟩ ?_
        clear G; intro ρ a w G
        refine th_n ?_
        exact rx_next G (k + 1) (by have h8 := fo_lenB (fit_sub hb (show ((k : Nat) : Int) < ss.length by omega)).2.2.2; omega) (by have h8 := fo_lenB (fit_sub hb (show ((k : Nat) : Int) < ss.length by omega)).2.2.2; omega) [0, 1] [dT ss, .row 135 (D.stmts (foldSs (List.take (k + 1) ss)))] [(2, .v (.slice none 0 0)), (3, .ref 1), (6, .ref 0), (7, iA (↑ss.length : Int)), (8, iA (↑(k + 1) : Int))] (by kernel_rfl) (by kernel_rfl) (by kernel_rfl) (by have e1 : (foldSs (List.take (k + 1) ss) : List LStmt) = (foldSs (List.take k ss) ++ ([LStmt.mk (ss.getD k default).kind (ss.getD k default).target (LExpr.mk (ss.getD k default).index.kind (ss.getD k default).index.value (ss.getD k default).index.kids) (LExpr.mk (foldE (ss.getD k default).value).kind (foldE (ss.getD k default).value).value (foldE (ss.getD k default).value).kids) (ss.getD k default).count (foldSs (ss.getD k default).body) (foldSs (ss.getD k default).els)] ++ [])) := (by have h8 := fo_lenB (fit_sub hb (show ((k : Nat) : Int) < ss.length by omega)).2.2.2; omega); first | (rw [e1]; done) | (rw [e1]; rfl) | (simp only [e1]; done) | (simp only [e1]; rfl)) (by kernel_rfl)
       ·
        have q14 : (↑(foldSs (ss.getD k default).body).length : Int) = 0 := eq_of_beq h14
        refine rT G ((↑(foldSs (ss.getD k default).body).length : Int) == (0 : Int)) (by assumption) ?_
        refine wp_skip ?_
        refine bl_n ?_
        refine bl_n ?_
        refine th_n ?_
        refine rs1 (dk := dkP) G ⟨[], [], []⟩ calls_nil trivial [0, 1] [dT ss, .row 135 (D.stmts (foldSs (List.take k ss)))] [(2, .v (.slice none 0 0)), (3, .ref 1), (6, .ref 0), (7, iA (↑ss.length : Int)), (8, iA ((↑k : Int) + 1))] [IntKind.i64.wrap ((↑k : Int) + (1 : Int)) = (↑k : Int) + (1 : Int)] ⟨(by have h8 := fo_lenB (fit_sub hb (show ((k : Nat) : Int) < ss.length by omega)).2.2.2; omega), trivial⟩ ?_
        clear G; intro ρ a w G
        refine th_n ?_
        exact rx_next G (k + 1) (by have h8 := fo_lenB (fit_sub hb (show ((k : Nat) : Int) < ss.length by omega)).2.2.2; omega) (by have h8 := fo_lenB (fit_sub hb (show ((k : Nat) : Int) < ss.length by omega)).2.2.2; omega) [0, 1] [dT ss, .row 135 (D.stmts (foldSs (List.take (k + 1) ss)))] [(2, .v (.slice none 0 0)), (3, .ref 1), (6, .ref 0), (7, iA (↑ss.length : Int)), (8, iA (↑(k + 1) : Int))] (by kernel_rfl) (by kernel_rfl) (by kernel_rfl) (by have e1 : (foldSs (List.take (k + 1) ss) : List LStmt) = (foldSs (List.take k ss)) := (by have h8 := fo_lenB (fit_sub hb (show ((k : Nat) : Int) < ss.length by omega)).2.2.2; omega); first | (rw [e1]; done) | (rw [e1]; rfl) | (simp only [e1]; done) | (simp only [e1]; rfl)) (by kernel_rfl)
      ·
       have q13 : (ss.getD k default).count = 1 := eq_of_beq h13
       refine rT G ((ss.getD k default).count == (1 : Int)) (by assumption) ?_
       refine rs1 (dk := dkP) G ⟨[], [], []⟩ calls_nil trivial [0, 31] [dT ss, .row 135 (D.stmts (foldSs (List.take k ss) ++ foldSs (ss.getD k default).body))] [(2, .v (.slice none 0 0)), (3, .ref 1), (6, .ref 0), (7, iA (↑ss.length : Int)), (8, iA (↑k : Int))] [(foldSs (List.take k ss)).length + (foldSs (ss.getD k default).body).length ≤ (9223372036854775807 : Nat), ((foldSs (List.take k ss)).length + (foldSs (ss.getD k default).body).length) * (152 : Nat) ≤ (140737488355328 : Nat)] ⟨(by have h8 := fo_lenB (fit_sub hb (show ((k : Nat) : Int) < ss.length by omega)).2.2.2; omega), (by have h8 := fo_lenB (fit_sub hb (show ((k : Nat) : Int) < ss.length by omega)).2.2.2; omega), trivial⟩ ?_
       clear G; intro ρ a w G
       refine bl_n ?_
       refine bl_n ?_
       refine th_n ?_
       refine rs1s G ⟨[], [], []⟩ calls_nil trivial [(2, .v (.slice none 0 0)), (3, .ref 1), (6, .ref 0), (7, iA (↑ss.length : Int)), (8, iA ((↑k : Int) + 1))] [IntKind.i64.wrap ((↑k : Int) + (1 : Int)) = (↑k : Int) + (1 : Int)] ⟨(by have h8 := fo_lenB (fit_sub hb (show ((k : Nat) : Int) < ss.length by omega)).2.2.2; omega), trivial⟩ ?_
       clear G; intro ρ a w G
       refine th_n ?_
       exact rx_next G (k + 1) (by have h8 := fo_lenB (fit_sub hb (show ((k : Nat) : Int) < ss.length by omega)).2.2.2; omega) (by have h8 := fo_lenB (fit_sub hb (show ((k : Nat) : Int) < ss.length by omega)).2.2.2; omega) [0, 1] [dT ss, .row 135 (D.stmts (foldSs (List.take (k + 1) ss)))] [(2, .v (.slice none 0 0)), (3, .ref 1), (6, .ref 0), (7, iA (↑ss.length : Int)), (8, iA (↑(k + 1) : Int))] (by kernel_rfl) (by kernel_rfl) (by kernel_rfl) (by have e1 : (foldSs (List.take (k + 1) ss) : List LStmt) = (foldSs (List.take k ss) ++ foldSs (ss.getD k default).body) := (by have h8 := fo_lenB (fit_sub hb (show ((k : Nat) : Int) < ss.length by omega)).2.2.2; omega); first | (rw [e1]; done) | (rw [e1]; rfl) | (simp only [e1]; done) | (simp only [e1]; rfl)) (by kernel_rfl)
    ·
     have q11 : (ss.getD k default).kind = 3 := eq_of_beq h11
     cases h15 : ((foldE (ss.getD k default).value).kind == (1 : Int))
     ·
      have q15 : ¬ ((foldE (ss.getD k default).value).kind = 1) := ne_of_beq_false h15
      refine rs1s G ⟨[], [((ss.getD k default).kind == (3 : Int), true), ((foldE (ss.getD k default).value).kind == (1 : Int), false)], [(4, 0), (5, 0), (6, 0), (7, 0), (1008, 0), (10, 1), (11, 1), (12, 1), (13, 1), (1014, 1)]⟩ calls_nil ⟨(by assumption), (by assumption), trivial⟩ [(2, .v (.slice none 0 0)), (3, .ref 1), (5, .ptr 3 0), (6, .ref 0), (7, iA (↑ss.length : Int)), (8, iA (↑k : Int)), (31, bA false)] [] trivial ?_
      clear G; intro ρ a w G
      refine th_n ?_
      refine rF G (false) (by kernel_rfl) ?_
      refine wp_seq ?_
      refine rs1s G ⟨[], [((ss.getD k default).kind == (3 : Int), true)], [(4, 0), (5, 0), (6, 0), (7, 0), (1008, 0)]⟩ calls_nil ⟨(by assumption), trivial⟩ [(2, .v (.slice none 0 0)), (3, .ref 1), (5, .ptr 3 0), (6, .ref 0), (7, iA (↑ss.length : Int)), (8, iA (↑k : Int)), (51, bA ((foldE (ss.getD k default).value).kind == 1))] [] trivial ?_
      clear G; intro ρ a w G
      refine th_n ?_
      refine rF G ((foldE (ss.getD k default).value).kind == (1 : Int)) (by assumption) ?_
      refine wp_seq ?_
      cases h16 : ((ss.getD k default).kind == (4 : Int))
      ·
       have q16 : ¬ ((ss.getD k default).kind = 4) := ne_of_beq_false h16
       refine rs1s G ⟨[], [((ss.getD k default).kind == (4 : Int), false)], [(4, 0), (5, 0), (6, 0), (1007, 0)]⟩ calls_nil ⟨(by assumption), trivial⟩ [(2, .v (.slice none 0 0)), (3, .ref 1), (5, .ptr 3 0), (6, .ref 0), (7, iA (↑ss.length : Int)), (8, iA (↑k : Int)), (65, bA false)] [] trivial ?_
       clear G; intro ρ a w G
       refine th_n ?_
       refine rF G (false) (by kernel_rfl) ?_
       refine wp_seq ?_
       refine rs1s G ⟨[], [((ss.getD k default).kind == (4 : Int), false)], [(4, 0), (5, 0), (6, 0), (7, 0), (1008, 0)]⟩ calls_nil ⟨(by assumption), trivial⟩ [(2, .v (.slice none 0 0)), (3, .ref 1), (5, .ptr 3 0), (6, .ref 0), (7, iA (↑ss.length : Int)), (8, iA (↑k : Int)), (78, bA false)] [] trivial ?_
       clear G; intro ρ a w G
       refine th_n ?_
       refine rF G (false) (by kernel_rfl) ?_
       refine rs1 (dk := dkP) G ⟨[], [], []⟩ calls_nil trivial [0, 31] [dT ss, .row 135 (D.stmts (foldSs (List.take k ss) ++ ([LStmt.mk (ss.getD k default).kind (ss.getD k default).target (LExpr.mk (ss.getD k default).index.kind (ss.getD k default).index.value (ss.getD k default).index.kids) (LExpr.mk (foldE (ss.getD k default).value).kind (foldE (ss.getD k default).value).value (foldE (ss.getD k default).value).kids) (ss.getD k default).count (foldSs (ss.getD k default).body) (foldSs (ss.getD k default).els)] ++ [])))] [(2, .v (.slice none 0 0)), (3, .ref 1), (6, .ref 0), (7, iA (↑ss.length : Int)), (8, iA (↑k : Int))] [(foldSs (List.take k ss)).length + ([LStmt.mk (ss.getD k default).kind (ss.getD k default).target (LExpr.mk (ss.getD k default).index.kind (ss.getD k default).index.value (ss.getD k default).index.kids) (LExpr.mk (foldE (ss.getD k default).value).kind (foldE (ss.getD k default).value).value (foldE (ss.getD k default).value).kids) (ss.getD k default).count (foldSs (ss.getD k default).body) (foldSs (ss.getD k default).els)] ++ []).length ≤ (9223372036854775807 : Nat), ((foldSs (List.take k ss)).length + ([LStmt.mk (ss.getD k default).kind (ss.getD k default).target (LExpr.mk (ss.getD k default).index.kind (ss.getD k default).index.value (ss.getD k default).index.kids) (LExpr.mk (foldE (ss.getD k default).value).kind (foldE (ss.getD k default).value).value (foldE (ss.getD k default).value).kids) (ss.getD k default).count (foldSs (ss.getD k default).body) (foldSs (ss.getD k default).els)] ++ []).length) * (152 : Nat) ≤ (140737488355328 : Nat)] ⟨(by simp only [List.length_append, List.length_cons, List.length_nil]; omega), (by simp only [List.length_append, List.length_cons, List.length_nil]; omega), trivial⟩ ?_
       clear G; intro ρ a w G
       refine bl_n ?_
       refine bl_n ?_
       refine th_n ?_
       refine rs1s G ⟨[], [], []⟩ calls_nil trivial [(2, .v (.slice none 0 0)), (3, .ref 1), (6, .ref 0), (7, iA (↑ss.length : Int)), (8, iA ((↑k : Int) + 1))] [IntKind.i64.wrap ((↑k : Int) + (1 : Int)) = (↑k : Int) + (1 : Int)] ⟨(by exact w64 (by omega) (by omega)), trivial⟩ ?_
       clear G; intro ρ a w G
       refine th_n ?_
       exact rx_next G (k + 1) (by have h8 := fo_lenB (fit_sub hb (show ((k : Nat) : Int) < ss.length by omega)).2.2.2; omega) (by have h8 := fo_lenB (fit_sub hb (show ((k : Nat) : Int) < ss.length by omega)).2.2.2; omega) [0, 1] [dT ss, .row 135 (D.stmts (foldSs (List.take (k + 1) ss)))] [(2, .v (.slice none 0 0)), (3, .ref 1), (6, .ref 0), (7, iA (↑ss.length : Int)), (8, iA (↑(k + 1) : Int))] (by kernel_rfl) (by kernel_rfl) (by kernel_rfl) (by have e1 : (foldSs (List.take (k + 1) ss) : List LStmt) = (foldSs (List.take k ss) ++ ([LStmt.mk (ss.getD k default).kind (ss.getD k default).target (LExpr.mk (ss.getD k default).index.kind (ss.getD k default).index.value (ss.getD k default).index.kids) (LExpr.mk (foldE (ss.getD k default).value).kind (foldE (ss.getD k default).value).value (foldE (ss.getD k default).value).kids) (ss.getD k default).count (foldSs (ss.getD k default).body) (foldSs (ss.getD k default).els)] ++ [])) := (by exact fo6 (by omega) (by omega) (by omega)); first | (rw [e1]; done) | (rw [e1]; rfl) | (simp only [e1]; done) | (simp only [e1]; rfl)) (by kernel_rfl)
      ·
       have q16 : (ss.getD k default).kind = 4 := eq_of_beq h16
       refine rs1s G ⟨[], [((ss.getD k default).kind == (4 : Int), true)], [(4, 0), (5, 0), (6, 0), (1007, 0)]⟩ calls_nil ⟨(by assumption), trivial⟩ [(2, .v (.slice none 0 0)), (3, .ref 1), (5, .ptr 3 0), (6, .ref 0), (7, iA (↑ss.length : Int)), (8, iA (↑k : Int)), (65, bA ((ss.getD k default).count == 1))] [] trivial ?_
       clear G; intro ρ a w G
       refine th_n ?_
       cases h17 : ((ss.getD k default).count == (1 : Int))
       ·
        have q17 : ¬ ((ss.getD k default).count = 1) := ne_of_beq_false h17
        refine rF G ((ss.getD k default).count == (1 : Int)) (by assumption) ?_
        refine wp_seq ?_
        refine rs1s G ⟨[], [((ss.getD k default).kind == (4 : Int), true)], [(4, 0), (5, 0), (6, 0), (7, 0), (1008, 0)]⟩ calls_nil ⟨(by assumption), trivial⟩ [(2, .v (.slice none 0 0)), (3, .ref 1), (5, .ptr 3 0), (6, .ref 0), (7, iA (↑ss.length : Int)), (8, iA (↑k : Int)), (78, bA ((↑(foldSs (ss.getD k default).body).length : Int) == 0))] [] trivial ?_
        clear G; intro ρ a w G
        refine th_n ?_
        cases h18 : ((↑(foldSs (ss.getD k default).body).length : Int) == (0 : Int))
        ·
         have q18 : ¬ ((↑(foldSs (ss.getD k default).body).length : Int) = 0) := ne_of_beq_false h18
         refine rF G ((↑(foldSs (ss.getD k default).body).length : Int) == (0 : Int)) (by assumption) ?_
         refine rs1 (dk := dkP) G ⟨[], [], []⟩ calls_nil trivial [0, 31] [dT ss, .row 135 (D.stmts (foldSs (List.take k ss) ++ ([LStmt.mk (ss.getD k default).kind (ss.getD k default).target (LExpr.mk (ss.getD k default).index.kind (ss.getD k default).index.value (ss.getD k default).index.kids) (LExpr.mk (foldE (ss.getD k default).value).kind (foldE (ss.getD k default).value).value (foldE (ss.getD k default).value).kids) (ss.getD k default).count (foldSs (ss.getD k default).body) (foldSs (ss.getD k default).els)] ++ [])))] [(2, .v (.slice none 0 0)), (3, .ref 1), (6, .ref 0), (7, iA (↑ss.length : Int)), (8, iA (↑k : Int))] [(foldSs (List.take k ss)).length + ([LStmt.mk (ss.getD k default).kind (ss.getD k default).target (LExpr.mk (ss.getD k default).index.kind (ss.getD k default).index.value (ss.getD k default).index.kids) (LExpr.mk (foldE (ss.getD k default).value).kind (foldE (ss.getD k default).value).value (foldE (ss.getD k default).value).kids) (ss.getD k default).count (foldSs (ss.getD k default).body) (foldSs (ss.getD k default).els)] ++ []).length ≤ (9223372036854775807 : Nat), ((foldSs (List.take k ss)).length + ([LStmt.mk (ss.getD k default).kind (ss.getD k default).target (LExpr.mk (ss.getD k default).index.kind (ss.getD k default).index.value (ss.getD k default).index.kids) (LExpr.mk (foldE (ss.getD k default).value).kind (foldE (ss.getD k default).value).value (foldE (ss.getD k default).value).kids) (ss.getD k default).count (foldSs (ss.getD k default).body) (foldSs (ss.getD k default).els)] ++ []).length) * (152 : Nat) ≤ (140737488355328 : Nat)] ⟨(by have h8 := fo_lenB (fit_sub hb (show ((k : Nat) : Int) < ss.length by omega)).2.2.2; omega), (by have h8 := fo_lenB (fit_sub hb (show ((k : Nat) : Int) < ss.length by omega)).2.2.2; omega), trivial⟩ ?_
         clear G; intro ρ a w G
         refine bl_n ?_
         refine bl_n ?_
         refine th_n ?_
         refine rs1s G ⟨[], [], []⟩ calls_nil trivial [(2, .v (.slice none 0 0)), (3, .ref 1), (6, .ref 0), (7, iA (↑ss.length : Int)), (8, iA ((↑k : Int) + 1))] [IntKind.i64.wrap ((↑k : Int) + (1 : Int)) = (↑k : Int) + (1 : Int)] ⟨(by have h8 := fo_lenB (fit_sub hb (show ((k : Nat) : Int) < ss.length by omega)).2.2.2; omega), trivial⟩ ?_
         clear G; intro ρ a w G
         refine th_n ?_
         exact rx_next G (k + 1) (by have h8 := fo_lenB (fit_sub hb (show ((k : Nat) : Int) < ss.length by omega)).2.2.2; omega) (by have h8 := fo_lenB (fit_sub hb (show ((k : Nat) : Int) < ss.length by omega)).2.2.2; omega) [0, 1] [dT ss, .row 135 (D.stmts (foldSs (List.take (k + 1) ss)))] [(2, .v (.slice none 0 0)), (3, .ref 1), (6, .ref 0), (7, iA (↑ss.length : Int)), (8, iA (↑(k + 1) : Int))] (by kernel_rfl) (by kernel_rfl) (by kernel_rfl) (by have e1 : (foldSs (List.take (k + 1) ss) : List LStmt) = (foldSs (List.take k ss) ++ ([LStmt.mk (ss.getD k default).kind (ss.getD k default).target (LExpr.mk (ss.getD k default).index.kind (ss.getD k default).index.value (ss.getD k default).index.kids) (LExpr.mk (foldE (ss.getD k default).value).kind (foldE (ss.getD k default).value).value (foldE (ss.getD k default).value).kids) (ss.getD k default).count (foldSs (ss.getD k default).body) (foldSs (ss.getD k default).els)] ++ [])) := (by have h8 := fo_lenB (fit_sub hb (show ((k : Nat) : Int) < ss.length by omega)).2.2.2; omega); first | (rw [e1]; done) | (rw [e1]; rfl) | (simp only [e1]; done) | (simp only [e1]; rfl)) (by kernel_rfl)
        ·
         have q18 : (↑(foldSs (ss.getD k default).body).length : Int) = 0 := eq_of_beq h18
         refine rT G ((↑(foldSs (ss.getD k default).body).length : Int) == (0 : Int)) (by assumption) ?_
         refine wp_skip ?_
         refine bl_n ?_
         refine bl_n ?_
         refine th_n ?_
         refine rs1 (dk := dkP) G ⟨[], [], []⟩ calls_nil trivial [0, 1] [dT ss, .row 135 (D.stmts (foldSs (List.take k ss)))] [(2, .v (.slice none 0 0)), (3, .ref 1), (6, .ref 0), (7, iA (↑ss.length : Int)), (8, iA ((↑k : Int) + 1))] [IntKind.i64.wrap ((↑k : Int) + (1 : Int)) = (↑k : Int) + (1 : Int)] ⟨(by have h8 := fo_lenB (fit_sub hb (show ((k : Nat) : Int) < ss.length by omega)).2.2.2; omega), trivial⟩ ?_
         clear G; intro ρ a w G
         refine th_n ?_
         exact rx_next G (k + 1) (by have h8 := fo_lenB (fit_sub hb (show ((k : Nat) : Int) < ss.length by omega)).2.2.2; omega) (by have h8 := fo_lenB (fit_sub hb (show ((k : Nat) : Int) < ss.length by omega)).2.2.2; omega) [0, 1] [dT ss, .row 135 (D.stmts (foldSs (List.take (k + 1) ss)))] [(2, .v (.slice none 0 0)), (3, .ref 1), (6, .ref 0), (7, iA (↑ss.length : Int)), (8, iA (↑(k + 1) : Int))] (by kernel_rfl) (by kernel_rfl) (by kernel_rfl) (by have e1 : (foldSs (List.take (k + 1) ss) : List LStmt) = (foldSs (List.take k ss)) := (by have h8 := fo_lenB (fit_sub hb (show ((k : Nat) : Int) < ss.length by omega)).2.2.2; omega); first | (rw [e1]; done) | (rw [e1]; rfl) | (simp only [e1]; done) | (simp only [e1]; rfl)) (by kernel_rfl)
       ·
        have q17 : (ss.getD k default).count = 1 := eq_of_beq h17
        refine rT G ((ss.getD k default).count == (1 : Int)) (by assumption) ?_
        refine rs1 (dk := dkP) G ⟨[], [], []⟩ calls_nil trivial [0, 31] [dT ss, .row 135 (D.stmts (foldSs (List.take k ss) ++ foldSs (ss.getD k default).body))] [(2, .v (.slice none 0 0)), (3, .ref 1), (6, .ref 0), (7, iA (↑ss.length : Int)), (8, iA (↑k : Int))] [(foldSs (List.take k ss)).length + (foldSs (ss.getD k default).body).length ≤ (9223372036854775807 : Nat), ((foldSs (List.take k ss)).length + (foldSs (ss.getD k default).body).length) * (152 : Nat) ≤ (140737488355328 : Nat)] ⟨(by have h8 := fo_lenB (fit_sub hb (show ((k : Nat) : Int) < ss.length by omega)).2.2.2; omega), (by have h8 := fo_lenB (fit_sub hb (show ((k : Nat) : Int) < ss.length by omega)).2.2.2; omega), trivial⟩ ?_
        clear G; intro ρ a w G
        refine bl_n ?_
        refine bl_n ?_
        refine th_n ?_
        refine rs1s G ⟨[], [], []⟩ calls_nil trivial [(2, .v (.slice none 0 0)), (3, .ref 1), (6, .ref 0), (7, iA (↑ss.length : Int)), (8, iA ((↑k : Int) + 1))] [IntKind.i64.wrap ((↑k : Int) + (1 : Int)) = (↑k : Int) + (1 : Int)] ⟨(by have h8 := fo_lenB (fit_sub hb (show ((k : Nat) : Int) < ss.length by omega)).2.2.2; omega), trivial⟩ ?_
        clear G; intro ρ a w G
        refine th_n ?_
        exact rx_next G (k + 1) (by have h8 := fo_lenB (fit_sub hb (show ((k : Nat) : Int) < ss.length by omega)).2.2.2; omega) (by have h8 := fo_lenB (fit_sub hb (show ((k : Nat) : Int) < ss.length by omega)).2.2.2; omega) [0, 1] [dT ss, .row 135 (D.stmts (foldSs (List.take (k + 1) ss)))] [(2, .v (.slice none 0 0)), (3, .ref 1), (6, .ref 0), (7, iA (↑ss.length : Int)), (8, iA (↑(k + 1) : Int))] (by kernel_rfl) (by kernel_rfl) (by kernel_rfl) (by have e1 : (foldSs (List.take (k + 1) ss) : List LStmt) = (foldSs (List.take k ss) ++ foldSs (ss.getD k default).body) := (by have h8 := fo_lenB (fit_sub hb (show ((k : Nat) : Int) < ss.length by omega)).2.2.2; omega); first | (rw [e1]; done) | (rw [e1]; rfl) | (simp only [e1]; done) | (simp only [e1]; rfl)) (by kernel_rfl)
     ·
      have q15 : (foldE (ss.getD k default).value).kind = 1 := eq_of_beq h15
      refine rs1s G ⟨[], [((ss.getD k default).kind == (3 : Int), true), ((foldE (ss.getD k default).value).kind == (1 : Int), true)], [(4, 0), (5, 0), (6, 0), (7, 0), (1008, 0), (10, 1), (11, 1), (12, 1), (13, 1), (1014, 1)]⟩ calls_nil ⟨(by assumption), (by assumption), trivial⟩ [(2, .v (.slice none 0 0)), (3, .ref 1), (5, .ptr 3 0), (6, .ref 0), (7, iA (↑ss.length : Int)), (8, iA (↑k : Int)), (31, bA ((foldE (ss.getD k default).value).value != 0))] [] trivial ?_
      clear G; intro ρ a w G
      refine th_n ?_
      cases h19 : ((foldE (ss.getD k default).value).value != (0 : Int))
      ·
       have q19 : (foldE (ss.getD k default).value).value = 0 := (by simpa using h19)
       refine rF G ((foldE (ss.getD k default).value).value != (0 : Int)) (by assumption) ?_
       refine wp_seq ?_
       refine rs1s G ⟨[], [((ss.getD k default).kind == (3 : Int), true)], [(4, 0), (5, 0), (6, 0), (7, 0), (1008, 0)]⟩ calls_nil ⟨(by assumption), trivial⟩ [(2, .v (.slice none 0 0)), (3, .ref 1), (5, .ptr 3 0), (6, .ref 0), (7, iA (↑ss.length : Int)), (8, iA (↑k : Int)), (51, bA ((foldE (ss.getD k default).value).kind == 1))] [] trivial ?_
       clear G; intro ρ a w G
       refine th_n ?_
       refine rT G ((foldE (ss.getD k default).value).kind == (1 : Int)) (by assumption) ?_
       refine rs1 (dk := dkP) G ⟨[], [], []⟩ calls_nil trivial [0, 31] [dT ss, .row 135 (D.stmts (foldSs (List.take k ss) ++ foldSs (ss.getD k default).els))] [(2, .v (.slice none 0 0)), (3, .ref 1), (6, .ref 0), (7, iA (↑ss.length : Int)), (8, iA (↑k : Int))] [(foldSs (List.take k ss)).length + (foldSs (ss.getD k default).els).length ≤ (9223372036854775807 : Nat), ((foldSs (List.take k ss)).length + (foldSs (ss.getD k default).els).length) * (152 : Nat) ≤ (140737488355328 : Nat)] ⟨(by have h8 := fo_lenB (fit_sub hb (show ((k : Nat) : Int) < ss.length by omega)).2.2.2; omega), (by have h8 := fo_lenB (fit_sub hb (show ((k : Nat) : Int) < ss.length by omega)).2.2.2; omega), trivial⟩ ?_
       clear G; intro ρ a w G
       refine bl_n ?_
       refine bl_n ?_
       refine th_n ?_
       refine rs1s G ⟨[], [], []⟩ calls_nil trivial [(2, .v (.slice none 0 0)), (3, .ref 1), (6, .ref 0), (7, iA (↑ss.length : Int)), (8, iA ((↑k : Int) + 1))] [IntKind.i64.wrap ((↑k : Int) + (1 : Int)) = (↑k : Int) + (1 : Int)] ⟨(by exact w64 (by omega) (by omega)), trivial⟩ ?_
       clear G; intro ρ a w G
       refine th_n ?_
       exact rx_next G (k + 1) (by have h8 := fo_lenB (fit_sub hb (show ((k : Nat) : Int) < ss.length by omega)).2.2.2; omega) (by have h8 := fo_lenB (fit_sub hb (show ((k : Nat) : Int) < ss.length by omega)).2.2.2; omega) [0, 1] [dT ss, .row 135 (D.stmts (foldSs (List.take (k + 1) ss)))] [(2, .v (.slice none 0 0)), (3, .ref 1), (6, .ref 0), (7, iA (↑ss.length : Int)), (8, iA (↑(k + 1) : Int))] (by kernel_rfl) (by kernel_rfl) (by kernel_rfl) (by have e1 : (foldSs (List.take (k + 1) ss) : List LStmt) = (foldSs (List.take k ss) ++ foldSs (ss.getD k default).els) := (by exact fo2 (by omega) (by omega) (by omega) (by omega)); first | (rw [e1]; done) | (rw [e1]; rfl) | (simp only [e1]; done) | (simp only [e1]; rfl)) (by kernel_rfl)
      ·
       have q19 : ¬ ((foldE (ss.getD k default).value).value = 0) := bne_iff_ne.1 h19
       refine rT G ((foldE (ss.getD k default).value).value != (0 : Int)) (by assumption) ?_
       refine rs1 (dk := dkP) G ⟨[], [], []⟩ calls_nil trivial [0, 31] [dT ss, .row 135 (D.stmts (foldSs (List.take k ss) ++ foldSs (ss.getD k default).body))] [(2, .v (.slice none 0 0)), (3, .ref 1), (6, .ref 0), (7, iA (↑ss.length : Int)), (8, iA (↑k : Int))] [(foldSs (List.take k ss)).length + (foldSs (ss.getD k default).body).length ≤ (9223372036854775807 : Nat), ((foldSs (List.take k ss)).length + (foldSs (ss.getD k default).body).length) * (152 : Nat) ≤ (140737488355328 : Nat)] ⟨(by have h8 := fo_lenB (fit_sub hb (show ((k : Nat) : Int) < ss.length by omega)).2.2.1; omega), (by have h8 := fo_lenB (fit_sub hb (show ((k : Nat) : Int) < ss.length by omega)).2.2.1; omega), trivial⟩ ?_
       clear G; intro ρ a w G
       refine bl_n ?_
       refine bl_n ?_
       refine th_n ?_
       refine rs1s G ⟨[], [], []⟩ calls_nil trivial [(2, .v (.slice none 0 0)), (3, .ref 1), (6, .ref 0), (7, iA (↑ss.length : Int)), (8, iA ((↑k : Int) + 1))] [IntKind.i64.wrap ((↑k : Int) + (1 : Int)) = (↑k : Int) + (1 : Int)] ⟨(by exact w64 (by omega) (by omega)), trivial⟩ ?_
       clear G; intro ρ a w G
       refine th_n ?_
       exact rx_next G (k + 1) (by have h8 := fo_lenB (fit_sub hb (show ((k : Nat) : Int) < ss.length by omega)).2.2.2; omega) (by have h8 := fo_lenB (fit_sub hb (show ((k : Nat) : Int) < ss.length by omega)).2.2.2; omega) [0, 1] [dT ss, .row 135 (D.stmts (foldSs (List.take (k + 1) ss)))] [(2, .v (.slice none 0 0)), (3, .ref 1), (6, .ref 0), (7, iA (↑ss.length : Int)), (8, iA (↑(k + 1) : Int))] (by kernel_rfl) (by kernel_rfl) (by kernel_rfl) (by have e1 : (foldSs (List.take (k + 1) ss) : List LStmt) = (foldSs (List.take k ss) ++ foldSs (ss.getD k default).body) := (by exact fo1 (by omega) (by omega) (by omega) (by omega)); first | (rw [e1]; done) | (rw [e1]; rfl) | (simp only [e1]; done) | (simp only [e1]; rfl)) (by kernel_rfl)

theorem l8BlockD (nv na : Nat) (hf : ∀ (e : LExpr), goodE e = true → Ctr.ok Try.prog (foC 74 e)) : ∀ (d : Nat) (ss : List LStmt), ss.all (stmtB nv na d) = true → szSs ss ≤ 1048576 → Ctr.ok Try.prog (lbC 119 ss) := by
  intro d
  induction d with
  | zero =>
    intro ss hs hb
    have h0 : ss = [] := by
      cases ss with
      | nil => rfl
      | cons a r => simp [stmtB] at hs
    subst h0
    exact s_l8Block nv na 0 [] rfl hb hf fun _ _ _ h => absurd h (by simp)
  | succ d ih => intro ss hs hb; exact s_l8Block nv na d ss hs hb hf fun tt h1 h2 _ => ih tt h1 h2
theorem foldStmtsD (nv na : Nat) (hf : ∀ (e : LExpr), goodE e = true → Ctr.ok Try.prog (foC 77 e)) : ∀ (d : Nat) (ss : List LStmt), ss.all (stmtB nv na d) = true → szSs ss ≤ 1048576 → Ctr.ok Try.prog (lbC 121 ss) := by
  intro d
  induction d with
  | zero =>
    intro ss hs hb
    have h0 : ss = [] := by
      cases ss with
      | nil => rfl
      | cons a r => simp [stmtB] at hs
    subst h0
    exact s_foldStmts nv na 0 [] rfl hb hf fun _ _ _ h => absurd h (by simp)
  | succ d ih => intro ss hs hb; exact s_foldStmts nv na d ss hs hb hf fun tt h1 h2 _ => ih tt h1 h2

end Go.Proofs.Ytgpkdfefgcpbiaa

namespace Go.Proofs.Ytgpkdfefgcpbiaa
set_option linter.unusedVariables false
set_option linter.unusedSimpArgs false
open Go Go.RowKit

abbrev owC (e : LExpr) : Ctr := ⟨169, [eA e 0], eS e, eS e ++ [.tree (.exprs e.kids)], .agg [iA e.kind, iA e.value, .tref 1]⟩
set_option maxRecDepth 100000 in
theorem s_ownE (e : LExpr) (hb : szE e ≤ 1048576) (ih : ∀ (x : LExpr), x ∈ e.kids → Ctr.ok Try.prog (owC x)) : Ctr.ok Try.prog (owC e) := by
  refine rx_enter 27 Try.func169 (by rfl) (by kernel_rfl) (by kernel_rfl) ?_
  intro ι φ ψ w0 w F ρ0 ρ a G
  replace G := Gam.at G [dE e.kids] [(0, eA e 0)]
  have hl := kids_fit hb
  refine wp_seq ?_
  refine rs0 G [0, 1, 9] [dE e.kids, .box (eL e 0), .box [iA 0, iA 0, .v (.slice none 0 0)]] [(1, .ptr 1 0), (2, .ptr 2 0)] ?_
  clear G; intro ρ a w G
  refine th_n ?_
  refine wp_seq ?_
  refine rs0 G [0, 1, 2, 43] [dE e.kids, .box (eL e 0), .box [iA 0, iA 0, .v (.slice none 0 0)], .box [iA e.kind, iA e.value, .v (.slice none 0 0)]] [(1, .ptr 1 0), (2, .ptr 2 0), (3, .ptr 3 0)] ?_
  clear G; intro ρ a w G
  refine th_n ?_
  refine wp_seq ?_
  refine wp_seq ?_
  refine rs0 G [0, 2, 3] [dE e.kids, .box [iA 0, iA 0, .v (.slice none 0 0)], .box [iA e.kind, iA e.value, .v (.slice none 0 0)]] [(2, .ptr 1 0), (3, .ptr 2 0), (12, .ref 0), (13, iA (↑e.kids.length : Int)), (14, iA 0)] ?_
  clear G; intro ρ a w G
  refine th_n ?_
  refine wp_block ?_
  have Gx := G.nilT 3 (.exprs []) [dE e.kids, .box [iA 0, iA 0, .v (.slice none 0 0)], .box [iA e.kind, iA e.value, .tref 3]] [(2, .ptr 1 0), (3, .ptr 2 0), (12, .ref 0), (13, iA (↑e.kids.length : Int)), (14, iA 0)]
  clear G
  obtain ⟨ρ, G⟩ := Gx
  replace G := Gam.at G [dE e.kids, .box [iA 0, iA 0, .v (.slice none 0 0)], .box [iA e.kind, iA e.value, .tref 3], .tree (D.exprs [])] [(2, .ptr 1 0), (3, .ptr 2 0), (12, .ref 0), (13, iA (↑e.kids.length : Int)), (14, iA 0)]
  refine rx_for (κ := Nat) (fun k => k ≤ e.kids.length) (fun k => e.kids.length - k) (fun k => [dE e.kids, .box [iA 0, iA 0, .v (.slice none 0 0)], .box [iA e.kind, iA e.value, .tref 3], .tree (.exprs (e.kids.take k))]) (fun k => [(2, .ptr 1 0), (3, .ptr 2 0), (12, .ref 0), (13, iA (↑e.kids.length : Int)), (14, iA k)]) (0) (by omega) (Gam.at G _ _) ?_
  clear G
  intro k ρ a w hp G
  replace G := Gam.at G [dE e.kids, .box [iA 0, iA 0, .v (.slice none 0 0)], .box [iA e.kind, iA e.value, .tref 3], .tree (D.exprs (List.take k e.kids))] [(2, .ptr 1 0), (3, .ptr 2 0), (12, .ref 0), (13, iA (↑e.kids.length : Int)), (14, iA (↑k : Int))]
  refine wp_seq ?_
  refine rs0s G [(2, .ptr 1 0), (3, .ptr 2 0), (12, .ref 0), (13, iA (↑e.kids.length : Int)), (14, iA (↑k : Int)), (15, bA (decide ((↑k : Int) < (↑e.kids.length : Int))))] ?_
  clear G; intro ρ a w G
  refine th_n ?_
  refine wp_seq ?_
  cases h0 : (decide ((↑k : Int) < (↑e.kids.length : Int)))
  ·
   have q0 : ¬ ((↑k : Int) < (↑e.kids.length : Int)) := of_decide_eq_false h0
   refine rF G (decide ((↑k : Int) < (↑e.kids.length : Int))) (by assumption) ?_
   refine wp_exit ?_
   refine th_e ?_
   refine th_e ?_
   refine bl_hit ?_
   refine th_n ?_
   refine wp_seq ?_
   refine rs0 G [0, 1, 3] [dE e.kids, .box [iA e.kind, iA e.value, .tref 2], .tree (D.exprs (List.take k e.kids))] [(2, .ptr 1 0)] ?_
   clear G; intro ρ a w G
   refine th_n ?_
   refine wp_ret ?_
   exact rx_ret (v := .agg [iA e.kind, iA e.value, .tref 2]) G [0, 2] (by kernel_rfl) (by kernel_rfl) (by show _ = List.map (It.ren (nth [0, 2])) [dE e.kids, .tree (D.exprs e.kids)]; have e1 : (List.take k e.kids : List LExpr) = (e.kids) := (by exact take_is hp (by assumption)); first | (rw [e1]; done) | (rw [e1]; rfl) | (simp only [e1]; done) | (simp only [e1]; rfl)) (by kernel_rfl)
  ·
   have q0 : (↑k : Int) < (↑e.kids.length : Int) := of_decide_eq_true h0
   refine rT G (decide ((↑k : Int) < (↑e.kids.length : Int))) (by assumption) ?_
   refine wp_skip ?_
   refine th_n ?_
   refine wp_seq ?_
   refine wp_block ?_
   refine wp_seq ?_
   refine rs1 (dk := dkP) G ⟨[], [], []⟩ calls_nil trivial [0, 1, 2, 3, 12, 20] [dE e.kids, .box [iA 0, iA 0, .v (.slice none 0 0)], .box [iA e.kind, iA e.value, .tref 3], .tree (D.exprs (List.take k e.kids)), dE (e.kids.getD k default).kids, .box (eL (e.kids.getD k default) 4)] [(2, .ptr 1 0), (3, .ptr 2 0), (5, .ptr 5 0), (12, .ref 0), (13, iA (↑e.kids.length : Int)), (14, iA (↑k : Int))] [(0 : Int) ≤ (↑k : Int), (↑k : Int) < (↑e.kids.length : Int), k < e.kids.length] ⟨(by simp [h0]), (by assumption), (by have := len1 (x := (default : LExpr)) hp hl; simp only [List.length_cons, List.length_nil] at this ⊢; omega), trivial⟩ ?_
   clear G; intro ρ a w G
   refine th_n ?_
   refine rd1 (dk := dkP) G ⟨[(3, _, [4])], [], []⟩ (calls_cons (ih (e.kids.getD k default) (by exact getE_mem (by assumption))) calls_nil) trivial [0, 1, 0, 4, 12, 31, 63, 127] [0, 1, 2, 46] [dE e.kids, .box [iA 0, iA 0, .v (.slice none 0 0)], .box [iA e.kind, iA e.value, .tref 3], .tree (D.exprs (List.take k e.kids ++ [LExpr.mk (e.kids.getD k default).kind (e.kids.getD k default).value (e.kids.getD k default).kids]))] [(2, .ptr 1 0), (3, .ptr 2 0), (12, .ref 0), (13, iA (↑e.kids.length : Int)), (14, iA (↑k : Int))] [(List.take k e.kids).length + [LExpr.mk (e.kids.getD k default).kind (e.kids.getD k default).value (e.kids.getD k default).kids].length ≤ (9223372036854775807 : Nat), ((List.take k e.kids).length + [LExpr.mk (e.kids.getD k default).kind (e.kids.getD k default).value (e.kids.getD k default).kids].length) * (40 : Nat) ≤ (140737488355328 : Nat)] ⟨(by have := len1 (x := (default : LExpr)) hp hl; simp only [List.length_cons, List.length_nil] at this ⊢; omega), (by exact fitB (len1 hp hl) (by kernel_rfl)), trivial⟩ ?_
   clear G; intro ρ a w G
   refine bl_n ?_
   refine th_n ?_
   refine rs1s G ⟨[], [], []⟩ calls_nil trivial [(2, .ptr 1 0), (3, .ptr 2 0), (12, .ref 0), (13, iA (↑e.kids.length : Int)), (14, iA ((↑k : Int) + 1))] [IntKind.i64.wrap ((↑k : Int) + (1 : Int)) = (↑k : Int) + (1 : Int)] ⟨(by exact w64 (by omega) (by omega)), trivial⟩ ?_
   clear G; intro ρ a w G
   refine th_n ?_
   exact rx_next G (k + 1) (by have := len1 (x := (default : LExpr)) hp hl; simp only [List.length_cons, List.length_nil] at this ⊢; omega) (by have := len1 (x := (default : LExpr)) hp hl; simp only [List.length_cons, List.length_nil] at this ⊢; omega) [0, 1, 2, 3] [dE e.kids, .box [iA 0, iA 0, .v (.slice none 0 0)], .box [iA e.kind, iA e.value, .tref 3], .tree (D.exprs (List.take (k + 1) e.kids))] [(2, .ptr 1 0), (3, .ptr 2 0), (12, .ref 0), (13, iA (↑e.kids.length : Int)), (14, iA (↑(k + 1) : Int))] (by kernel_rfl) (by kernel_rfl) (by kernel_rfl) (by have e1 : (List.take (k + 1) e.kids : List LExpr) = (List.take k e.kids ++ [LExpr.mk (e.kids.getD k default).kind (e.kids.getD k default).value (e.kids.getD k default).kids]) := (by exact (takeE (by omega)).symm); first | (rw [e1]; done) | (rw [e1]; rfl) | (simp only [e1]; done) | (simp only [e1]; rfl)) (by kernel_rfl)

theorem c_ownE (e : LExpr) : szE e ≤ 1048576 → Ctr.ok Try.prog (owC e) :=
  LExpr.ind (P := fun e => szE e ≤ 1048576 → Ctr.ok Try.prog (owC e)) (fun k n ks ih hb => s_ownE ⟨k, n, ks⟩ hb fun x hx => ih x hx (by
    have h1 := szE_mem (show x ∈ ks from hx)
    have h2 : szE ⟨k, n, ks⟩ = szEs ks := rfl
    omega)) e

abbrev owsC (l : List LStmt) : Ctr := ⟨120, [.ref 0], [dT l], [dT l, .tree (.stmts l)], .tref 1⟩
set_option maxRecDepth 100000 in
theorem s_ownS (l : List LStmt) (hb : szSs l ≤ 1048576) (ih1 : ∀ (s : LStmt), s ∈ l → Ctr.ok Try.prog (owsC s.body)) (ih2 : ∀ (s : LStmt), s ∈ l → Ctr.ok Try.prog (owsC s.els)) : Ctr.ok Try.prog (owsC l) := by
  refine rx_enter 36 Try.func120 (by rfl) (by kernel_rfl) (by kernel_rfl) ?_
  intro ι φ ψ w0 w F ρ0 ρ a G
  replace G := Gam.at G [dT l] [(0, .ref 0)]
  have hl := block_fit hb
  refine wp_seq ?_
  refine rs0s G [(0, .ref 0), (2, .v (.slice none 0 0))] ?_
  clear G; intro ρ a w G
  refine th_n ?_
  refine wp_seq ?_
  refine rs0s G [(0, .ref 0), (2, .v (.slice none 0 0)), (3, .v (.slice none 0 0))] ?_
  clear G; intro ρ a w G
  refine th_n ?_
  refine wp_seq ?_
  refine wp_seq ?_
  refine rs0s G [(2, .v (.slice none 0 0)), (3, .v (.slice none 0 0)), (6, .ref 0), (7, iA (↑l.length : Int)), (8, iA 0)] ?_
  clear G; intro ρ a w G
  refine th_n ?_
  refine wp_block ?_
  have Gx := G.nilT 1 (.stmts []) [dT l] [(2, .v (.slice none 0 0)), (3, .tref 1), (6, .ref 0), (7, iA (↑l.length : Int)), (8, iA 0)]
  clear G
  obtain ⟨ρ, G⟩ := Gx
  replace G := Gam.at G [dT l, .tree (D.stmts [])] [(2, .v (.slice none 0 0)), (3, .tref 1), (6, .ref 0), (7, iA (↑l.length : Int)), (8, iA 0)]
  refine rx_for (κ := Nat) (fun k => k ≤ l.length) (fun k => l.length - k) (fun k => [dT l, .tree (.stmts (l.take k))]) (fun k => [(2, .v (.slice none 0 0)), (3, .tref 1), (6, .ref 0), (7, iA (↑l.length : Int)), (8, iA k)]) (0) (by omega) (Gam.at G _ _) ?_
  clear G
  intro k ρ a w hp G
  replace G := Gam.at G [dT l, .tree (D.stmts (List.take k l))] [(2, .v (.slice none 0 0)), (3, .tref 1), (6, .ref 0), (7, iA (↑l.length : Int)), (8, iA (↑k : Int))]
  refine wp_seq ?_
  refine rs0s G [(2, .v (.slice none 0 0)), (3, .tref 1), (6, .ref 0), (7, iA (↑l.length : Int)), (8, iA (↑k : Int)), (9, bA (decide ((↑k : Int) < (↑l.length : Int))))] ?_
  clear G; intro ρ a w G
  refine th_n ?_
  refine wp_seq ?_
  cases h0 : (decide ((↑k : Int) < (↑l.length : Int)))
  ·
   have q0 : ¬ ((↑k : Int) < (↑l.length : Int)) := of_decide_eq_false h0
   refine rF G (decide ((↑k : Int) < (↑l.length : Int))) (by assumption) ?_
   refine wp_exit ?_
   refine th_e ?_
   refine th_e ?_
   refine bl_hit ?_
   refine th_n ?_
   refine wp_seq ?_
   refine rs0s G [(2, .tref 1)] ?_
   clear G; intro ρ a w G
   refine th_n ?_
   refine wp_ret ?_
   exact rx_ret (v := .tref 1) G [0, 1] (by kernel_rfl) (by kernel_rfl) (by show _ = List.map (It.ren (nth [0, 1])) [dT l, .tree (D.stmts l)]; have e1 : (List.take k l : List LStmt) = (l) := (by exact take_is hp (by assumption)); first | (rw [e1]; done) | (rw [e1]; rfl) | (simp only [e1]; done) | (simp only [e1]; rfl)) (by kernel_rfl)
  ·
   have q0 : (↑k : Int) < (↑l.length : Int) := of_decide_eq_true h0
   refine rT G (decide ((↑k : Int) < (↑l.length : Int))) (by assumption) ?_
   refine wp_skip ?_
   refine th_n ?_
   refine wp_seq ?_
   refine wp_block ?_
   refine wp_seq ?_
   refine rs1 (dk := dkP) G ⟨[], [], []⟩ calls_nil trivial [0, 1, 10, 11, 12, 13, 18] [dT l, .tree (D.stmts (List.take k l)), dE (l.getD k default).index.kids, dE (l.getD k default).value.kids, dT (l.getD k default).body, dT (l.getD k default).els, .box (sL (l.getD k default) 2)] [(2, .v (.slice none 0 0)), (3, .tref 1), (5, .ptr 6 0), (6, .ref 0), (7, iA (↑l.length : Int)), (8, iA (↑k : Int))] [(0 : Int) ≤ (↑k : Int), (↑k : Int) < (↑l.length : Int), k < l.length] ⟨(by simp [h0]), (by assumption), (by have := len1 (x := (default : LStmt)) hp hl; simp only [List.length_cons, List.length_nil] at this ⊢; omega), trivial⟩ ?_
   clear G; intro ρ a w G
   refine th_n ?_
   refine rd1 (dk := dkP) G ⟨[(7, _, [2]), (10, _, [3]), (15, _, [4]), (18, _, [5])], [], []⟩ (calls_cons (c_ownE ((l.getD k default).index) (by exact (fit_sub hb (by assumption)).1)) (calls_cons (c_ownE ((l.getD k default).value) (by exact (fit_sub hb (by assumption)).2.1)) (calls_cons (ih1 (l.getD k default) (by exact getS_mem (by assumption))) (calls_cons (ih2 (l.getD k default) (by exact getS_mem (by assumption))) calls_nil)))) trivial [0, 0, 2, 0, 8, 0, 32, 96, 0, 256, 992, 0, 2048, 0, 8192, 26592, 0, 65536, 255968, 524286, 1048574, 2097151, 4194303] [0, 175] [dT l, .tree (D.stmts (List.take k l ++ [LStmt.mk (l.getD k default).kind (l.getD k default).target (LExpr.mk (l.getD k default).index.kind (l.getD k default).index.value (l.getD k default).index.kids) (LExpr.mk (l.getD k default).value.kind (l.getD k default).value.value (l.getD k default).value.kids) (l.getD k default).count (l.getD k default).body (l.getD k default).els]))] [(2, .v (.slice none 0 0)), (3, .tref 1), (6, .ref 0), (7, iA (↑l.length : Int)), (8, iA (↑k : Int))] [(List.take k l).length + [LStmt.mk (l.getD k default).kind (l.getD k default).target (LExpr.mk (l.getD k default).index.kind (l.getD k default).index.value (l.getD k default).index.kids) (LExpr.mk (l.getD k default).value.kind (l.getD k default).value.value (l.getD k default).value.kids) (l.getD k default).count (l.getD k default).body (l.getD k default).els].length ≤ (9223372036854775807 : Nat), ((List.take k l).length + [LStmt.mk (l.getD k default).kind (l.getD k default).target (LExpr.mk (l.getD k default).index.kind (l.getD k default).index.value (l.getD k default).index.kids) (LExpr.mk (l.getD k default).value.kind (l.getD k default).value.value (l.getD k default).value.kids) (l.getD k default).count (l.getD k default).body (l.getD k default).els].length) * (152 : Nat) ≤ (140737488355328 : Nat)] ⟨(by have := len1 (x := (default : LStmt)) hp hl; simp only [List.length_cons, List.length_nil] at this ⊢; omega), (by exact fitB (len1 hp hl) (by kernel_rfl)), trivial⟩ ?_
   clear G; intro ρ a w G
   refine bl_n ?_
   refine th_n ?_
   refine rs1s G ⟨[], [], []⟩ calls_nil trivial [(2, .v (.slice none 0 0)), (3, .tref 1), (6, .ref 0), (7, iA (↑l.length : Int)), (8, iA ((↑k : Int) + 1))] [IntKind.i64.wrap ((↑k : Int) + (1 : Int)) = (↑k : Int) + (1 : Int)] ⟨(by exact w64 (by omega) (by omega)), trivial⟩ ?_
   clear G; intro ρ a w G
   refine th_n ?_
   exact rx_next G (k + 1) (by have := len1 (x := (default : LStmt)) hp hl; simp only [List.length_cons, List.length_nil] at this ⊢; omega) (by have := len1 (x := (default : LStmt)) hp hl; simp only [List.length_cons, List.length_nil] at this ⊢; omega) [0, 1] [dT l, .tree (D.stmts (List.take (k + 1) l))] [(2, .v (.slice none 0 0)), (3, .tref 1), (6, .ref 0), (7, iA (↑l.length : Int)), (8, iA (↑(k + 1) : Int))] (by kernel_rfl) (by kernel_rfl) (by kernel_rfl) (by have e1 : (List.take (k + 1) l : List LStmt) = (List.take k l ++ [LStmt.mk (l.getD k default).kind (l.getD k default).target (LExpr.mk (l.getD k default).index.kind (l.getD k default).index.value (l.getD k default).index.kids) (LExpr.mk (l.getD k default).value.kind (l.getD k default).value.value (l.getD k default).value.kids) (l.getD k default).count (l.getD k default).body (l.getD k default).els]) := (by exact (takeS (by omega)).symm); first | (rw [e1]; done) | (rw [e1]; rfl) | (simp only [e1]; done) | (simp only [e1]; rfl)) (by kernel_rfl)

theorem c_ownS (l : List LStmt) : szSs l ≤ 1048576 → Ctr.ok Try.prog (owsC l) := fun hb => s_ownS l hb
  (fun s hs => (own2 s).1 (Nat.le_trans (Nat.le_of_lt (szS_mem hs)) hb)) fun s hs => (own2 s).2 (Nat.le_trans (Nat.le_of_lt (szS_mem hs)) hb)
where
  own2 (s : LStmt) : (szS s ≤ 1048576 → Ctr.ok Try.prog (owsC s.body)) ∧ (szS s ≤ 1048576 → Ctr.ok Try.prog (owsC s.els)) :=
    LStmt.ind (P := fun s => (szS s ≤ 1048576 → Ctr.ok Try.prog (owsC s.body)) ∧ (szS s ≤ 1048576 → Ctr.ok Try.prog (owsC s.els))) (fun k t i v c b e h1 h2 => by
      have hz : szS ⟨k, t, i, v, c, b, e⟩ = szE i + szE v + szSs b + szSs e := rfl
      constructor
      · intro hb
        refine s_ownS b (by omega) (fun s hs => (h1 s hs).1 ?_) fun s hs => (h1 s hs).2 ?_
        · have := szS_mem hs; omega
        · have := szS_mem hs; omega
      · intro hb
        refine s_ownS e (by omega) (fun s hs => (h2 s hs).1 ?_) fun s hs => (h2 s hs).2 ?_
        · have := szS_mem hs; omega
        · have := szS_mem hs; omega) s

set_option maxRecDepth 100000 in
theorem c_own (p : LProg) (hb : p.size ≤ 1048576) : Ctr.ok Try.prog ⟨87, [pA 0], pS p, pS p ++ oP p, oA 3⟩ := by
  refine rx_enter 13 Try.func87 (by rfl) (by kernel_rfl) (by kernel_rfl) ?_
  intro ι φ ψ w0 w F ρ0 ρ a G
  replace G := Gam.at G [dI p.vars, dI p.arrays, dT p.body] [(0, pA 0)]
  have hb1 : p.vars.length ≤ 1048576 ∧ p.arrays.length ≤ 1048576 ∧ szSs p.body ≤ 1048576 := by unfold LProg.size at hb; omega
  refine wp_seq ?_
  refine rs0 G [0, 1, 2, 3, 11] [dI p.vars, dI p.arrays, dT p.body, .box (pL 0), .box [.v (.slice none 0 0), .v (.slice none 0 0), .v (.slice none 0 0)]] [(1, .ptr 3 0), (2, .ptr 4 0)] ?_
  clear G; intro ρ a w G
  refine th_n ?_
  refine wp_seq ?_
  refine rd1 (dk := dkP) G ⟨[(2, _, [0]), (5, _, [1]), (8, _, [2])], [], []⟩ (calls_cons (c_cloneInts (p.vars) (by omega)) (calls_cons (c_cloneInts (p.arrays) (by omega)) (calls_cons (c_ownS (p.body) (by exact hb1.2.2)) calls_nil))) trivial [0, 1, 3, 0, 8, 31, 0, 64, 255, 511, 1023] [0, 1, 2, 4, 21, 45, 69] [dI p.vars, dI p.arrays, dT p.body, .box [.ref 4, .ref 5, .tref 6], .row 3 (D.ints p.vars), .row 3 (D.ints p.arrays), .tree (D.stmts p.body)] [(2, .ptr 3 0)] [] trivial ?_
  clear G; intro ρ a w G
  refine th_n ?_
  refine wp_ret ?_
  exact rx_ret (v := .agg [.ref 4, .ref 5, .tref 6]) G [0, 1, 2, 4, 5, 6] (by kernel_rfl) (by kernel_rfl) (by kernel_rfl) (by kernel_rfl)

end Go.Proofs.Ytgpkdfefgcpbiaa

namespace Go.Proofs.Ytgpkdfefgcpbiaa
set_option linter.unusedVariables false
set_option linter.unusedSimpArgs false
open Go Go.RowKit

theorem d_loP (p : LProg) (hb : p.size ≤ 1048576) : Ctr.ok Try.prog ⟨118, [pA 0], pS p, pS p ++ [.row 3 (.ints p.vars), .row 3 (.ints p.arrays), dT p.body], pA 3⟩ :=
  Ctr.datPost (S0 := pS p) (S := pS p ++ [.row 3 (.ints p.vars), .row 3 (.ints p.arrays)]) (d := .stmts p.body) (c_loP p hb) (pA 3)
theorem d_own (p : LProg) (hb : p.size ≤ 1048576) : Ctr.ok Try.prog ⟨87, [pA 0], pS p, pS p ++ [.row 3 (.ints p.vars), .row 3 (.ints p.arrays), dT p.body], pA 3⟩ :=
  Ctr.datPost (S0 := pS p) (S := pS p ++ [.row 3 (.ints p.vars), .row 3 (.ints p.arrays)]) (d := .stmts p.body) (c_own p hb) (pA 3)
theorem fo_prog {p : LProg} (h : progB p = true) : p.body.all (stmtB p.vars.length p.arrays.length 5) = true := by
  simp only [progB, blockB, Bool.and_eq_true, decide_eq_true_eq] at h
  exact h.1.2
set_option maxHeartbeats 4000000 in
set_option maxRecDepth 100000 in
theorem s_FoldProgram (p : LProg) (hb : p.size ≤ 1048576) (hblk : ∀ (ss : List LStmt), ss.all (stmtB p.vars.length p.arrays.length 5) = true → szSs ss ≤ 1048576 → Ctr.ok Try.prog (lbC 119 ss)) : Ctr.ok Try.prog ⟨59, [pA 0], pS p, pS p ++ pS (foldP p), .tup [pA 3, bA (progB p)]⟩ := by
  have hlo := d_loP p
  refine rx_enter 22 Try.func59 (by rfl) (by kernel_rfl) (by kernel_rfl) ?_
  intro ι φ ψ w0 w F ρ0 ρ a G
  replace G := Gam.at G [dI p.vars, dI p.arrays, dT p.body] [(0, pA 0)]
  have hb1 : p.vars.length ≤ 1048576 ∧ p.arrays.length ≤ 1048576 ∧ szSs p.body ≤ 1048576 := by unfold LProg.size at hb; omega
  refine wp_seq ?_
  refine rs0 G [0, 1, 2, 3, 11] [dI p.vars, dI p.arrays, dT p.body, .box (pL 0), .box [.v (.slice none 0 0), .v (.slice none 0 0), .v (.slice none 0 0)]] [(1, .ptr 3 0), (2, .ptr 4 0), (3, bA false)] ?_
  clear G; intro ρ a w G
  refine th_n ?_
  refine wp_seq ?_
  refine rs1 (dk := dkP) G ⟨[(1, _, [0, 1, 2])], [], []⟩ (calls_cons (hlo (by assumption)) calls_nil) trivial [0, 1, 2, 3, 4, 13, 14, 15] [dI p.vars, dI p.arrays, dT p.body, .box (pL 5), .box [.v (.slice none 0 0), .v (.slice none 0 0), .v (.slice none 0 0)], .row 3 (D.ints p.vars), .row 3 (D.ints p.arrays), dT p.body] [(1, .ptr 3 0), (2, .ptr 4 0), (3, bA false)] [] trivial ?_
  clear G; intro ρ a w G
  refine th_n ?_
  refine wp_seq ?_
  refine wp_seq ?_
  refine rs1s G ⟨[(1, _, [5, 6, 7])], [], []⟩ (calls_cons (Ctr.lend (c_ProgramValid (p) (by exact hb1.2.2)) [.row 3, .row 3]) calls_nil) trivial [(1, .ptr 3 0), (2, .ptr 4 0), (3, bA false), (8, .v (.bool !progB p))] [] trivial ?_
  clear G; intro ρ a w G
  refine th_n ?_
  cases h0 : (!progB p)
  ·
   have q0 : (progB p) = true := (fun hq => (hq)) (Eq.mp (Bool.not_eq_false' _) h0)
   refine rF G (!progB p) (by assumption) ?_
   refine wp_skip ?_
   refine th_n ?_
   refine wp_seq ?_
   refine rd1 (dk := dkP) G ⟨[(10, _, [7])], [], []⟩ (calls_cons (hblk (p.body) (by exact fo_prog (by with_reducible assumption)) (by exact hb1.2.2)) calls_nil) trivial [0, 0, 2, 7, 0, 0, 32, 127, 0, 256, 1023, 2047, 4095, 8191] [0, 1, 2, 4, 32, 64, 88] [dI p.vars, dI p.arrays, dT p.body, .box (pL 4), .row 3 (D.ints ([] ++ p.vars)), .row 3 (D.ints ([] ++ p.arrays)), dT (foldSs p.body)] [(2, .ptr 3 0), (3, bA true)] [(0 : Nat) + p.vars.length ≤ (9223372036854775807 : Nat), ((0 : Nat) + p.vars.length) * (8 : Nat) ≤ (140737488355328 : Nat), (0 : Nat) + p.arrays.length ≤ (9223372036854775807 : Nat), ((0 : Nat) + p.arrays.length) * (8 : Nat) ≤ (140737488355328 : Nat)] ⟨(by omega), (by omega), (by omega), (by omega), trivial⟩ ?_
   clear G; intro ρ a w G
   refine th_n ?_
   refine wp_ret ?_
   have Gx := G.frz [.no, .no, .no, .no, .row 3, .row 3] [dI p.vars, dI p.arrays, dT p.body, .box (pL 4), dI ([] ++ p.vars), dI ([] ++ p.arrays), dT (foldSs p.body)] [(2, .ptr 3 0), (3, bA true)]
   clear G
   obtain ⟨ρ, G⟩ := Gx
   exact rx_ret (v := .tup [pA 4, bA true]) G [0, 1, 2, 4, 5, 6] (by kernel_rfl) (by kernel_rfl) (by show _ = List.map (It.ren (nth [0, 1, 2, 4, 5, 6])) [dI p.vars, dI p.arrays, dT p.body, dI (foldP p).vars, dI (foldP p).arrays, dT (foldP p).body]; have e1 : ((foldP p).vars : List Int) = ([] ++ p.vars) := (by rw [foldP_yes (by with_reducible assumption), List.nil_append]; done); have e2 : ((foldP p).arrays : List Int) = ([] ++ p.arrays) := (by rw [foldP_yes (by with_reducible assumption), List.nil_append]; done); have e3 : ((foldP p).body : List LStmt) = (foldSs p.body) := (by rw [foldP_yes (by with_reducible assumption)]; done); first | (rw [e1, e2, e3]; done) | (rw [e1, e2, e3]; rfl) | (simp only [e1, e2, e3]; done) | (simp only [e1, e2, e3]; rfl)) (by have e1 : (progB p : Bool) = (true) := (by assumption); first | (rw [e1]; done) | (rw [e1]; rfl) | (simp only [e1]; done) | (simp only [e1]; rfl))
  ·
   have q0 : (progB p) = false := (fun hq => (hq)) (Eq.mp (Bool.not_eq_true' _) h0)
   refine rT G (!progB p) (by assumption) ?_
   refine wp_seq ?_
   refine rs0s G [(1, .ptr 3 0), (2, .ptr 4 0), (3, bA false)] ?_
   clear G; intro ρ a w G
   refine th_n ?_
   refine wp_ret ?_
   refine th_r ?_
   have Gx := G.nil 8 0 (.ints []) 1 [dI p.vars, dI p.arrays, dT p.body, .box (pL 5), .box [.ref 8, .v (.slice none 0 0), .v (.slice none 0 0)], .row 3 (D.ints p.vars), .row 3 (D.ints p.arrays), dT p.body] [(1, .ptr 3 0), (2, .ptr 4 0), (3, bA false)]
   clear G
   obtain ⟨ρ, G⟩ := Gx
   replace G := Gam.at G [dI p.vars, dI p.arrays, dT p.body, .box (pL 5), .box [.ref 8, .v (.slice none 0 0), .v (.slice none 0 0)], .row 3 (D.ints p.vars), .row 3 (D.ints p.arrays), dT p.body, .row 0 (D.ints [])] [(1, .ptr 3 0), (2, .ptr 4 0), (3, bA false)]
   have Gx := G.nil 9 0 (.ints []) 1 [dI p.vars, dI p.arrays, dT p.body, .box (pL 5), .box [.ref 8, .ref 9, .v (.slice none 0 0)], .row 3 (D.ints p.vars), .row 3 (D.ints p.arrays), dT p.body, .row 0 (D.ints [])] [(1, .ptr 3 0), (2, .ptr 4 0), (3, bA false)]
   clear G
   obtain ⟨ρ, G⟩ := Gx
   replace G := Gam.at G [dI p.vars, dI p.arrays, dT p.body, .box (pL 5), .box [.ref 8, .ref 9, .v (.slice none 0 0)], .row 3 (D.ints p.vars), .row 3 (D.ints p.arrays), dT p.body, .row 0 (D.ints []), .row 0 (D.ints [])] [(1, .ptr 3 0), (2, .ptr 4 0), (3, bA false)]
   have Gx := G.nil 10 0 (.stmts []) 10 [dI p.vars, dI p.arrays, dT p.body, .box (pL 5), .box (pL 8), .row 3 (D.ints p.vars), .row 3 (D.ints p.arrays), dT p.body, .row 0 (D.ints []), .row 0 (D.ints [])] [(1, .ptr 3 0), (2, .ptr 4 0), (3, bA false)]
   clear G
   obtain ⟨ρ, G⟩ := Gx
   replace G := Gam.at G [dI p.vars, dI p.arrays, dT p.body, .box (pL 5), .box (pL 8), .row 3 (D.ints p.vars), .row 3 (D.ints p.arrays), dT p.body, .row 0 (D.ints []), .row 0 (D.ints []), .row 0 (D.stmts [])] [(1, .ptr 3 0), (2, .ptr 4 0), (3, bA false)]
   have Gx := G.frz [.no, .no, .no, .no, .no, .no, .no, .no, .row 0, .row 0, .row 0] [dI p.vars, dI p.arrays, dT p.body, .box (pL 5), .box (pL 8), .row 3 (D.ints p.vars), .row 3 (D.ints p.arrays), dT p.body, dI [], dI [], dT []] [(1, .ptr 3 0), (2, .ptr 4 0), (3, bA false)]
   clear G
   obtain ⟨ρ, G⟩ := Gx
   exact rx_ret (v := .tup [pA 8, bA false]) G [0, 1, 2, 8, 9, 10] (by kernel_rfl) (by kernel_rfl) (by show _ = List.map (It.ren (nth [0, 1, 2, 8, 9, 10])) [dI p.vars, dI p.arrays, dT p.body, dI (foldP p).vars, dI (foldP p).arrays, dT (foldP p).body]; have e1 : ((foldP p).vars : List Int) = ([]) := (by rw [foldP_no (by with_reducible assumption)]; done); have e2 : ((foldP p).arrays : List Int) = ([]) := (by rw [foldP_no (by with_reducible assumption)]; done); have e3 : ((foldP p).body : List LStmt) = ([]) := (by rw [foldP_no (by with_reducible assumption)]; done); first | (rw [e1, e2, e3]; done) | (rw [e1, e2, e3]; rfl) | (simp only [e1, e2, e3]; done) | (simp only [e1, e2, e3]; rfl)) (by have e1 : (progB p : Bool) = (false) := (by assumption); first | (rw [e1]; done) | (rw [e1]; rfl) | (simp only [e1]; done) | (simp only [e1]; rfl))

set_option maxHeartbeats 4000000 in
set_option maxRecDepth 100000 in
theorem s_iFoldProgram (p : LProg) (hb : p.size ≤ 1048576) (hblk : ∀ (ss : List LStmt), ss.all (stmtB p.vars.length p.arrays.length 5) = true → szSs ss ≤ 1048576 → Ctr.ok Try.prog (lbC 121 ss)) : Ctr.ok Try.prog ⟨60, [pA 0], pS p, pS p ++ oP (foldP p), .tup [oA 3, bA (progB p)]⟩ := by
  have how := d_own p
  refine rx_enter 17 Try.func60 (by rfl) (by kernel_rfl) (by kernel_rfl) ?_
  intro ι φ ψ w0 w F ρ0 ρ a G
  replace G := Gam.at G [dI p.vars, dI p.arrays, dT p.body] [(0, pA 0)]
  have hb1 : p.vars.length ≤ 1048576 ∧ p.arrays.length ≤ 1048576 ∧ szSs p.body ≤ 1048576 := by unfold LProg.size at hb; omega
  refine wp_seq ?_
  refine rs0 G [0, 1, 2, 3, 11] [dI p.vars, dI p.arrays, dT p.body, .box (pL 0), .box [.v (.slice none 0 0), .v (.slice none 0 0), .v (.slice none 0 0)]] [(1, .ptr 3 0), (2, .ptr 4 0), (3, bA false)] ?_
  clear G; intro ρ a w G
  refine th_n ?_
  refine wp_seq ?_
  refine wp_seq ?_
  refine rs1s G ⟨[(1, _, [0, 1, 2])], [], []⟩ (calls_cons (c_iProgramValid (p)) calls_nil) trivial [(1, .ptr 3 0), (2, .ptr 4 0), (3, bA false), (7, .v (.bool !progB p))] [] trivial ?_
  clear G; intro ρ a w G
  refine th_n ?_
  cases h0 : (!progB p)
  ·
   have q0 : (progB p) = true := (fun hq => (hq)) (Eq.mp (Bool.not_eq_false' _) h0)
   refine rF G (!progB p) (by assumption) ?_
   refine wp_skip ?_
   refine th_n ?_
   refine wp_seq ?_
   refine rs1 (dk := dkP) G ⟨[(1, _, [0, 1, 2])], [], []⟩ (calls_cons (how (by assumption)) calls_nil) trivial [0, 1, 2, 4, 13, 14, 15, 21] [dI p.vars, dI p.arrays, dT p.body, .box [.v (.slice none 0 0), .v (.slice none 0 0), .v (.slice none 0 0)], .row 3 (D.ints p.vars), .row 3 (D.ints p.arrays), dT p.body, .box (pL 4)] [(2, .ptr 3 0), (3, bA false), (4, .ptr 7 0)] [] trivial ?_
   clear G; intro ρ a w G
   refine th_n ?_
   refine wp_seq ?_
   refine rs1 (dk := dkP) G ⟨[(2, _, [6]), (3, _, [24])], [], []⟩ (calls_cons (hblk (p.body) (by exact fo_prog (by with_reducible assumption)) (by exact hb1.2.2)) (calls_cons (c_ownS (foldSs p.body) (by exact Nat.le_trans (foldSs_sz p.body) hb1.2.2)) calls_nil)) trivial [0, 1, 2, 3, 4, 5, 7, 32] [dI p.vars, dI p.arrays, dT p.body, .box [.v (.slice none 0 0), .v (.slice none 0 0), .v (.slice none 0 0)], .row 3 (D.ints p.vars), .row 3 (D.ints p.arrays), .box [.ref 4, .ref 5, .tref 7], .tree (D.stmts (foldSs p.body))] [(2, .ptr 3 0), (3, bA false), (4, .ptr 6 0)] [] trivial ?_
   clear G; intro ρ a w G
   refine th_n ?_
   refine wp_seq ?_
   refine rs0 G [0, 1, 2, 3, 4, 5, 7] [dI p.vars, dI p.arrays, dT p.body, .box [.ref 4, .ref 5, .tref 6], .row 3 (D.ints p.vars), .row 3 (D.ints p.arrays), .tree (D.stmts (foldSs p.body))] [(2, .ptr 3 0), (3, bA true)] ?_
   clear G; intro ρ a w G
   refine th_n ?_
   refine wp_ret ?_
   exact rx_ret (v := .tup [.agg [.ref 4, .ref 5, .tref 6], bA true]) G [0, 1, 2, 4, 5, 6] (by kernel_rfl) (by kernel_rfl) (by show _ = List.map (It.ren (nth [0, 1, 2, 4, 5, 6])) [dI p.vars, dI p.arrays, dT p.body, .row 3 (D.ints (foldP p).vars), .row 3 (D.ints (foldP p).arrays), .tree (D.stmts (foldP p).body)]; have e1 : ((foldP p).vars : List Int) = (p.vars) := (by rw [foldP_yes (by with_reducible assumption)]; done); have e2 : ((foldP p).arrays : List Int) = (p.arrays) := (by rw [foldP_yes (by with_reducible assumption)]; done); have e3 : ((foldP p).body : List LStmt) = (foldSs p.body) := (by rw [foldP_yes (by with_reducible assumption)]; done); first | (rw [e1, e2, e3]; done) | (rw [e1, e2, e3]; rfl) | (simp only [e1, e2, e3]; done) | (simp only [e1, e2, e3]; rfl)) (by have e1 : (progB p : Bool) = (true) := (by assumption); first | (rw [e1]; done) | (rw [e1]; rfl) | (simp only [e1]; done) | (simp only [e1]; rfl))
  ·
   have q0 : (progB p) = false := (fun hq => (hq)) (Eq.mp (Bool.not_eq_true' _) h0)
   refine rT G (!progB p) (by assumption) ?_
   refine wp_seq ?_
   refine rs0s G [(1, .ptr 3 0), (2, .ptr 4 0), (3, bA false)] ?_
   clear G; intro ρ a w G
   refine th_n ?_
   refine wp_ret ?_
   refine th_r ?_
   have Gx := G.nil 5 3 (.ints []) 1 [dI p.vars, dI p.arrays, dT p.body, .box (pL 0), .box [.ref 5, .v (.slice none 0 0), .v (.slice none 0 0)]] [(1, .ptr 3 0), (2, .ptr 4 0), (3, bA false)]
   clear G
   obtain ⟨ρ, G⟩ := Gx
   replace G := Gam.at G [dI p.vars, dI p.arrays, dT p.body, .box (pL 0), .box [.ref 5, .v (.slice none 0 0), .v (.slice none 0 0)], .row 3 (D.ints [])] [(1, .ptr 3 0), (2, .ptr 4 0), (3, bA false)]
   have Gx := G.nil 6 3 (.ints []) 1 [dI p.vars, dI p.arrays, dT p.body, .box (pL 0), .box [.ref 5, .ref 6, .v (.slice none 0 0)], .row 3 (D.ints [])] [(1, .ptr 3 0), (2, .ptr 4 0), (3, bA false)]
   clear G
   obtain ⟨ρ, G⟩ := Gx
   replace G := Gam.at G [dI p.vars, dI p.arrays, dT p.body, .box (pL 0), .box [.ref 5, .ref 6, .v (.slice none 0 0)], .row 3 (D.ints []), .row 3 (D.ints [])] [(1, .ptr 3 0), (2, .ptr 4 0), (3, bA false)]
   have Gx := G.nilT 7 (.stmts []) [dI p.vars, dI p.arrays, dT p.body, .box (pL 0), .box [.ref 5, .ref 6, .tref 7], .row 3 (D.ints []), .row 3 (D.ints [])] [(1, .ptr 3 0), (2, .ptr 4 0), (3, bA false)]
   clear G
   obtain ⟨ρ, G⟩ := Gx
   replace G := Gam.at G [dI p.vars, dI p.arrays, dT p.body, .box (pL 0), .box [.ref 5, .ref 6, .tref 7], .row 3 (D.ints []), .row 3 (D.ints []), .tree (D.stmts [])] [(1, .ptr 3 0), (2, .ptr 4 0), (3, bA false)]
   exact rx_ret (v := .tup [.agg [.ref 5, .ref 6, .tref 7], bA false]) G [0, 1, 2, 5, 6, 7] (by kernel_rfl) (by kernel_rfl) (by show _ = List.map (It.ren (nth [0, 1, 2, 5, 6, 7])) [dI p.vars, dI p.arrays, dT p.body, .row 3 (D.ints (foldP p).vars), .row 3 (D.ints (foldP p).arrays), .tree (D.stmts (foldP p).body)]; have e1 : ((foldP p).vars : List Int) = ([]) := (by rw [foldP_no (by with_reducible assumption)]; done); have e2 : ((foldP p).arrays : List Int) = ([]) := (by rw [foldP_no (by with_reducible assumption)]; done); have e3 : ((foldP p).body : List LStmt) = ([]) := (by rw [foldP_no (by with_reducible assumption)]; done); first | (rw [e1, e2, e3]; done) | (rw [e1, e2, e3]; rfl) | (simp only [e1, e2, e3]; done) | (simp only [e1, e2, e3]; rfl)) (by have e1 : (progB p : Bool) = (false) := (by assumption); first | (rw [e1]; done) | (rw [e1]; rfl) | (simp only [e1]; done) | (simp only [e1]; rfl))

end Go.Proofs.Ytgpkdfefgcpbiaa

namespace Go.Proofs.Ytgpkdfefgcpbiaa
set_option linter.unusedVariables false
set_option linter.unusedSimpArgs false
open Go Go.RowKit

theorem bits_and_nat (a b : Nat) (ha : a < 9223372036854775808) (hb : b < 9223372036854775808) : bits .and .i64 (a : Int) (b : Int) = ((a &&& b : Nat) : Int) := by
  have hx : a &&& b < 2 ^ 63 := Nat.and_lt_two_pow _ (by omega)
  have h1 : (BitVec.ofInt 64 (a : Int)).toNat = a := by
    rw [BitVec.ofInt_natCast, BitVec.toNat_ofNat]; exact Nat.mod_eq_of_lt (by omega)
  have h2 : (BitVec.ofInt 64 (b : Int)).toNat = b := by
    rw [BitVec.ofInt_natCast, BitVec.toNat_ofNat]; exact Nat.mod_eq_of_lt (by omega)
  show IntKind.i64.wrap ((BitVec.ofInt 64 (a : Int) &&& BitVec.ofInt 64 (b : Int)).toNat : Int) = _
  rw [BitVec.toNat_and, h1, h2, IntKind.wrap_i64]
  omega
theorem bits_xor_nat (a b : Nat) (ha : a < 9223372036854775808) (hb : b < 9223372036854775808) : bits .xor .i64 (a : Int) (b : Int) = ((a ^^^ b : Nat) : Int) := by
  have hx : a ^^^ b < 2 ^ 63 := Nat.xor_lt_two_pow (by omega) (by omega)
  have h1 : (BitVec.ofInt 64 (a : Int)).toNat = a := by
    rw [BitVec.ofInt_natCast, BitVec.toNat_ofNat]; exact Nat.mod_eq_of_lt (by omega)
  have h2 : (BitVec.ofInt 64 (b : Int)).toNat = b := by
    rw [BitVec.ofInt_natCast, BitVec.toNat_ofNat]; exact Nat.mod_eq_of_lt (by omega)
  show IntKind.i64.wrap ((BitVec.ofInt 64 (a : Int) ^^^ BitVec.ofInt 64 (b : Int)).toNat : Int) = _
  rw [BitVec.toNat_xor, h1, h2, IntKind.wrap_i64]
  omega
theorem bits_and_int {a b : Int} (h1 : 0 ≤ a) (h2 : a ≤ 255) (h3 : 0 ≤ b) (h4 : b ≤ 255) : bits .and .i64 a b = ((a.toNat &&& b.toNat : Nat) : Int) := by
  rw [← bits_and_nat _ _ (by omega) (by omega), Int.toNat_of_nonneg h1, Int.toNat_of_nonneg h3]
theorem bits_xor_int {a b : Int} (h1 : 0 ≤ a) (h2 : a ≤ 255) (h3 : 0 ≤ b) (h4 : b ≤ 255) : bits .xor .i64 a b = ((a.toNat ^^^ b.toNat : Nat) : Int) := by
  rw [← bits_xor_nat _ _ (by omega) (by omega), Int.toNat_of_nonneg h1, Int.toNat_of_nonneg h3]

theorem spec_l3Bool (b : Bool) (w : World) : Calls Try.prog 191 #[.bool b] w fun e w' => e = .returned (.int .i64 (boolV b)) ∧ w = w' := by
  cases b
  all_goals
    go_enter Try.func191, Try.ntmps191
    go_wp2_with fail
    go_ret
    exact ⟨rfl, rfl⟩
theorem impl_truth (b : Bool) (w : World) : Calls Try.prog 179 #[.bool b] w fun e w' => e = .returned (.int .i64 (boolV b)) ∧ w = w' := by
  cases b
  all_goals
    go_enter Try.func179, Try.ntmps179
    go_wp2_with fail
    go_ret
    exact ⟨rfl, rfl⟩

set_option maxHeartbeats 1000000 in
theorem spec_l3Bin (k a b : Int) (w : World) (h1 : 0 ≤ a) (h2 : a ≤ 255) (h3 : 0 ≤ b) (h4 : b ≤ 255) : Calls Try.prog 162 #[.int .i64 k, .int .i64 a, .int .i64 b] w fun e w' => e = .returned (.int .i64 (foldV k a b)) ∧ w = w' := by
  have hm : 0 ≤ a * b := Int.mul_nonneg h1 h3
  have hm2 : a * b ≤ 65025 := by
    have := Int.mul_le_mul h2 h4 h3 (by omega : (0 : Int) ≤ 255)
    omega
  by_cases k4 : k = 4
  · subst k4
    have HV : Hid (foldV 4 a b = (a + b).tmod 256) := by unfold Hid foldV; simp
    go_enter Try.func162, Try.ntmps162
    go_wp2_with fail
    go_ret
    exact ⟨ret_int (by rw [HV.out]; exact (Int.tmod_eq_emod_of_nonneg (by first | assumption | omega)).symm), rfl⟩
  by_cases k5 : k = 5
  · subst k5
    have HV : Hid (foldV 5 a b = (a - b + 256).tmod 256) := by unfold Hid foldV; simp
    go_enter Try.func162, Try.ntmps162
    go_wp2_with fail
    go_ret
    exact ⟨ret_int (by rw [HV.out]; exact (Int.tmod_eq_emod_of_nonneg (by first | assumption | omega)).symm), rfl⟩
  by_cases k6 : k = 6
  · subst k6
    have HV : Hid (foldV 6 a b = (a * b).tmod 256) := by unfold Hid foldV; simp
    go_enter Try.func162, Try.ntmps162
    go_wp2_with fail
    go_ret
    exact ⟨ret_int (by rw [HV.out]; exact (Int.tmod_eq_emod_of_nonneg (by first | assumption | omega)).symm), rfl⟩
  by_cases k7 : k = 7
  · subst k7
    have HV : Hid (foldV 7 a b = bits .and .i64 a b) := by unfold Hid; rw [bits_and_int h1 h2 h3 h4]; unfold foldV; simp
    go_enter Try.func162, Try.ntmps162
    go_wp2_with fail
    go_ret
    exact ⟨ret_int (by rw [HV.out]), rfl⟩
  by_cases k8 : k = 8
  · subst k8
    have HV : Hid (foldV 8 a b = bits .xor .i64 a b) := by unfold Hid; rw [bits_xor_int h1 h2 h3 h4]; unfold foldV; simp
    go_enter Try.func162, Try.ntmps162
    go_wp2_with fail
    go_ret
    exact ⟨ret_int (by rw [HV.out]), rfl⟩
  have HK := show Hid _ from And.intro k4 (And.intro k5 (And.intro k6 (And.intro k7 k8)))
  have p4 : (k == 4) = false := by simp [k4]
  have p5 : (k == 5) = false := by simp [k5]
  have p6 : (k == 6) = false := by simp [k6]
  have p7 : (k == 7) = false := by simp [k7]
  have p8 : (k == 8) = false := by simp [k8]
  clear k4 k5 k6 k7 k8
  by_cases k9 : k = 9
  · subst k9
    have HV : Hid (foldV 9 a b = boolV (decide (a = b))) := by unfold Hid foldV; simp
    clear hm hm2
    go_enter Try.func162, Try.ntmps162
    go_wp2_with fail
    refine (spec_l3Bool _ _).mono ?_
    rintro x w1 ⟨rfl, rfl⟩
    go_wp2_with fail
    go_ret
    exact ⟨ret_int (by rw [HV.out]; congr 1), rfl⟩
  · have HV : Hid (foldV k a b = boolV (decide (a < b))) := by
      obtain ⟨k4, k5, k6, k7, k8⟩ := HK.out
      unfold Hid foldV; rw [if_neg k4, if_neg k5, if_neg k6, if_neg k7, if_neg k8, if_neg k9]
    have p9 : (k == 9) = false := by simp [k9]
    clear hm hm2 k9
    go_enter Try.func162, Try.ntmps162
    go_wp2_with fail
    refine (spec_l3Bool _ _).mono ?_
    rintro x w1 ⟨rfl, rfl⟩
    go_wp2_with fail
    go_ret
    exact ⟨ret_int (by rw [HV.out]), rfl⟩

set_option maxHeartbeats 1000000 in
theorem impl_operate (k a b : Int) (w : World) (h1 : 0 ≤ a) (h2 : a ≤ 255) (h3 : 0 ≤ b) (h4 : b ≤ 255) : Calls Try.prog 142 #[.int .i64 k, .int .i64 a, .int .i64 b] w fun e w' => e = .returned (.int .i64 (foldV k a b)) ∧ w = w' := by
  have hm : 0 ≤ a * b := Int.mul_nonneg h1 h3
  have hm2 : a * b ≤ 65025 := by
    have := Int.mul_le_mul h2 h4 h3 (by omega : (0 : Int) ≤ 255)
    omega
  by_cases k4 : k = 4
  · subst k4
    have HV : Hid (foldV 4 a b = (a + b).tmod 256) := by unfold Hid foldV; simp
    go_enter Try.func142, Try.ntmps142
    go_wp2_with fail
    go_ret
    exact ⟨ret_int (by rw [HV.out]; exact (Int.tmod_eq_emod_of_nonneg (by first | assumption | omega)).symm), rfl⟩
  by_cases k5 : k = 5
  · subst k5
    have HV : Hid (foldV 5 a b = (a - b + 256).tmod 256) := by unfold Hid foldV; simp
    go_enter Try.func142, Try.ntmps142
    go_wp2_with fail
    go_ret
    exact ⟨ret_int (by rw [HV.out]; exact (Int.tmod_eq_emod_of_nonneg (by first | assumption | omega)).symm), rfl⟩
  by_cases k6 : k = 6
  · subst k6
    have HV : Hid (foldV 6 a b = (a * b).tmod 256) := by unfold Hid foldV; simp
    go_enter Try.func142, Try.ntmps142
    go_wp2_with fail
    go_ret
    exact ⟨ret_int (by rw [HV.out]; exact (Int.tmod_eq_emod_of_nonneg (by first | assumption | omega)).symm), rfl⟩
  by_cases k7 : k = 7
  · subst k7
    have HV : Hid (foldV 7 a b = bits .and .i64 a b) := by unfold Hid; rw [bits_and_int h1 h2 h3 h4]; unfold foldV; simp
    go_enter Try.func142, Try.ntmps142
    go_wp2_with fail
    go_ret
    exact ⟨ret_int (by rw [HV.out]), rfl⟩
  by_cases k8 : k = 8
  · subst k8
    have HV : Hid (foldV 8 a b = bits .xor .i64 a b) := by unfold Hid; rw [bits_xor_int h1 h2 h3 h4]; unfold foldV; simp
    go_enter Try.func142, Try.ntmps142
    go_wp2_with fail
    go_ret
    exact ⟨ret_int (by rw [HV.out]), rfl⟩
  have HK := show Hid _ from And.intro k4 (And.intro k5 (And.intro k6 (And.intro k7 k8)))
  have p4 : (k == 4) = false := by simp [k4]
  have p5 : (k == 5) = false := by simp [k5]
  have p6 : (k == 6) = false := by simp [k6]
  have p7 : (k == 7) = false := by simp [k7]
  have p8 : (k == 8) = false := by simp [k8]
  clear k4 k5 k6 k7 k8
  by_cases k9 : k = 9
  · subst k9
    have HV : Hid (foldV 9 a b = boolV (decide (a = b))) := by unfold Hid foldV; simp
    clear hm hm2
    go_enter Try.func142, Try.ntmps142
    go_wp2_with fail
    refine (impl_truth _ _).mono ?_
    rintro x w1 ⟨rfl, rfl⟩
    go_wp2_with fail
    go_ret
    exact ⟨ret_int (by rw [HV.out]; congr 1), rfl⟩
  · have HV : Hid (foldV k a b = boolV (decide (a < b))) := by
      obtain ⟨k4, k5, k6, k7, k8⟩ := HK.out
      unfold Hid foldV; rw [if_neg k4, if_neg k5, if_neg k6, if_neg k7, if_neg k8, if_neg k9]
    have p9 : (k == 9) = false := by simp [k9]
    clear hm hm2 k9
    go_enter Try.func142, Try.ntmps142
    go_wp2_with fail
    refine (impl_truth _ _).mono ?_
    rintro x w1 ⟨rfl, rfl⟩
    go_wp2_with fail
    go_ret
    exact ⟨ret_int (by rw [HV.out]), rfl⟩

set_option maxHeartbeats 400000 in
theorem spec_l8Known (k n m : Int) (kv : Value) (w : World) : Calls Try.prog 177 #[.agg #[.int .i64 k, .int .i64 n, kv], .int .i64 m] w fun e w' => e = .returned (.bool (decide (k = 1) && decide (n = m))) ∧ Below w.heap.size w w' := by
  by_cases q1 : k = 1
  · have p1 : (k == 1) = true := by simp [q1]
    have HQ := show Hid _ from q1
    clear q1
    by_cases q2 : n = m
    · have p2 : (n == m) = true := by simp [q2]
      have HQ2 := show Hid _ from q2
      clear q2
      go_enter Try.func177, Try.ntmps177
      go_wp2_with fail
      go_ret
      exact ⟨ret_bool (by rw [decide_eq_true HQ.out, decide_eq_true HQ2.out]; rfl), by go_grown⟩
    · have p2 : (n == m) = false := by simp [q2]
      have HQ2 := show Hid _ from q2
      clear q2
      go_enter Try.func177, Try.ntmps177
      go_wp2_with fail
      go_ret
      exact ⟨ret_bool (by rw [decide_eq_true HQ.out, decide_eq_false HQ2.out]; rfl), by go_grown⟩
  · have p1 : (k == 1) = false := by simp [q1]
    have HQ := show Hid _ from q1
    clear q1
    go_enter Try.func177, Try.ntmps177
    go_wp2_with fail
    go_ret
    exact ⟨ret_bool (by rw [decide_eq_false HQ.out]; rfl), by go_grown⟩

set_option maxHeartbeats 400000 in
theorem impl_isNumber (k n m : Int) (kv : Value) (w : World) : Calls Try.prog 143 #[.agg #[.int .i64 k, .int .i64 n, kv], .int .i64 m] w fun e w' => e = .returned (.bool (decide (k = 1) && decide (n = m))) ∧ Below w.heap.size w w' := by
  by_cases q1 : k = 1
  · have p1 : (k == 1) = true := by simp [q1]
    have HQ := show Hid _ from q1
    clear q1
    by_cases q2 : n = m
    · have p2 : (n == m) = true := by simp [q2]
      have HQ2 := show Hid _ from q2
      clear q2
      go_enter Try.func143, Try.ntmps143
      go_wp2_with fail
      go_ret
      exact ⟨ret_bool (by rw [decide_eq_true HQ.out, decide_eq_true HQ2.out]; rfl), by go_grown⟩
    · have p2 : (n == m) = false := by simp [q2]
      have HQ2 := show Hid _ from q2
      clear q2
      go_enter Try.func143, Try.ntmps143
      go_wp2_with fail
      go_ret
      exact ⟨ret_bool (by rw [decide_eq_true HQ.out, decide_eq_false HQ2.out]; rfl), by go_grown⟩
  · have p1 : (k == 1) = false := by simp [q1]
    have HQ := show Hid _ from q1
    clear q1
    go_enter Try.func143, Try.ntmps143
    go_wp2_with fail
    go_ret
    exact ⟨ret_bool (by rw [decide_eq_false HQ.out]; rfl), by go_grown⟩

set_option maxHeartbeats 400000 in
theorem spec_l5Const (n : Int) (w : World) : Calls Try.prog 176 #[.int .i64 n] w fun e w' => e = .returned (.agg #[.int .i64 1, .int .i64 n, .slice none 0 0]) ∧ Below w.heap.size w w' := by
  have HM : Hid (Mem (fun _ => True) (fun _ => True) w _ [.box w.heap.size [.int .i64 1, .int .i64 n, .slice none 0 0]]) := (Mem.start fun _ _ => trivial).box [.int .i64 1, .int .i64 n, .slice none 0 0] 41
  go_enter Try.func176, Try.ntmps176
  go_wp2_with fail
  have M2 := HM.out
  have r0 : World.cell? _ ⟨w.heap.size, 0, none⟩ = some (.int .i64 1) := M2.c 0 0 rfl rfl
  have r1 : World.cell? _ ⟨w.heap.size, 1, none⟩ = some (.int .i64 n) := M2.c 0 1 rfl rfl
  have r2 : World.cell? _ ⟨w.heap.size, 2, none⟩ = some (.slice none 0 0) := M2.c 0 2 rfl rfl
  exact bodyPost_ret (v := .agg #[.int .i64 1, .int .i64 n, .slice none 0 0]) (by simp [results, Try.results176, go_sem, r0, r1, r2]) rfl ⟨rfl, M2.below fun _ _ => trivial⟩

set_option maxHeartbeats 400000 in
theorem impl_number (n : Int) (w : World) : Calls Try.prog 141 #[.int .i64 n] w fun e w' => e = .returned (.agg #[.int .i64 1, .int .i64 n, .slice none 0 0]) ∧ Below w.heap.size w w' := by
  have HM : Hid (Mem (fun _ => True) (fun _ => True) w _ [.box w.heap.size [.int .i64 1, .int .i64 n, .slice none 0 0]]) := (Mem.start fun _ _ => trivial).box [.int .i64 1, .int .i64 n, .slice none 0 0] 41
  go_enter Try.func141, Try.ntmps141
  go_wp2_with fail
  have M2 := HM.out
  have r0 : World.cell? _ ⟨w.heap.size, 0, none⟩ = some (.int .i64 1) := M2.c 0 0 rfl rfl
  have r1 : World.cell? _ ⟨w.heap.size, 1, none⟩ = some (.int .i64 n) := M2.c 0 1 rfl rfl
  have r2 : World.cell? _ ⟨w.heap.size, 2, none⟩ = some (.slice none 0 0) := M2.c 0 2 rfl rfl
  exact bodyPost_ret (v := .agg #[.int .i64 1, .int .i64 n, .slice none 0 0]) (by simp [results, Try.results141, go_sem, r0, r1, r2]) rfl ⟨rfl, M2.below fun _ _ => trivial⟩

end Go.Proofs.Ytgpkdfefgcpbiaa

namespace Go.Proofs.Ytgpkdfefgcpbiaa
set_option linter.unusedVariables false
set_option linter.unusedSimpArgs false
open Go Go.RowKit

def QuE (e : LExpr) : Prop := ∀ (φ : Nat → Prop) (v : Value) (w : World), ExprV w φ v e →
  Calls Try.prog 175 #[v] w fun x w' => x = .returned (.bool (quietE e)) ∧ Below w.heap.size w w'

set_option maxHeartbeats 1000000 in
theorem spec_l8Quiet (e : LExpr) : QuE e := by
  refine LExpr.ind (P := QuE) (fun k0 n0 ks ih => ?_) e
  obtain ⟨e, he⟩ : ∃ e : LExpr, e = ⟨k0, n0, ks⟩ := ⟨_, rfl⟩
  have hks : ks = e.kids := by rw [he]; rfl
  rw [← he]
  subst hks
  clear he
  intro φ v w h
  obtain ⟨kv, rfl, hk⟩ := h
  obtain ⟨ak, ck, rfl, -, hn, -, hc⟩ := hk.open
  have HD := show Hid _ from quietE_def e
  obtain ⟨W, hW, M⟩ : ∃ W, W = w.alloc (.cells #[.int .i64 e.kind, .int .i64 e.value, .slice ak e.kids.length ck] 41) ∧ Mem (fun _ => True) (fun _ => True) w W [.box w.heap.size [.int .i64 e.kind, .int .i64 e.value, .slice ak e.kids.length ck]] :=
    ⟨_, rfl, (Mem.start fun _ _ => trivial).box _ _⟩
  have HC := show Hid _ from hc
  have y0 := M.c 0 0 rfl rfl
  rw [hW] at y0
  clear hk hc
  by_cases q : e.kind = 3
  · have p : (e.kind == 3) = true := by simp [q]
    have HF : Hid (quietE e = false) := by rw [Hid, HD.out]; simp [q]
    have HB := show Hid _ from M.below fun _ _ => trivial
    clear q M
    go_enter Try.func175, Try.ntmps175
    go_wp2_with fail
    rw [← hW]
    clear hW
    go_ret
    exact ⟨ret_bool HF.out.symm, HB.out⟩
  have p : (e.kind == 3) = false := by simp [q]
  have HF : Hid (quietE e = e.kids.all quietE) := by rw [Hid, HD.out, decide_eq_true q]; rfl
  clear q
  go_enter Try.func175, Try.ntmps175
  go_wp2_with fail
  rw [← hW]
  clear hW y0 p
  go_loopw [3] (fun i wr => ∃ k : Nat, k ≤ e.kids.length ∧ i = .int .i64 k ∧ (e.kids.take k).all quietE = true ∧ Mem (fun _ => True) (fun _ => True) w wr [.box w.heap.size [.int .i64 e.kind, .int .i64 e.value, .slice ak e.kids.length ck]]) (fun i _ => e.kids.length - (intOf i).toNat)
  case atStart => exact ⟨0, Nat.zero_le _, rfl, rfl, M⟩
  case round =>
    clear M
    obtain ⟨k, hk, rfl, hall, M⟩ := hrel
    have HALL := show Hid _ from hall
    have hB := M.below fun _ _ => trivial
    have y2 := M.c 0 2 rfl rfl
    clear hall
    by_cases hlt : k < e.kids.length
    · obtain ⟨b, off, kv, rfl, hbk, hf, c0, c1', c2', hkv⟩ := HC.out k hlt
      rw [← (bcell hB).1 _ _ hbk] at c0 c1' c2'
      have HE := show Hid (ExprV wr φ (.agg #[.int .i64 e.kids[k].kind, .int .i64 e.kids[k].value, kv]) e.kids[k]) from ⟨kv, rfl, KidsV.nice _ _ _ _ _ _ (Agr.below hB) hkv⟩
      have HM := show Hid _ from M
      have hlt' : (k : Int) < e.kids.length := by omega
      clear hkv M hB
      go_wp2_with fail
      refine (ih _ (List.getElem_mem hlt) φ _ _ HE.out).mono ?_
      rintro x w2 ⟨rfl, b2⟩
      have HM2 := show Hid _ from HM.out.call b2
      obtain ⟨q, hq⟩ : ∃ q, q = quietE e.kids[k] := ⟨_, rfl⟩
      rw [← hq]
      have HQ := show Hid _ from hq
      clear b2 hq
      cases q
      · go_wp2_with fail
        go_ret
        exact ⟨ret_bool (by rw [HF.out]; symm; exact List.all_eq_false.2 ⟨_, List.getElem_mem hlt, by rw [← HQ.out]; simp⟩), HM2.out.below fun _ _ => trivial⟩
      · go_wp2_with fail
        refine ⟨⟨k + 1, by omega, by go_num, ?_, HM2.out⟩, by simp [intOf]; omega⟩
        rw [p_take_succ _ _ hlt, List.all_append, HALL.out]
        simp [← HQ.out]
    · have hkn : k = e.kids.length := by omega
      subst hkn
      have HB := show Hid _ from hB
      have hall := HALL.out
      rw [List.take_of_length_le (Nat.le_refl _)] at hall
      have HAL := show Hid _ from hall
      clear M hB hall
      go_wp2_with fail
      go_ret
      exact ⟨ret_bool (by rw [HF.out, HAL.out]), HB.out⟩

set_option maxHeartbeats 1000000 in
/-- slices.IndexFunc over expressions. -/
theorem indexFunc_expr (p : LExpr → Bool) (f : FuncId) (v : Value) (ks : List LExpr) (φ : Nat → Prop) (w : World) (h : KidsV w φ v ks) (he : ∀ args w, (callFunc f args).run Try.prog w = .ok (.enter f args) w)
    (hf : ∀ x ∈ ks, ∀ u w', ExprV w' φ u x → Calls Try.prog f #[u] w' fun e w'' => e = .returned (.bool (p x)) ∧ Below w'.heap.size w' w'') :
    Calls Try.prog 200 #[v, .func (.func f) #[] #[]] w fun e w' => ∃ r : Int, e = .returned (.int .i64 r) ∧ decide (0 ≤ r) = ks.any p ∧ Below w.heap.size w w' := by
  obtain ⟨ak, ck, rfl, -, hn, -, hc⟩ := h.open
  have HF := show Hid _ from hf
  have HC := show Hid _ from hc
  clear h hf hc
  go_enter Try.func200, Try.ntmps200
  go_wp2_with fail
  go_loopw [5, 8] (fun _ i wr => ∃ k : Nat, k ≤ ks.length ∧ i = .int .i64 k ∧ (ks.take k).any p = false ∧ Below w.heap.size w wr) (fun _ i _ => ks.length - (intOf i).toNat)
  case atStart => exact ⟨0, Nat.zero_le _, rfl, rfl, Below.refl _ _⟩
  case round =>
    obtain ⟨k, hk, rfl, ha, hB⟩ := hrel
    have HA := show Hid _ from ha
    have HB := show Hid _ from hB
    clear ha hB
    by_cases hlt : k < ks.length
    · obtain ⟨b, off, kv, rfl, hbk, hf, c0, c1', c2', hkv⟩ := HC.out k hlt
      rw [← (bcell HB.out).1 _ _ hbk] at c0 c1' c2'
      have HE := show Hid (ExprV wr φ (.agg #[.int .i64 ks[k].kind, .int .i64 ks[k].value, kv]) ks[k]) from ⟨kv, rfl, KidsV.nice _ _ _ _ _ _ (Agr.below HB.out) hkv⟩
      have hlt' : (k : Int) < ks.length := by omega
      clear hkv
      go_wp2_with fail
      refine (HF.out _ (List.getElem_mem hlt) _ _ HE.out).mono ?_
      rintro e w1 ⟨rfl, b1⟩
      have HB1 := show Hid _ from HB.out.trans (b1.mono HB.out.size)
      clear b1
      obtain ⟨q, hq⟩ : ∃ q, q = p ks[k] := ⟨_, rfl⟩
      rw [← hq]
      have HQ := show Hid _ from hq
      clear hq
      cases q
      · go_wp2_with fail
        exact ⟨⟨k + 1, by omega, by go_num, by rw [take_succ_get _ _ hlt, List.any_append, HA.out]; simp [← HQ.out], HB1.out⟩, by simp [intOf]; omega⟩
      · go_wp2_with fail
        go_ret
        exact ⟨_, rfl, by rw [decide_eq_true (by omega)]; symm; rw [List.any_eq_true]; exact ⟨_, List.getElem_mem hlt, HQ.out.symm⟩, HB1.out⟩
    · go_wp2_with fail
      go_ret
      refine ⟨_, rfl, ?_, HB.out⟩
      have := HA.out
      rw [List.take_of_length_le (by omega)] at this
      rw [this]; rfl
theorem containsFunc_expr (p : LExpr → Bool) (f : FuncId) (v : Value) (ks : List LExpr) (φ : Nat → Prop) (w : World) (h : KidsV w φ v ks) (he : ∀ args w, (callFunc f args).run Try.prog w = .ok (.enter f args) w)
    (hf : ∀ x ∈ ks, ∀ u w', ExprV w' φ u x → Calls Try.prog f #[u] w' fun e w'' => e = .returned (.bool (p x)) ∧ Below w'.heap.size w' w'') :
    Calls Try.prog 174 #[v, .func (.func f) #[] #[]] w fun e w' => e = .returned (.bool (ks.any p)) ∧ Below w.heap.size w w' := by
  obtain ⟨a1, c1, rfl, -⟩ := h.open
  have HF := show Hid _ from hf
  have HE := show Hid _ from he
  have HH := show Hid _ from h
  clear hf he h
  go_enter Try.func174, Try.ntmps174
  go_wp2_with fail
  refine (indexFunc_expr p f _ ks φ _ HH.out HE.out HF.out).mono ?_
  rintro e w1 ⟨r, rfl, hr, b1⟩
  have HR := show Hid _ from hr
  have HB := show Hid _ from b1
  clear hr b1
  go_wp2_with fail
  go_ret
  exact ⟨ret_bool HR.out, HB.out⟩

def ReE (e : LExpr) : Prop := ∀ (φ : Nat → Prop) (v : Value) (w : World), ExprV w φ v e →
  Calls Try.prog 139 #[v] w fun x w' => x = .returned (.bool (!quietE e)) ∧ Below w.heap.size w w'
theorem any_quiet (ks : List LExpr) : ks.any (fun e => !quietE e) = !ks.all quietE := by
  induction ks with
  | nil => rfl
  | cons a r ih => simp only [List.any_cons, List.all_cons, ih]; cases quietE a <;> simp

set_option maxHeartbeats 1000000 in
theorem impl_reads (e : LExpr) : ReE e := by
  refine LExpr.ind (P := ReE) (fun k0 n0 ks ih => ?_) e
  obtain ⟨e, he⟩ : ∃ e : LExpr, e = ⟨k0, n0, ks⟩ := ⟨_, rfl⟩
  have hks : ks = e.kids := by rw [he]; rfl
  rw [← he]
  subst hks
  clear he
  intro φ v w h
  obtain ⟨kv, rfl, hk⟩ := h
  have HD := show Hid _ from quietE_def e
  obtain ⟨W, hW, M⟩ : ∃ W, W = w.alloc (.cells #[.int .i64 e.kind, .int .i64 e.value, kv] 41) ∧ Mem (fun _ => True) (fun _ => True) w W [.box w.heap.size [.int .i64 e.kind, .int .i64 e.value, kv]] :=
    ⟨_, rfl, (Mem.start fun _ _ => trivial).box _ _⟩
  have HB := show Hid _ from M.below fun _ _ => trivial
  have HK := show Hid _ from KidsV.nice _ _ _ _ _ _ (Agr.below HB.out) hk
  have y0 := M.c 0 0 rfl rfl
  have y2 := M.c 0 2 rfl rfl
  rw [hW] at y0 y2
  clear hk M
  by_cases q : e.kind = 3
  · have p : (e.kind == 3) = true := by simp [q]
    have HF : Hid (quietE e = false) := by rw [Hid, HD.out]; simp [q]
    clear q
    go_enter Try.func139, Try.ntmps139
    go_wp2_with fail
    rw [← hW]
    clear hW
    go_ret
    exact ⟨ret_bool (by rw [HF.out]; rfl), HB.out⟩
  have p : (e.kind == 3) = false := by simp [q]
  have HF : Hid (quietE e = e.kids.all quietE) := by rw [Hid, HD.out, decide_eq_true q]; rfl
  clear q
  go_enter Try.func139, Try.ntmps139
  go_wp2_with fail
  rw [← hW]
  clear hW y0 p y2
  refine (containsFunc_expr (fun e => !quietE e) 139 _ e.kids φ _ HK.out (enters_of Try.func139 (by kernel_rfl) rfl) fun x hx u w' hu => ih x hx φ u w' hu).mono ?_
  rintro x w1 ⟨rfl, b1⟩
  rw [any_quiet]
  have HB1 := show Hid _ from HB.out.trans (b1.mono HB.out.size)
  clear b1
  go_wp2_with fail
  go_ret
  exact ⟨ret_bool (by rw [HF.out]), HB1.out⟩

end Go.Proofs.Ytgpkdfefgcpbiaa

namespace Go.Proofs.Ytgpkdfefgcpbiaa
set_option linter.unusedVariables false
set_option linter.unusedSimpArgs false
open Go Go.RowKit

theorem KidsO.two {w : World} {S : Nat → Prop} {a b : LExpr} {v : Value} (h : KidsO w v [a, b] S) : ∃ g off cap av ac bv bc, v = .slice (some ⟨g, off, none⟩) 2 cap ∧ g < w.heap.size ∧ S g ∧
    (w.cell? ⟨g, off, none⟩ = some (.int .i64 a.kind) ∧ w.cell? ⟨g, off + 1, none⟩ = some (.int .i64 a.value) ∧ w.cell? ⟨g, off + 2, none⟩ = some (.slice av a.kids.length ac) ∧
      w.cell? ⟨g, off + 3, none⟩ = some (.int .i64 b.kind) ∧ w.cell? ⟨g, off + 4, none⟩ = some (.int .i64 b.value) ∧ w.cell? ⟨g, off + 5, none⟩ = some (.slice bv b.kids.length bc)) ∧
    KidsO w (.slice av a.kids.length ac) a.kids S ∧ KidsO w (.slice bv b.kids.length bc) b.kids S := by
  obtain ⟨ad, cap, rfl, -, -, -, hc⟩ := h.open
  obtain ⟨g, off, kv, rfl, hg, hs, c0, c1, c2, k0⟩ := hc 0 (by simp)
  obtain ⟨g', off', kv', he, -, -, c3, c4, c5, k1⟩ := hc 1 (by simp)
  cases he
  obtain ⟨av, ac, rfl, -⟩ := k0.open
  obtain ⟨bv, bc, rfl, -⟩ := k1.open
  exact ⟨g, off, cap, av, ac, bv, bc, rfl, hg, hs, ⟨c0, c1, c2, c3, c4, c5⟩, k0, k1⟩
theorem KidsO.three {w : World} {S : Nat → Prop} {a b c : LExpr} {v : Value} (h : KidsO w v [a, b, c] S) : ∃ g off cap av ac bv bc cv cc, v = .slice (some ⟨g, off, none⟩) 3 cap ∧ g < w.heap.size ∧ S g ∧
    (w.cell? ⟨g, off, none⟩ = some (.int .i64 a.kind) ∧ w.cell? ⟨g, off + 1, none⟩ = some (.int .i64 a.value) ∧ w.cell? ⟨g, off + 2, none⟩ = some (.slice av a.kids.length ac) ∧
      w.cell? ⟨g, off + 3, none⟩ = some (.int .i64 b.kind) ∧ w.cell? ⟨g, off + 4, none⟩ = some (.int .i64 b.value) ∧ w.cell? ⟨g, off + 5, none⟩ = some (.slice bv b.kids.length bc) ∧
      w.cell? ⟨g, off + 6, none⟩ = some (.int .i64 c.kind) ∧ w.cell? ⟨g, off + 7, none⟩ = some (.int .i64 c.value) ∧ w.cell? ⟨g, off + 8, none⟩ = some (.slice cv c.kids.length cc)) ∧
    KidsO w (.slice av a.kids.length ac) a.kids S ∧ KidsO w (.slice bv b.kids.length bc) b.kids S ∧ KidsO w (.slice cv c.kids.length cc) c.kids S := by
  obtain ⟨ad, cap, rfl, -, -, -, hc⟩ := h.open
  obtain ⟨g, off, kv, rfl, hg, hs, c0, c1, c2, k0⟩ := hc 0 (by simp)
  obtain ⟨g', off', kv', he, -, -, c3, c4, c5, k1⟩ := hc 1 (by simp)
  cases he
  obtain ⟨g', off', kv'', he, -, -, c6, c7, c8, k2⟩ := hc 2 (by simp)
  cases he
  obtain ⟨av, ac, rfl, -⟩ := k0.open
  obtain ⟨bv, bc, rfl, -⟩ := k1.open
  obtain ⟨cv, cc, rfl, -⟩ := k2.open
  exact ⟨g, off, cap, av, ac, bv, bc, cv, cc, rfl, hg, hs, ⟨c0, c1, c2, c3, c4, c5, c6, c7, c8⟩, k0, k1, k2⟩

/-- What a node gives, in memory: from its owned operands. -/
def NodeQ (w : World) (S : Nat → Prop) (e : LExpr) (x : Ending) (w' : World) : Prop :=
  ∃ a c, x = .returned (.agg #[.int .i64 e.kind, .int .i64 e.value, .slice a e.kids.length c]) ∧ KidsO w' (.slice a e.kids.length c) e.kids S ∧ Below w.heap.size w w'

set_option maxRecDepth 100000 in
set_option maxHeartbeats 16000000 in
theorem spec_l8Node2 (k n : Int) (a b : LExpr) (v : Value) (S : Nat → Prop) (w : World) (h : KidsO w v [a, b] S) (h4 : 4 ≤ k) (h10 : k ≤ 10) (ha : a.kind = 1 → 0 ≤ a.value ∧ a.value ≤ 255) (hb : b.kind = 1 → 0 ≤ b.value ∧ b.value ≤ 255) :
    Calls Try.prog 137 #[.agg #[.int .i64 k, .int .i64 n, v]] w fun x w' => NodeQ w S (nodeE ⟨k, n, [a, b]⟩) x w' := by
  have hh := h
  obtain ⟨g, off, cap, av, ac, bv, bc, rfl, hg, hs, hcell, k0, k1⟩ := h.two
  have HCELL : Hid (∀ W, Below w.heap.size w W → W.cell? ⟨g, off, none⟩ = some (.int .i64 a.kind) ∧ W.cell? ⟨g, off + 1, none⟩ = some (.int .i64 a.value) ∧ W.cell? ⟨g, off + 2, none⟩ = some (.slice av a.kids.length ac) ∧
      W.cell? ⟨g, off + 3, none⟩ = some (.int .i64 b.kind) ∧ W.cell? ⟨g, off + 4, none⟩ = some (.int .i64 b.value) ∧ W.cell? ⟨g, off + 5, none⟩ = some (.slice bv b.kids.length bc)) := fun W hW => by
    have hc := fun o => (bcell hW).1 g o hg
    simp only [hc]; exact hcell
  have HKK : Hid (∀ W, Below w.heap.size w W → KidsO W (.slice av a.kids.length ac) a.kids S ∧ KidsO W (.slice bv b.kids.length bc) b.kids S ∧ KidsO W (.slice (some ⟨g, off, none⟩) 2 cap) [a, b] S) := fun W hW =>
    ⟨KidsO.same k0 fun b _ hl => hW.block b hl, KidsO.same k1 fun b _ hl => hW.block b hl, KidsO.same hh fun b _ hl => hW.block b hl⟩
  clear hcell k0 k1 h hh hs
  have p11 : (k == 11) = false := by simp; omega
  have p3 : ¬ (k < 4) := by omega
  obtain ⟨W, hW, M⟩ : ∃ W, W = (w.alloc (.cells #[.int .i64 k, .int .i64 n, .slice (some ⟨g, off, none⟩) 2 cap] 41)).alloc (.cells #[.int .i64 0, .int .i64 0, .slice none 0 0] 41) ∧ Mem (fun _ => True) (fun _ => True) w W [.box w.heap.size [.int .i64 k, .int .i64 n, .slice (some ⟨g, off, none⟩) 2 cap], .box (w.heap.size + 1) [.int .i64 0, .int .i64 0, .slice none 0 0]] :=
    ⟨_, rfl, ((Mem.start fun _ _ => trivial).box _ _).box' _ _ (by simp)⟩
  by_cases qa : a.kind = 1
  · have pa : (a.kind == 1) = true := by simp [qa]
    by_cases qb : b.kind = 1
    · have pb : (b.kind == 1) = true := by simp [qb]
      have HN : Hid (nodeE ⟨k, n, [a, b]⟩ = ⟨1, foldV k a.value b.value, []⟩) := by rw [Hid, node2, if_pos ⟨qa, qb⟩]; rfl
      have HA := ha qa
      have HB := hb qb
      clear qa qb ha hb
      have y0 := M.c 0 0 rfl rfl
      have y1 := M.c 0 1 rfl rfl
      have y2 := M.c 0 2 rfl rfl
      have d0 := M.c 1 0 rfl rfl
      have d1 := M.c 1 1 rfl rfl
      have d2 := M.c 1 2 rfl rfl
      have ff := M.f 1 rfl
      obtain ⟨c0, c1, c2, c3, c4, c5⟩ := HCELL.out _ (M.below fun _ _ => trivial)
      have HM := show Hid _ from M
      rw [hW] at y0 y1 y2 d0 d1 d2 ff c0 c1 c2 c3 c4 c5
      clear M
      go_enter Try.func137, Try.ntmps137
      go_wp2_with fail
      rw [← hW]
      clear hW
      have M := HM.out
      clear HM y0 y1 y2 d0 d1 d2 ff c0 c1 c2 c3 c4 c5
      have y0 := M.c 0 0 rfl rfl
      have y2 := M.c 0 2 rfl rfl
      have d0 := M.c 1 0 rfl rfl
      have d1 := M.c 1 1 rfl rfl
      have d2 := M.c 1 2 rfl rfl
      have ff := M.f 1 rfl
      obtain ⟨c0, c1, c2, c3, c4, c5⟩ := HCELL.out _ (M.below fun _ _ => trivial)
      have z0 := fun X => ext_cell y0 X
      have z2 := fun X => ext_cell y2 X
      have z3 := fun X => ext_cell d0 X
      have z4 := fun X => ext_cell d1 X
      have z5 := fun X => ext_cell d2 X
      have z6 := fun X => ext_frozen (M.lt (r := .box (w.heap.size + 1) [.int .i64 0, .int .i64 0, .slice none 0 0]) (List.mem_cons_of_mem _ List.mem_cons_self) rfl) (ff 0) X
      have z7 := fun X => ext_frozen (M.lt (r := .box (w.heap.size + 1) [.int .i64 0, .int .i64 0, .slice none 0 0]) (List.mem_cons_of_mem _ List.mem_cons_self) rfl) (ff 1) X
      have z8 := fun X => ext_frozen (M.lt (r := .box (w.heap.size + 1) [.int .i64 0, .int .i64 0, .slice none 0 0]) (List.mem_cons_of_mem _ List.mem_cons_self) rfl) (ff 2) X
      have e0 := fun X => ext_cell c0 X
      have e1 := fun X => ext_cell c1 X
      have e3 := fun X => ext_cell c3 X
      have e4 := fun X => ext_cell c4 X
      have HC1 : Hid (∀ X, Calls Try.prog 162 #[.int .i64 k, .int .i64 a.value, .int .i64 b.value] (W.ext X) fun x w'' => x = .returned (.int .i64 (foldV k a.value b.value)) ∧ ∃ Y, w'' = W.ext Y) := fun X =>
        Calls.ext_of' ((spec_l3Bin k a.value b.value _ HA.1 HA.2 HB.1 HB.2).mono fun x w' h => ⟨h.1, h.2 ▸ Below.refl _ _⟩)
      have HC2 : Hid (∀ X, Calls Try.prog 176 #[.int .i64 (foldV k a.value b.value)] (W.ext X) fun x w'' => x = .returned (.agg #[.int .i64 1, .int .i64 (foldV k a.value b.value), .slice none 0 0]) ∧ ∃ Y, w'' = W.ext Y) := fun X =>
        Calls.ext_of' (spec_l5Const _ _)
      have HM := show Hid _ from M
      clear M y0 y2 d0 d1 d2 ff c0 c1 c2 c3 c4 c5 HA HB
      refine wp_region_qext 14 _ rfl (by kernel_rfl) (by kernel_rfl) ?_
      simp only [List.set_cons_succ, List.set_cons_zero, idle]
      repeat (any_goals (first | go_big_quiet_step (((first | (go_at_call 162; exact HC1.out _) | (go_at_call 176; exact HC2.out _)))) | quiet_step (((first | (go_at_call 162; exact HC1.out _) | (go_at_call 176; exact HC2.out _))))))
      refine wpQuiet_nil ?_
      rintro _ ⟨X, rfl⟩
      replace HM := show Hid _ from (((HM.out.call (ext_below W X)).set 1 rfl 0 (.int .i64 1)).set 1 rfl 1 (.int .i64 (foldV k a.value b.value))).set 1 rfl 2 (.slice none 0 0)
      go_wp2_with fail
      have M2 := HM.out
      have r0 : World.cell? _ ⟨w.heap.size + 1, 0, none⟩ = some (.int .i64 1) := M2.c 1 0 rfl rfl
      have r1 : World.cell? _ ⟨w.heap.size + 1, 1, none⟩ = some (.int .i64 (foldV k a.value b.value)) := M2.c 1 1 rfl rfl
      have r2 : World.cell? _ ⟨w.heap.size + 1, 2, none⟩ = some (.slice none 0 0) := M2.c 1 2 rfl rfl
      refine bodyPost_ret (v := .agg #[.int .i64 1, .int .i64 (foldV k a.value b.value), .slice none 0 0]) (by simp [results, Try.results137, go_sem, r0, r1, r2]) rfl ?_
      rw [HN.out]
      exact ⟨_, _, rfl, KidsO.nil _ _, M2.below fun _ _ => trivial⟩
    · have pb : (b.kind == 1) = false := by simp [qb]
      have HCN : Hid (¬ (a.kind = 1 ∧ b.kind = 1)) := fun h => qb h.2
      clear qa qb ha hb
      by_cases q4 : k = 4
      · subst q4
        have y0 := M.c 0 0 rfl rfl
        have y1 := M.c 0 1 rfl rfl
        have y2 := M.c 0 2 rfl rfl
        have d0 := M.c 1 0 rfl rfl
        have d1 := M.c 1 1 rfl rfl
        have d2 := M.c 1 2 rfl rfl
        have ff := M.f 1 rfl
        obtain ⟨c0, c1, c2, c3, c4, c5⟩ := HCELL.out _ (M.below fun _ _ => trivial)
        have HM := show Hid _ from M
        rw [hW] at y0 y1 y2 d0 d1 d2 ff c0 c1 c2 c3 c4 c5
        clear M
        go_enter Try.func137, Try.ntmps137
        go_wp2_with fail
        rw [← hW]
        clear hW
        have M := HM.out
        clear HM y0 y1 y2 d0 d1 d2 ff c0 c1 c2 c3 c4 c5
        refine (spec_l8Known a.kind a.value 0 (.slice av a.kids.length ac) _).mono ?_
        rintro x w1 ⟨rfl, b1⟩
        rw [show (decide (a.kind = 1) && decide (a.value = 0)) = knownB a 0 from rfl]
        replace M := M.call b1
        clear b1
        cases hK : knownB a 0
        · have y0 := M.c 0 0 rfl rfl
          have y1 := M.c 0 1 rfl rfl
          have y2 := M.c 0 2 rfl rfl
          have d0 := M.c 1 0 rfl rfl
          have d1 := M.c 1 1 rfl rfl
          have d2 := M.c 1 2 rfl rfl
          have ff := M.f 1 rfl
          obtain ⟨c0, c1, c2, c3, c4, c5⟩ := HCELL.out _ (M.below fun _ _ => trivial)
          have HM := show Hid _ from M
          clear M
          go_wp2_with fail
          have M := HM.out
          clear HM y0 y1 y2 d0 d1 d2 ff c0 c1 c2 c3 c4 c5
          refine (spec_l8Known b.kind b.value 0 (.slice bv b.kids.length bc) _).mono ?_
          rintro x w1 ⟨rfl, b1⟩
          rw [show (decide (b.kind = 1) && decide (b.value = 0)) = knownB b 0 from rfl]
          replace M := M.call b1
          clear b1
          cases hK2 : knownB b 0
          · have HN : Hid (nodeE ⟨4, n, [a, b]⟩ = ⟨4, n, [a, b]⟩) := by rw [Hid, node2, if_neg HCN.out, if_neg (by simp [hK]), if_neg (by simp [hK2])]
            clear hK hK2
            have y0 := M.c 0 0 rfl rfl
            have y1 := M.c 0 1 rfl rfl
            have y2 := M.c 0 2 rfl rfl
            have d0 := M.c 1 0 rfl rfl
            have d1 := M.c 1 1 rfl rfl
            have d2 := M.c 1 2 rfl rfl
            have ff := M.f 1 rfl
            obtain ⟨c0, c1, c2, c3, c4, c5⟩ := HCELL.out _ (M.below fun _ _ => trivial)
            have HM := show Hid _ from ((M.set 1 rfl 0 (.int .i64 4)).set 1 rfl 1 (.int .i64 n)).set 1 rfl 2 (.slice (some ⟨g, off, none⟩) 2 cap)
            clear M
            go_wp2_with fail
            have M2 := HM.out
            have r0 : World.cell? _ ⟨w.heap.size + 1, 0, none⟩ = some (.int .i64 4) := M2.c 1 0 rfl rfl
            have r1 : World.cell? _ ⟨w.heap.size + 1, 1, none⟩ = some (.int .i64 n) := M2.c 1 1 rfl rfl
            have r2 : World.cell? _ ⟨w.heap.size + 1, 2, none⟩ = some (.slice (some ⟨g, off, none⟩) 2 cap) := M2.c 1 2 rfl rfl
            refine bodyPost_ret (v := .agg #[.int .i64 4, .int .i64 n, .slice (some ⟨g, off, none⟩) 2 cap]) (by simp [results, Try.results137, go_sem, r0, r1, r2]) rfl ?_
            rw [HN.out]
            exact ⟨_, _, rfl, HKK.out _ (M2.below fun _ _ => trivial) |>.2.2, M2.below fun _ _ => trivial⟩
          · have HN : Hid (nodeE ⟨4, n, [a, b]⟩ = a) := by rw [Hid, node2, if_neg HCN.out, if_neg (by simp [hK]), if_pos (by simp [hK2])]
            clear hK hK2
            have y0 := M.c 0 0 rfl rfl
            have y1 := M.c 0 1 rfl rfl
            have y2 := M.c 0 2 rfl rfl
            have d0 := M.c 1 0 rfl rfl
            have d1 := M.c 1 1 rfl rfl
            have d2 := M.c 1 2 rfl rfl
            have ff := M.f 1 rfl
            obtain ⟨c0, c1, c2, c3, c4, c5⟩ := HCELL.out _ (M.below fun _ _ => trivial)
            have HM := show Hid _ from ((M.set 1 rfl 0 (.int .i64 a.kind)).set 1 rfl 1 (.int .i64 a.value)).set 1 rfl 2 (.slice av a.kids.length ac)
            clear M
            go_wp2_with fail
            have M2 := HM.out
            have r0 : World.cell? _ ⟨w.heap.size + 1, 0, none⟩ = some (.int .i64 a.kind) := M2.c 1 0 rfl rfl
            have r1 : World.cell? _ ⟨w.heap.size + 1, 1, none⟩ = some (.int .i64 a.value) := M2.c 1 1 rfl rfl
            have r2 : World.cell? _ ⟨w.heap.size + 1, 2, none⟩ = some (.slice av a.kids.length ac) := M2.c 1 2 rfl rfl
            refine bodyPost_ret (v := .agg #[.int .i64 a.kind, .int .i64 a.value, .slice av a.kids.length ac]) (by simp [results, Try.results137, go_sem, r0, r1, r2]) rfl ?_
            rw [HN.out]
            exact ⟨_, _, rfl, HKK.out _ (M2.below fun _ _ => trivial) |>.1, M2.below fun _ _ => trivial⟩
        · have HN : Hid (nodeE ⟨4, n, [a, b]⟩ = b) := by rw [Hid, node2, if_neg HCN.out, if_pos (by simp [hK])]
          clear hK
          have y0 := M.c 0 0 rfl rfl
          have y1 := M.c 0 1 rfl rfl
          have y2 := M.c 0 2 rfl rfl
          have d0 := M.c 1 0 rfl rfl
          have d1 := M.c 1 1 rfl rfl
          have d2 := M.c 1 2 rfl rfl
          have ff := M.f 1 rfl
          obtain ⟨c0, c1, c2, c3, c4, c5⟩ := HCELL.out _ (M.below fun _ _ => trivial)
          have HM := show Hid _ from ((M.set 1 rfl 0 (.int .i64 b.kind)).set 1 rfl 1 (.int .i64 b.value)).set 1 rfl 2 (.slice bv b.kids.length bc)
          clear M
          go_wp2_with fail
          have M2 := HM.out
          have r0 : World.cell? _ ⟨w.heap.size + 1, 0, none⟩ = some (.int .i64 b.kind) := M2.c 1 0 rfl rfl
          have r1 : World.cell? _ ⟨w.heap.size + 1, 1, none⟩ = some (.int .i64 b.value) := M2.c 1 1 rfl rfl
          have r2 : World.cell? _ ⟨w.heap.size + 1, 2, none⟩ = some (.slice bv b.kids.length bc) := M2.c 1 2 rfl rfl
          refine bodyPost_ret (v := .agg #[.int .i64 b.kind, .int .i64 b.value, .slice bv b.kids.length bc]) (by simp [results, Try.results137, go_sem, r0, r1, r2]) rfl ?_
          rw [HN.out]
          exact ⟨_, _, rfl, HKK.out _ (M2.below fun _ _ => trivial) |>.2.1, M2.below fun _ _ => trivial⟩
      by_cases q8 : k = 8
      · subst q8
        have y0 := M.c 0 0 rfl rfl
        have y1 := M.c 0 1 rfl rfl
        have y2 := M.c 0 2 rfl rfl
        have d0 := M.c 1 0 rfl rfl
        have d1 := M.c 1 1 rfl rfl
        have d2 := M.c 1 2 rfl rfl
        have ff := M.f 1 rfl
        obtain ⟨c0, c1, c2, c3, c4, c5⟩ := HCELL.out _ (M.below fun _ _ => trivial)
        have HM := show Hid _ from M
        rw [hW] at y0 y1 y2 d0 d1 d2 ff c0 c1 c2 c3 c4 c5
        clear M
        go_enter Try.func137, Try.ntmps137
        go_wp2_with fail
        rw [← hW]
        clear hW
        have M := HM.out
        clear HM y0 y1 y2 d0 d1 d2 ff c0 c1 c2 c3 c4 c5
        refine (spec_l8Known a.kind a.value 0 (.slice av a.kids.length ac) _).mono ?_
        rintro x w1 ⟨rfl, b1⟩
        rw [show (decide (a.kind = 1) && decide (a.value = 0)) = knownB a 0 from rfl]
        replace M := M.call b1
        clear b1
        cases hK : knownB a 0
        · have y0 := M.c 0 0 rfl rfl
          have y1 := M.c 0 1 rfl rfl
          have y2 := M.c 0 2 rfl rfl
          have d0 := M.c 1 0 rfl rfl
          have d1 := M.c 1 1 rfl rfl
          have d2 := M.c 1 2 rfl rfl
          have ff := M.f 1 rfl
          obtain ⟨c0, c1, c2, c3, c4, c5⟩ := HCELL.out _ (M.below fun _ _ => trivial)
          have HM := show Hid _ from M
          clear M
          go_wp2_with fail
          have M := HM.out
          clear HM y0 y1 y2 d0 d1 d2 ff c0 c1 c2 c3 c4 c5
          refine (spec_l8Known b.kind b.value 0 (.slice bv b.kids.length bc) _).mono ?_
          rintro x w1 ⟨rfl, b1⟩
          rw [show (decide (b.kind = 1) && decide (b.value = 0)) = knownB b 0 from rfl]
          replace M := M.call b1
          clear b1
          cases hK2 : knownB b 0
          · have HN : Hid (nodeE ⟨8, n, [a, b]⟩ = ⟨8, n, [a, b]⟩) := by rw [Hid, node2, if_neg HCN.out, if_neg (by simp [hK]), if_neg (by simp [hK2])]
            clear hK hK2
            have y0 := M.c 0 0 rfl rfl
            have y1 := M.c 0 1 rfl rfl
            have y2 := M.c 0 2 rfl rfl
            have d0 := M.c 1 0 rfl rfl
            have d1 := M.c 1 1 rfl rfl
            have d2 := M.c 1 2 rfl rfl
            have ff := M.f 1 rfl
            obtain ⟨c0, c1, c2, c3, c4, c5⟩ := HCELL.out _ (M.below fun _ _ => trivial)
            have HM := show Hid _ from ((M.set 1 rfl 0 (.int .i64 8)).set 1 rfl 1 (.int .i64 n)).set 1 rfl 2 (.slice (some ⟨g, off, none⟩) 2 cap)
            clear M
            go_wp2_with fail
            have M2 := HM.out
            have r0 : World.cell? _ ⟨w.heap.size + 1, 0, none⟩ = some (.int .i64 8) := M2.c 1 0 rfl rfl
            have r1 : World.cell? _ ⟨w.heap.size + 1, 1, none⟩ = some (.int .i64 n) := M2.c 1 1 rfl rfl
            have r2 : World.cell? _ ⟨w.heap.size + 1, 2, none⟩ = some (.slice (some ⟨g, off, none⟩) 2 cap) := M2.c 1 2 rfl rfl
            refine bodyPost_ret (v := .agg #[.int .i64 8, .int .i64 n, .slice (some ⟨g, off, none⟩) 2 cap]) (by simp [results, Try.results137, go_sem, r0, r1, r2]) rfl ?_
            rw [HN.out]
            exact ⟨_, _, rfl, HKK.out _ (M2.below fun _ _ => trivial) |>.2.2, M2.below fun _ _ => trivial⟩
          · have HN : Hid (nodeE ⟨8, n, [a, b]⟩ = a) := by rw [Hid, node2, if_neg HCN.out, if_neg (by simp [hK]), if_pos (by simp [hK2])]
            clear hK hK2
            have y0 := M.c 0 0 rfl rfl
            have y1 := M.c 0 1 rfl rfl
            have y2 := M.c 0 2 rfl rfl
            have d0 := M.c 1 0 rfl rfl
            have d1 := M.c 1 1 rfl rfl
            have d2 := M.c 1 2 rfl rfl
            have ff := M.f 1 rfl
            obtain ⟨c0, c1, c2, c3, c4, c5⟩ := HCELL.out _ (M.below fun _ _ => trivial)
            have HM := show Hid _ from ((M.set 1 rfl 0 (.int .i64 a.kind)).set 1 rfl 1 (.int .i64 a.value)).set 1 rfl 2 (.slice av a.kids.length ac)
            clear M
            go_wp2_with fail
            have M2 := HM.out
            have r0 : World.cell? _ ⟨w.heap.size + 1, 0, none⟩ = some (.int .i64 a.kind) := M2.c 1 0 rfl rfl
            have r1 : World.cell? _ ⟨w.heap.size + 1, 1, none⟩ = some (.int .i64 a.value) := M2.c 1 1 rfl rfl
            have r2 : World.cell? _ ⟨w.heap.size + 1, 2, none⟩ = some (.slice av a.kids.length ac) := M2.c 1 2 rfl rfl
            refine bodyPost_ret (v := .agg #[.int .i64 a.kind, .int .i64 a.value, .slice av a.kids.length ac]) (by simp [results, Try.results137, go_sem, r0, r1, r2]) rfl ?_
            rw [HN.out]
            exact ⟨_, _, rfl, HKK.out _ (M2.below fun _ _ => trivial) |>.1, M2.below fun _ _ => trivial⟩
        · have HN : Hid (nodeE ⟨8, n, [a, b]⟩ = b) := by rw [Hid, node2, if_neg HCN.out, if_pos (by simp [hK])]
          clear hK
          have y0 := M.c 0 0 rfl rfl
          have y1 := M.c 0 1 rfl rfl
          have y2 := M.c 0 2 rfl rfl
          have d0 := M.c 1 0 rfl rfl
          have d1 := M.c 1 1 rfl rfl
          have d2 := M.c 1 2 rfl rfl
          have ff := M.f 1 rfl
          obtain ⟨c0, c1, c2, c3, c4, c5⟩ := HCELL.out _ (M.below fun _ _ => trivial)
          have HM := show Hid _ from ((M.set 1 rfl 0 (.int .i64 b.kind)).set 1 rfl 1 (.int .i64 b.value)).set 1 rfl 2 (.slice bv b.kids.length bc)
          clear M
          go_wp2_with fail
          have M2 := HM.out
          have r0 : World.cell? _ ⟨w.heap.size + 1, 0, none⟩ = some (.int .i64 b.kind) := M2.c 1 0 rfl rfl
          have r1 : World.cell? _ ⟨w.heap.size + 1, 1, none⟩ = some (.int .i64 b.value) := M2.c 1 1 rfl rfl
          have r2 : World.cell? _ ⟨w.heap.size + 1, 2, none⟩ = some (.slice bv b.kids.length bc) := M2.c 1 2 rfl rfl
          refine bodyPost_ret (v := .agg #[.int .i64 b.kind, .int .i64 b.value, .slice bv b.kids.length bc]) (by simp [results, Try.results137, go_sem, r0, r1, r2]) rfl ?_
          rw [HN.out]
          exact ⟨_, _, rfl, HKK.out _ (M2.below fun _ _ => trivial) |>.2.1, M2.below fun _ _ => trivial⟩
      by_cases q5 : k = 5
      · subst q5
        have y0 := M.c 0 0 rfl rfl
        have y1 := M.c 0 1 rfl rfl
        have y2 := M.c 0 2 rfl rfl
        have d0 := M.c 1 0 rfl rfl
        have d1 := M.c 1 1 rfl rfl
        have d2 := M.c 1 2 rfl rfl
        have ff := M.f 1 rfl
        obtain ⟨c0, c1, c2, c3, c4, c5⟩ := HCELL.out _ (M.below fun _ _ => trivial)
        have HM := show Hid _ from M
        rw [hW] at y0 y1 y2 d0 d1 d2 ff c0 c1 c2 c3 c4 c5
        clear M
        go_enter Try.func137, Try.ntmps137
        go_wp2_with fail
        rw [← hW]
        clear hW
        have M := HM.out
        clear HM y0 y1 y2 d0 d1 d2 ff c0 c1 c2 c3 c4 c5
        refine (spec_l8Known b.kind b.value 0 (.slice bv b.kids.length bc) _).mono ?_
        rintro x w1 ⟨rfl, b1⟩
        rw [show (decide (b.kind = 1) && decide (b.value = 0)) = knownB b 0 from rfl]
        replace M := M.call b1
        clear b1
        cases hK : knownB b 0
        · have HN : Hid (nodeE ⟨5, n, [a, b]⟩ = ⟨5, n, [a, b]⟩) := by rw [Hid, node2, if_neg HCN.out, if_neg (by simp), if_neg (by simp [hK])]
          clear hK
          have y0 := M.c 0 0 rfl rfl
          have y1 := M.c 0 1 rfl rfl
          have y2 := M.c 0 2 rfl rfl
          have d0 := M.c 1 0 rfl rfl
          have d1 := M.c 1 1 rfl rfl
          have d2 := M.c 1 2 rfl rfl
          have ff := M.f 1 rfl
          obtain ⟨c0, c1, c2, c3, c4, c5⟩ := HCELL.out _ (M.below fun _ _ => trivial)
          have HM := show Hid _ from ((M.set 1 rfl 0 (.int .i64 5)).set 1 rfl 1 (.int .i64 n)).set 1 rfl 2 (.slice (some ⟨g, off, none⟩) 2 cap)
          clear M
          go_wp2_with fail
          have M2 := HM.out
          have r0 : World.cell? _ ⟨w.heap.size + 1, 0, none⟩ = some (.int .i64 5) := M2.c 1 0 rfl rfl
          have r1 : World.cell? _ ⟨w.heap.size + 1, 1, none⟩ = some (.int .i64 n) := M2.c 1 1 rfl rfl
          have r2 : World.cell? _ ⟨w.heap.size + 1, 2, none⟩ = some (.slice (some ⟨g, off, none⟩) 2 cap) := M2.c 1 2 rfl rfl
          refine bodyPost_ret (v := .agg #[.int .i64 5, .int .i64 n, .slice (some ⟨g, off, none⟩) 2 cap]) (by simp [results, Try.results137, go_sem, r0, r1, r2]) rfl ?_
          rw [HN.out]
          exact ⟨_, _, rfl, HKK.out _ (M2.below fun _ _ => trivial) |>.2.2, M2.below fun _ _ => trivial⟩
        · have HN : Hid (nodeE ⟨5, n, [a, b]⟩ = a) := by rw [Hid, node2, if_neg HCN.out, if_neg (by simp), if_pos (by simp [hK])]
          clear hK
          have y0 := M.c 0 0 rfl rfl
          have y1 := M.c 0 1 rfl rfl
          have y2 := M.c 0 2 rfl rfl
          have d0 := M.c 1 0 rfl rfl
          have d1 := M.c 1 1 rfl rfl
          have d2 := M.c 1 2 rfl rfl
          have ff := M.f 1 rfl
          obtain ⟨c0, c1, c2, c3, c4, c5⟩ := HCELL.out _ (M.below fun _ _ => trivial)
          have HM := show Hid _ from ((M.set 1 rfl 0 (.int .i64 a.kind)).set 1 rfl 1 (.int .i64 a.value)).set 1 rfl 2 (.slice av a.kids.length ac)
          clear M
          go_wp2_with fail
          have M2 := HM.out
          have r0 : World.cell? _ ⟨w.heap.size + 1, 0, none⟩ = some (.int .i64 a.kind) := M2.c 1 0 rfl rfl
          have r1 : World.cell? _ ⟨w.heap.size + 1, 1, none⟩ = some (.int .i64 a.value) := M2.c 1 1 rfl rfl
          have r2 : World.cell? _ ⟨w.heap.size + 1, 2, none⟩ = some (.slice av a.kids.length ac) := M2.c 1 2 rfl rfl
          refine bodyPost_ret (v := .agg #[.int .i64 a.kind, .int .i64 a.value, .slice av a.kids.length ac]) (by simp [results, Try.results137, go_sem, r0, r1, r2]) rfl ?_
          rw [HN.out]
          exact ⟨_, _, rfl, HKK.out _ (M2.below fun _ _ => trivial) |>.1, M2.below fun _ _ => trivial⟩
      by_cases q6 : k = 6
      · subst q6
        have y0 := M.c 0 0 rfl rfl
        have y1 := M.c 0 1 rfl rfl
        have y2 := M.c 0 2 rfl rfl
        have d0 := M.c 1 0 rfl rfl
        have d1 := M.c 1 1 rfl rfl
        have d2 := M.c 1 2 rfl rfl
        have ff := M.f 1 rfl
        obtain ⟨c0, c1, c2, c3, c4, c5⟩ := HCELL.out _ (M.below fun _ _ => trivial)
        have HM := show Hid _ from M
        rw [hW] at y0 y1 y2 d0 d1 d2 ff c0 c1 c2 c3 c4 c5
        clear M
        go_enter Try.func137, Try.ntmps137
        go_wp2_with fail
        rw [← hW]
        clear hW
        have M := HM.out
        clear HM y0 y1 y2 d0 d1 d2 ff c0 c1 c2 c3 c4 c5
        refine (spec_l8Known a.kind a.value 1 (.slice av a.kids.length ac) _).mono ?_
        rintro x w1 ⟨rfl, b1⟩
        rw [show (decide (a.kind = 1) && decide (a.value = 1)) = knownB a 1 from rfl]
        replace M := M.call b1
        clear b1
        cases hK : knownB a 1
        · have y0 := M.c 0 0 rfl rfl
          have y1 := M.c 0 1 rfl rfl
          have y2 := M.c 0 2 rfl rfl
          have d0 := M.c 1 0 rfl rfl
          have d1 := M.c 1 1 rfl rfl
          have d2 := M.c 1 2 rfl rfl
          have ff := M.f 1 rfl
          obtain ⟨c0, c1, c2, c3, c4, c5⟩ := HCELL.out _ (M.below fun _ _ => trivial)
          have HM := show Hid _ from M
          clear M
          go_wp2_with fail
          have M := HM.out
          clear HM y0 y1 y2 d0 d1 d2 ff c0 c1 c2 c3 c4 c5
          refine (spec_l8Known b.kind b.value 1 (.slice bv b.kids.length bc) _).mono ?_
          rintro x w1 ⟨rfl, b1⟩
          rw [show (decide (b.kind = 1) && decide (b.value = 1)) = knownB b 1 from rfl]
          replace M := M.call b1
          clear b1
          cases hK2 : knownB b 1
          · have HN : Hid (nodeE ⟨6, n, [a, b]⟩ = ⟨6, n, [a, b]⟩) := by rw [Hid, node2, if_neg HCN.out, if_neg (by simp [hK]), if_neg (by simp [hK2])]
            clear hK hK2
            have y0 := M.c 0 0 rfl rfl
            have y1 := M.c 0 1 rfl rfl
            have y2 := M.c 0 2 rfl rfl
            have d0 := M.c 1 0 rfl rfl
            have d1 := M.c 1 1 rfl rfl
            have d2 := M.c 1 2 rfl rfl
            have ff := M.f 1 rfl
            obtain ⟨c0, c1, c2, c3, c4, c5⟩ := HCELL.out _ (M.below fun _ _ => trivial)
            have HM := show Hid _ from ((M.set 1 rfl 0 (.int .i64 6)).set 1 rfl 1 (.int .i64 n)).set 1 rfl 2 (.slice (some ⟨g, off, none⟩) 2 cap)
            clear M
            go_wp2_with fail
            have M2 := HM.out
            have r0 : World.cell? _ ⟨w.heap.size + 1, 0, none⟩ = some (.int .i64 6) := M2.c 1 0 rfl rfl
            have r1 : World.cell? _ ⟨w.heap.size + 1, 1, none⟩ = some (.int .i64 n) := M2.c 1 1 rfl rfl
            have r2 : World.cell? _ ⟨w.heap.size + 1, 2, none⟩ = some (.slice (some ⟨g, off, none⟩) 2 cap) := M2.c 1 2 rfl rfl
            refine bodyPost_ret (v := .agg #[.int .i64 6, .int .i64 n, .slice (some ⟨g, off, none⟩) 2 cap]) (by simp [results, Try.results137, go_sem, r0, r1, r2]) rfl ?_
            rw [HN.out]
            exact ⟨_, _, rfl, HKK.out _ (M2.below fun _ _ => trivial) |>.2.2, M2.below fun _ _ => trivial⟩
          · have HN : Hid (nodeE ⟨6, n, [a, b]⟩ = a) := by rw [Hid, node2, if_neg HCN.out, if_neg (by simp [hK]), if_pos (by simp [hK2])]
            clear hK hK2
            have y0 := M.c 0 0 rfl rfl
            have y1 := M.c 0 1 rfl rfl
            have y2 := M.c 0 2 rfl rfl
            have d0 := M.c 1 0 rfl rfl
            have d1 := M.c 1 1 rfl rfl
            have d2 := M.c 1 2 rfl rfl
            have ff := M.f 1 rfl
            obtain ⟨c0, c1, c2, c3, c4, c5⟩ := HCELL.out _ (M.below fun _ _ => trivial)
            have HM := show Hid _ from ((M.set 1 rfl 0 (.int .i64 a.kind)).set 1 rfl 1 (.int .i64 a.value)).set 1 rfl 2 (.slice av a.kids.length ac)
            clear M
            go_wp2_with fail
            have M2 := HM.out
            have r0 : World.cell? _ ⟨w.heap.size + 1, 0, none⟩ = some (.int .i64 a.kind) := M2.c 1 0 rfl rfl
            have r1 : World.cell? _ ⟨w.heap.size + 1, 1, none⟩ = some (.int .i64 a.value) := M2.c 1 1 rfl rfl
            have r2 : World.cell? _ ⟨w.heap.size + 1, 2, none⟩ = some (.slice av a.kids.length ac) := M2.c 1 2 rfl rfl
            refine bodyPost_ret (v := .agg #[.int .i64 a.kind, .int .i64 a.value, .slice av a.kids.length ac]) (by simp [results, Try.results137, go_sem, r0, r1, r2]) rfl ?_
            rw [HN.out]
            exact ⟨_, _, rfl, HKK.out _ (M2.below fun _ _ => trivial) |>.1, M2.below fun _ _ => trivial⟩
        · have HN : Hid (nodeE ⟨6, n, [a, b]⟩ = b) := by rw [Hid, node2, if_neg HCN.out, if_pos (by simp [hK])]
          clear hK
          have y0 := M.c 0 0 rfl rfl
          have y1 := M.c 0 1 rfl rfl
          have y2 := M.c 0 2 rfl rfl
          have d0 := M.c 1 0 rfl rfl
          have d1 := M.c 1 1 rfl rfl
          have d2 := M.c 1 2 rfl rfl
          have ff := M.f 1 rfl
          obtain ⟨c0, c1, c2, c3, c4, c5⟩ := HCELL.out _ (M.below fun _ _ => trivial)
          have HM := show Hid _ from ((M.set 1 rfl 0 (.int .i64 b.kind)).set 1 rfl 1 (.int .i64 b.value)).set 1 rfl 2 (.slice bv b.kids.length bc)
          clear M
          go_wp2_with fail
          have M2 := HM.out
          have r0 : World.cell? _ ⟨w.heap.size + 1, 0, none⟩ = some (.int .i64 b.kind) := M2.c 1 0 rfl rfl
          have r1 : World.cell? _ ⟨w.heap.size + 1, 1, none⟩ = some (.int .i64 b.value) := M2.c 1 1 rfl rfl
          have r2 : World.cell? _ ⟨w.heap.size + 1, 2, none⟩ = some (.slice bv b.kids.length bc) := M2.c 1 2 rfl rfl
          refine bodyPost_ret (v := .agg #[.int .i64 b.kind, .int .i64 b.value, .slice bv b.kids.length bc]) (by simp [results, Try.results137, go_sem, r0, r1, r2]) rfl ?_
          rw [HN.out]
          exact ⟨_, _, rfl, HKK.out _ (M2.below fun _ _ => trivial) |>.2.1, M2.below fun _ _ => trivial⟩
      have p4 : (k == 4) = false := by simp [q4]
      have p8 : (k == 8) = false := by simp [q8]
      have p5 : (k == 5) = false := by simp [q5]
      have p6 : (k == 6) = false := by simp [q6]
      have HN : Hid (nodeE ⟨k, n, [a, b]⟩ = ⟨k, n, [a, b]⟩) := by rw [Hid, node2, if_neg HCN.out, if_neg (by simp [q4, q5, q6, q8]), if_neg (by simp [q4, q5, q6, q8])]
      clear q4 q5 q6 q8
      have y0 := M.c 0 0 rfl rfl
      have y1 := M.c 0 1 rfl rfl
      have y2 := M.c 0 2 rfl rfl
      have d0 := M.c 1 0 rfl rfl
      have d1 := M.c 1 1 rfl rfl
      have d2 := M.c 1 2 rfl rfl
      have ff := M.f 1 rfl
      obtain ⟨c0, c1, c2, c3, c4, c5⟩ := HCELL.out _ (M.below fun _ _ => trivial)
      rw [hW] at y0 y1 y2 d0 d1 d2 ff c0 c1 c2 c3 c4 c5
      have HM : Hid (Mem (fun _ => True) (fun _ => True) w _ [.box w.heap.size [.int .i64 k, .int .i64 n, .slice (some ⟨g, off, none⟩) 2 cap], .box (w.heap.size + 1) [.int .i64 k, .int .i64 n, .slice (some ⟨g, off, none⟩) 2 cap]]) := ((Mem.start fun _ _ => trivial).box [.int .i64 k, .int .i64 n, .slice (some ⟨g, off, none⟩) 2 cap] 41).box' [.int .i64 k, .int .i64 n, .slice (some ⟨g, off, none⟩) 2 cap] 41 (by simp)
      clear M
      go_enter Try.func137, Try.ntmps137
      go_wp2_with fail
      have M2 := HM.out
      have r0 : World.cell? _ ⟨w.heap.size + 1, 0, none⟩ = some (.int .i64 k) := M2.c 1 0 rfl rfl
      have r1 : World.cell? _ ⟨w.heap.size + 1, 1, none⟩ = some (.int .i64 n) := M2.c 1 1 rfl rfl
      have r2 : World.cell? _ ⟨w.heap.size + 1, 2, none⟩ = some (.slice (some ⟨g, off, none⟩) 2 cap) := M2.c 1 2 rfl rfl
      refine bodyPost_ret (v := .agg #[.int .i64 k, .int .i64 n, .slice (some ⟨g, off, none⟩) 2 cap]) (by simp [results, Try.results137, go_sem, r0, r1, r2]) rfl ?_
      rw [HN.out]
      exact ⟨_, _, rfl, HKK.out _ (M2.below fun _ _ => trivial) |>.2.2, M2.below fun _ _ => trivial⟩
  · have pa : (a.kind == 1) = false := by simp [qa]
    have HCN : Hid (¬ (a.kind = 1 ∧ b.kind = 1)) := fun h => qa h.1
    clear qa ha hb
    by_cases q4 : k = 4
    · subst q4
      have y0 := M.c 0 0 rfl rfl
      have y1 := M.c 0 1 rfl rfl
      have y2 := M.c 0 2 rfl rfl
      have d0 := M.c 1 0 rfl rfl
      have d1 := M.c 1 1 rfl rfl
      have d2 := M.c 1 2 rfl rfl
      have ff := M.f 1 rfl
      obtain ⟨c0, c1, c2, c3, c4, c5⟩ := HCELL.out _ (M.below fun _ _ => trivial)
      have HM := show Hid _ from M
      rw [hW] at y0 y1 y2 d0 d1 d2 ff c0 c1 c2 c3 c4 c5
      clear M
      go_enter Try.func137, Try.ntmps137
      go_wp2_with fail
      rw [← hW]
      clear hW
      have M := HM.out
      clear HM y0 y1 y2 d0 d1 d2 ff c0 c1 c2 c3 c4 c5
      refine (spec_l8Known a.kind a.value 0 (.slice av a.kids.length ac) _).mono ?_
      rintro x w1 ⟨rfl, b1⟩
      rw [show (decide (a.kind = 1) && decide (a.value = 0)) = knownB a 0 from rfl]
      replace M := M.call b1
      clear b1
      cases hK : knownB a 0
      · have y0 := M.c 0 0 rfl rfl
        have y1 := M.c 0 1 rfl rfl
        have y2 := M.c 0 2 rfl rfl
        have d0 := M.c 1 0 rfl rfl
        have d1 := M.c 1 1 rfl rfl
        have d2 := M.c 1 2 rfl rfl
        have ff := M.f 1 rfl
        obtain ⟨c0, c1, c2, c3, c4, c5⟩ := HCELL.out _ (M.below fun _ _ => trivial)
        have HM := show Hid _ from M
        clear M
        go_wp2_with fail
        have M := HM.out
        clear HM y0 y1 y2 d0 d1 d2 ff c0 c1 c2 c3 c4 c5
        refine (spec_l8Known b.kind b.value 0 (.slice bv b.kids.length bc) _).mono ?_
        rintro x w1 ⟨rfl, b1⟩
        rw [show (decide (b.kind = 1) && decide (b.value = 0)) = knownB b 0 from rfl]
        replace M := M.call b1
        clear b1
        cases hK2 : knownB b 0
        · have HN : Hid (nodeE ⟨4, n, [a, b]⟩ = ⟨4, n, [a, b]⟩) := by rw [Hid, node2, if_neg HCN.out, if_neg (by simp [hK]), if_neg (by simp [hK2])]
          clear hK hK2
          have y0 := M.c 0 0 rfl rfl
          have y1 := M.c 0 1 rfl rfl
          have y2 := M.c 0 2 rfl rfl
          have d0 := M.c 1 0 rfl rfl
          have d1 := M.c 1 1 rfl rfl
          have d2 := M.c 1 2 rfl rfl
          have ff := M.f 1 rfl
          obtain ⟨c0, c1, c2, c3, c4, c5⟩ := HCELL.out _ (M.below fun _ _ => trivial)
          have HM := show Hid _ from ((M.set 1 rfl 0 (.int .i64 4)).set 1 rfl 1 (.int .i64 n)).set 1 rfl 2 (.slice (some ⟨g, off, none⟩) 2 cap)
          clear M
          go_wp2_with fail
          have M2 := HM.out
          have r0 : World.cell? _ ⟨w.heap.size + 1, 0, none⟩ = some (.int .i64 4) := M2.c 1 0 rfl rfl
          have r1 : World.cell? _ ⟨w.heap.size + 1, 1, none⟩ = some (.int .i64 n) := M2.c 1 1 rfl rfl
          have r2 : World.cell? _ ⟨w.heap.size + 1, 2, none⟩ = some (.slice (some ⟨g, off, none⟩) 2 cap) := M2.c 1 2 rfl rfl
          refine bodyPost_ret (v := .agg #[.int .i64 4, .int .i64 n, .slice (some ⟨g, off, none⟩) 2 cap]) (by simp [results, Try.results137, go_sem, r0, r1, r2]) rfl ?_
          rw [HN.out]
          exact ⟨_, _, rfl, HKK.out _ (M2.below fun _ _ => trivial) |>.2.2, M2.below fun _ _ => trivial⟩
        · have HN : Hid (nodeE ⟨4, n, [a, b]⟩ = a) := by rw [Hid, node2, if_neg HCN.out, if_neg (by simp [hK]), if_pos (by simp [hK2])]
          clear hK hK2
          have y0 := M.c 0 0 rfl rfl
          have y1 := M.c 0 1 rfl rfl
          have y2 := M.c 0 2 rfl rfl
          have d0 := M.c 1 0 rfl rfl
          have d1 := M.c 1 1 rfl rfl
          have d2 := M.c 1 2 rfl rfl
          have ff := M.f 1 rfl
          obtain ⟨c0, c1, c2, c3, c4, c5⟩ := HCELL.out _ (M.below fun _ _ => trivial)
          have HM := show Hid _ from ((M.set 1 rfl 0 (.int .i64 a.kind)).set 1 rfl 1 (.int .i64 a.value)).set 1 rfl 2 (.slice av a.kids.length ac)
          clear M
          go_wp2_with fail
          have M2 := HM.out
          have r0 : World.cell? _ ⟨w.heap.size + 1, 0, none⟩ = some (.int .i64 a.kind) := M2.c 1 0 rfl rfl
          have r1 : World.cell? _ ⟨w.heap.size + 1, 1, none⟩ = some (.int .i64 a.value) := M2.c 1 1 rfl rfl
          have r2 : World.cell? _ ⟨w.heap.size + 1, 2, none⟩ = some (.slice av a.kids.length ac) := M2.c 1 2 rfl rfl
          refine bodyPost_ret (v := .agg #[.int .i64 a.kind, .int .i64 a.value, .slice av a.kids.length ac]) (by simp [results, Try.results137, go_sem, r0, r1, r2]) rfl ?_
          rw [HN.out]
          exact ⟨_, _, rfl, HKK.out _ (M2.below fun _ _ => trivial) |>.1, M2.below fun _ _ => trivial⟩
      · have HN : Hid (nodeE ⟨4, n, [a, b]⟩ = b) := by rw [Hid, node2, if_neg HCN.out, if_pos (by simp [hK])]
        clear hK
        have y0 := M.c 0 0 rfl rfl
        have y1 := M.c 0 1 rfl rfl
        have y2 := M.c 0 2 rfl rfl
        have d0 := M.c 1 0 rfl rfl
        have d1 := M.c 1 1 rfl rfl
        have d2 := M.c 1 2 rfl rfl
        have ff := M.f 1 rfl
        obtain ⟨c0, c1, c2, c3, c4, c5⟩ := HCELL.out _ (M.below fun _ _ => trivial)
        have HM := show Hid _ from ((M.set 1 rfl 0 (.int .i64 b.kind)).set 1 rfl 1 (.int .i64 b.value)).set 1 rfl 2 (.slice bv b.kids.length bc)
        clear M
        go_wp2_with fail
        have M2 := HM.out
        have r0 : World.cell? _ ⟨w.heap.size + 1, 0, none⟩ = some (.int .i64 b.kind) := M2.c 1 0 rfl rfl
        have r1 : World.cell? _ ⟨w.heap.size + 1, 1, none⟩ = some (.int .i64 b.value) := M2.c 1 1 rfl rfl
        have r2 : World.cell? _ ⟨w.heap.size + 1, 2, none⟩ = some (.slice bv b.kids.length bc) := M2.c 1 2 rfl rfl
        refine bodyPost_ret (v := .agg #[.int .i64 b.kind, .int .i64 b.value, .slice bv b.kids.length bc]) (by simp [results, Try.results137, go_sem, r0, r1, r2]) rfl ?_
        rw [HN.out]
        exact ⟨_, _, rfl, HKK.out _ (M2.below fun _ _ => trivial) |>.2.1, M2.below fun _ _ => trivial⟩
    by_cases q8 : k = 8
    · subst q8
      have y0 := M.c 0 0 rfl rfl
      have y1 := M.c 0 1 rfl rfl
      have y2 := M.c 0 2 rfl rfl
      have d0 := M.c 1 0 rfl rfl
      have d1 := M.c 1 1 rfl rfl
      have d2 := M.c 1 2 rfl rfl
      have ff := M.f 1 rfl
      obtain ⟨c0, c1, c2, c3, c4, c5⟩ := HCELL.out _ (M.below fun _ _ => trivial)
      have HM := show Hid _ from M
      rw [hW] at y0 y1 y2 d0 d1 d2 ff c0 c1 c2 c3 c4 c5
      clear M
      go_enter Try.func137, Try.ntmps137
      go_wp2_with fail
      rw [← hW]
      clear hW
      have M := HM.out
      clear HM y0 y1 y2 d0 d1 d2 ff c0 c1 c2 c3 c4 c5
      refine (spec_l8Known a.kind a.value 0 (.slice av a.kids.length ac) _).mono ?_
      rintro x w1 ⟨rfl, b1⟩
      rw [show (decide (a.kind = 1) && decide (a.value = 0)) = knownB a 0 from rfl]
      replace M := M.call b1
      clear b1
      cases hK : knownB a 0
      · have y0 := M.c 0 0 rfl rfl
        have y1 := M.c 0 1 rfl rfl
        have y2 := M.c 0 2 rfl rfl
        have d0 := M.c 1 0 rfl rfl
        have d1 := M.c 1 1 rfl rfl
        have d2 := M.c 1 2 rfl rfl
        have ff := M.f 1 rfl
        obtain ⟨c0, c1, c2, c3, c4, c5⟩ := HCELL.out _ (M.below fun _ _ => trivial)
        have HM := show Hid _ from M
        clear M
        go_wp2_with fail
        have M := HM.out
        clear HM y0 y1 y2 d0 d1 d2 ff c0 c1 c2 c3 c4 c5
        refine (spec_l8Known b.kind b.value 0 (.slice bv b.kids.length bc) _).mono ?_
        rintro x w1 ⟨rfl, b1⟩
        rw [show (decide (b.kind = 1) && decide (b.value = 0)) = knownB b 0 from rfl]
        replace M := M.call b1
        clear b1
        cases hK2 : knownB b 0
        · have HN : Hid (nodeE ⟨8, n, [a, b]⟩ = ⟨8, n, [a, b]⟩) := by rw [Hid, node2, if_neg HCN.out, if_neg (by simp [hK]), if_neg (by simp [hK2])]
          clear hK hK2
          have y0 := M.c 0 0 rfl rfl
          have y1 := M.c 0 1 rfl rfl
          have y2 := M.c 0 2 rfl rfl
          have d0 := M.c 1 0 rfl rfl
          have d1 := M.c 1 1 rfl rfl
          have d2 := M.c 1 2 rfl rfl
          have ff := M.f 1 rfl
          obtain ⟨c0, c1, c2, c3, c4, c5⟩ := HCELL.out _ (M.below fun _ _ => trivial)
          have HM := show Hid _ from ((M.set 1 rfl 0 (.int .i64 8)).set 1 rfl 1 (.int .i64 n)).set 1 rfl 2 (.slice (some ⟨g, off, none⟩) 2 cap)
          clear M
          go_wp2_with fail
          have M2 := HM.out
          have r0 : World.cell? _ ⟨w.heap.size + 1, 0, none⟩ = some (.int .i64 8) := M2.c 1 0 rfl rfl
          have r1 : World.cell? _ ⟨w.heap.size + 1, 1, none⟩ = some (.int .i64 n) := M2.c 1 1 rfl rfl
          have r2 : World.cell? _ ⟨w.heap.size + 1, 2, none⟩ = some (.slice (some ⟨g, off, none⟩) 2 cap) := M2.c 1 2 rfl rfl
          refine bodyPost_ret (v := .agg #[.int .i64 8, .int .i64 n, .slice (some ⟨g, off, none⟩) 2 cap]) (by simp [results, Try.results137, go_sem, r0, r1, r2]) rfl ?_
          rw [HN.out]
          exact ⟨_, _, rfl, HKK.out _ (M2.below fun _ _ => trivial) |>.2.2, M2.below fun _ _ => trivial⟩
        · have HN : Hid (nodeE ⟨8, n, [a, b]⟩ = a) := by rw [Hid, node2, if_neg HCN.out, if_neg (by simp [hK]), if_pos (by simp [hK2])]
          clear hK hK2
          have y0 := M.c 0 0 rfl rfl
          have y1 := M.c 0 1 rfl rfl
          have y2 := M.c 0 2 rfl rfl
          have d0 := M.c 1 0 rfl rfl
          have d1 := M.c 1 1 rfl rfl
          have d2 := M.c 1 2 rfl rfl
          have ff := M.f 1 rfl
          obtain ⟨c0, c1, c2, c3, c4, c5⟩ := HCELL.out _ (M.below fun _ _ => trivial)
          have HM := show Hid _ from ((M.set 1 rfl 0 (.int .i64 a.kind)).set 1 rfl 1 (.int .i64 a.value)).set 1 rfl 2 (.slice av a.kids.length ac)
          clear M
          go_wp2_with fail
          have M2 := HM.out
          have r0 : World.cell? _ ⟨w.heap.size + 1, 0, none⟩ = some (.int .i64 a.kind) := M2.c 1 0 rfl rfl
          have r1 : World.cell? _ ⟨w.heap.size + 1, 1, none⟩ = some (.int .i64 a.value) := M2.c 1 1 rfl rfl
          have r2 : World.cell? _ ⟨w.heap.size + 1, 2, none⟩ = some (.slice av a.kids.length ac) := M2.c 1 2 rfl rfl
          refine bodyPost_ret (v := .agg #[.int .i64 a.kind, .int .i64 a.value, .slice av a.kids.length ac]) (by simp [results, Try.results137, go_sem, r0, r1, r2]) rfl ?_
          rw [HN.out]
          exact ⟨_, _, rfl, HKK.out _ (M2.below fun _ _ => trivial) |>.1, M2.below fun _ _ => trivial⟩
      · have HN : Hid (nodeE ⟨8, n, [a, b]⟩ = b) := by rw [Hid, node2, if_neg HCN.out, if_pos (by simp [hK])]
        clear hK
        have y0 := M.c 0 0 rfl rfl
        have y1 := M.c 0 1 rfl rfl
        have y2 := M.c 0 2 rfl rfl
        have d0 := M.c 1 0 rfl rfl
        have d1 := M.c 1 1 rfl rfl
        have d2 := M.c 1 2 rfl rfl
        have ff := M.f 1 rfl
        obtain ⟨c0, c1, c2, c3, c4, c5⟩ := HCELL.out _ (M.below fun _ _ => trivial)
        have HM := show Hid _ from ((M.set 1 rfl 0 (.int .i64 b.kind)).set 1 rfl 1 (.int .i64 b.value)).set 1 rfl 2 (.slice bv b.kids.length bc)
        clear M
        go_wp2_with fail
        have M2 := HM.out
        have r0 : World.cell? _ ⟨w.heap.size + 1, 0, none⟩ = some (.int .i64 b.kind) := M2.c 1 0 rfl rfl
        have r1 : World.cell? _ ⟨w.heap.size + 1, 1, none⟩ = some (.int .i64 b.value) := M2.c 1 1 rfl rfl
        have r2 : World.cell? _ ⟨w.heap.size + 1, 2, none⟩ = some (.slice bv b.kids.length bc) := M2.c 1 2 rfl rfl
        refine bodyPost_ret (v := .agg #[.int .i64 b.kind, .int .i64 b.value, .slice bv b.kids.length bc]) (by simp [results, Try.results137, go_sem, r0, r1, r2]) rfl ?_
        rw [HN.out]
        exact ⟨_, _, rfl, HKK.out _ (M2.below fun _ _ => trivial) |>.2.1, M2.below fun _ _ => trivial⟩
    by_cases q5 : k = 5
    · subst q5
      have y0 := M.c 0 0 rfl rfl
      have y1 := M.c 0 1 rfl rfl
      have y2 := M.c 0 2 rfl rfl
      have d0 := M.c 1 0 rfl rfl
      have d1 := M.c 1 1 rfl rfl
      have d2 := M.c 1 2 rfl rfl
      have ff := M.f 1 rfl
      obtain ⟨c0, c1, c2, c3, c4, c5⟩ := HCELL.out _ (M.below fun _ _ => trivial)
      have HM := show Hid _ from M
      rw [hW] at y0 y1 y2 d0 d1 d2 ff c0 c1 c2 c3 c4 c5
      clear M
      go_enter Try.func137, Try.ntmps137
      go_wp2_with fail
      rw [← hW]
      clear hW
      have M := HM.out
      clear HM y0 y1 y2 d0 d1 d2 ff c0 c1 c2 c3 c4 c5
      refine (spec_l8Known b.kind b.value 0 (.slice bv b.kids.length bc) _).mono ?_
      rintro x w1 ⟨rfl, b1⟩
      rw [show (decide (b.kind = 1) && decide (b.value = 0)) = knownB b 0 from rfl]
      replace M := M.call b1
      clear b1
      cases hK : knownB b 0
      · have HN : Hid (nodeE ⟨5, n, [a, b]⟩ = ⟨5, n, [a, b]⟩) := by rw [Hid, node2, if_neg HCN.out, if_neg (by simp), if_neg (by simp [hK])]
        clear hK
        have y0 := M.c 0 0 rfl rfl
        have y1 := M.c 0 1 rfl rfl
        have y2 := M.c 0 2 rfl rfl
        have d0 := M.c 1 0 rfl rfl
        have d1 := M.c 1 1 rfl rfl
        have d2 := M.c 1 2 rfl rfl
        have ff := M.f 1 rfl
        obtain ⟨c0, c1, c2, c3, c4, c5⟩ := HCELL.out _ (M.below fun _ _ => trivial)
        have HM := show Hid _ from ((M.set 1 rfl 0 (.int .i64 5)).set 1 rfl 1 (.int .i64 n)).set 1 rfl 2 (.slice (some ⟨g, off, none⟩) 2 cap)
        clear M
        go_wp2_with fail
        have M2 := HM.out
        have r0 : World.cell? _ ⟨w.heap.size + 1, 0, none⟩ = some (.int .i64 5) := M2.c 1 0 rfl rfl
        have r1 : World.cell? _ ⟨w.heap.size + 1, 1, none⟩ = some (.int .i64 n) := M2.c 1 1 rfl rfl
        have r2 : World.cell? _ ⟨w.heap.size + 1, 2, none⟩ = some (.slice (some ⟨g, off, none⟩) 2 cap) := M2.c 1 2 rfl rfl
        refine bodyPost_ret (v := .agg #[.int .i64 5, .int .i64 n, .slice (some ⟨g, off, none⟩) 2 cap]) (by simp [results, Try.results137, go_sem, r0, r1, r2]) rfl ?_
        rw [HN.out]
        exact ⟨_, _, rfl, HKK.out _ (M2.below fun _ _ => trivial) |>.2.2, M2.below fun _ _ => trivial⟩
      · have HN : Hid (nodeE ⟨5, n, [a, b]⟩ = a) := by rw [Hid, node2, if_neg HCN.out, if_neg (by simp), if_pos (by simp [hK])]
        clear hK
        have y0 := M.c 0 0 rfl rfl
        have y1 := M.c 0 1 rfl rfl
        have y2 := M.c 0 2 rfl rfl
        have d0 := M.c 1 0 rfl rfl
        have d1 := M.c 1 1 rfl rfl
        have d2 := M.c 1 2 rfl rfl
        have ff := M.f 1 rfl
        obtain ⟨c0, c1, c2, c3, c4, c5⟩ := HCELL.out _ (M.below fun _ _ => trivial)
        have HM := show Hid _ from ((M.set 1 rfl 0 (.int .i64 a.kind)).set 1 rfl 1 (.int .i64 a.value)).set 1 rfl 2 (.slice av a.kids.length ac)
        clear M
        go_wp2_with fail
        have M2 := HM.out
        have r0 : World.cell? _ ⟨w.heap.size + 1, 0, none⟩ = some (.int .i64 a.kind) := M2.c 1 0 rfl rfl
        have r1 : World.cell? _ ⟨w.heap.size + 1, 1, none⟩ = some (.int .i64 a.value) := M2.c 1 1 rfl rfl
        have r2 : World.cell? _ ⟨w.heap.size + 1, 2, none⟩ = some (.slice av a.kids.length ac) := M2.c 1 2 rfl rfl
        refine bodyPost_ret (v := .agg #[.int .i64 a.kind, .int .i64 a.value, .slice av a.kids.length ac]) (by simp [results, Try.results137, go_sem, r0, r1, r2]) rfl ?_
        rw [HN.out]
        exact ⟨_, _, rfl, HKK.out _ (M2.below fun _ _ => trivial) |>.1, M2.below fun _ _ => trivial⟩
    by_cases q6 : k = 6
    · subst q6
      have y0 := M.c 0 0 rfl rfl
      have y1 := M.c 0 1 rfl rfl
      have y2 := M.c 0 2 rfl rfl
      have d0 := M.c 1 0 rfl rfl
      have d1 := M.c 1 1 rfl rfl
      have d2 := M.c 1 2 rfl rfl
      have ff := M.f 1 rfl
      obtain ⟨c0, c1, c2, c3, c4, c5⟩ := HCELL.out _ (M.below fun _ _ => trivial)
      have HM := show Hid _ from M
      rw [hW] at y0 y1 y2 d0 d1 d2 ff c0 c1 c2 c3 c4 c5
      clear M
      go_enter Try.func137, Try.ntmps137
      go_wp2_with fail
      rw [← hW]
      clear hW
      have M := HM.out
      clear HM y0 y1 y2 d0 d1 d2 ff c0 c1 c2 c3 c4 c5
      refine (spec_l8Known a.kind a.value 1 (.slice av a.kids.length ac) _).mono ?_
      rintro x w1 ⟨rfl, b1⟩
      rw [show (decide (a.kind = 1) && decide (a.value = 1)) = knownB a 1 from rfl]
      replace M := M.call b1
      clear b1
      cases hK : knownB a 1
      · have y0 := M.c 0 0 rfl rfl
        have y1 := M.c 0 1 rfl rfl
        have y2 := M.c 0 2 rfl rfl
        have d0 := M.c 1 0 rfl rfl
        have d1 := M.c 1 1 rfl rfl
        have d2 := M.c 1 2 rfl rfl
        have ff := M.f 1 rfl
        obtain ⟨c0, c1, c2, c3, c4, c5⟩ := HCELL.out _ (M.below fun _ _ => trivial)
        have HM := show Hid _ from M
        clear M
        go_wp2_with fail
        have M := HM.out
        clear HM y0 y1 y2 d0 d1 d2 ff c0 c1 c2 c3 c4 c5
        refine (spec_l8Known b.kind b.value 1 (.slice bv b.kids.length bc) _).mono ?_
        rintro x w1 ⟨rfl, b1⟩
        rw [show (decide (b.kind = 1) && decide (b.value = 1)) = knownB b 1 from rfl]
        replace M := M.call b1
        clear b1
        cases hK2 : knownB b 1
        · have HN : Hid (nodeE ⟨6, n, [a, b]⟩ = ⟨6, n, [a, b]⟩) := by rw [Hid, node2, if_neg HCN.out, if_neg (by simp [hK]), if_neg (by simp [hK2])]
          clear hK hK2
          have y0 := M.c 0 0 rfl rfl
          have y1 := M.c 0 1 rfl rfl
          have y2 := M.c 0 2 rfl rfl
          have d0 := M.c 1 0 rfl rfl
          have d1 := M.c 1 1 rfl rfl
          have d2 := M.c 1 2 rfl rfl
          have ff := M.f 1 rfl
          obtain ⟨c0, c1, c2, c3, c4, c5⟩ := HCELL.out _ (M.below fun _ _ => trivial)
          have HM := show Hid _ from ((M.set 1 rfl 0 (.int .i64 6)).set 1 rfl 1 (.int .i64 n)).set 1 rfl 2 (.slice (some ⟨g, off, none⟩) 2 cap)
          clear M
          go_wp2_with fail
          have M2 := HM.out
          have r0 : World.cell? _ ⟨w.heap.size + 1, 0, none⟩ = some (.int .i64 6) := M2.c 1 0 rfl rfl
          have r1 : World.cell? _ ⟨w.heap.size + 1, 1, none⟩ = some (.int .i64 n) := M2.c 1 1 rfl rfl
          have r2 : World.cell? _ ⟨w.heap.size + 1, 2, none⟩ = some (.slice (some ⟨g, off, none⟩) 2 cap) := M2.c 1 2 rfl rfl
          refine bodyPost_ret (v := .agg #[.int .i64 6, .int .i64 n, .slice (some ⟨g, off, none⟩) 2 cap]) (by simp [results, Try.results137, go_sem, r0, r1, r2]) rfl ?_
          rw [HN.out]
          exact ⟨_, _, rfl, HKK.out _ (M2.below fun _ _ => trivial) |>.2.2, M2.below fun _ _ => trivial⟩
        · have HN : Hid (nodeE ⟨6, n, [a, b]⟩ = a) := by rw [Hid, node2, if_neg HCN.out, if_neg (by simp [hK]), if_pos (by simp [hK2])]
          clear hK hK2
          have y0 := M.c 0 0 rfl rfl
          have y1 := M.c 0 1 rfl rfl
          have y2 := M.c 0 2 rfl rfl
          have d0 := M.c 1 0 rfl rfl
          have d1 := M.c 1 1 rfl rfl
          have d2 := M.c 1 2 rfl rfl
          have ff := M.f 1 rfl
          obtain ⟨c0, c1, c2, c3, c4, c5⟩ := HCELL.out _ (M.below fun _ _ => trivial)
          have HM := show Hid _ from ((M.set 1 rfl 0 (.int .i64 a.kind)).set 1 rfl 1 (.int .i64 a.value)).set 1 rfl 2 (.slice av a.kids.length ac)
          clear M
          go_wp2_with fail
          have M2 := HM.out
          have r0 : World.cell? _ ⟨w.heap.size + 1, 0, none⟩ = some (.int .i64 a.kind) := M2.c 1 0 rfl rfl
          have r1 : World.cell? _ ⟨w.heap.size + 1, 1, none⟩ = some (.int .i64 a.value) := M2.c 1 1 rfl rfl
          have r2 : World.cell? _ ⟨w.heap.size + 1, 2, none⟩ = some (.slice av a.kids.length ac) := M2.c 1 2 rfl rfl
          refine bodyPost_ret (v := .agg #[.int .i64 a.kind, .int .i64 a.value, .slice av a.kids.length ac]) (by simp [results, Try.results137, go_sem, r0, r1, r2]) rfl ?_
          rw [HN.out]
          exact ⟨_, _, rfl, HKK.out _ (M2.below fun _ _ => trivial) |>.1, M2.below fun _ _ => trivial⟩
      · have HN : Hid (nodeE ⟨6, n, [a, b]⟩ = b) := by rw [Hid, node2, if_neg HCN.out, if_pos (by simp [hK])]
        clear hK
        have y0 := M.c 0 0 rfl rfl
        have y1 := M.c 0 1 rfl rfl
        have y2 := M.c 0 2 rfl rfl
        have d0 := M.c 1 0 rfl rfl
        have d1 := M.c 1 1 rfl rfl
        have d2 := M.c 1 2 rfl rfl
        have ff := M.f 1 rfl
        obtain ⟨c0, c1, c2, c3, c4, c5⟩ := HCELL.out _ (M.below fun _ _ => trivial)
        have HM := show Hid _ from ((M.set 1 rfl 0 (.int .i64 b.kind)).set 1 rfl 1 (.int .i64 b.value)).set 1 rfl 2 (.slice bv b.kids.length bc)
        clear M
        go_wp2_with fail
        have M2 := HM.out
        have r0 : World.cell? _ ⟨w.heap.size + 1, 0, none⟩ = some (.int .i64 b.kind) := M2.c 1 0 rfl rfl
        have r1 : World.cell? _ ⟨w.heap.size + 1, 1, none⟩ = some (.int .i64 b.value) := M2.c 1 1 rfl rfl
        have r2 : World.cell? _ ⟨w.heap.size + 1, 2, none⟩ = some (.slice bv b.kids.length bc) := M2.c 1 2 rfl rfl
        refine bodyPost_ret (v := .agg #[.int .i64 b.kind, .int .i64 b.value, .slice bv b.kids.length bc]) (by simp [results, Try.results137, go_sem, r0, r1, r2]) rfl ?_
        rw [HN.out]
        exact ⟨_, _, rfl, HKK.out _ (M2.below fun _ _ => trivial) |>.2.1, M2.below fun _ _ => trivial⟩
    have p4 : (k == 4) = false := by simp [q4]
    have p8 : (k == 8) = false := by simp [q8]
    have p5 : (k == 5) = false := by simp [q5]
    have p6 : (k == 6) = false := by simp [q6]
    have HN : Hid (nodeE ⟨k, n, [a, b]⟩ = ⟨k, n, [a, b]⟩) := by rw [Hid, node2, if_neg HCN.out, if_neg (by simp [q4, q5, q6, q8]), if_neg (by simp [q4, q5, q6, q8])]
    clear q4 q5 q6 q8
    have y0 := M.c 0 0 rfl rfl
    have y1 := M.c 0 1 rfl rfl
    have y2 := M.c 0 2 rfl rfl
    have d0 := M.c 1 0 rfl rfl
    have d1 := M.c 1 1 rfl rfl
    have d2 := M.c 1 2 rfl rfl
    have ff := M.f 1 rfl
    obtain ⟨c0, c1, c2, c3, c4, c5⟩ := HCELL.out _ (M.below fun _ _ => trivial)
    rw [hW] at y0 y1 y2 d0 d1 d2 ff c0 c1 c2 c3 c4 c5
    have HM : Hid (Mem (fun _ => True) (fun _ => True) w _ [.box w.heap.size [.int .i64 k, .int .i64 n, .slice (some ⟨g, off, none⟩) 2 cap], .box (w.heap.size + 1) [.int .i64 k, .int .i64 n, .slice (some ⟨g, off, none⟩) 2 cap]]) := ((Mem.start fun _ _ => trivial).box [.int .i64 k, .int .i64 n, .slice (some ⟨g, off, none⟩) 2 cap] 41).box' [.int .i64 k, .int .i64 n, .slice (some ⟨g, off, none⟩) 2 cap] 41 (by simp)
    clear M
    go_enter Try.func137, Try.ntmps137
    go_wp2_with fail
    have M2 := HM.out
    have r0 : World.cell? _ ⟨w.heap.size + 1, 0, none⟩ = some (.int .i64 k) := M2.c 1 0 rfl rfl
    have r1 : World.cell? _ ⟨w.heap.size + 1, 1, none⟩ = some (.int .i64 n) := M2.c 1 1 rfl rfl
    have r2 : World.cell? _ ⟨w.heap.size + 1, 2, none⟩ = some (.slice (some ⟨g, off, none⟩) 2 cap) := M2.c 1 2 rfl rfl
    refine bodyPost_ret (v := .agg #[.int .i64 k, .int .i64 n, .slice (some ⟨g, off, none⟩) 2 cap]) (by simp [results, Try.results137, go_sem, r0, r1, r2]) rfl ?_
    rw [HN.out]
    exact ⟨_, _, rfl, HKK.out _ (M2.below fun _ _ => trivial) |>.2.2, M2.below fun _ _ => trivial⟩

end Go.Proofs.Ytgpkdfefgcpbiaa
