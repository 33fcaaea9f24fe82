/-
  LCompileMap: the statement, whatever the argument. Conditions: none beyond the statement's own.
-/
import Derived.Test.YtimmlkmpbmbgdaaK6
import Derived.Test.YtimmlkmpbmbgdaaEnter1M
import Derived.Test.YtimmlkmpbmbgdaaEnter2M
import Derived.Test.YtimmlkmpbmbgdaaEnter3M
namespace Go.Proofs.Ytimmlkmpbmbgdaa.exLCompileMap
set_option linter.unusedVariables false
set_option linter.unusedSimpArgs false
open Go Go.RowKit Go.Proofs.Ytimmlkmpbmbgdaa

set_option maxRecDepth 100000 in
theorem c_DrawCM (c : List UInt8) : Ctr.ok Try.prog ⟨29, [.ref 0], [dY c], [dY c] ++ oP (drV c), oA 1⟩ := by
  refine rx_enter 5 Try.func29 (by rfl) (by kernel_rfl) (by kernel_rfl) ?_; intro ι φ ψ w0 w F ρ0 ρ a G; replace G := Gam.at G [dY c] [(0, .ref 0)]; refine wp_seq ?_; refine rs0 G [0, 1] [dY c, .box [.v (.slice none 0 0), .v (.slice none 0 0), .v (.slice none 0 0)]] [(0, .ref 0), (2, .ptr 1 0)] fun ρ a w G => th_n (wp_seq ?_); refine rs1 (dk := dkP) G ⟨[(1, _, [0])], [], []⟩ (calls_cons (c_DrawProgramValid (c)) calls_nil) trivial [0, 1, 10, 11, 12] [dY c, .box [.ref 2, .ref 3, .tref 4], .row 3 (D.ints (drV c).vars), .row 3 (D.ints (drV c).arrays), .tree (D.stmts (drV c).body)] [(2, .ptr 1 0)] [] trivial fun ρ a w G => th_n (wp_ret ?_); exact rx_ret (v := .agg [.ref 2, .ref 3, .tref 4]) G [0, 2, 3, 4] (by kernel_rfl) (by kernel_rfl) (by kernel_rfl) (by kernel_rfl)

set_option maxRecDepth 100000 in
theorem c_ctInts (xs : List Int) : Ctr.ok Try.prog (fnC 30 [.ref 0, .ref 1] [dI xs, dI xs] (bA true)) := by
  refine rx_enter 26 Try.func30 (by rfl) (by kernel_rfl) (by kernel_rfl) ?_; intro ι φ ψ w0 w F ρ0 ρ a G; replace G := Gam.at G [dI xs, dI xs] [(0, .ref 0), (1, .ref 1)]; have hl : xs.length ≤ 9223372036854775807 := G.len 0 (d := .ints xs) (by kernel_rfl); refine wp_seq ?_; refine rs0s G [(0, .ref 0), (1, .ref 1), (4, bA false)] fun ρ a w G => th_n (wp_seq (wp_seq ?_)); refine rs0s G [(0, .ref 0), (1, .ref 1), (4, bA false), (10, bA ((↑xs.length : Int) != (↑xs.length : Int)))] fun ρ a w G => th_n ?_; refine rF G ((↑xs.length : Int) != (↑xs.length : Int)) (by simp) ?_; refine wp_skip (th_n (wp_seq (wp_seq ?_))); refine rs0s G [(0, .ref 0), (1, .ref 1), (4, bA false), (5, iA 0)] fun ρ a w G => th_n (wp_block ?_); refine rx_for (κ := Nat) (fun k => k ≤ xs.length) (fun k => xs.length - k) (fun k => [dI xs, dI xs]) (fun k => [(0, .ref 0), (1, .ref 1), (4, bA false), (5, iA k)]) (0) (by omega) (Gam.at G _ _) ?_; clear G; intro k ρ a w hp G; replace G := Gam.at G [dI xs, dI xs] [(0, .ref 0), (1, .ref 1), (4, bA false), (5, iA (↑k : Int))]; refine wp_seq (wp_seq ?_); refine rs0s G [(0, .ref 0), (1, .ref 1), (4, bA false), (5, iA (↑k : Int)), (14, bA (decide ((↑k : Int) < (↑xs.length : Int))))] fun ρ a w G => th_n ?_; cases h0 : (decide ((↑k : Int) < (↑xs.length : Int)))
  · have q0 : ¬ ((↑k : Int) < (↑xs.length : Int)) := dFf h0; refine rF G (decide ((↑k : Int) < (↑xs.length : Int))) (by assumption) ?_; refine wp_exit (th_e (th_e (bl_hit (th_n (wp_seq ?_))))); refine rs0s G [(4, bA true)] fun ρ a w G => th_n (wp_ret ?_); exact rx_ret (v := bA true) G [0, 1] (by kernel_rfl) (by kernel_rfl) (by kernel_rfl) (by kernel_rfl)
  · have q0 : (↑k : Int) < (↑xs.length : Int) := dTt h0; refine rT G (decide ((↑k : Int) < (↑xs.length : Int))) (by assumption) ?_; refine wp_skip (th_n (wp_seq (wp_block (wp_seq ?_)))); refine rd1s G ⟨[], [], []⟩ calls_nil trivial [0, 0, 3, 7, 0, 0, 48, 112, 255] [(0, .ref 0), (1, .ref 1), (4, bA false), (5, iA (↑k : Int)), (25, bA (xs.getD k 0 != xs.getD k 0))] [(0 : Int) ≤ (↑k : Int), (↑k : Int) < (↑xs.length : Int), k < xs.length, (0 : Int) ≤ (↑k : Int), (↑k : Int) < (↑xs.length : Int), k < xs.length] ⟨(by simp [h0]), (by assumption), (by omega), (by simp [h0]), (by assumption), (by omega), trivial⟩ fun ρ a w G => th_n ?_; refine rF G (xs.getD k (0 : Int) != xs.getD k (0 : Int)) (by simp [h0]) ?_; refine wp_skip ?_; refine bl_n ?_; refine th_n ?_; refine rs1s G ⟨[], [], []⟩ calls_nil trivial [(0, .ref 0), (1, .ref 1), (4, bA false), (5, iA ((↑k : Int) + 1))] [IntKind.i64.wrap ((↑k : Int) + (1 : Int)) = (↑k : Int) + (1 : Int)] ⟨(by exact w64 (by omega) (by omega)), trivial⟩ fun ρ a w G => th_n ?_; exact rx_next G (k + 1) (by omega) (by omega) [0, 1] [dI xs, dI xs] [(0, .ref 0), (1, .ref 1), (4, bA false), (5, iA (↑(k + 1) : Int))] (by kernel_rfl) (by kernel_rfl) (by kernel_rfl) (by kernel_rfl) (by kernel_rfl)

theorem bb_no : ¬ ((!true) = true) := by decide
theorem map_len {p : LProg} (hb : szSs p.body ≤ 1048576) : (mapP p).length ≤ 5000010 := by
  unfold mapP comP comC
  have := com_bound p hb
  split
  · simp only [List.length_append, List.length_cons, List.length_nil]; omega
  · simp
theorem cnt_b {p : LProg} : 0 ≤ cntP p ∧ cntP p ≤ 60 := by
  unfold cntP
  split
  · rename_i h
    have := (progB_all h).2
    omega
  · omega
theorem seen_len : ∀ (a : List Int) (s : Int), seen s a ≤ s + a.length
  | [], s => by simp [seen]
  | x :: r, s => by
    rw [seen]
    have := seen_len r (if x = s then s + 1 else s)
    simp only [List.length_cons]
    split at this <;> (rename_i h; simp only [h, if_true, if_false]; omega)
theorem sn_le (p : LProg) (k : Nat) : snP p k ≤ k := by
  unfold snP
  have := seen_len ((mapP p).take k) 0
  simp only [List.length_take] at this
  omega
theorem last_i {p : LProg} (h : okC p = true) : 1 ≤ (mapP p).length ∧ (mapP p).getD (((mapP p).length : Int) - 1).toNat 0 = -1 := by
  have h1 := map_last h
  refine ⟨h1.1, ?_⟩
  rw [show (((mapP p).length : Int) - 1).toNat = (mapP p).length - 1 by omega]; exact h1.2
set_option maxRecDepth 100000 in
theorem c_law (c : List UInt8) : Ctr.ok Try.prog ⟨5, [.ref 0], [dY c], [dY c], bA true⟩ := by
  refine rx_enter 113 Try.func5 (by rfl) (by kernel_rfl) (by kernel_rfl) ?_; intro ι φ ψ w0 w F ρ0 ρ a G; replace G := Gam.at G [dY c] [(0, .ref 0)]; have hsz := drV_sz c
  have hb : szSs (drV c).body ≤ 1048576 := by unfold LProg.size at hsz; omega
  have hml := map_len hb; have hcn := cnt_b (p := drV c); refine wp_seq ?_; refine rs0s G [(0, .ref 0), (2, bA false)] fun ρ a w G => th_n (wp_seq (wp_seq ?_)); refine rs0s G [(0, .ref 0), (2, bA false), (15, bA (decide ((↑c.length : Int) > 1048576)))] fun ρ a w G => th_n ?_; cases h0 : (decide ((↑c.length : Int) > (1048576 : Int)))
  ·
   have q0 : ¬ ((↑c.length : Int) > 1048576) := dFf h0; refine rF G (decide ((↑c.length : Int) > (1048576 : Int))) (by assumption) ?_; refine wp_skip (th_n (wp_seq ?_)); refine rs1 (dk := dkP) G ⟨[(1, _, [0])], [], []⟩ (calls_cons (c_DrawCM (c)) calls_nil) trivial [0, 9, 10, 11, 17] [dY c, .row 3 (D.ints (drV c).vars), .row 3 (D.ints (drV c).arrays), .tree (D.stmts (drV c).body), .box [.ref 1, .ref 2, .tref 3]] [(2, bA false), (3, .ptr 4 0)] [] trivial fun ρ a w G => th_n (wp_seq ?_); refine rs1 (dk := dkP) G ⟨[(1, _, [1, 2, 3])], [], []⟩ (calls_cons (Ctr.lend (c_iCompileMap (drV c) (by assumption)) [.row 3, .row 3, .tree]) calls_nil) trivial [0, 1, 2, 3, 4, 13] [dY c, .row 3 (D.ints (drV c).vars), .row 3 (D.ints (drV c).arrays), .tree (D.stmts (drV c).body), .box [.ref 1, .ref 2, .tref 3], .row 3 (D.ints (mapP (drV c)))] [(2, bA false), (3, .ptr 4 0), (4, .ref 5), (5, bA (okC (drV c)))] [] trivial fun ρ a w G => th_n (wp_seq ?_); refine rs1 (dk := dkP) G ⟨[(1, _, [1, 2, 3])], [], []⟩ (calls_cons (Ctr.lend (c_CompileMap (drV c) (by assumption)) [.row 3, .row 3, .tree]) calls_nil) trivial [0, 1, 2, 3, 4, 5, 14] [dY c, .row 3 (D.ints (drV c).vars), .row 3 (D.ints (drV c).arrays), .tree (D.stmts (drV c).body), .box [.ref 1, .ref 2, .tref 3], .row 3 (D.ints (mapP (drV c))), .row 3 (D.ints (mapP (drV c)))] [(2, bA false), (3, .ptr 4 0), (4, .ref 5), (5, bA (okC (drV c))), (6, .ref 6), (7, bA (okC (drV c)))] [] trivial fun ρ a w G => th_n (wp_seq (wp_seq ?_)); refine rs1s G ⟨[(6, _, [5, 6])], [(!okC (drV c) == okC (drV c), false), (false, false)], us [(4, 7, 0), (1008, 1008, 0), (10, 11, 1), (1012, 1012, 1)]⟩ (calls_cons (Ctr.lend (c_ctInts (mapP (drV c))) [.row 3, .row 3]) calls_nil) ⟨(by simp [h0]), (by kernel_rfl), trivial⟩ [(2, bA false), (3, .ptr 4 0), (4, .ref 5), (5, bA (okC (drV c))), (6, .ref 6), (7, bA (okC (drV c))), (40, .v (.bool !okC (drV c)))] [] trivial fun ρ a w G => th_n ?_; cases h1 : (!okC (drV c))
   ·
    have q1 : (okC (drV c)) = true := (Eq.mp (Bool.not_eq_false' _) h1)
    have hok : okC (drV c) = true := by with_reducible assumption
    have hmc := map_code (p := drV c) hok; have hla := last_i (p := drV c) hok; refine rF G (!okC (drV c)) (by assumption) ?_; refine wp_skip (th_n (wp_seq ?_)); refine rs1 (dk := dkP) G ⟨[(1, _, [1, 2, 3])], [], []⟩ (calls_cons (Ctr.lend (c_iCompileProgram (drV c) (by exact Nat.le_trans hsz (by omega))) [.row 3, .row 3, .tree]) calls_nil) trivial [0, 1, 2, 3, 4, 5, 15, 16, 17, 47] [dY c, .row 3 (D.ints (drV c).vars), .row 3 (D.ints (drV c).arrays), .tree (D.stmts (drV c).body), .box [.ref 1, .ref 2, .tref 3], .row 3 (D.ints (mapP (drV c))), .row 3 (D.ints (cvP (drV c))), .row 3 (D.ints (caP (drV c))), .row 50 (D.instrs (comP (drV c)).fst), .box (pL 6)] [(2, bA false), (3, .ptr 4 0), (4, .ref 5), (8, .ptr 9 0), (9, bA (okC (drV c)))] [] trivial fun ρ a w G => th_n (wp_seq ?_); refine rs1 (dk := dkP) G ⟨[(1, _, [1, 2, 3])], [], []⟩ (calls_cons (Ctr.lend (c_CountStmts (drV c) (by assumption)) [.row 3, .row 3, .tree]) calls_nil) trivial [0, 5, 6, 7, 8, 9] [dY c, .row 3 (D.ints (mapP (drV c))), .row 3 (D.ints (cvP (drV c))), .row 3 (D.ints (caP (drV c))), .row 50 (D.instrs (comP (drV c)).fst), .box (pL 2)] [(2, bA false), (4, .ref 1), (8, .ptr 5 0), (9, bA (okC (drV c))), (10, iA (cntP (drV c)))] [] trivial fun ρ a w G => th_n (wp_seq ?_); refine rs0s G [(2, bA false), (4, .ref 1), (8, .ptr 5 0), (9, bA (okC (drV c))), (10, iA (cntP (drV c))), (11, iA 0)] fun ρ a w G => th_n (wp_seq (wp_seq ?_)); refine rs0s G [(2, bA false), (4, .ref 1), (8, .ptr 5 0), (9, bA (okC (drV c))), (10, iA (cntP (drV c))), (11, iA 0), (12, iA 0)] fun ρ a w G => th_n (wp_block ?_); refine rx_for (κ := Nat) (fun k => k ≤ (mapP (drV c)).length) (fun k => (mapP (drV c)).length - k) (fun k => [dY c, .row 3 (D.ints (mapP (drV c))), .row 3 (D.ints (cvP (drV c))), .row 3 (D.ints (caP (drV c))), .row 50 (D.instrs (comP (drV c)).fst), .box (pL 2)]) (fun k => [(2, bA false), (4, .ref 1), (8, .ptr 5 0), (9, bA (okC (drV c))), (10, iA (cntP (drV c))), (11, iA (snP (drV c) k)), (12, iA k)]) (0) (by simp [h0, h1, q1, hok]) (Gam.at G _ _) ?_; clear G; intro k ρ a w hp G; replace G := Gam.at G [dY c, .row 3 (D.ints (mapP (drV c))), .row 3 (D.ints (cvP (drV c))), .row 3 (D.ints (caP (drV c))), .row 50 (D.instrs (comP (drV c)).fst), .box (pL 2)] [(2, bA false), (4, .ref 1), (8, .ptr 5 0), (9, bA (okC (drV c))), (10, iA (cntP (drV c))), (11, iA (snP (drV c) k)), (12, iA (↑k : Int))]
    have hsn := fun (hk : k < (mapP (drV c)).length) => sn_at (p := drV c) hok hk
    have hse := fun (hk : (mapP (drV c)).length ≤ k) => sn_end (p := drV c) hok hk
    refine wp_seq (wp_seq ?_); refine rs0s G [(2, bA false), (4, .ref 1), (8, .ptr 5 0), (9, bA (okC (drV c))), (10, iA (cntP (drV c))), (11, iA (snP (drV c) k)), (12, iA (↑k : Int)), (59, bA (decide ((↑k : Int) < (↑(mapP (drV c)).length : Int))))] fun ρ a w G => th_n ?_; cases h2 : (decide ((↑k : Int) < (↑(mapP (drV c)).length : Int)))
    ·
     have q2 : ¬ ((↑k : Int) < (↑(mapP (drV c)).length : Int)) := dFf h2; refine rF G (decide ((↑k : Int) < (↑(mapP (drV c)).length : Int))) (by assumption) ?_; refine wp_exit (th_e (th_e (bl_hit (th_n (wp_seq ?_))))); cases h3 : ((↑(mapP (drV c)).length : Int) == (↑(comP (drV c)).fst.length : Int))
     · have q3 : ¬ ((↑(mapP (drV c)).length : Int) = (↑(comP (drV c)).fst.length : Int)) := ne_of_beq_false h3; exact False.elim (by have h9 := hse (by omega); omega)
     ·
      have q3 : (↑(mapP (drV c)).length : Int) = (↑(comP (drV c)).fst.length : Int) := eq_of_beq h3; cases h4 : (snP (drV c) k == cntP (drV c))
      · have q4 : ¬ (snP (drV c) k = cntP (drV c)) := ne_of_beq_false h4; exact False.elim (by have h9 := hse (by omega); omega)
      · have q4 : snP (drV c) k = cntP (drV c) := eq_of_beq h4; refine rs1 (dk := dkP) G ⟨[], [(okC (drV c), true), ((↑(mapP (drV c)).length : Int) == (↑(comP (drV c)).fst.length : Int), true), (snP (drV c) k == cntP (drV c), true)], us [(2, 7, 0), (1008, 1008, 0), (10, 12, 1), (1013, 1013, 1), (15, 21, 2), (1022, 1022, 2)]⟩ calls_nil ⟨(by assumption), (by assumption), (by assumption), trivial⟩ [0] [dY c] [(2, bA ((mapP (drV c)).getD ((↑(mapP (drV c)).length : Int) - 1).toNat 0 == -1))] [IntKind.i64.wrap ((↑(mapP (drV c)).length : Int) - (1 : Int)) = (↑(mapP (drV c)).length : Int) - (1 : Int), (0 : Int) ≤ (↑(mapP (drV c)).length : Int) - (1 : Int), (↑(mapP (drV c)).length : Int) - (1 : Int) < (↑(mapP (drV c)).length : Int), ((↑(mapP (drV c)).length : Int) - (1 : Int)).toNat < (mapP (drV c)).length] ⟨(by exact w64 (by omega) (by omega)), (by have h9 := hse (by omega); omega), (by have h9 := hse (by omega); omega), (by have h9 := hse (by omega); omega), trivial⟩ fun ρ a w G => th_n (wp_ret ?_); exact rx_ret (v := bA ((mapP (drV c)).getD ((↑(mapP (drV c)).length : Int) - 1).toNat 0 == -1)) G [0] (by kernel_rfl) (by kernel_rfl) (by kernel_rfl) (by have e1 : (true : Bool) = ((mapP (drV c)).getD ((↑(mapP (drV c)).length : Int) - 1).toNat 0 == -1) := (by exact (beq_iff_eq.2 hla.2).symm); (first | rw [e1] | simp only [e1]) <;> rfl)
    ·
     have q2 : (↑k : Int) < (↑(mapP (drV c)).length : Int) := dTt h2; refine rT G (decide ((↑k : Int) < (↑(mapP (drV c)).length : Int))) (by assumption) ?_; refine wp_skip (th_n (wp_seq (wp_block (wp_seq (wp_seq ?_))))); refine rs1s G ⟨[], [], []⟩ calls_nil trivial [(2, bA false), (4, .ref 1), (8, .ptr 5 0), (9, bA (okC (drV c))), (10, iA (cntP (drV c))), (11, iA (snP (drV c) k)), (12, iA (↑k : Int)), (67, bA ((mapP (drV c)).getD k 0 == snP (drV c) k))] [(0 : Int) ≤ (↑k : Int), (↑k : Int) < (↑(mapP (drV c)).length : Int), k < (mapP (drV c)).length] ⟨(by simp [h0, h1, q1, hok, h2]), (by assumption), (by omega), trivial⟩ fun ρ a w G => th_n ?_; cases h5 : ((mapP (drV c)).getD k (0 : Int) == snP (drV c) k)
     ·
      have q5 : ¬ ((mapP (drV c)).getD k 0 = snP (drV c) k) := ne_of_beq_false h5; refine rF G ((mapP (drV c)).getD k (0 : Int) == snP (drV c) k) (by assumption) ?_; refine wp_skip (th_n (wp_seq ?_)); cases h6 : (decide ((mapP (drV c)).getD k (0 : Int) > snP (drV c) k))
      ·
       have q6 : ¬ ((mapP (drV c)).getD k 0 > snP (drV c) k) := dFf h6; cases h7 : (decide ((mapP (drV c)).getD k (0 : Int) < (0 : Int)))
       · have q7 : ¬ ((mapP (drV c)).getD k 0 < 0) := dFf h7; refine rs1s G ⟨[], [(decide ((mapP (drV c)).getD k (0 : Int) > snP (drV c) k), false), (decide ((mapP (drV c)).getD k (0 : Int) < (0 : Int)), false)], us [(7, 12, 0), (13, 17, 1), (18, 18, 0), (1018, 1018, 1), (1019, 1019, 0)]⟩ calls_nil ⟨(by assumption), (by assumption), trivial⟩ [(2, bA false), (4, .ref 1), (8, .ptr 5 0), (9, bA (okC (drV c))), (10, iA (cntP (drV c))), (11, iA (snP (drV c) k)), (12, iA (↑k : Int)), (89, bA false)] [(0 : Int) ≤ (↑k : Int), (↑k : Int) < (↑(mapP (drV c)).length : Int), k < (mapP (drV c)).length, (0 : Int) ≤ (↑k : Int), (↑k : Int) < (↑(mapP (drV c)).length : Int), k < (mapP (drV c)).length] ⟨(by simp [h0, h1, q1, hok, h2, h5, h6, h7]), (by assumption), (by omega), (by simp [h0, h1, q1, hok, h2, h5, h6, h7]), (by assumption), (by omega), trivial⟩ fun ρ a w G => th_n ?_; refine rF G (false) (by kernel_rfl) ?_; refine wp_skip ?_; refine bl_n ?_; refine th_n ?_; refine rs1s G ⟨[], [], []⟩ calls_nil trivial [(2, bA false), (4, .ref 1), (8, .ptr 5 0), (9, bA (okC (drV c))), (10, iA (cntP (drV c))), (11, iA (snP (drV c) k)), (12, iA ((↑k : Int) + 1))] [IntKind.i64.wrap ((↑k : Int) + (1 : Int)) = (↑k : Int) + (1 : Int)] ⟨(by have h9 := (hsn (by omega)).1; have h8 := sn_le (drV c) k; exact w64 (by omega) (by omega)), trivial⟩ fun ρ a w G => th_n ?_; exact rx_next G (k + 1) (by omega) (by omega) (rg 6) [dY c, .row 3 (D.ints (mapP (drV c))), .row 3 (D.ints (cvP (drV c))), .row 3 (D.ints (caP (drV c))), .row 50 (D.instrs (comP (drV c)).fst), .box (pL 2)] [(2, bA false), (4, .ref 1), (8, .ptr 5 0), (9, bA (okC (drV c))), (10, iA (cntP (drV c))), (11, iA (snP (drV c) (k + 1))), (12, iA (↑(k + 1) : Int))] (by kernel_rfl) (by kernel_rfl) (by kernel_rfl) (by kernel_rfl) (by have e1 : (snP (drV c) (k + 1) : Int) = (snP (drV c) k) := (by rw [sn_next (by omega), if_neg (by omega)]; done); (first | rw [e1] | simp only [e1]) <;> rfl)
       ·
        have q7 : (mapP (drV c)).getD k 0 < 0 := dTt h7; refine rs1s G ⟨[], [(decide ((mapP (drV c)).getD k (0 : Int) > snP (drV c) k), false), (decide ((mapP (drV c)).getD k (0 : Int) < (0 : Int)), true)], us [(7, 12, 0), (13, 17, 1), (18, 18, 0), (1018, 1018, 1), (1019, 1019, 0)]⟩ calls_nil ⟨(by assumption), (by assumption), trivial⟩ [(2, bA false), (4, .ref 1), (8, .ptr 5 0), (9, bA (okC (drV c))), (10, iA (cntP (drV c))), (11, iA (snP (drV c) k)), (12, iA (↑k : Int)), (89, bA (decide ((↑k : Int) + 1 < (↑(mapP (drV c)).length : Int))))] [(0 : Int) ≤ (↑k : Int), (↑k : Int) < (↑(mapP (drV c)).length : Int), k < (mapP (drV c)).length, (0 : Int) ≤ (↑k : Int), (↑k : Int) < (↑(mapP (drV c)).length : Int), k < (mapP (drV c)).length, IntKind.i64.wrap ((↑k : Int) + (1 : Int)) = (↑k : Int) + (1 : Int)] ⟨(by simp [h0, h1, q1, hok, h2, h5, h6, h7]), (by assumption), (by omega), (by simp [h0, h1, q1, hok, h2, h5, h6, h7]), (by assumption), (by omega), (by have h9 := (hsn (by omega)).1; have h8 := sn_le (drV c) k; exact w64 (by omega) (by omega)), trivial⟩ fun ρ a w G => th_n ?_; cases h8 : (decide ((↑k : Int) + (1 : Int) < (↑(mapP (drV c)).length : Int)))
        · have q8 : ¬ ((↑k : Int) + 1 < (↑(mapP (drV c)).length : Int)) := dFf h8; refine rF G (decide ((↑k : Int) + (1 : Int) < (↑(mapP (drV c)).length : Int))) (by assumption) ?_; refine wp_skip ?_; refine bl_n ?_; refine th_n ?_; refine rs1s G ⟨[], [], []⟩ calls_nil trivial [(2, bA false), (4, .ref 1), (8, .ptr 5 0), (9, bA (okC (drV c))), (10, iA (cntP (drV c))), (11, iA (snP (drV c) k)), (12, iA ((↑k : Int) + 1))] [IntKind.i64.wrap ((↑k : Int) + (1 : Int)) = (↑k : Int) + (1 : Int)] ⟨(by have h9 := (hsn (by omega)).1; have h8 := sn_le (drV c) k; exact w64 (by omega) (by omega)), trivial⟩ fun ρ a w G => th_n ?_; exact rx_next G (k + 1) (by omega) (by omega) (rg 6) [dY c, .row 3 (D.ints (mapP (drV c))), .row 3 (D.ints (cvP (drV c))), .row 3 (D.ints (caP (drV c))), .row 50 (D.instrs (comP (drV c)).fst), .box (pL 2)] [(2, bA false), (4, .ref 1), (8, .ptr 5 0), (9, bA (okC (drV c))), (10, iA (cntP (drV c))), (11, iA (snP (drV c) (k + 1))), (12, iA (↑(k + 1) : Int))] (by kernel_rfl) (by kernel_rfl) (by kernel_rfl) (by kernel_rfl) (by have e1 : (snP (drV c) (k + 1) : Int) = (snP (drV c) k) := (by rw [sn_next (by omega), if_neg (by omega)]; done); (first | rw [e1] | simp only [e1]) <;> rfl)
        · have q8 : (↑k : Int) + 1 < (↑(mapP (drV c)).length : Int) := dTt h8; exact False.elim (by have h9 := hse (by omega); omega)
      · have q6 : (mapP (drV c)).getD k 0 > snP (drV c) k := dTt h6; exact False.elim (by have h9 := hse (by omega); omega)
     ·
      have q5 : (mapP (drV c)).getD k 0 = snP (drV c) k := eq_of_beq h5; refine rT G ((mapP (drV c)).getD k (0 : Int) == snP (drV c) k) (by assumption) ?_; refine rs1s G ⟨[], [], []⟩ calls_nil trivial [(2, bA false), (4, .ref 1), (8, .ptr 5 0), (9, bA (okC (drV c))), (10, iA (cntP (drV c))), (11, iA (snP (drV c) k + 1)), (12, iA (↑k : Int))] [IntKind.i64.wrap (snP (drV c) k + (1 : Int)) = snP (drV c) k + (1 : Int)] ⟨(by have h9 := (hsn (by omega)).1; have h8 := sn_le (drV c) k; exact w64 (by omega) (by omega)), trivial⟩ fun ρ a w G => th_n (wp_seq ?_); cases h9 : (decide ((mapP (drV c)).getD k (0 : Int) > snP (drV c) k + (1 : Int)))
      ·
       have q9 : ¬ ((mapP (drV c)).getD k 0 > snP (drV c) k + 1) := dFf h9; cases h10 : (decide ((mapP (drV c)).getD k (0 : Int) < (0 : Int)))
       · have q10 : ¬ ((mapP (drV c)).getD k 0 < 0) := dFf h10; refine rs1s G ⟨[], [(decide ((mapP (drV c)).getD k (0 : Int) > snP (drV c) k + (1 : Int)), false), (decide ((mapP (drV c)).getD k (0 : Int) < (0 : Int)), false)], us [(7, 12, 0), (13, 17, 1), (18, 18, 0), (1018, 1018, 1), (1019, 1019, 0)]⟩ calls_nil ⟨(by assumption), (by assumption), trivial⟩ [(2, bA false), (4, .ref 1), (8, .ptr 5 0), (9, bA (okC (drV c))), (10, iA (cntP (drV c))), (11, iA (snP (drV c) k + 1)), (12, iA (↑k : Int)), (89, bA false)] [(0 : Int) ≤ (↑k : Int), (↑k : Int) < (↑(mapP (drV c)).length : Int), k < (mapP (drV c)).length, (0 : Int) ≤ (↑k : Int), (↑k : Int) < (↑(mapP (drV c)).length : Int), k < (mapP (drV c)).length] ⟨(by simp [h0, h1, q1, hok, h2, h5, h9, h10]), (by assumption), (by omega), (by simp [h0, h1, q1, hok, h2, h5, h9, h10]), (by assumption), (by omega), trivial⟩ fun ρ a w G => th_n ?_; refine rF G (false) (by kernel_rfl) ?_; refine wp_skip ?_; refine bl_n ?_; refine th_n ?_; refine rs1s G ⟨[], [], []⟩ calls_nil trivial [(2, bA false), (4, .ref 1), (8, .ptr 5 0), (9, bA (okC (drV c))), (10, iA (cntP (drV c))), (11, iA (snP (drV c) k + 1)), (12, iA ((↑k : Int) + 1))] [IntKind.i64.wrap ((↑k : Int) + (1 : Int)) = (↑k : Int) + (1 : Int)] ⟨(by have h9 := (hsn (by omega)).1; have h8 := sn_le (drV c) k; exact w64 (by omega) (by omega)), trivial⟩ fun ρ a w G => th_n ?_; exact rx_next G (k + 1) (by omega) (by omega) (rg 6) [dY c, .row 3 (D.ints (mapP (drV c))), .row 3 (D.ints (cvP (drV c))), .row 3 (D.ints (caP (drV c))), .row 50 (D.instrs (comP (drV c)).fst), .box (pL 2)] [(2, bA false), (4, .ref 1), (8, .ptr 5 0), (9, bA (okC (drV c))), (10, iA (cntP (drV c))), (11, iA (snP (drV c) (k + 1))), (12, iA (↑(k + 1) : Int))] (by kernel_rfl) (by kernel_rfl) (by kernel_rfl) (by kernel_rfl) (by have e1 : (snP (drV c) (k + 1) : Int) = (snP (drV c) k + 1) := (by rw [sn_next (by omega), if_pos (by omega)]; done); (first | rw [e1] | simp only [e1]) <;> rfl)
       · have q10 : (mapP (drV c)).getD k 0 < 0 := dTt h10; exact False.elim (by have h9 := hse (by omega); omega)
      · have q9 : (mapP (drV c)).getD k 0 > snP (drV c) k + 1 := dTt h9; exact False.elim (by have h9 := hse (by omega); omega)
   · have q1 : (okC (drV c)) = false := (Eq.mp (Bool.not_eq_true' _) h1); refine rT G (!okC (drV c)) (by assumption) ?_; refine wp_seq ?_; refine rs1 (dk := dkP) G ⟨[(6, _, [5, 6])], [(okC (drV c) == okC (drV c), true)], [(4, 0), (5, 0), (6, 0), (1007, 0)]⟩ (calls_cons (Ctr.lend (c_ctInts (mapP (drV c))) [.row 3, .row 3]) calls_nil) ⟨(by rw [q1]; rfl), trivial⟩ (rg 6) [dY c, .row 3 (D.ints (drV c).vars), .row 3 (D.ints (drV c).arrays), .tree (D.stmts (drV c).body), .box [.ref 1, .ref 2, .tref 3], .row 3 (D.ints (mapP (drV c)))] [(2, bA true), (3, .ptr 4 0), (4, .ref 5)] [] trivial fun ρ a w G => th_n (wp_ret (th_r ?_)); exact rx_ret (v := bA true) G [0] (by kernel_rfl) (by kernel_rfl) (by kernel_rfl) (by kernel_rfl)
  · have q0 : (↑c.length : Int) > 1048576 := dTt h0; refine rT G (decide ((↑c.length : Int) > (1048576 : Int))) (by assumption) ?_; refine wp_seq ?_; refine rs0s G [(0, .ref 0), (2, bA true)] fun ρ a w G => th_n (wp_ret (th_r ?_)); exact rx_ret (v := bA true) G [0] (by kernel_rfl) (by kernel_rfl) (by kernel_rfl) (by kernel_rfl)

theorem walk (u : Value) (c : List UInt8) (w : World) (hp : Row w u c.length 1 (u8s c)) : Calls Try.prog 5 #[u] w fun e w' => e = .returned (.bool true) ∧ Below w.heap.size w w' :=
  bytes_law (c_law c) u w (hp.rowF fun _ _ => trivial)

end Go.Proofs.Ytimmlkmpbmbgdaa.exLCompileMap

namespace Go.Proofs.Ytimmlkmpbmbgdaa.exLCompileMap
set_option linter.unusedVariables false
set_option linter.unusedSimpArgs false
open Go Go.RowKit Go.ChangeShapes Go.WideShapes Go.ChangeAt Go.Proofs.Ytimmlkmpbmbgdaa

set_option maxRecDepth 100000 in
theorem lifted (os : Os) (started : os.Started) (H : Type) (enc : TypeId × Value → H) :
    ReturnsInHanded {} Try.checked os 5 .any (Rows.fnCompileMapSpec.pre6 enc Try.prog Try.f5 Rows.fnCompileMapRow.domain false) (Rows.fnCompileMapSpec.post enc Try.prog Try.f5 false true false false) := by
  refine returnsInHanded_of_change (C := Try.checked) own started (by kernel_rfl) Try.func5
    (ChangeSpec.witness6 (enc := enc) (C := Try.checked) false ⟨#[], #[.slice none 0 0], []⟩ 8 (by kernel_rfl) (by kernel_rfl) (by kernel_rfl) (by kernel_rfl)) ?_
  intro W base args ds gs before hval0 hW hcnd _
  have hval : ∀ (j : Nat) t v, Try.f5.params[j]? = some t → args[j]? = some v → Value.okWide Try.prog W .any base t v := hval0
  have hW' := hW
  obtain ⟨p, q, hA0, hV, rfl, hfz, hnd⟩ := hW
  have hA : DataW.TrodAll enc Try.prog W 0 (fun _ => true) true Try.f5.params.toList args.toList ds p := hA0
  rw [Try.params5] at hA hval
  obtain ⟨v0, vs0, d0, ds0, p0, q0, hargs, rfl, rfl, h0, r0⟩ := trodAll_cons hA
  obtain ⟨rfl, rfl, rfl⟩ := trodAll_nil r0
  obtain rfl : args = #[v0] := by cases args; simp_all
  obtain ⟨rfl, rfl⟩ := trodVars_none hV
  have k0 := h0
  have lt0 : ∀ x ∈ p0, x.block < W.heap.size := by obtain ⟨m, hm⟩ := k0; exact DataW.trod_lt m _ _ _ hm
  obtain ⟨a0, len0, cap0, rfl⟩ := okWide_slice Try.underlying45 (hval 0 45 v0 rfl rfl)
  obtain ⟨x0, hx0⟩ : ∃ l : List UInt8, Row W (.slice a0 len0 cap0) l.length 1 (u8s l) := by
    obtain ⟨fuel, hf⟩ := h0
    exact bytes_of_trod Try.underlying45 hf
  clear hA0 hval0
  refine (walk _ x0 W hx0).mono fun e W' ⟨he, bel⟩ => ?_
  subst he
  exact ⟨_, rfl, _, _, _, [], _, [], hW', trodAll_mk1 (shut_bool Try.underlying4 _), (trodAll_cons_mk (Below.trod laidOut (by kernel_rfl) (of_decide_eq_true (by kernel_rfl)) k0 bel lt0) trodAll_mk0), rfl, bel.frame _, fun h => by cases h⟩

theorem facts : joinedFacts Try.pinned.checked.prog 5 Try.f5 Rows.fnCompileMapSpec Rows.fnCompileMapRow = true := by
  unfold joinedFacts
  rw [may_enter, lifts_final, make_is]
  kernel_rfl

theorem over : Rows.fnCompileMapRow.holds Try.pinned (OpenSpec.ofChange Rows.fnCompileMapSpec) :=
  OpenClaim.holds_of_wide 5 Try.f5 rfl rfl rfl rfl rfl rfl rfl ⟨rfl, rfl, rfl, rfl, rfl⟩ rfl rfl rfl rfl rfl (by kernel_rfl) Try.func5 facts
    (of_decide_eq_true (by kernel_rfl)) (by unfold Func.isWrapper; first | (rw [if_pos (by decide +kernel)]; kernel_rfl) | (rw [if_neg (by decide +kernel)]; exact ⟨rfl, rfl⟩))
    (fun os started H enc _ => lifted os started H enc)

theorem proved : Rows.FnCompileMapSaid := over
end Go.Proofs.Ytimmlkmpbmbgdaa.exLCompileMap
