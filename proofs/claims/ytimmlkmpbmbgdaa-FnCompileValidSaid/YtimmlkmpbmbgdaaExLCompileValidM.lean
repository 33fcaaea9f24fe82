/-
  LCompileValid: the statement, whatever the argument. Conditions: none beyond the statement's own.
-/
import Derived.Test.YtimmlkmpbmbgdaaK6
import Derived.Test.YtimmlkmpbmbgdaaEnter1M
import Derived.Test.YtimmlkmpbmbgdaaEnter2M
import Derived.Test.YtimmlkmpbmbgdaaEnter3M
namespace Go.Proofs.Ytimmlkmpbmbgdaa.exLCompileValid
set_option linter.unusedVariables false
set_option linter.unusedSimpArgs false
open Go Go.RowKit Go.Proofs.Ytimmlkmpbmbgdaa

set_option maxRecDepth 100000 in
theorem c_DrawCP (c : List UInt8) : Ctr.ok Try.prog ⟨32, [.ref 0], [dY c], [dY c] ++ oP (drV c), oA 1⟩ := by
  refine rx_enter 5 Try.func32 (by rfl) (by kernel_rfl) (by kernel_rfl) ?_; intro ι φ ψ w0 w F ρ0 ρ a G; replace G := Gam.at G [dY c] [(0, .ref 0)]; refine wp_seq ?_; refine rs0 G [0, 1] [dY c, .box [.v (.slice none 0 0), .v (.slice none 0 0), .v (.slice none 0 0)]] [(0, .ref 0), (2, .ptr 1 0)] fun ρ a w G => th_n (wp_seq ?_); refine rs1 (dk := dkP) G ⟨[(1, _, [0])], [], []⟩ (calls_cons (c_DrawProgramValid (c)) calls_nil) trivial [0, 1, 10, 11, 12] [dY c, .box [.ref 2, .ref 3, .tref 4], .row 3 (D.ints (drV c).vars), .row 3 (D.ints (drV c).arrays), .tree (D.stmts (drV c).body)] [(2, .ptr 1 0)] [] trivial fun ρ a w G => th_n (wp_ret ?_); exact rx_ret (v := .agg [.ref 2, .ref 3, .tref 4]) G [0, 2, 3, 4] (by kernel_rfl) (by kernel_rfl) (by kernel_rfl) (by kernel_rfl)

set_option maxRecDepth 100000 in
theorem d_ctInts (xs : List Int) : Ctr.ok Try.prog (fnC 30 [.ref 0, .ref 1] [dI xs, dI xs] (bA true)) := by
  refine rx_enter 26 Try.func30 (by rfl) (by kernel_rfl) (by kernel_rfl) ?_; intro ι φ ψ w0 w F ρ0 ρ a G; replace G := Gam.at G [dI xs, dI xs] [(0, .ref 0), (1, .ref 1)]; have hl : xs.length ≤ 9223372036854775807 := G.len 0 (d := .ints xs) (by kernel_rfl); refine wp_seq ?_; refine rs0s G [(0, .ref 0), (1, .ref 1), (4, bA false)] fun ρ a w G => th_n (wp_seq (wp_seq ?_)); refine rs0s G [(0, .ref 0), (1, .ref 1), (4, bA false), (10, bA ((↑xs.length : Int) != (↑xs.length : Int)))] fun ρ a w G => th_n ?_; refine rF G ((↑xs.length : Int) != (↑xs.length : Int)) (by simp) ?_; refine wp_skip (th_n (wp_seq (wp_seq ?_))); refine rs0s G [(0, .ref 0), (1, .ref 1), (4, bA false), (5, iA 0)] fun ρ a w G => th_n (wp_block ?_); refine rx_for (κ := Nat) (fun k => k ≤ xs.length) (fun k => xs.length - k) (fun k => [dI xs, dI xs]) (fun k => [(0, .ref 0), (1, .ref 1), (4, bA false), (5, iA k)]) (0) (by omega) (Gam.at G _ _) ?_; clear G; intro k ρ a w hp G; replace G := Gam.at G [dI xs, dI xs] [(0, .ref 0), (1, .ref 1), (4, bA false), (5, iA (↑k : Int))]; refine wp_seq (wp_seq ?_); refine rs0s G [(0, .ref 0), (1, .ref 1), (4, bA false), (5, iA (↑k : Int)), (14, bA (decide ((↑k : Int) < (↑xs.length : Int))))] fun ρ a w G => th_n ?_; cases h0 : (decide ((↑k : Int) < (↑xs.length : Int)))
  · have q0 : ¬ ((↑k : Int) < (↑xs.length : Int)) := dFf h0; refine rF G (decide ((↑k : Int) < (↑xs.length : Int))) (by assumption) ?_; refine wp_exit (th_e (th_e (bl_hit (th_n (wp_seq ?_))))); refine rs0s G [(4, bA true)] fun ρ a w G => th_n (wp_ret ?_); exact rx_ret (v := bA true) G [0, 1] (by kernel_rfl) (by kernel_rfl) (by kernel_rfl) (by kernel_rfl)
  · have q0 : (↑k : Int) < (↑xs.length : Int) := dTt h0; refine rT G (decide ((↑k : Int) < (↑xs.length : Int))) (by assumption) ?_; refine wp_skip (th_n (wp_seq (wp_block (wp_seq ?_)))); refine rd1s G ⟨[], [], []⟩ calls_nil trivial [0, 0, 3, 7, 0, 0, 48, 112, 255] [(0, .ref 0), (1, .ref 1), (4, bA false), (5, iA (↑k : Int)), (25, bA (xs.getD k 0 != xs.getD k 0))] [(0 : Int) ≤ (↑k : Int), (↑k : Int) < (↑xs.length : Int), k < xs.length, (0 : Int) ≤ (↑k : Int), (↑k : Int) < (↑xs.length : Int), k < xs.length] ⟨(by simp [h0]), (by assumption), (by omega), (by simp [h0]), (by assumption), (by omega), trivial⟩ fun ρ a w G => th_n ?_; refine rF G (xs.getD k (0 : Int) != xs.getD k (0 : Int)) (by simp [h0]) ?_; refine wp_skip ?_; refine bl_n ?_; refine th_n ?_; refine rs1s G ⟨[], [], []⟩ calls_nil trivial [(0, .ref 0), (1, .ref 1), (4, bA false), (5, iA ((↑k : Int) + 1))] [IntKind.i64.wrap ((↑k : Int) + (1 : Int)) = (↑k : Int) + (1 : Int)] ⟨(by exact w64 (by omega) (by omega)), trivial⟩ fun ρ a w G => th_n ?_; exact rx_next G (k + 1) (by omega) (by omega) [0, 1] [dI xs, dI xs] [(0, .ref 0), (1, .ref 1), (4, bA false), (5, iA (↑(k + 1) : Int))] (by kernel_rfl) (by kernel_rfl) (by kernel_rfl) (by kernel_rfl) (by kernel_rfl)

theorem c_ctInts (xs ys : List Int) (r0 : xs = ys) : Ctr.ok Try.prog (fnC 30 [.ref 0, .ref 1] [dI xs, dI ys] (bA true)) := by
  subst r0; exact d_ctInts xs

theorem bb_no : ¬ ((!true) = true) := by decide
theorem code_ok {p : LProg} (h : okC p = true) : codeOk ⟨cvP p, caP p, (comP p).1⟩ = true := by rw [cv_t h, ca_t h, comP_t h]; exact com_ok h
theorem no_halt {p : LProg} (h : okC p = true) {k : Nat} (hk : (k : Int) + 1 < (comP p).1.length) : ((comP p).1.getD k default).op ≠ 13 := by
  rw [comP_t h] at hk ⊢; exact com_halt h hk
theorem list_len {p : LProg} (h : okC p = true) : (comP p).1.length ≤ 400 := by
  rw [comP_t h]
  unfold okC at h
  simp only [Bool.and_eq_true, decide_eq_true_eq] at h
  exact h.2
set_option maxRecDepth 100000 in
theorem c_law (c : List UInt8) : Ctr.ok Try.prog ⟨6, [.ref 0], [dY c], [dY c], bA true⟩ := by
  refine rx_enter 76 Try.func6 (by rfl) (by kernel_rfl) (by kernel_rfl) ?_; intro ι φ ψ w0 w F ρ0 ρ a G; replace G := Gam.at G [dY c] [(0, .ref 0)]; have hsz := drV_sz c
  have hb : szSs (drV c).body ≤ 1048576 := by unfold LProg.size at hsz; omega
  refine wp_seq ?_; refine rs0s G [(0, .ref 0), (2, bA false)] fun ρ a w G => th_n (wp_seq (wp_seq ?_)); refine rs0s G [(0, .ref 0), (2, bA false), (11, bA (decide ((↑c.length : Int) > 1048576)))] fun ρ a w G => th_n ?_; cases h0 : (decide ((↑c.length : Int) > (1048576 : Int)))
  ·
   have q0 : ¬ ((↑c.length : Int) > 1048576) := dFf h0; refine rF G (decide ((↑c.length : Int) > (1048576 : Int))) (by assumption) ?_; refine wp_skip (th_n (wp_seq ?_)); refine rs1 (dk := dkP) G ⟨[(1, _, [0])], [], []⟩ (calls_cons (c_DrawCP (c)) calls_nil) trivial [0, 9, 10, 11, 17] [dY c, .row 3 (D.ints (drV c).vars), .row 3 (D.ints (drV c).arrays), .tree (D.stmts (drV c).body), .box [.ref 1, .ref 2, .tref 3]] [(2, bA false), (3, .ptr 4 0)] [] trivial fun ρ a w G => th_n (wp_seq ?_); refine rs1 (dk := dkP) G ⟨[(1, _, [1, 2, 3])], [], []⟩ (calls_cons (Ctr.lend (c_iCompileProgram (drV c) (by exact Nat.le_trans hsz (by omega))) [.row 3, .row 3, .tree]) calls_nil) trivial [0, 1, 2, 3, 4, 13, 14, 15, 45] [dY c, .row 3 (D.ints (drV c).vars), .row 3 (D.ints (drV c).arrays), .tree (D.stmts (drV c).body), .box [.ref 1, .ref 2, .tref 3], .row 3 (D.ints (cvP (drV c))), .row 3 (D.ints (caP (drV c))), .row 50 (D.instrs (comP (drV c)).fst), .box (pL 5)] [(2, bA false), (3, .ptr 4 0), (4, .ptr 8 0), (5, bA (okC (drV c)))] [] trivial fun ρ a w G => th_n (wp_seq ?_); refine rs1 (dk := dkP) G ⟨[(1, _, [1, 2, 3])], [], []⟩ (calls_cons (Ctr.lend (c_CompileProgram (drV c) (by exact Nat.le_trans hsz (by omega))) [.row 3, .row 3, .tree]) calls_nil) trivial [0, 1, 2, 3, 4, 5, 6, 7, 8, 17, 18, 19, 49] [dY c, .row 3 (D.ints (drV c).vars), .row 3 (D.ints (drV c).arrays), .tree (D.stmts (drV c).body), .box [.ref 1, .ref 2, .tref 3], .row 3 (D.ints (cvP (drV c))), .row 3 (D.ints (caP (drV c))), .row 50 (D.instrs (comP (drV c)).fst), .box (pL 5), .row 3 (D.ints (cvP (drV c))), .row 3 (D.ints (caP (drV c))), .row 50 (D.instrs (comP (drV c)).fst), .box (pL 9)] [(2, bA false), (3, .ptr 4 0), (4, .ptr 8 0), (5, bA (okC (drV c))), (6, .ptr 12 0), (7, bA (okC (drV c)))] [] trivial fun ρ a w G => th_n (wp_seq (wp_seq ?_)); refine rs1s G ⟨[(6, _, [5, 6, 7, 9, 10, 11])], [(!okC (drV c) == okC (drV c), false), (false, false)], us [(4, 7, 0), (1008, 1008, 0), (10, 11, 1), (1012, 1012, 1)]⟩ (calls_cons (Ctr.lend (c_iCodeSame (cvP (drV c)) (caP (drV c)) ((comP (drV c)).fst)) [.row 3, .row 3, .row 50, .row 3, .row 3, .row 50]) calls_nil) ⟨(by simp [h0]), (by kernel_rfl), trivial⟩ [(2, bA false), (3, .ptr 4 0), (4, .ptr 8 0), (5, bA (okC (drV c))), (6, .ptr 12 0), (7, bA (okC (drV c))), (36, .v (.bool !okC (drV c)))] [] trivial fun ρ a w G => th_n ?_; cases h1 : (!okC (drV c))
   ·
    have q1 : (okC (drV c)) = true := (Eq.mp (Bool.not_eq_false' _) h1)
    have hok : okC (drV c) = true := by with_reducible assumption
    have hml := list_len hok; refine rF G (!okC (drV c)) (by assumption) ?_; refine wp_skip (th_n (wp_seq (wp_seq ?_))); refine rs0 G (rg 9) [dY c, .row 3 (D.ints (drV c).vars), .row 3 (D.ints (drV c).arrays), .tree (D.stmts (drV c).body), .box [.ref 1, .ref 2, .tref 3], .row 3 (D.ints (cvP (drV c))), .row 3 (D.ints (caP (drV c))), .row 50 (D.instrs (comP (drV c)).fst), .box (pL 5)] [(2, bA false), (3, .ptr 4 0), (4, .ptr 8 0), (8, iA 0)] fun ρ a w G => th_n (wp_block ?_); refine rx_for (κ := Nat) (fun k => k ≤ (comP (drV c)).1.length) (fun k => (comP (drV c)).1.length - k) (fun k => [dY c, .row 3 (D.ints (drV c).vars), .row 3 (D.ints (drV c).arrays), .tree (D.stmts (drV c).body), .box [.ref 1, .ref 2, .tref 3], .row 3 (D.ints (cvP (drV c))), .row 3 (D.ints (caP (drV c))), .row 50 (D.instrs (comP (drV c)).fst), .box (pL 5)]) (fun k => [(2, bA false), (3, .ptr 4 0), (4, .ptr 8 0), (8, iA k)]) (0) (by simp [h0, h1, q1, hok]) (Gam.at G _ _) ?_; clear G; intro k ρ a w hp G; replace G := Gam.at G [dY c, .row 3 (D.ints (drV c).vars), .row 3 (D.ints (drV c).arrays), .tree (D.stmts (drV c).body), .box [.ref 1, .ref 2, .tref 3], .row 3 (D.ints (cvP (drV c))), .row 3 (D.ints (caP (drV c))), .row 50 (D.instrs (comP (drV c)).fst), .box (pL 5)] [(2, bA false), (3, .ptr 4 0), (4, .ptr 8 0), (8, iA (↑k : Int))]; refine wp_seq (wp_seq ?_); refine rs1s G ⟨[], [], []⟩ calls_nil trivial [(2, bA false), (3, .ptr 4 0), (4, .ptr 8 0), (8, iA (↑k : Int)), (50, bA (decide ((↑k : Int) + 1 < (↑(comP (drV c)).fst.length : Int))))] [IntKind.i64.wrap ((↑k : Int) + (1 : Int)) = (↑k : Int) + (1 : Int)] ⟨(by exact w64 (by omega) (by omega)), trivial⟩ fun ρ a w G => th_n ?_; cases h2 : (decide ((↑k : Int) + (1 : Int) < (↑(comP (drV c)).fst.length : Int)))
    · have q2 : ¬ ((↑k : Int) + 1 < (↑(comP (drV c)).fst.length : Int)) := dFf h2; refine rF G (decide ((↑k : Int) + (1 : Int) < (↑(comP (drV c)).fst.length : Int))) (by assumption) ?_; refine wp_exit (th_e (th_e (bl_hit (th_n (wp_seq ?_))))); refine rs1 (dk := dkP) G ⟨[(1, _, [5, 6, 7]), (7, _, [5, 1]), (14, _, [6, 2])], [(true, true)], us [(3, 7, 0), (1008, 1008, 0), (10, 14, 0), (1015, 1015, 0)]⟩ (calls_cons (Ctr.lend (c_iCodeValid (cvP (drV c)) (caP (drV c)) ((comP (drV c)).fst) (by exact code_ok hok)) [.row 3, .row 3, .row 50]) (calls_cons (Ctr.lend (c_ctInts (cvP (drV c)) ((drV c).vars) (by exact cv_t hok)) [.row 3, .row 3]) (calls_cons (Ctr.lend (c_ctInts (caP (drV c)) ((drV c).arrays) (by exact ca_t hok)) [.row 3, .row 3]) calls_nil))) ⟨(by kernel_rfl), trivial⟩ [0] [dY c] [(2, bA true)] [] trivial fun ρ a w G => th_n (wp_ret ?_); exact rx_ret (v := bA true) G [0] (by kernel_rfl) (by kernel_rfl) (by kernel_rfl) (by kernel_rfl)
    ·
     have q2 : (↑k : Int) + 1 < (↑(comP (drV c)).fst.length : Int) := dTt h2; refine rT G (decide ((↑k : Int) + (1 : Int) < (↑(comP (drV c)).fst.length : Int))) (by assumption) ?_; refine wp_skip (th_n (wp_seq (wp_block (wp_seq ?_)))); refine rs1s G ⟨[], [], []⟩ calls_nil trivial [(2, bA false), (3, .ptr 4 0), (4, .ptr 8 0), (8, iA (↑k : Int)), (59, bA (((comP (drV c)).fst.getD k default).op == 13))] [(0 : Int) ≤ (↑k : Int), (↑k : Int) < (↑(comP (drV c)).fst.length : Int), k < (comP (drV c)).fst.length] ⟨(by simp [h0, h1, q1, hok, h2]), (by omega), (by omega), trivial⟩ fun ρ a w G => th_n ?_; cases h3 : (((comP (drV c)).fst.getD k default).op == (13 : Int))
     · have q3 : ¬ (((comP (drV c)).fst.getD k default).op = 13) := ne_of_beq_false h3; refine rF G (((comP (drV c)).fst.getD k default).op == (13 : Int)) (by assumption) ?_; refine wp_skip ?_; refine bl_n ?_; refine th_n ?_; refine rs1s G ⟨[], [], []⟩ calls_nil trivial [(2, bA false), (3, .ptr 4 0), (4, .ptr 8 0), (8, iA ((↑k : Int) + 1))] [IntKind.i64.wrap ((↑k : Int) + (1 : Int)) = (↑k : Int) + (1 : Int)] ⟨(by exact w64 (by omega) (by omega)), trivial⟩ fun ρ a w G => th_n ?_; exact rx_next G (k + 1) (by omega) (by omega) (rg 9) [dY c, .row 3 (D.ints (drV c).vars), .row 3 (D.ints (drV c).arrays), .tree (D.stmts (drV c).body), .box [.ref 1, .ref 2, .tref 3], .row 3 (D.ints (cvP (drV c))), .row 3 (D.ints (caP (drV c))), .row 50 (D.instrs (comP (drV c)).fst), .box (pL 5)] [(2, bA false), (3, .ptr 4 0), (4, .ptr 8 0), (8, iA (↑(k + 1) : Int))] (by kernel_rfl) (by kernel_rfl) (by kernel_rfl) (by kernel_rfl) (by kernel_rfl)
     · have q3 : ((comP (drV c)).fst.getD k default).op = 13 := eq_of_beq h3; exact False.elim (by have h9 := no_halt hok (k := k) (by omega); omega)
   · have q1 : (okC (drV c)) = false := (Eq.mp (Bool.not_eq_true' _) h1); refine rT G (!okC (drV c)) (by assumption) ?_; refine wp_seq ?_; refine rs1 (dk := dkP) G ⟨[(6, _, [5, 6, 7, 9, 10, 11])], [(okC (drV c) == okC (drV c), true)], [(4, 0), (5, 0), (6, 0), (1007, 0)]⟩ (calls_cons (Ctr.lend (c_iCodeSame (cvP (drV c)) (caP (drV c)) ((comP (drV c)).fst)) [.row 3, .row 3, .row 50, .row 3, .row 3, .row 50]) calls_nil) ⟨(by rw [q1]; rfl), trivial⟩ (rg 9) [dY c, .row 3 (D.ints (drV c).vars), .row 3 (D.ints (drV c).arrays), .tree (D.stmts (drV c).body), .box [.ref 1, .ref 2, .tref 3], .row 3 (D.ints (cvP (drV c))), .row 3 (D.ints (caP (drV c))), .row 50 (D.instrs (comP (drV c)).fst), .box (pL 5)] [(2, bA true), (3, .ptr 4 0), (4, .ptr 8 0)] [] trivial fun ρ a w G => th_n (wp_ret (th_r ?_)); exact rx_ret (v := bA true) G [0] (by kernel_rfl) (by kernel_rfl) (by kernel_rfl) (by kernel_rfl)
  · have q0 : (↑c.length : Int) > 1048576 := dTt h0; refine rT G (decide ((↑c.length : Int) > (1048576 : Int))) (by assumption) ?_; refine wp_seq ?_; refine rs0s G [(0, .ref 0), (2, bA true)] fun ρ a w G => th_n (wp_ret (th_r ?_)); exact rx_ret (v := bA true) G [0] (by kernel_rfl) (by kernel_rfl) (by kernel_rfl) (by kernel_rfl)

theorem walk (u : Value) (c : List UInt8) (w : World) (hp : Row w u c.length 1 (u8s c)) : Calls Try.prog 6 #[u] w fun e w' => e = .returned (.bool true) ∧ Below w.heap.size w w' :=
  bytes_law (c_law c) u w (hp.rowF fun _ _ => trivial)

end Go.Proofs.Ytimmlkmpbmbgdaa.exLCompileValid

namespace Go.Proofs.Ytimmlkmpbmbgdaa.exLCompileValid
set_option linter.unusedVariables false
set_option linter.unusedSimpArgs false
open Go Go.RowKit Go.ChangeShapes Go.WideShapes Go.ChangeAt Go.Proofs.Ytimmlkmpbmbgdaa

set_option maxRecDepth 100000 in
theorem lifted (os : Os) (started : os.Started) (H : Type) (enc : TypeId × Value → H) :
    ReturnsInHanded {} Try.checked os 6 .any (Rows.fnCompileValidSpec.pre6 enc Try.prog Try.f6 Rows.fnCompileValidRow.domain false) (Rows.fnCompileValidSpec.post enc Try.prog Try.f6 false true false false) := by
  refine returnsInHanded_of_change (C := Try.checked) own started (by kernel_rfl) Try.func6
    (ChangeSpec.witness6 (enc := enc) (C := Try.checked) false ⟨#[], #[.slice none 0 0], []⟩ 8 (by kernel_rfl) (by kernel_rfl) (by kernel_rfl) (by kernel_rfl)) ?_
  intro W base args ds gs before hval0 hW hcnd _
  have hval : ∀ (j : Nat) t v, Try.f6.params[j]? = some t → args[j]? = some v → Value.okWide Try.prog W .any base t v := hval0
  have hW' := hW
  obtain ⟨p, q, hA0, hV, rfl, hfz, hnd⟩ := hW
  have hA : DataW.TrodAll enc Try.prog W 0 (fun _ => true) true Try.f6.params.toList args.toList ds p := hA0
  rw [Try.params6] at hA hval
  obtain ⟨v0, vs0, d0, ds0, p0, q0, hargs, rfl, rfl, h0, r0⟩ := trodAll_cons hA
  obtain ⟨rfl, rfl, rfl⟩ := trodAll_nil r0
  obtain rfl : args = #[v0] := by cases args; simp_all
  obtain ⟨rfl, rfl⟩ := trodVars_none hV
  have k0 := h0
  have lt0 : ∀ x ∈ p0, x.block < W.heap.size := by obtain ⟨m, hm⟩ := k0; exact DataW.trod_lt m _ _ _ hm
  obtain ⟨a0, len0, cap0, rfl⟩ := okWide_slice Try.underlying45 (hval 0 45 v0 rfl rfl)
  obtain ⟨x0, hx0⟩ : ∃ l : List UInt8, Row W (.slice a0 len0 cap0) l.length 1 (u8s l) := by
    obtain ⟨fuel, hf⟩ := h0
    exact bytes_of_trod Try.underlying45 hf
  clear hA0 hval0
  refine (walk _ x0 W hx0).mono fun e W' ⟨he, bel⟩ => ?_
  subst he
  exact ⟨_, rfl, _, _, _, [], _, [], hW', trodAll_mk1 (shut_bool Try.underlying4 _), (trodAll_cons_mk (Below.trod laidOut (by kernel_rfl) (of_decide_eq_true (by kernel_rfl)) k0 bel lt0) trodAll_mk0), rfl, bel.frame _, fun h => by cases h⟩

theorem facts : joinedFacts Try.pinned.checked.prog 6 Try.f6 Rows.fnCompileValidSpec Rows.fnCompileValidRow = true := by
  unfold joinedFacts
  rw [may_enter, lifts_final, make_is]
  kernel_rfl

theorem over : Rows.fnCompileValidRow.holds Try.pinned (OpenSpec.ofChange Rows.fnCompileValidSpec) :=
  OpenClaim.holds_of_wide 6 Try.f6 rfl rfl rfl rfl rfl rfl rfl ⟨rfl, rfl, rfl, rfl, rfl⟩ rfl rfl rfl rfl rfl (by kernel_rfl) Try.func6 facts
    (of_decide_eq_true (by kernel_rfl)) (by unfold Func.isWrapper; first | (rw [if_pos (by decide +kernel)]; kernel_rfl) | (rw [if_neg (by decide +kernel)]; exact ⟨rfl, rfl⟩))
    (fun os started H enc _ => lifted os started H enc)

theorem proved : Rows.FnCompileValidSaid := over
end Go.Proofs.Ytimmlkmpbmbgdaa.exLCompileValid
