/-
  CompileProgram: the statement, whatever the argument. Conditions: none beyond the statement's own.
-/
import Derived.Test.YtimmlkmpbmbgdaaK5
import Derived.Test.YtimmlkmpbmbgdaaEnter1M
import Derived.Test.YtimmlkmpbmbgdaaEnter2M
import Derived.Test.YtimmlkmpbmbgdaaEnter3M
namespace Go.Proofs.Ytimmlkmpbmbgdaa.exCompileProgram
set_option linter.unusedVariables false
set_option linter.unusedSimpArgs false
open Go Go.RowKit Go.Proofs.Ytimmlkmpbmbgdaa

theorem fits {p : LProg} (h : ¬ (szRes 1048576 p.size < 0)) : p.size ≤ 1048576 := by
  by_cases h1 : (1048576 : Int) < p.size
  · rw [szRes_neg h1] at h; omega
  · omega
theorem same_self (p : LProg) : p.same p = true := LProg.same_eq.2 rfl
theorem mark_fits {p : LProg} {n : Nat} (h : p.size ≤ n) (hn : n ≤ 1048576) : ((1 : Nat) : Int) + mkPN p ≤ 9000000000000000000 := by
  unfold mkPN
  unfold LProg.size at h
  have := (mkN_nonneg p.body).2
  omega
theorem same_no (q : LProg) : ¬ ((!q.same q) = true) := by rw [same_self]; decide
theorem mk_pos (p : LProg) : ¬ (decide ((1 : Int) + mkPN p < (0 : Int)) = true) := by
  have := (mkN_nonneg p.body).1
  unfold mkPN
  simp only [decide_eq_true_eq]; omega
theorem code_len {p : LProg} (hb : szSs p.body ≤ 1048576) : (comP p).1.length ≤ 5000010 := by
  unfold comP comC
  have := com_bound p hb
  split
  · simp only [List.length_append, List.length_cons, List.length_nil]; omega
  · simp
theorem cv_len (p : LProg) : (cvP p).length ≤ p.vars.length := by unfold cvP; split <;> simp
theorem ca_len (p : LProg) : (caP p).length ≤ p.arrays.length := by unfold caP; split <;> simp
theorem code_fits {p : LProg} (h : p.size ≤ 1048576) : (1 : Int) + (cvP p).length + (caP p).length + 5 * (comP p).1.length ≤ 8000000000000000000 := by
  have h1 := cv_len p
  have h2 := ca_len p
  have h3 := code_len (p := p) (by unfold LProg.size at h; omega)
  unfold LProg.size at h
  omega
abbrev yWkCompileProgram0 (p : LProg) : AV := iA (1 + (↑(cvP p).length : Int) + (↑(caP p).length : Int) + 5 * (↑(comP p).fst.length : Int))
abbrev yWkCompileProgram1 (p : LProg) : AV := bA (1 + (↑(cvP p).length : Int) + (↑(caP p).length : Int) + 5 * (↑(comP p).fst.length : Int) != 1 + (↑(cvP p).length : Int) + (↑(caP p).length : Int) + 5 * (↑(comP p).fst.length : Int))
abbrev yWkCompileProgram2 (p : LProg) : It := .row 50 (D.instrs (mkZ (1 + (↑(cvP p).length : Int) + (↑(caP p).length : Int)) (comP p).fst.length))
set_option maxRecDepth 100000 in
theorem c_law (p : LProg) : Ctr.ok Try.prog ⟨4, [pA 0], pS p, pS p, bA true⟩ := by
  have hto := t_toProgram p; refine rx_enter 96 Try.func4 (by rfl) (by kernel_rfl) (by kernel_rfl) ?_; intro ι φ ψ w0 w F ρ0 ρ a G; replace G := Gam.at G [dI p.vars, dI p.arrays, dT p.body] [(0, pA 0)]; have hself : ∀ q : LProg, q.same q = true := same_self; refine wp_seq ?_; refine rs0 G (rg 4) [dI p.vars, dI p.arrays, dT p.body, .box (pL 0)] [(1, .ptr 3 0), (2, bA false)] fun ρ a w G => th_n (wp_seq ?_); refine rs0s G [(1, .ptr 3 0), (2, bA false), (3, iA 1048576)] fun ρ a w G => th_n (wp_seq ?_); refine rs1s G ⟨[(2, _, [0, 1, 2])], [], []⟩ (calls_cons (c_szProgram (p) (1048576) (by omega) (by omega)) calls_nil) trivial [(1, .ptr 3 0), (2, bA false), (3, iA (szRes 1048576 p.size))] [] trivial fun ρ a w G => th_n (wp_seq (wp_seq ?_)); refine rs0s G [(1, .ptr 3 0), (2, bA false), (18, bA (decide (szRes 1048576 p.size < 0)))] fun ρ a w G => th_n ?_; cases h0 : (decide (szRes (1048576 : Int) p.size < (0 : Int)))
  ·
   have q0 : ¬ (szRes 1048576 p.size < 0) := dFf h0; refine rF G (decide (szRes (1048576 : Int) p.size < (0 : Int))) (by assumption) ?_; refine wp_skip (th_n (wp_seq ?_)); refine rs1 (dk := dkP) G ⟨[(1, _, [0, 1, 2]), (2, _, [12, 13, 14])], [], []⟩ (calls_cons (hto (by exact fits (by assumption))) (calls_cons (Ctr.lend (c_CompileProgram (p) (by exact fits (by assumption))) [.row 3, .row 3, .tree]) calls_nil)) trivial [0, 1, 2, 3, 20, 21, 22, 52] [dI p.vars, dI p.arrays, dT p.body, .box (pL 0), .row 3 (D.ints (cvP p)), .row 3 (D.ints (caP p)), .row 50 (D.instrs (comP p).fst), .box (pL 4)] [(1, .ptr 3 0), (2, bA false), (4, .ptr 7 0), (5, bA (okC p))] [] trivial fun ρ a w G => th_n (wp_seq ?_); refine rs1 (dk := dkP) G ⟨[(1, _, [0, 1, 2])], [], []⟩ (calls_cons (hto (by exact fits (by assumption))) calls_nil) trivial [0, 1, 2, 3, 4, 5, 6, 7, 16, 17, 18, 24] [dI p.vars, dI p.arrays, dT p.body, .box (pL 0), .row 3 (D.ints (cvP p)), .row 3 (D.ints (caP p)), .row 50 (D.instrs (comP p).fst), .box (pL 4), .row 3 (D.ints p.vars), .row 3 (D.ints p.arrays), .tree (D.stmts p.body), .box [.ref 8, .ref 9, .tref 10]] [(1, .ptr 3 0), (2, bA false), (4, .ptr 7 0), (5, bA (okC p)), (6, .ptr 11 0)] [] trivial fun ρ a w G => th_n (wp_seq ?_); refine rs1 (dk := dkP) G ⟨[(1, _, [8, 9, 10])], [], []⟩ (calls_cons (Ctr.lend (c_iCompileProgram (p) (by exact fits (by assumption))) [.row 3, .row 3, .tree]) calls_nil) trivial [0, 1, 2, 3, 4, 5, 6, 7, 8, 9, 10, 11, 20, 21, 22, 52] [dI p.vars, dI p.arrays, dT p.body, .box (pL 0), .row 3 (D.ints (cvP p)), .row 3 (D.ints (caP p)), .row 50 (D.instrs (comP p).fst), .box (pL 4), .row 3 (D.ints p.vars), .row 3 (D.ints p.arrays), .tree (D.stmts p.body), .box [.ref 8, .ref 9, .tref 10], .row 3 (D.ints (cvP p)), .row 3 (D.ints (caP p)), .row 50 (D.instrs (comP p).fst), .box (pL 12)] [(1, .ptr 3 0), (2, bA false), (4, .ptr 7 0), (5, bA (okC p)), (6, .ptr 11 0), (7, .ptr 15 0), (8, bA (okC p))] [] trivial fun ρ a w G => th_n (wp_seq (wp_seq ?_)); refine rs1s G ⟨[(2, _, [12, 13, 14, 4, 5, 6])], [(false, false)], [(5, 0), (6, 0), (7, 0), (1008, 0)]⟩ (calls_cons (Ctr.lend (c_eqCode (cvP p) (caP p) ((comP p).fst)) [.row 3, .row 3, .row 50, .row 3, .row 3, .row 50]) calls_nil) ⟨(by kernel_rfl), trivial⟩ [(1, .ptr 3 0), (2, bA false), (4, .ptr 7 0), (5, bA (okC p)), (6, .ptr 11 0), (7, .ptr 15 0), (8, bA (okC p)), (40, .v (.bool !okC p == okC p))] [] trivial fun ρ a w G => th_n ?_; refine rF G (!okC p == okC p) (by simp [h0]) ?_; refine wp_skip (th_n (wp_seq (wp_seq ?_))); refine rd1s G ⟨[(2, _, [0, 1, 2]), (3, _, [8, 9, 10, 32, 33, 34])], [], []⟩ (calls_cons (hto (by exact fits (by assumption))) (calls_cons (Ctr.lend (c_eqProgram (p) (p)) [.row 3, .row 3, .tree, .row 3, .row 3, .tree]) calls_nil)) trivial [0, 0, 2, 7, 15] [(1, .ptr 3 0), (2, bA false), (4, .ptr 7 0), (5, bA (okC p)), (6, .ptr 11 0), (7, .ptr 15 0), (8, bA (okC p)), (45, .v (.bool !p.same p))] [] trivial fun ρ a w G => th_n ?_; cases h1 : (!p.same p)
   ·
    have q1 : (p.same p) = true := (Eq.mp (Bool.not_eq_false' _) h1); refine rF G (!p.same p) (by assumption) ?_; refine wp_skip (th_n (wp_seq ?_)); refine rs0s G [(1, .ptr 3 0), (2, bA false), (4, .ptr 7 0), (5, bA (okC p)), (6, .ptr 11 0), (7, .ptr 15 0), (8, bA (okC p)), (9, iA 1)] fun ρ a w G => th_n (wp_seq ?_); refine rs1 (dk := dkP) G ⟨[(2, _, [8, 9, 10])], [], []⟩ (calls_cons (c_markProgram (p) (1) (by exact mark_fits (fits (by assumption)) (Nat.le_refl _))) calls_nil) trivial [0, 1, 2, 3, 4, 5, 6, 7, 12, 13, 14, 15] [dI p.vars, dI p.arrays, dT p.body, .box (pL 0), .row 3 (D.ints (cvP p)), .row 3 (D.ints (caP p)), .row 50 (D.instrs (comP p).fst), .box (pL 4), .row 3 (D.ints (cvP p)), .row 3 (D.ints (caP p)), .row 50 (D.instrs (comP p).fst), .box (pL 8)] [(1, .ptr 3 0), (2, bA false), (4, .ptr 7 0), (5, bA (okC p)), (7, .ptr 11 0), (8, bA (okC p)), (9, iA ((↑1 : Int) + mkPN p))] [] trivial fun ρ a w G => th_n (wp_seq (wp_seq ?_)); cases h2 : (decide ((1 : Int) + mkPN p < (0 : Int)))
    ·
     have q2 : ¬ (1 + mkPN p < 0) := dFf h2; refine rs1s G ⟨[(5, _, [8, 9, 10, 4, 5, 6])], [(decide ((1 : Int) + mkPN p < (0 : Int)), false), (false, false)], us [(3, 6, 0), (1007, 1007, 0), (9, 11, 1), (1012, 1012, 1)]⟩ (calls_cons (Ctr.lend (c_eqCode (cvP p) (caP p) ((comP p).fst)) [.row 3, .row 3, .row 50, .row 3, .row 3, .row 50]) calls_nil) ⟨(by assumption), (by kernel_rfl), trivial⟩ [(1, .ptr 3 0), (2, bA false), (4, .ptr 7 0), (5, bA (okC p)), (7, .ptr 11 0), (61, .v (.bool !okC p == okC p))] [] trivial fun ρ a w G => th_n ?_; refine rF G (!okC p == okC p) (by simp [h0, h1, q1, h2]) ?_; refine wp_skip (th_n (wp_seq ?_)); refine rs0s G [(1, .ptr 3 0), (2, bA false), (4, .ptr 7 0), (5, bA (okC p)), (7, .ptr 11 0), (10, iA 1)] fun ρ a w G => th_n (wp_seq ?_); refine rs1 (dk := dkP) G ⟨[(2, _, [8, 9, 10])], [], []⟩ (calls_cons (c_markCode (cvP p) (caP p) ((comP p).fst) (1) (by simp [h0, h1, q1, h2]) (by exact code_fits (fits (by assumption)))) calls_nil) trivial (rg 12) [dI p.vars, dI p.arrays, dT p.body, .box (pL 0), .row 3 (D.ints (cvP p)), .row 3 (D.ints (caP p)), .row 50 (D.instrs (comP p).fst), .box (pL 4), .row 3 (D.ints (mkI 1 (cvP p).length)), .row 3 (D.ints (mkI (1 + (↑(cvP p).length : Int)) (caP p).length)), yWkCompileProgram2 p, .box (pL 8)] [(1, .ptr 3 0), (2, bA false), (4, .ptr 7 0), (5, bA (okC p)), (7, .ptr 11 0), (10, yWkCompileProgram0 p)] [] trivial fun ρ a w G => th_n (wp_seq ?_); refine rs0s G [(1, .ptr 3 0), (2, bA false), (4, .ptr 7 0), (5, bA (okC p)), (7, .ptr 11 0), (10, yWkCompileProgram0 p), (11, iA 1)] fun ρ a w G => th_n (wp_seq ?_); refine rs1s G ⟨[(2, _, [8, 9, 10])], [], []⟩ (calls_cons (Ctr.lend (c_heldCode ((cvP p).length) ((caP p).length) ((comP p).fst.length) (1) (by simp [h0, h1, q1, h2]) (by exact code_fits (fits (by assumption)))) [.row 3, .row 3, .row 50]) calls_nil) trivial [(1, .ptr 3 0), (2, bA false), (4, .ptr 7 0), (5, bA (okC p)), (7, .ptr 11 0), (10, yWkCompileProgram0 p), (11, yWkCompileProgram0 p)] [] trivial fun ρ a w G => th_n (wp_seq (wp_seq ?_)); refine rs0s G [(1, .ptr 3 0), (2, bA false), (4, .ptr 7 0), (5, bA (okC p)), (7, .ptr 11 0), (10, yWkCompileProgram0 p), (11, yWkCompileProgram0 p), (69, bA false)] fun ρ a w G => th_n ?_; refine rF G (false) (by kernel_rfl) ?_; refine wp_skip (th_n (wp_seq (wp_seq ?_))); refine rs0s G [(1, .ptr 3 0), (2, bA false), (4, .ptr 7 0), (5, bA (okC p)), (7, .ptr 11 0), (10, yWkCompileProgram0 p), (11, yWkCompileProgram0 p), (72, yWkCompileProgram1 p)] fun ρ a w G => th_n ?_; refine rF G ((1 : Int) + (↑(cvP p).length : Int) + (↑(caP p).length : Int) + (5 : Int) * (↑(comP p).fst.length : Int) != (1 : Int) + (↑(cvP p).length : Int) + (↑(caP p).length : Int) + (5 : Int) * (↑(comP p).fst.length : Int)) (by simp [h0, h1, q1, h2]) ?_; refine wp_skip (th_n (wp_seq ?_)); refine rs1 (dk := dkP) G ⟨[(1, _, [0, 1, 2]), (2, _, [20, 21, 22])], [], []⟩ (calls_cons (hto (by exact fits (by assumption))) (calls_cons (Ctr.lend (c_iCompileProgram (p) (by exact fits (by assumption))) [.row 3, .row 3, .tree]) calls_nil)) trivial [0, 1, 2, 4, 5, 6, 7, 8, 9, 10, 11, 28, 29, 30, 60] [dI p.vars, dI p.arrays, dT p.body, .row 3 (D.ints (cvP p)), .row 3 (D.ints (caP p)), .row 50 (D.instrs (comP p).fst), .box (pL 3), .row 3 (D.ints (mkI 1 (cvP p).length)), .row 3 (D.ints (mkI (1 + (↑(cvP p).length : Int)) (caP p).length)), yWkCompileProgram2 p, .box (pL 7), .row 3 (D.ints (cvP p)), .row 3 (D.ints (caP p)), .row 50 (D.instrs (comP p).fst), .box (pL 11)] [(2, bA false), (4, .ptr 6 0), (5, bA (okC p)), (7, .ptr 10 0), (10, yWkCompileProgram0 p), (11, yWkCompileProgram0 p), (12, .ptr 14 0), (13, bA (okC p))] [] trivial fun ρ a w G => th_n (wp_seq (wp_seq ?_))
     refine rs1 (dk := dkP) G ⟨[(2, _, [11, 12, 13, 3, 4, 5])], [(false, false)], [(5, 0), (6, 0), (7, 0), (1008, 0)]⟩ (calls_cons (Ctr.lend (c_eqCode (cvP p) (caP p) ((comP p).fst)) [.row 3, .row 3, .row 50, .row 3, .row 3, .row 50]) calls_nil) ⟨(by kernel_rfl), trivial⟩ [0, 1, 2, 7, 8, 9, 10] [dI p.vars, dI p.arrays, dT p.body, .row 3 (D.ints (mkI 1 (cvP p).length)), .row 3 (D.ints (mkI (1 + (↑(cvP p).length : Int)) (caP p).length)), yWkCompileProgram2 p, .box (pL 3)] [(2, bA false), (7, .ptr 6 0), (10, yWkCompileProgram0 p), (11, yWkCompileProgram0 p), (87, .v (.bool !okC p == okC p))] [] trivial fun ρ a w G => th_n ?_; refine rF G (!okC p == okC p) (by simp [h0, h1, q1, h2]) ?_; refine wp_skip (th_n (wp_seq ?_)); refine rs0s G [(2, bA false), (7, .ptr 6 0), (10, yWkCompileProgram0 p), (11, iA 1)] fun ρ a w G => th_n (wp_seq ?_); refine rs1 (dk := dkP) G ⟨[(2, _, [3, 4, 5])], [], []⟩ (calls_cons (Ctr.lend (c_heldCode ((cvP p).length) ((caP p).length) ((comP p).fst.length) (1) (by simp [h0, h1, q1, h2]) (by exact code_fits (fits (by assumption)))) [.row 3, .row 3, .row 50]) calls_nil) trivial [0, 1, 2] [dI p.vars, dI p.arrays, dT p.body] [(2, bA false), (10, yWkCompileProgram0 p), (11, yWkCompileProgram0 p)] [] trivial fun ρ a w G => th_n (wp_seq (wp_seq ?_)); refine rs0s G [(2, bA false), (10, yWkCompileProgram0 p), (11, yWkCompileProgram0 p), (92, bA false)] fun ρ a w G => th_n ?_; refine rF G (false) (by kernel_rfl) ?_; refine wp_skip (th_n (wp_seq (wp_seq ?_))); refine rs0s G [(2, bA false), (95, yWkCompileProgram1 p)] fun ρ a w G => th_n ?_; refine rF G ((1 : Int) + (↑(cvP p).length : Int) + (↑(caP p).length : Int) + (5 : Int) * (↑(comP p).fst.length : Int) != (1 : Int) + (↑(cvP p).length : Int) + (↑(caP p).length : Int) + (5 : Int) * (↑(comP p).fst.length : Int)) (by simp [h0, h1, q1, h2]) ?_; refine wp_skip (th_n (wp_seq ?_)); refine rs0s G [(2, bA true)] fun ρ a w G => th_n (wp_ret ?_); exact rx_ret (v := bA true) G [0, 1, 2] (by kernel_rfl) (by kernel_rfl) (by kernel_rfl) (by kernel_rfl)
    · have q2 : 1 + mkPN p < 0 := dTt h2; refine rs1s G ⟨[], [(decide ((1 : Int) + mkPN p < (0 : Int)), true), (true, true)], us [(3, 6, 0), (1007, 1007, 0), (9, 11, 1), (1012, 1012, 1)]⟩ calls_nil ⟨(by assumption), (by kernel_rfl), trivial⟩ [(1, .ptr 3 0), (2, bA false), (4, .ptr 7 0), (5, bA (okC p)), (7, .ptr 11 0), (61, bA true)] [] trivial fun ρ a w G => th_n ?_; refine rT G (true) (by kernel_rfl) ?_; refine wp_seq ?_; refine rs0s G [(1, .ptr 3 0), (2, bA false), (4, .ptr 7 0), (5, bA (okC p)), (7, .ptr 11 0)] fun ρ a w G => th_n (wp_ret (th_r ?_)); exact rx_ret (v := bA false) G [0, 1, 2] (by kernel_rfl) (by kernel_rfl) (by kernel_rfl) (by have e1 : (true : Bool) = (false) := (by exact absurd (by with_reducible assumption) (mk_pos p)); (first | rw [e1] | simp only [e1]) <;> rfl)
   · have q1 : (p.same p) = false := (Eq.mp (Bool.not_eq_true' _) h1); refine rT G (!p.same p) (by assumption) ?_; refine wp_seq ?_; refine rs0s G [(1, .ptr 3 0), (2, bA false), (4, .ptr 7 0), (5, bA (okC p)), (6, .ptr 11 0), (7, .ptr 15 0), (8, bA (okC p))] fun ρ a w G => th_n (wp_ret (th_r ?_)); exact rx_ret (v := bA false) G [0, 1, 2] (by kernel_rfl) (by kernel_rfl) (by kernel_rfl) (by have e1 : (true : Bool) = (false) := (by exact absurd (by with_reducible assumption) (same_no p)); (first | rw [e1] | simp only [e1]) <;> rfl)
  · have q0 : szRes 1048576 p.size < 0 := dTt h0; refine rT G (decide (szRes (1048576 : Int) p.size < (0 : Int))) (by assumption) ?_; refine wp_seq ?_; refine rs0s G [(1, .ptr 3 0), (2, bA true)] fun ρ a w G => th_n (wp_ret (th_r ?_)); exact rx_ret (v := bA true) G [0, 1, 2] (by kernel_rfl) (by kernel_rfl) (by kernel_rfl) (by kernel_rfl)

theorem walk (u : Value) (p : LProg) (w : World) (hp : ProgV w (fun _ => True) u p) : Calls Try.prog 4 #[u] w fun e w' => e = .returned (.bool true) ∧ Below w.heap.size w w' := prog_law (c_law p) u w hp

end Go.Proofs.Ytimmlkmpbmbgdaa.exCompileProgram

namespace Go.Proofs.Ytimmlkmpbmbgdaa.exCompileProgram
set_option linter.unusedVariables false
set_option linter.unusedSimpArgs false
open Go Go.RowKit Go.ChangeShapes Go.WideShapes Go.ChangeAt Go.Proofs.Ytimmlkmpbmbgdaa

set_option maxRecDepth 100000 in
theorem lifted (os : Os) (started : os.Started) (H : Type) (enc : TypeId × Value → H) :
    ReturnsInHanded {} Try.checked os 4 .any (Rows.fnExactCompileProgramSpec.pre6 enc Try.prog Try.f4 Rows.fnExactCompileProgramRow.domain false) (Rows.fnExactCompileProgramSpec.post enc Try.prog Try.f4 false true false false) := by
  refine returnsInHanded_of_change (C := Try.checked) own started (by kernel_rfl) Try.func4
    (ChangeSpec.witness6 (enc := enc) (C := Try.checked) false ⟨#[], #[.agg #[.slice none 0 0, .slice none 0 0, .slice none 0 0]], []⟩ 8 (by kernel_rfl) (by kernel_rfl) (by kernel_rfl) (by kernel_rfl)) ?_
  intro W base args ds gs before hval0 hW hcnd _
  have hval : ∀ (j : Nat) t v, Try.f4.params[j]? = some t → args[j]? = some v → Value.okWide Try.prog W .any base t v := hval0
  have hW' := hW
  obtain ⟨p, q, hA0, hV, rfl, hfz, hnd⟩ := hW
  have hA : DataW.TrodAll enc Try.prog W 0 (fun _ => true) true Try.f4.params.toList args.toList ds p := hA0
  rw [Try.params4] at hA hval
  obtain ⟨v0, vs0, d0, ds0, p0, q0, hargs, rfl, rfl, h0, r0⟩ := trodAll_cons hA
  obtain ⟨rfl, rfl, rfl⟩ := trodAll_nil r0
  obtain rfl : args = #[v0] := by cases args; simp_all
  obtain ⟨rfl, rfl⟩ := trodVars_none hV
  have k0 := h0
  have lt0 : ∀ x ∈ p0, x.block < W.heap.size := by obtain ⟨m, hm⟩ := k0; exact DataW.trod_lt m _ _ _ hm
  obtain ⟨x0, hx0⟩ := prog_of_trod (hval 0 25 v0 rfl rfl) h0
  clear hA0 hval0
  refine (walk _ x0 W hx0).mono fun e W' ⟨he, bel⟩ => ?_
  subst he
  exact ⟨_, rfl, _, _, _, [], _, [], hW', trodAll_mk1 (shut_bool Try.underlying4 _), (trodAll_cons_mk (Below.trod laidOut (by kernel_rfl) (of_decide_eq_true (by kernel_rfl)) k0 bel lt0) trodAll_mk0), rfl, bel.frame _, fun h => by cases h⟩

theorem facts : joinedFacts Try.pinned.checked.prog 4 Try.f4 Rows.fnExactCompileProgramSpec Rows.fnExactCompileProgramRow = true := by
  unfold joinedFacts
  rw [may_enter, lifts_final, make_is]
  kernel_rfl

theorem over : Rows.fnExactCompileProgramRow.holds Try.pinned (OpenSpec.ofChange Rows.fnExactCompileProgramSpec) :=
  OpenClaim.holds_of_wide 4 Try.f4 rfl rfl rfl rfl rfl rfl rfl ⟨rfl, rfl, rfl, rfl, rfl⟩ rfl rfl rfl rfl rfl (by kernel_rfl) Try.func4 facts
    (of_decide_eq_true (by kernel_rfl)) (by unfold Func.isWrapper; first | (rw [if_pos (by decide +kernel)]; kernel_rfl) | (rw [if_neg (by decide +kernel)]; exact ⟨rfl, rfl⟩))
    (fun os started H enc _ => lifted os started H enc)

theorem proved : Rows.FnExactCompileProgramSaid := over
end Go.Proofs.Ytimmlkmpbmbgdaa.exCompileProgram
