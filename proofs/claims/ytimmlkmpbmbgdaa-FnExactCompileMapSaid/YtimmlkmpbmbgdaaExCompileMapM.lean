/-
  CompileMap: the statement, whatever the argument. Conditions: none beyond the statement's own.
-/
import Derived.Test.YtimmlkmpbmbgdaaK5
import Derived.Test.YtimmlkmpbmbgdaaEnter1M
import Derived.Test.YtimmlkmpbmbgdaaEnter2M
import Derived.Test.YtimmlkmpbmbgdaaEnter3M
namespace Go.Proofs.Ytimmlkmpbmbgdaa.exCompileMap
set_option linter.unusedVariables false
set_option linter.unusedSimpArgs false
open Go Go.RowKit Go.Proofs.Ytimmlkmpbmbgdaa

theorem fits {p : LProg} (h : ¬ (szRes 1048576 p.size < 0)) : p.size ≤ 1048576 := by
  by_cases h1 : (1048576 : Int) < p.size
  · rw [szRes_neg h1] at h; omega
  · omega
theorem same_self (p : LProg) : p.same p = true := LProg.same_eq.2 rfl
theorem mark_fits {p : LProg} {n : Nat} (h : p.size ≤ n) (hn : n ≤ 1048576) : ((1 : Nat) : Int) + mkPN p ≤ 9000000000000000000 := by
  unfold mkPN
  unfold LProg.size at h
  have := (mkN_nonneg p.body).2
  omega
theorem same_no (q : LProg) : ¬ ((!q.same q) = true) := by rw [same_self]; decide
theorem mk_pos (p : LProg) : ¬ (decide ((1 : Int) + mkPN p < (0 : Int)) = true) := by
  have := (mkN_nonneg p.body).1
  unfold mkPN
  simp only [decide_eq_true_eq]; omega
theorem map_len {p : LProg} (hb : szSs p.body ≤ 1048576) : (mapP p).length ≤ 5000010 := by
  unfold mapP comP comC
  have := com_bound p hb
  split
  · simp only [List.length_append, List.length_cons, List.length_nil]; omega
  · simp
abbrev yWkCompileMap0 (p : LProg) : AV := iA (1 + (↑(mapP p).length : Int))
set_option maxRecDepth 100000 in
theorem c_law (p : LProg) : Ctr.ok Try.prog ⟨3, [pA 0], pS p, pS p, bA true⟩ := by
  have hto := t_toProgram p; refine rx_enter 96 Try.func3 (by rfl) (by kernel_rfl) (by kernel_rfl) ?_; intro ι φ ψ w0 w F ρ0 ρ a G; replace G := Gam.at G [dI p.vars, dI p.arrays, dT p.body] [(0, pA 0)]; have hself : ∀ q : LProg, q.same q = true := same_self; refine wp_seq ?_; refine rs0 G (rg 4) [dI p.vars, dI p.arrays, dT p.body, .box (pL 0)] [(1, .ptr 3 0), (2, bA false)] fun ρ a w G => th_n (wp_seq ?_); refine rs0s G [(1, .ptr 3 0), (2, bA false), (3, iA 1048576)] fun ρ a w G => th_n (wp_seq ?_); refine rs1s G ⟨[(2, _, [0, 1, 2])], [], []⟩ (calls_cons (c_szProgram (p) (1048576) (by omega) (by omega)) calls_nil) trivial [(1, .ptr 3 0), (2, bA false), (3, iA (szRes 1048576 p.size))] [] trivial fun ρ a w G => th_n (wp_seq (wp_seq ?_)); refine rs0s G [(1, .ptr 3 0), (2, bA false), (18, bA (decide (szRes 1048576 p.size < 0)))] fun ρ a w G => th_n ?_; cases h0 : (decide (szRes (1048576 : Int) p.size < (0 : Int)))
  ·
   have q0 : ¬ (szRes 1048576 p.size < 0) := dFf h0; refine rF G (decide (szRes (1048576 : Int) p.size < (0 : Int))) (by assumption) ?_; refine wp_skip (th_n (wp_seq ?_)); refine rs1 (dk := dkP) G ⟨[(1, _, [0, 1, 2]), (2, _, [12, 13, 14])], [], []⟩ (calls_cons (hto (by have h9 := fits (by assumption); have h8 := map_len (p := p) (by unfold LProg.size at h9; omega); omega)) (calls_cons (Ctr.lend (c_CompileMap (p) (by have h9 := fits (by assumption); unfold LProg.size at h9; omega)) [.row 3, .row 3, .tree]) calls_nil)) trivial [0, 1, 2, 3, 20] [dI p.vars, dI p.arrays, dT p.body, .box (pL 0), .row 3 (D.ints (mapP p))] [(1, .ptr 3 0), (2, bA false), (4, .ref 4), (5, bA (okC p))] [] trivial fun ρ a w G => th_n (wp_seq ?_); refine rs1 (dk := dkP) G ⟨[(1, _, [0, 1, 2])], [], []⟩ (calls_cons (hto (by have h9 := fits (by assumption); have h8 := map_len (p := p) (by unfold LProg.size at h9; omega); omega)) calls_nil) trivial [0, 1, 2, 3, 4, 13, 14, 15, 21] [dI p.vars, dI p.arrays, dT p.body, .box (pL 0), .row 3 (D.ints (mapP p)), .row 3 (D.ints p.vars), .row 3 (D.ints p.arrays), .tree (D.stmts p.body), .box [.ref 5, .ref 6, .tref 7]] [(1, .ptr 3 0), (2, bA false), (4, .ref 4), (5, bA (okC p)), (6, .ptr 8 0)] [] trivial fun ρ a w G => th_n (wp_seq ?_); refine rs1 (dk := dkP) G ⟨[(1, _, [5, 6, 7])], [], []⟩ (calls_cons (Ctr.lend (c_iCompileMap (p) (by have h9 := fits (by assumption); unfold LProg.size at h9; omega)) [.row 3, .row 3, .tree]) calls_nil) trivial [0, 1, 2, 3, 4, 5, 6, 7, 8, 17] [dI p.vars, dI p.arrays, dT p.body, .box (pL 0), .row 3 (D.ints (mapP p)), .row 3 (D.ints p.vars), .row 3 (D.ints p.arrays), .tree (D.stmts p.body), .box [.ref 5, .ref 6, .tref 7], .row 3 (D.ints (mapP p))] [(1, .ptr 3 0), (2, bA false), (4, .ref 4), (5, bA (okC p)), (6, .ptr 8 0), (7, .ref 9), (8, bA (okC p))] [] trivial fun ρ a w G => th_n (wp_seq (wp_seq ?_)); refine rs1s G ⟨[(2, _, [9, 4])], [(false, false)], [(5, 0), (6, 0), (7, 0), (1008, 0)]⟩ (calls_cons (Ctr.lend (c_eqIntS (mapP p)) [.row 3, .row 3]) calls_nil) ⟨(by kernel_rfl), trivial⟩ [(1, .ptr 3 0), (2, bA false), (4, .ref 4), (5, bA (okC p)), (6, .ptr 8 0), (7, .ref 9), (8, bA (okC p)), (40, .v (.bool !okC p == okC p))] [] trivial fun ρ a w G => th_n ?_; refine rF G (!okC p == okC p) (by simp [h0]) ?_; refine wp_skip (th_n (wp_seq (wp_seq ?_))); refine rd1s G ⟨[(2, _, [0, 1, 2]), (3, _, [5, 6, 7, 26, 27, 28])], [], []⟩ (calls_cons (hto (by have h9 := fits (by assumption); have h8 := map_len (p := p) (by unfold LProg.size at h9; omega); omega)) (calls_cons (Ctr.lend (c_eqProgram (p) (p)) [.row 3, .row 3, .tree, .row 3, .row 3, .tree]) calls_nil)) trivial [0, 0, 2, 7, 15] [(1, .ptr 3 0), (2, bA false), (4, .ref 4), (5, bA (okC p)), (6, .ptr 8 0), (7, .ref 9), (8, bA (okC p)), (45, .v (.bool !p.same p))] [] trivial fun ρ a w G => th_n ?_; cases h1 : (!p.same p)
   ·
    have q1 : (p.same p) = true := (Eq.mp (Bool.not_eq_false' _) h1); refine rF G (!p.same p) (by assumption) ?_; refine wp_skip (th_n (wp_seq ?_)); refine rs0s G [(1, .ptr 3 0), (2, bA false), (4, .ref 4), (5, bA (okC p)), (6, .ptr 8 0), (7, .ref 9), (8, bA (okC p)), (9, iA 1)] fun ρ a w G => th_n (wp_seq ?_); refine rs1 (dk := dkP) G ⟨[(2, _, [5, 6, 7])], [], []⟩ (calls_cons (c_markProgram (p) (1) (by exact mark_fits (fits (by assumption)) (Nat.le_refl _))) calls_nil) trivial [0, 1, 2, 3, 4, 9] [dI p.vars, dI p.arrays, dT p.body, .box (pL 0), .row 3 (D.ints (mapP p)), .row 3 (D.ints (mapP p))] [(1, .ptr 3 0), (2, bA false), (4, .ref 4), (5, bA (okC p)), (7, .ref 5), (8, bA (okC p)), (9, iA ((↑1 : Int) + mkPN p))] [] trivial fun ρ a w G => th_n (wp_seq (wp_seq ?_)); cases h2 : (decide ((1 : Int) + mkPN p < (0 : Int)))
    ·
     have q2 : ¬ (1 + mkPN p < 0) := dFf h2; refine rs1s G ⟨[(5, _, [5, 4])], [(decide ((1 : Int) + mkPN p < (0 : Int)), false), (false, false)], us [(3, 6, 0), (1007, 1007, 0), (9, 11, 1), (1012, 1012, 1)]⟩ (calls_cons (Ctr.lend (c_eqIntS (mapP p)) [.row 3, .row 3]) calls_nil) ⟨(by assumption), (by kernel_rfl), trivial⟩ [(1, .ptr 3 0), (2, bA false), (4, .ref 4), (5, bA (okC p)), (7, .ref 5), (61, .v (.bool !okC p == okC p))] [] trivial fun ρ a w G => th_n ?_; refine rF G (!okC p == okC p) (by simp [h0, h1, q1, h2]) ?_; refine wp_skip (th_n (wp_seq ?_)); refine rs0s G [(1, .ptr 3 0), (2, bA false), (4, .ref 4), (5, bA (okC p)), (7, .ref 5), (10, iA 1)] fun ρ a w G => th_n (wp_seq ?_); refine rs1 (dk := dkP) G ⟨[(2, _, [5])], [], []⟩ (calls_cons (c_markIntS (mapP p) (1) (by simp [h0, h1, q1, h2]) (by have h9 := fits (by assumption); have h8 := map_len (p := p) (by unfold LProg.size at h9; omega); omega)) calls_nil) trivial (rg 6) [dI p.vars, dI p.arrays, dT p.body, .box (pL 0), .row 3 (D.ints (mapP p)), .row 3 (D.ints (mkI 1 (mapP p).length))] [(1, .ptr 3 0), (2, bA false), (4, .ref 4), (5, bA (okC p)), (7, .ref 5), (10, yWkCompileMap0 p)] [] trivial fun ρ a w G => th_n (wp_seq ?_); refine rs0s G [(1, .ptr 3 0), (2, bA false), (4, .ref 4), (5, bA (okC p)), (7, .ref 5), (10, yWkCompileMap0 p), (11, iA 1)] fun ρ a w G => th_n (wp_seq ?_); refine rs1s G ⟨[(2, _, [5])], [], []⟩ (calls_cons (Ctr.lend (c_heldIntS ((mapP p).length) (1) (by simp [h0, h1, q1, h2]) (by have h9 := fits (by assumption); have h8 := map_len (p := p) (by unfold LProg.size at h9; omega); omega)) [.row 3]) calls_nil) trivial [(1, .ptr 3 0), (2, bA false), (4, .ref 4), (5, bA (okC p)), (7, .ref 5), (10, yWkCompileMap0 p), (11, yWkCompileMap0 p)] [] trivial fun ρ a w G => th_n (wp_seq (wp_seq ?_)); refine rs0s G [(1, .ptr 3 0), (2, bA false), (4, .ref 4), (5, bA (okC p)), (7, .ref 5), (10, yWkCompileMap0 p), (11, yWkCompileMap0 p), (69, bA false)] fun ρ a w G => th_n ?_; refine rF G (false) (by kernel_rfl) ?_; refine wp_skip (th_n (wp_seq (wp_seq ?_))); refine rs0s G [(1, .ptr 3 0), (2, bA false), (4, .ref 4), (5, bA (okC p)), (7, .ref 5), (10, yWkCompileMap0 p), (11, yWkCompileMap0 p), (72, bA (1 + (↑(mapP p).length : Int) != 1 + (↑(mapP p).length : Int)))] fun ρ a w G => th_n ?_; refine rF G ((1 : Int) + (↑(mapP p).length : Int) != (1 : Int) + (↑(mapP p).length : Int)) (by simp [h0, h1, q1, h2]) ?_; refine wp_skip (th_n (wp_seq ?_)); refine rs1 (dk := dkP) G ⟨[(1, _, [0, 1, 2]), (2, _, [14, 15, 16])], [], []⟩ (calls_cons (hto (by have h9 := fits (by assumption); have h8 := map_len (p := p) (by unfold LProg.size at h9; omega); omega)) (calls_cons (Ctr.lend (c_iCompileMap (p) (by have h9 := fits (by assumption); unfold LProg.size at h9; omega)) [.row 3, .row 3, .tree]) calls_nil)) trivial [0, 1, 2, 4, 5, 22] [dI p.vars, dI p.arrays, dT p.body, .row 3 (D.ints (mapP p)), .row 3 (D.ints (mkI 1 (mapP p).length)), .row 3 (D.ints (mapP p))] [(2, bA false), (4, .ref 3), (5, bA (okC p)), (7, .ref 4), (10, yWkCompileMap0 p), (11, yWkCompileMap0 p), (12, .ref 5), (13, bA (okC p))] [] trivial fun ρ a w G => th_n (wp_seq (wp_seq ?_)); refine rs1 (dk := dkP) G ⟨[(2, _, [5, 3])], [(false, false)], [(5, 0), (6, 0), (7, 0), (1008, 0)]⟩ (calls_cons (Ctr.lend (c_eqIntS (mapP p)) [.row 3, .row 3]) calls_nil) ⟨(by kernel_rfl), trivial⟩ [0, 1, 2, 4] [dI p.vars, dI p.arrays, dT p.body, .row 3 (D.ints (mkI 1 (mapP p).length))] [(2, bA false), (7, .ref 3), (10, yWkCompileMap0 p), (11, yWkCompileMap0 p), (87, .v (.bool !okC p == okC p))] [] trivial fun ρ a w G => th_n ?_; refine rF G (!okC p == okC p) (by simp [h0, h1, q1, h2]) ?_; refine wp_skip (th_n ?_)
     refine wp_seq ?_; refine rs0s G [(2, bA false), (7, .ref 3), (10, yWkCompileMap0 p), (11, iA 1)] fun ρ a w G => th_n (wp_seq ?_); refine rs1 (dk := dkP) G ⟨[(2, _, [3])], [], []⟩ (calls_cons (Ctr.lend (c_heldIntS ((mapP p).length) (1) (by simp [h0, h1, q1, h2]) (by have h9 := fits (by assumption); have h8 := map_len (p := p) (by unfold LProg.size at h9; omega); omega)) [.row 3]) calls_nil) trivial [0, 1, 2] [dI p.vars, dI p.arrays, dT p.body] [(2, bA false), (10, yWkCompileMap0 p), (11, yWkCompileMap0 p)] [] trivial fun ρ a w G => th_n (wp_seq (wp_seq ?_)); refine rs0s G [(2, bA false), (10, yWkCompileMap0 p), (11, yWkCompileMap0 p), (92, bA false)] fun ρ a w G => th_n ?_; refine rF G (false) (by kernel_rfl) ?_; refine wp_skip (th_n (wp_seq (wp_seq ?_))); refine rs0s G [(2, bA false), (95, bA (1 + (↑(mapP p).length : Int) != 1 + (↑(mapP p).length : Int)))] fun ρ a w G => th_n ?_; refine rF G ((1 : Int) + (↑(mapP p).length : Int) != (1 : Int) + (↑(mapP p).length : Int)) (by simp [h0, h1, q1, h2]) ?_; refine wp_skip (th_n (wp_seq ?_)); refine rs0s G [(2, bA true)] fun ρ a w G => th_n (wp_ret ?_); exact rx_ret (v := bA true) G [0, 1, 2] (by kernel_rfl) (by kernel_rfl) (by kernel_rfl) (by kernel_rfl)
    · have q2 : 1 + mkPN p < 0 := dTt h2; refine rs1s G ⟨[], [(decide ((1 : Int) + mkPN p < (0 : Int)), true), (true, true)], us [(3, 6, 0), (1007, 1007, 0), (9, 11, 1), (1012, 1012, 1)]⟩ calls_nil ⟨(by assumption), (by kernel_rfl), trivial⟩ [(1, .ptr 3 0), (2, bA false), (4, .ref 4), (5, bA (okC p)), (7, .ref 5), (61, bA true)] [] trivial fun ρ a w G => th_n ?_; refine rT G (true) (by kernel_rfl) ?_; refine wp_seq ?_; refine rs0s G [(1, .ptr 3 0), (2, bA false), (4, .ref 4), (5, bA (okC p)), (7, .ref 5)] fun ρ a w G => th_n (wp_ret (th_r ?_)); exact rx_ret (v := bA false) G [0, 1, 2] (by kernel_rfl) (by kernel_rfl) (by kernel_rfl) (by have e1 : (true : Bool) = (false) := (by exact absurd (by with_reducible assumption) (mk_pos p)); (first | rw [e1] | simp only [e1]) <;> rfl)
   · have q1 : (p.same p) = false := (Eq.mp (Bool.not_eq_true' _) h1); refine rT G (!p.same p) (by assumption) ?_; refine wp_seq ?_; refine rs0s G [(1, .ptr 3 0), (2, bA false), (4, .ref 4), (5, bA (okC p)), (6, .ptr 8 0), (7, .ref 9), (8, bA (okC p))] fun ρ a w G => th_n (wp_ret (th_r ?_)); exact rx_ret (v := bA false) G [0, 1, 2] (by kernel_rfl) (by kernel_rfl) (by kernel_rfl) (by have e1 : (true : Bool) = (false) := (by exact absurd (by with_reducible assumption) (same_no p)); (first | rw [e1] | simp only [e1]) <;> rfl)
  · have q0 : szRes 1048576 p.size < 0 := dTt h0; refine rT G (decide (szRes (1048576 : Int) p.size < (0 : Int))) (by assumption) ?_; refine wp_seq ?_; refine rs0s G [(1, .ptr 3 0), (2, bA true)] fun ρ a w G => th_n (wp_ret (th_r ?_)); exact rx_ret (v := bA true) G [0, 1, 2] (by kernel_rfl) (by kernel_rfl) (by kernel_rfl) (by kernel_rfl)

theorem walk (u : Value) (p : LProg) (w : World) (hp : ProgV w (fun _ => True) u p) : Calls Try.prog 3 #[u] w fun e w' => e = .returned (.bool true) ∧ Below w.heap.size w w' := prog_law (c_law p) u w hp

end Go.Proofs.Ytimmlkmpbmbgdaa.exCompileMap

namespace Go.Proofs.Ytimmlkmpbmbgdaa.exCompileMap
set_option linter.unusedVariables false
set_option linter.unusedSimpArgs false
open Go Go.RowKit Go.ChangeShapes Go.WideShapes Go.ChangeAt Go.Proofs.Ytimmlkmpbmbgdaa

set_option maxRecDepth 100000 in
theorem lifted (os : Os) (started : os.Started) (H : Type) (enc : TypeId × Value → H) :
    ReturnsInHanded {} Try.checked os 3 .any (Rows.fnExactCompileMapSpec.pre6 enc Try.prog Try.f3 Rows.fnExactCompileMapRow.domain false) (Rows.fnExactCompileMapSpec.post enc Try.prog Try.f3 false true false false) := by
  refine returnsInHanded_of_change (C := Try.checked) own started (by kernel_rfl) Try.func3
    (ChangeSpec.witness6 (enc := enc) (C := Try.checked) false ⟨#[], #[.agg #[.slice none 0 0, .slice none 0 0, .slice none 0 0]], []⟩ 8 (by kernel_rfl) (by kernel_rfl) (by kernel_rfl) (by kernel_rfl)) ?_
  intro W base args ds gs before hval0 hW hcnd _
  have hval : ∀ (j : Nat) t v, Try.f3.params[j]? = some t → args[j]? = some v → Value.okWide Try.prog W .any base t v := hval0
  have hW' := hW
  obtain ⟨p, q, hA0, hV, rfl, hfz, hnd⟩ := hW
  have hA : DataW.TrodAll enc Try.prog W 0 (fun _ => true) true Try.f3.params.toList args.toList ds p := hA0
  rw [Try.params3] at hA hval
  obtain ⟨v0, vs0, d0, ds0, p0, q0, hargs, rfl, rfl, h0, r0⟩ := trodAll_cons hA
  obtain ⟨rfl, rfl, rfl⟩ := trodAll_nil r0
  obtain rfl : args = #[v0] := by cases args; simp_all
  obtain ⟨rfl, rfl⟩ := trodVars_none hV
  have k0 := h0
  have lt0 : ∀ x ∈ p0, x.block < W.heap.size := by obtain ⟨m, hm⟩ := k0; exact DataW.trod_lt m _ _ _ hm
  obtain ⟨x0, hx0⟩ := prog_of_trod (hval 0 25 v0 rfl rfl) h0
  clear hA0 hval0
  refine (walk _ x0 W hx0).mono fun e W' ⟨he, bel⟩ => ?_
  subst he
  exact ⟨_, rfl, _, _, _, [], _, [], hW', trodAll_mk1 (shut_bool Try.underlying4 _), (trodAll_cons_mk (Below.trod laidOut (by kernel_rfl) (of_decide_eq_true (by kernel_rfl)) k0 bel lt0) trodAll_mk0), rfl, bel.frame _, fun h => by cases h⟩

theorem facts : joinedFacts Try.pinned.checked.prog 3 Try.f3 Rows.fnExactCompileMapSpec Rows.fnExactCompileMapRow = true := by
  unfold joinedFacts
  rw [may_enter, lifts_final, make_is]
  kernel_rfl

theorem over : Rows.fnExactCompileMapRow.holds Try.pinned (OpenSpec.ofChange Rows.fnExactCompileMapSpec) :=
  OpenClaim.holds_of_wide 3 Try.f3 rfl rfl rfl rfl rfl rfl rfl ⟨rfl, rfl, rfl, rfl, rfl⟩ rfl rfl rfl rfl rfl (by kernel_rfl) Try.func3 facts
    (of_decide_eq_true (by kernel_rfl)) (by unfold Func.isWrapper; first | (rw [if_pos (by decide +kernel)]; kernel_rfl) | (rw [if_neg (by decide +kernel)]; exact ⟨rfl, rfl⟩))
    (fun os started H enc _ => lifted os started H enc)

theorem proved : Rows.FnExactCompileMapSaid := over
end Go.Proofs.Ytimmlkmpbmbgdaa.exCompileMap
