/-
  LFlowBranch: the statement, whatever the argument. Conditions: none beyond the statement's own.
-/
import Derived.Test.YtimmlkmpbmbgdaaK6
import Derived.Test.YtimmlkmpbmbgdaaEnter1M
import Derived.Test.YtimmlkmpbmbgdaaEnter2M
import Derived.Test.YtimmlkmpbmbgdaaEnter3M
namespace Go.Proofs.Ytimmlkmpbmbgdaa.exLFlowBranch
set_option linter.unusedVariables false
set_option linter.unusedSimpArgs false
open Go Go.RowKit Go.Proofs.Ytimmlkmpbmbgdaa

theorem br_sz {b : List LStmt} {n : Int} (h : szSs b ≤ 200000) : szSs [⟨3, 0, ⟨0, 0, []⟩, ⟨1, n, []⟩, 0, b, []⟩] ≤ 1048576 := by
  simp only [szSs, szS, szE, szEs]; omega
theorem br_law (p : LProg) (n : Int) : (ckR ⟨p.vars, p.arrays, [⟨3, 0, ⟨0, 0, []⟩, ⟨1, n, []⟩, 0, p.body, []⟩]⟩ false).1 = 5 ∨ (ckR ⟨p.vars, p.arrays, [⟨3, 0, ⟨0, 0, []⟩, ⟨1, n, []⟩, 0, p.body, []⟩]⟩ false).1 = (ckR p false).1 := branch_law p n
set_option maxRecDepth 100000 in
theorem c_law (c d : List UInt8) : Ctr.ok Try.prog ⟨10, [.ref 0, .ref 1], [dY c, dY d], [dY c, dY d], bA true⟩ := by
  refine rx_enter 63 Try.func10 (by rfl) (by kernel_rfl) (by kernel_rfl) ?_; intro ι φ ψ w0 w F ρ0 ρ a G; replace G := Gam.at G [dY c, dY d] [(0, .ref 0), (1, .ref 1)]; have hsz := drF_sz c
  have hb0 : szSs (drF c).body ≤ 200000 := by unfold LProg.size at hsz; omega
  have hb : szSs (drF c).body ≤ 1048576 := by unfold LProg.size at hsz; omega
  have hP := br_law (drF c) ((d.length : Int).tmod 2); refine wp_seq ?_; refine rs0s G [(0, .ref 0), (1, .ref 1), (4, bA false)] fun ρ a w G => th_n (wp_seq (wp_seq ?_)); cases h0 : (decide ((↑c.length : Int) > (1048576 : Int)))
  ·
   have q0 : ¬ ((↑c.length : Int) > 1048576) := of_decide_eq_false h0; refine rs1s G ⟨[], [(decide ((↑c.length : Int) > (1048576 : Int)), false)], [(4, 0), (5, 0), (6, 0), (1007, 0)]⟩ calls_nil ⟨(by assumption), trivial⟩ [(0, .ref 0), (1, .ref 1), (4, bA false), (20, bA (decide ((↑d.length : Int) > 1048576)))] [] trivial fun ρ a w G => th_n ?_; cases h1 : (decide ((↑d.length : Int) > (1048576 : Int)))
   ·
    have q1 : ¬ ((↑d.length : Int) > 1048576) := of_decide_eq_false h1; refine rF G (decide ((↑d.length : Int) > (1048576 : Int))) (by assumption) ?_; refine wp_skip (th_n (wp_seq ?_)); refine rs1 (dk := dkP) G ⟨[(1, _, [0])], [], []⟩ (calls_cons (c_DrawCheckFlow (c)) calls_nil) trivial [0, 1, 10, 11, 12, 18] [dY c, dY d, .row 3 (D.ints (drF c).vars), .row 3 (D.ints (drF c).arrays), .tree (D.stmts (drF c).body), .box [.ref 2, .ref 3, .tref 4]] [(1, .ref 1), (4, bA false), (5, .ptr 5 0)] [] trivial fun ρ a w G => th_n (wp_seq ?_); refine rs1s G ⟨[(1, _, [2, 3, 4])], [], []⟩ (calls_cons (Ctr.lend (c_iCheckFlow (drF c) (by assumption)) [.row 3, .row 3, .tree]) calls_nil) trivial [(1, .ref 1), (4, bA false), (5, .ptr 5 0), (6, iA (ckR (drF c) false).fst)] [] trivial fun ρ a w G => th_n (wp_seq ?_); refine rs1s G ⟨[(1, _, [2, 3, 4])], [], []⟩ (calls_cons (Ctr.lend (c_CheckFlowV ((drF c).vars) ((drF c).arrays) ((drF c).body) (by assumption)) [.row 3, .row 3, .tree]) calls_nil) trivial [(1, .ref 1), (4, bA false), (5, .ptr 5 0), (6, iA (ckR (drF c) false).fst), (8, iA (ckR (LProg.mk (drF c).vars (drF c).arrays (drF c).body) false).fst)] [] trivial fun ρ a w G => th_n (wp_seq ?_); refine rs1 (dk := dkP) G ⟨[], [], []⟩ calls_nil trivial [0, 1, 2, 3, 94, 110] [dY c, dY d, .row 3 (D.ints (drF c).vars), .row 3 (D.ints (drF c).arrays), .tree (D.stmts [LStmt.mk 3 0 (LExpr.mk 0 0 []) (LExpr.mk 1 ((↑d.length : Int).tmod 2) []) 0 (drF c).body []]), .box [.ref 2, .ref 3, .tref 4]] [(4, bA false), (6, iA (ckR (drF c) false).fst), (8, iA (ckR (LProg.mk (drF c).vars (drF c).arrays (drF c).body) false).fst), (10, .ptr 5 0)] [(2 : Int) ≠ (0 : Int)] ⟨(by simp [h0, h1]), trivial⟩ fun ρ a w G => th_n (wp_seq ?_); refine rs1 (dk := dkP) G ⟨[(1, _, [2, 3, 4])], [], []⟩ (calls_cons (Ctr.lend (c_iFlowV ((drF c).vars) ((drF c).arrays) ([LStmt.mk 3 0 (LExpr.mk 0 0 []) (LExpr.mk 1 ((↑d.length : Int).tmod 2) []) 0 (drF c).body []]) (by exact br_sz hb0)) [.row 3, .row 3, .tree]) calls_nil) trivial [0, 1] [dY c, dY d] [(4, bA false), (6, iA (ckR (drF c) false).fst), (8, iA (ckR (LProg.mk (drF c).vars (drF c).arrays (drF c).body) false).fst), (11, iA (ckR (LProg.mk (drF c).vars (drF c).arrays [LStmt.mk 3 0 (LExpr.mk 0 0 []) (LExpr.mk 1 ((↑d.length : Int).tmod 2) []) 0 (drF c).body []]) false).fst)] [] trivial fun ρ a w G => th_n (wp_seq ?_); cases h2 : ((ckR (drF c) false).fst == (ckR (LProg.mk (drF c).vars (drF c).arrays (drF c).body) false).fst)
    · have q2 : ¬ ((ckR (drF c) false).fst = (ckR (LProg.mk (drF c).vars (drF c).arrays (drF c).body) false).fst) := ne_of_beq_false h2; exact False.elim (by exact beq_no (by with_reducible assumption))
    ·
     have q2 : (ckR (drF c) false).fst = (ckR (LProg.mk (drF c).vars (drF c).arrays (drF c).body) false).fst := eq_of_beq h2; cases h3 : ((ckR (LProg.mk (drF c).vars (drF c).arrays [LStmt.mk (3 : Int) (0 : Int) (LExpr.mk (0 : Int) (0 : Int) []) (LExpr.mk (1 : Int) ((↑d.length : Int).tmod (2 : Int)) []) (0 : Int) (drF c).body []]) false).fst == (5 : Int))
     · have q3 : ¬ ((ckR (LProg.mk (drF c).vars (drF c).arrays [LStmt.mk 3 0 (LExpr.mk 0 0 []) (LExpr.mk 1 ((↑d.length : Int).tmod 2) []) 0 (drF c).body []]) false).fst = 5) := ne_of_beq_false h3; refine rs1s G ⟨[], [((ckR (drF c) false).fst == (ckR (LProg.mk (drF c).vars (drF c).arrays (drF c).body) false).fst, true), ((ckR (LProg.mk (drF c).vars (drF c).arrays [LStmt.mk (3 : Int) (0 : Int) (LExpr.mk (0 : Int) (0 : Int) []) (LExpr.mk (1 : Int) ((↑d.length : Int).tmod (2 : Int)) []) (0 : Int) (drF c).body []]) false).fst == (5 : Int), false)], us [(4, 6, 0), (7, 9, 1), (10, 10, 0), (1010, 1010, 1), (1011, 1011, 0)]⟩ calls_nil ⟨(by assumption), (by assumption), trivial⟩ [(4, bA ((ckR (LProg.mk (drF c).vars (drF c).arrays [LStmt.mk 3 0 (LExpr.mk 0 0 []) (LExpr.mk 1 ((↑d.length : Int).tmod 2) []) 0 (drF c).body []]) false).fst == (ckR (drF c) false).fst))] [] trivial fun ρ a w G => th_n (wp_ret ?_); exact rx_ret (v := bA ((ckR (LProg.mk (drF c).vars (drF c).arrays [LStmt.mk 3 0 (LExpr.mk 0 0 []) (LExpr.mk 1 ((↑d.length : Int).tmod 2) []) 0 (drF c).body []]) false).fst == (ckR (drF c) false).fst)) G [0, 1] (by kernel_rfl) (by kernel_rfl) (by kernel_rfl) (by have e1 : (true : Bool) = ((ckR (LProg.mk (drF c).vars (drF c).arrays [LStmt.mk 3 0 (LExpr.mk 0 0 []) (LExpr.mk 1 ((↑d.length : Int).tmod 2) []) 0 (drF c).body []]) false).fst == (ckR (drF c) false).fst) := (by simp; omega); (first | rw [e1] | simp only [e1]) <;> rfl)
     · have q3 : (ckR (LProg.mk (drF c).vars (drF c).arrays [LStmt.mk 3 0 (LExpr.mk 0 0 []) (LExpr.mk 1 ((↑d.length : Int).tmod 2) []) 0 (drF c).body []]) false).fst = 5 := eq_of_beq h3; refine rs1s G ⟨[], [((ckR (drF c) false).fst == (ckR (LProg.mk (drF c).vars (drF c).arrays (drF c).body) false).fst, true), ((ckR (LProg.mk (drF c).vars (drF c).arrays [LStmt.mk (3 : Int) (0 : Int) (LExpr.mk (0 : Int) (0 : Int) []) (LExpr.mk (1 : Int) ((↑d.length : Int).tmod (2 : Int)) []) (0 : Int) (drF c).body []]) false).fst == (5 : Int), true)], us [(4, 6, 0), (7, 9, 1), (10, 10, 0), (1010, 1010, 1), (1011, 1011, 0)]⟩ calls_nil ⟨(by assumption), (by assumption), trivial⟩ [(4, bA true)] [] trivial fun ρ a w G => th_n (wp_ret ?_); exact rx_ret (v := bA true) G [0, 1] (by kernel_rfl) (by kernel_rfl) (by kernel_rfl) (by kernel_rfl)
   · have q1 : (↑d.length : Int) > 1048576 := of_decide_eq_true h1; refine rT G (decide ((↑d.length : Int) > (1048576 : Int))) (by assumption) ?_; refine wp_seq ?_; refine rs0s G [(0, .ref 0), (1, .ref 1), (4, bA true)] fun ρ a w G => th_n (wp_ret (th_r ?_)); exact rx_ret (v := bA true) G [0, 1] (by kernel_rfl) (by kernel_rfl) (by kernel_rfl) (by kernel_rfl)
  · have q0 : (↑c.length : Int) > 1048576 := of_decide_eq_true h0; refine rs1s G ⟨[], [(decide ((↑c.length : Int) > (1048576 : Int)), true)], [(4, 0), (5, 0), (6, 0), (1007, 0)]⟩ calls_nil ⟨(by assumption), trivial⟩ [(0, .ref 0), (1, .ref 1), (4, bA false), (20, bA true)] [] trivial fun ρ a w G => th_n ?_; refine rT G (true) (by kernel_rfl) ?_; refine wp_seq ?_; refine rs0s G [(0, .ref 0), (1, .ref 1), (4, bA true)] fun ρ a w G => th_n (wp_ret (th_r ?_)); exact rx_ret (v := bA true) G [0, 1] (by kernel_rfl) (by kernel_rfl) (by kernel_rfl) (by kernel_rfl)

theorem walk (u : Value) (c : List UInt8) (v : Value) (d : List UInt8) (w : World) (hp : Row w u c.length 1 (u8s c)) (hq : Row w v d.length 1 (u8s d)) : Calls Try.prog 10 #[u, v] w fun e w' => e = .returned (.bool true) ∧ Below w.heap.size w w' :=
  bytes_law2 (c_law c d) u v w (hp.rowF fun _ _ => trivial) (hq.rowF fun _ _ => trivial)

end Go.Proofs.Ytimmlkmpbmbgdaa.exLFlowBranch

namespace Go.Proofs.Ytimmlkmpbmbgdaa.exLFlowBranch
set_option linter.unusedVariables false
set_option linter.unusedSimpArgs false
open Go Go.RowKit Go.ChangeShapes Go.WideShapes Go.ChangeAt Go.Proofs.Ytimmlkmpbmbgdaa

set_option maxRecDepth 100000 in
theorem lifted (os : Os) (started : os.Started) (H : Type) (enc : TypeId × Value → H) :
    ReturnsInHanded {} Try.checked os 10 .any (Rows.fnFlowBranchSpec.pre6 enc Try.prog Try.f10 Rows.fnFlowBranchRow.domain false) (Rows.fnFlowBranchSpec.post enc Try.prog Try.f10 false true false false) := by
  refine returnsInHanded_of_change (C := Try.checked) own started (by kernel_rfl) Try.func10
    (ChangeSpec.witness6 (enc := enc) (C := Try.checked) false ⟨#[], #[.slice none 0 0, .slice none 0 0], []⟩ 8 (by kernel_rfl) (by kernel_rfl) (by kernel_rfl) (by kernel_rfl)) ?_
  intro W base args ds gs before hval0 hW hcnd _
  have hval : ∀ (j : Nat) t v, Try.f10.params[j]? = some t → args[j]? = some v → Value.okWide Try.prog W .any base t v := hval0
  have hW' := hW
  obtain ⟨p, q, hA0, hV, rfl, hfz, hnd⟩ := hW
  have hA : DataW.TrodAll enc Try.prog W 0 (fun _ => true) true Try.f10.params.toList args.toList ds p := hA0
  rw [Try.params10] at hA hval
  obtain ⟨v0, vs0, d0, ds0, p0, q0, hargs, rfl, rfl, h0, r0⟩ := trodAll_cons hA
  obtain ⟨v1, vs1, d1, ds1, p1, q1, rfl, rfl, rfl, h1, r1⟩ := trodAll_cons r0
  obtain ⟨rfl, rfl, rfl⟩ := trodAll_nil r1
  obtain rfl : args = #[v0, v1] := by cases args; simp_all
  obtain ⟨rfl, rfl⟩ := trodVars_none hV
  have k0 := h0
  have lt0 : ∀ x ∈ p0, x.block < W.heap.size := by obtain ⟨m, hm⟩ := k0; exact DataW.trod_lt m _ _ _ hm
  obtain ⟨a0, len0, cap0, rfl⟩ := okWide_slice Try.underlying45 (hval 0 45 v0 rfl rfl)
  obtain ⟨x0, hx0⟩ : ∃ l : List UInt8, Row W (.slice a0 len0 cap0) l.length 1 (u8s l) := by
    obtain ⟨fuel, hf⟩ := h0
    exact bytes_of_trod Try.underlying45 hf
  have k1 := h1
  have lt1 : ∀ x ∈ p1, x.block < W.heap.size := by obtain ⟨m, hm⟩ := k1; exact DataW.trod_lt m _ _ _ hm
  obtain ⟨a1, len1, cap1, rfl⟩ := okWide_slice Try.underlying45 (hval 1 45 v1 rfl rfl)
  obtain ⟨x1, hx1⟩ : ∃ l : List UInt8, Row W (.slice a1 len1 cap1) l.length 1 (u8s l) := by
    obtain ⟨fuel, hf⟩ := h1
    exact bytes_of_trod Try.underlying45 hf
  clear hA0 hval0
  refine (walk _ x0 _ x1 W hx0 hx1).mono fun e W' ⟨he, bel⟩ => ?_
  subst he
  exact ⟨_, rfl, _, _, _, [], _, [], hW', trodAll_mk1 (shut_bool Try.underlying4 _), (trodAll_cons_mk (Below.trod laidOut (by kernel_rfl) (of_decide_eq_true (by kernel_rfl)) k0 bel lt0) (trodAll_cons_mk (Below.trod laidOut (by kernel_rfl) (of_decide_eq_true (by kernel_rfl)) k1 bel lt1) trodAll_mk0)), rfl, bel.frame _, fun h => by cases h⟩

theorem facts : joinedFacts Try.pinned.checked.prog 10 Try.f10 Rows.fnFlowBranchSpec Rows.fnFlowBranchRow = true := by
  unfold joinedFacts
  rw [may_enter, lifts_final, make_is]
  kernel_rfl

theorem over : Rows.fnFlowBranchRow.holds Try.pinned (OpenSpec.ofChange Rows.fnFlowBranchSpec) :=
  OpenClaim.holds_of_wide 10 Try.f10 rfl rfl rfl rfl rfl rfl rfl ⟨rfl, rfl, rfl, rfl, rfl⟩ rfl rfl rfl rfl rfl (by kernel_rfl) Try.func10 facts
    (of_decide_eq_true (by kernel_rfl)) (by unfold Func.isWrapper; first | (rw [if_pos (by decide +kernel)]; kernel_rfl) | (rw [if_neg (by decide +kernel)]; exact ⟨rfl, rfl⟩))
    (fun os started H enc _ => lifted os started H enc)

theorem proved : Rows.FnFlowBranchSaid := over
end Go.Proofs.Ytimmlkmpbmbgdaa.exLFlowBranch
