/-
  LInferLabels: the statement, whatever the argument. Conditions: none beyond the statement's own.
-/
import Derived.Test.YtimmlkmpbmbgdaaK6
import Derived.Test.YtimmlkmpbmbgdaaEnter1M
import Derived.Test.YtimmlkmpbmbgdaaEnter2M
import Derived.Test.YtimmlkmpbmbgdaaEnter3M
namespace Go.Proofs.Ytimmlkmpbmbgdaa.exLInferLabels
set_option linter.unusedVariables false
set_option linter.unusedSimpArgs false
open Go Go.RowKit Go.Proofs.Ytimmlkmpbmbgdaa

section
variable {p : LProg} {k : Nat}
theorem iz1 (h : (ckR p false).1 = 0) (h2 : okI p = false) : False := by rw [(inf_self h).1] at h2; cases h2
theorem iz2 (h : (ckR p false).1 = 0) : true = (decide ((infR p).vars = p.vars) && (decide ((infR p).arrays = p.arrays) && sameSs (infR p).body p.body)) := by
  rw [(inf_self h).2]; exact same_yes rfl
theorem iz3 (h : okI p = true) (h2 : ¬ (ckR (infR p) false).1 = 0) : False := h2 (inf_free h)
theorem iz4 (h : okI p = true) : true = sameSs p.body (infR p).body := by
  rw [inf_is h]; exact ((sameSs_eq _ _).2 rfl).symm
theorem iz5 (h : okI p = true) (hk : (k : Int) < p.vars.length) (h2 : flB (p.vars.getD k 0) ((infR p).vars.getD k 0) = false) : False := by
  rw [inf_flows h (by omega)] at h2; cases h2
theorem iz6 (h : okI p = true) (hk : (k : Int) < p.vars.length) : (k : Int) < (infR p).vars.length := by rw [inf_len h]; exact hk
end
abbrev yWkLInferLabels0 (c : List UInt8) := ckR (LProg.mk (infR (drV c)).vars (infR (drV c)).arrays (infR (drV c)).body) false
set_option maxRecDepth 100000 in
theorem c_law (c : List UInt8) : Ctr.ok Try.prog ⟨13, [.ref 0], [dY c], [dY c], bA true⟩ := by
  refine rx_enter 85 Try.func13 (by rfl) (by kernel_rfl) (by kernel_rfl) ?_; intro ι φ ψ w0 w F ρ0 ρ a G; replace G := Gam.at G [dY c] [(0, .ref 0)]; have hsz := drV_sz c; have hs2 := infR_sz' (drV c)
  have hb : szSs (drV c).body ≤ 1048576 := by unfold LProg.size at hsz; omega
  have hvl : (drV c).vars.length ≤ 1048576 := by unfold LProg.size at hsz; omega
  have hb2 : szSs (infR (drV c)).body ≤ 1048576 := by unfold LProg.size at hsz hs2; omega
  refine wp_seq ?_; refine rs0s G [(0, .ref 0), (2, bA false)] fun ρ a w G => th_n (wp_seq (wp_seq ?_)); refine rs0s G [(0, .ref 0), (2, bA false), (15, bA (decide ((↑c.length : Int) > 1048576)))] fun ρ a w G => th_n ?_; cases h0 : (decide ((↑c.length : Int) > (1048576 : Int)))
  ·
   have q0 : ¬ ((↑c.length : Int) > 1048576) := dFf h0; refine rF G (decide ((↑c.length : Int) > (1048576 : Int))) (by assumption) ?_; refine wp_skip (th_n (wp_seq ?_)); refine rs1 (dk := dkP) G ⟨[(1, _, [0])], [], []⟩ (calls_cons (c_DrawInferLabels (c)) calls_nil) trivial [0, 9, 10, 11, 17] [dY c, .row 3 (D.ints (drV c).vars), .row 3 (D.ints (drV c).arrays), .tree (D.stmts (drV c).body), .box [.ref 1, .ref 2, .tref 3]] [(2, bA false), (3, .ptr 4 0)] [] trivial fun ρ a w G => th_n (wp_seq ?_); refine rs1 (dk := dkP) G ⟨[(1, _, [1, 2, 3])], [], []⟩ (calls_cons (Ctr.lend (c_iInferLabels (drV c) (by exact Nat.le_trans hsz (by omega))) [.row 3, .row 3, .tree]) calls_nil) trivial [0, 1, 2, 3, 4, 13, 14, 15, 45] [dY c, .row 3 (D.ints (drV c).vars), .row 3 (D.ints (drV c).arrays), .tree (D.stmts (drV c).body), .box [.ref 1, .ref 2, .tref 3], .row 3 (D.ints (infR (drV c)).vars), .row 3 (D.ints (infR (drV c)).arrays), .tree (D.stmts (infR (drV c)).body), .box [.ref 5, .ref 6, .tref 7]] [(2, bA false), (3, .ptr 4 0), (4, .ptr 8 0), (5, bA (okI (drV c)))] [] trivial fun ρ a w G => th_n (wp_seq ?_); refine rs1 (dk := dkP) G ⟨[(1, _, [1, 2, 3])], [], []⟩ (calls_cons (Ctr.lend (c_InferLabels (drV c) (by exact Nat.le_trans hsz (by omega))) [.row 3, .row 3, .tree]) calls_nil) trivial [0, 1, 2, 3, 4, 5, 6, 7, 8, 17, 18, 19, 49] [dY c, .row 3 (D.ints (drV c).vars), .row 3 (D.ints (drV c).arrays), .tree (D.stmts (drV c).body), .box [.ref 1, .ref 2, .tref 3], .row 3 (D.ints (infR (drV c)).vars), .row 3 (D.ints (infR (drV c)).arrays), .tree (D.stmts (infR (drV c)).body), .box [.ref 5, .ref 6, .tref 7], .row 3 (D.ints (infR (drV c)).vars), .row 3 (D.ints (infR (drV c)).arrays), .tree (D.stmts (infR (drV c)).body), .box [.ref 9, .ref 10, .tref 11]] [(2, bA false), (3, .ptr 4 0), (4, .ptr 8 0), (5, bA (okI (drV c))), (6, .ptr 12 0), (7, bA (okI (drV c)))] [] trivial fun ρ a w G => th_n (wp_seq (wp_seq ?_)); refine rs1 (dk := dkP) G ⟨[(6, _, [5, 6, 7, 9, 10, 11])], [(!okI (drV c) == okI (drV c), false)], us [(4, 7, 0), (1008, 1008, 0)]⟩ (calls_cons (Ctr.lend (c_iProgramSame ((infR (drV c)).vars) ((infR (drV c)).arrays) ((infR (drV c)).body) ((infR (drV c)).vars) ((infR (drV c)).arrays) ((infR (drV c)).body)) [.row 3, .row 3, .tree, .row 3, .row 3, .tree]) calls_nil) ⟨(by simp [h0]), trivial⟩ (rg 9) [dY c, .row 3 (D.ints (drV c).vars), .row 3 (D.ints (drV c).arrays), .tree (D.stmts (drV c).body), .box [.ref 1, .ref 2, .tref 3], .row 3 (D.ints (infR (drV c)).vars), .row 3 (D.ints (infR (drV c)).arrays), .tree (D.stmts (infR (drV c)).body), .box [.ref 5, .ref 6, .tref 7]] [(2, bA false), (3, .ptr 4 0), (4, .ptr 8 0), (5, bA (okI (drV c))), (36, .v (.bool !(decide ((infR (drV c)).vars = (infR (drV c)).vars) && (decide ((infR (drV c)).arrays = (infR (drV c)).arrays) && sameSs (infR (drV c)).body (infR (drV c)).body))))] [] trivial fun ρ a w G => th_n ?_; cases h1 : (!(decide ((infR (drV c)).vars = (infR (drV c)).vars) && (decide ((infR (drV c)).arrays = (infR (drV c)).arrays) && sameSs (infR (drV c)).body (infR (drV c)).body)))
   ·
    have q1 : ((infR (drV c)).vars = (infR (drV c)).vars) ∧ (((infR (drV c)).arrays = (infR (drV c)).arrays) ∧ ((sameSs (infR (drV c)).body (infR (drV c)).body) = true)) := (fun hq => And.imp (fun hq => of_decide_eq_true (hq)) (fun hq => And.imp (fun hq => of_decide_eq_true (hq)) (fun hq => (hq)) (Bool.and_eq_true_iff.1 (hq))) (Bool.and_eq_true_iff.1 (hq))) (Eq.mp (Bool.not_eq_false' _) h1); refine rF G (!(decide ((infR (drV c)).vars = (infR (drV c)).vars) && (decide ((infR (drV c)).arrays = (infR (drV c)).arrays) && sameSs (infR (drV c)).body (infR (drV c)).body))) (by assumption) ?_; refine wp_skip (th_n (wp_seq ?_)); refine rs1s G ⟨[(1, _, [1, 2, 3])], [], []⟩ (calls_cons (Ctr.lend (c_iCheckFlowV ((drV c).vars) ((drV c).arrays) ((drV c).body) (by assumption)) [.row 3, .row 3, .tree]) calls_nil) trivial [(2, bA false), (3, .ptr 4 0), (4, .ptr 8 0), (5, bA (okI (drV c))), (8, iA (ckR (LProg.mk (drV c).vars (drV c).arrays (drV c).body) false).fst)] [] trivial fun ρ a w G => th_n (wp_seq (wp_seq ?_)); refine rs0s G [(2, bA false), (3, .ptr 4 0), (4, .ptr 8 0), (5, bA (okI (drV c))), (43, bA ((ckR (LProg.mk (drV c).vars (drV c).arrays (drV c).body) false).fst == 0))] fun ρ a w G => th_n ?_; cases h2 : ((ckR (LProg.mk (drV c).vars (drV c).arrays (drV c).body) false).fst == (0 : Int))
    ·
     have q2 : ¬ ((ckR (LProg.mk (drV c).vars (drV c).arrays (drV c).body) false).fst = 0) := ne_of_beq_false h2; refine rF G ((ckR (LProg.mk (drV c).vars (drV c).arrays (drV c).body) false).fst == (0 : Int)) (by assumption) ?_; refine wp_skip (th_n (wp_seq (wp_seq ?_))); refine rs0s G [(2, bA false), (3, .ptr 4 0), (4, .ptr 8 0), (51, .v (.bool !okI (drV c)))] fun ρ a w G => th_n ?_; cases h3 : (!okI (drV c))
     ·
      have q3 : (okI (drV c)) = true := (Eq.mp (Bool.not_eq_false' _) h3); refine rF G (!okI (drV c)) (by assumption) ?_; refine wp_skip (th_n (wp_seq ?_)); refine rs1s G ⟨[(1, _, [5, 6, 7])], [], []⟩ (calls_cons (Ctr.lend (c_iCheckFlowV ((infR (drV c)).vars) ((infR (drV c)).arrays) ((infR (drV c)).body) (by assumption)) [.row 3, .row 3, .tree]) calls_nil) trivial [(2, bA false), (3, .ptr 4 0), (4, .ptr 8 0), (10, iA (yWkLInferLabels0 c).fst)] [] trivial fun ρ a w G => th_n (wp_seq (wp_seq ?_)); refine rs0s G [(2, bA false), (3, .ptr 4 0), (4, .ptr 8 0), (10, iA (yWkLInferLabels0 c).fst), (12, iA 0)] fun ρ a w G => th_n (wp_block ?_); refine rx_for (κ := Nat) (fun k => k ≤ (drV c).vars.length) (fun k => (drV c).vars.length - k) (fun k => [dY c, .row 3 (D.ints (drV c).vars), .row 3 (D.ints (drV c).arrays), .tree (D.stmts (drV c).body), .box [.ref 1, .ref 2, .tref 3], .row 3 (D.ints (infR (drV c)).vars), .row 3 (D.ints (infR (drV c)).arrays), .tree (D.stmts (infR (drV c)).body), .box [.ref 5, .ref 6, .tref 7]]) (fun k => [(2, bA false), (3, .ptr 4 0), (4, .ptr 8 0), (10, iA (yWkLInferLabels0 c).fst), (12, iA k)]) (0) (by simp [h0, h1, h2, h3, q3]) (Gam.at G _ _) ?_; clear G; intro k ρ a w hp G; replace G := Gam.at G [dY c, .row 3 (D.ints (drV c).vars), .row 3 (D.ints (drV c).arrays), .tree (D.stmts (drV c).body), .box [.ref 1, .ref 2, .tref 3], .row 3 (D.ints (infR (drV c)).vars), .row 3 (D.ints (infR (drV c)).arrays), .tree (D.stmts (infR (drV c)).body), .box [.ref 5, .ref 6, .tref 7]] [(2, bA false), (3, .ptr 4 0), (4, .ptr 8 0), (10, iA (yWkLInferLabels0 c).fst), (12, iA (↑k : Int))]; refine wp_seq (wp_seq ?_); refine rs0s G [(2, bA false), (3, .ptr 4 0), (4, .ptr 8 0), (10, iA (yWkLInferLabels0 c).fst), (12, iA (↑k : Int)), (61, bA (decide ((↑k : Int) < (↑(drV c).vars.length : Int))))] fun ρ a w G => th_n ?_; cases h5 : (decide ((↑k : Int) < (↑(drV c).vars.length : Int)))
      ·
       have q5 : ¬ ((↑k : Int) < (↑(drV c).vars.length : Int)) := dFf h5; refine rF G (decide ((↑k : Int) < (↑(drV c).vars.length : Int))) (by assumption) ?_; refine wp_exit (th_e (th_e (bl_hit (th_n (wp_seq ?_))))); cases h6 : ((ckR (LProg.mk (infR (drV c)).vars (infR (drV c)).arrays (infR (drV c)).body) false).fst == (0 : Int))
       · have q6 : ¬ ((ckR (LProg.mk (infR (drV c)).vars (infR (drV c)).arrays (infR (drV c)).body) false).fst = 0) := ne_of_beq_false h6; exact False.elim (by exact iz3 (p := drV c) (by with_reducible assumption) (by with_reducible assumption))
       · have q6 : (ckR (LProg.mk (infR (drV c)).vars (infR (drV c)).arrays (infR (drV c)).body) false).fst = 0 := eq_of_beq h6; refine rs1 (dk := dkP) G ⟨[(7, _, [3, 7])], [((ckR (LProg.mk (infR (drV c)).vars (infR (drV c)).arrays (infR (drV c)).body) false).fst == (0 : Int), true)], us [(3, 7, 0), (1008, 1008, 0)]⟩ (calls_cons (Ctr.lend (c_ctBlock ((drV c).body) ((infR (drV c)).body)) [.tree, .tree]) calls_nil) ⟨(by assumption), trivial⟩ [0] [dY c] [(2, bA (sameSs (drV c).body (infR (drV c)).body))] [] trivial fun ρ a w G => th_n (wp_ret ?_); exact rx_ret (v := bA (sameSs (drV c).body (infR (drV c)).body)) G [0] (by kernel_rfl) (by kernel_rfl) (by kernel_rfl) (by have e1 : (true : Bool) = (sameSs (drV c).body (infR (drV c)).body) := (by exact iz4 (p := drV c) (by with_reducible assumption)); (first | rw [e1] | simp only [e1]) <;> rfl)
      ·
       have q5 : (↑k : Int) < (↑(drV c).vars.length : Int) := dTt h5; refine rT G (decide ((↑k : Int) < (↑(drV c).vars.length : Int))) (by assumption) ?_; refine wp_skip (th_n (wp_seq (wp_block (wp_seq ?_)))); refine rd1s G ⟨[(10, _, [])], [], []⟩ (calls_cons (c_iLabelFlows ((drV c).vars.getD k 0) ((infR (drV c)).vars.getD k 0)) calls_nil) trivial [0, 1, 0, 7, 15, 0, 32, 0, 224, 480, 1023, 2047] [(2, bA false), (3, .ptr 4 0), (4, .ptr 8 0), (10, iA (yWkLInferLabels0 c).fst), (12, iA (↑k : Int)), (75, .v (.bool !flB ((drV c).vars.getD k 0) ((infR (drV c)).vars.getD k 0)))] [(0 : Int) ≤ (↑k : Int), (↑k : Int) < (↑(drV c).vars.length : Int), k < (drV c).vars.length, (0 : Int) ≤ (↑k : Int), (↑k : Int) < (↑(infR (drV c)).vars.length : Int), k < (infR (drV c)).vars.length] ⟨(by simp [h0, h1, h2, h3, q3, h5]), (by assumption), (by have := iz6 (p := drV c) (k := k) (by with_reducible assumption) (by omega); omega), (by simp [h0, h1, h2, h3, q3, h5]), (by have := iz6 (p := drV c) (k := k) (by with_reducible assumption) (by omega); omega), (by have := iz6 (p := drV c) (k := k) (by with_reducible assumption) (by omega); omega), trivial⟩ fun ρ a w G => th_n ?_; cases h7 : (!flB ((drV c).vars.getD k (0 : Int)) ((infR (drV c)).vars.getD k (0 : Int)))
       · have q7 : (flB ((drV c).vars.getD k 0) ((infR (drV c)).vars.getD k 0)) = true := (Eq.mp (Bool.not_eq_false' _) h7); refine rF G (!flB ((drV c).vars.getD k (0 : Int)) ((infR (drV c)).vars.getD k (0 : Int))) (by assumption) ?_; refine wp_skip ?_; refine bl_n ?_; refine th_n ?_; refine rs1s G ⟨[], [], []⟩ calls_nil trivial [(2, bA false), (3, .ptr 4 0), (4, .ptr 8 0), (10, iA (yWkLInferLabels0 c).fst), (12, iA ((↑k : Int) + 1))] [IntKind.i64.wrap ((↑k : Int) + (1 : Int)) = (↑k : Int) + (1 : Int)] ⟨(by exact w64 (by omega) (by omega)), trivial⟩ fun ρ a w G => th_n ?_; exact rx_next G (k + 1) (by have := iz6 (p := drV c) (k := k) (by with_reducible assumption) (by omega); omega) (by have := iz6 (p := drV c) (k := k) (by with_reducible assumption) (by omega); omega) (rg 9) [dY c, .row 3 (D.ints (drV c).vars), .row 3 (D.ints (drV c).arrays), .tree (D.stmts (drV c).body), .box [.ref 1, .ref 2, .tref 3], .row 3 (D.ints (infR (drV c)).vars), .row 3 (D.ints (infR (drV c)).arrays), .tree (D.stmts (infR (drV c)).body), .box [.ref 5, .ref 6, .tref 7]] [(2, bA false), (3, .ptr 4 0), (4, .ptr 8 0), (10, iA (ckR (LProg.mk (infR (drV c)).vars (infR (drV c)).arrays (infR (drV c)).body) false).fst), (12, iA (↑(k + 1) : Int))] (by kernel_rfl) (by kernel_rfl) (by kernel_rfl) (by kernel_rfl) (by kernel_rfl)
       · have q7 : (flB ((drV c).vars.getD k 0) ((infR (drV c)).vars.getD k 0)) = false := (Eq.mp (Bool.not_eq_true' _) h7); exact False.elim (by exact iz5 (p := drV c) (k := k) (by with_reducible assumption) (by omega) (by with_reducible assumption))
     · have q3 : (okI (drV c)) = false := (Eq.mp (Bool.not_eq_true' _) h3); refine rT G (!okI (drV c)) (by assumption) ?_; refine wp_seq ?_; refine rs0s G [(2, bA true), (3, .ptr 4 0), (4, .ptr 8 0)] fun ρ a w G => th_n (wp_ret (th_r ?_)); exact rx_ret (v := bA true) G [0] (by kernel_rfl) (by kernel_rfl) (by kernel_rfl) (by kernel_rfl)
    ·
     have q2 : (ckR (LProg.mk (drV c).vars (drV c).arrays (drV c).body) false).fst = 0 := eq_of_beq h2; refine rT G ((ckR (LProg.mk (drV c).vars (drV c).arrays (drV c).body) false).fst == (0 : Int)) (by assumption) ?_; refine wp_seq ?_; cases h4 : (okI (drV c))
     · exact False.elim (by exact iz1 (p := drV c) (by with_reducible assumption) (by with_reducible assumption))
     · refine rs1s G ⟨[(4, _, [5, 6, 7, 1, 2, 3])], [(okI (drV c), true)], [(2, 0), (3, 0), (4, 0), (1005, 0)]⟩ (calls_cons (Ctr.lend (c_iProgramSame ((infR (drV c)).vars) ((infR (drV c)).arrays) ((infR (drV c)).body) ((drV c).vars) ((drV c).arrays) ((drV c).body)) [.row 3, .row 3, .tree, .row 3, .row 3, .tree]) calls_nil) ⟨(by assumption), trivial⟩ [(2, bA (decide ((infR (drV c)).vars = (drV c).vars) && (decide ((infR (drV c)).arrays = (drV c).arrays) && sameSs (infR (drV c)).body (drV c).body))), (3, .ptr 4 0), (4, .ptr 8 0), (5, bA (okI (drV c)))] [] trivial fun ρ a w G => th_n (wp_ret (th_r ?_)); exact rx_ret (v := bA (decide ((infR (drV c)).vars = (drV c).vars) && (decide ((infR (drV c)).arrays = (drV c).arrays) && sameSs (infR (drV c)).body (drV c).body))) G [0] (by kernel_rfl) (by kernel_rfl) (by kernel_rfl) (by have e1 : (true : Bool) = (decide ((infR (drV c)).vars = (drV c).vars) && (decide ((infR (drV c)).arrays = (drV c).arrays) && sameSs (infR (drV c)).body (drV c).body)) := (by exact iz2 (p := drV c) (by with_reducible assumption)); (first | rw [e1] | simp only [e1]) <;> rfl)
   · have q1 : (¬ ((infR (drV c)).vars = (infR (drV c)).vars)) ∨ ((¬ ((infR (drV c)).arrays = (infR (drV c)).arrays)) ∨ ((sameSs (infR (drV c)).body (infR (drV c)).body) = false)) := (fun hq => Or.imp (fun hq => of_decide_eq_false (hq)) (fun hq => Or.imp (fun hq => of_decide_eq_false (hq)) (fun hq => (hq)) (Bool.and_eq_false_iff.1 (hq))) (Bool.and_eq_false_iff.1 (hq))) (Eq.mp (Bool.not_eq_true' _) h1); exact False.elim (by exact same_no (by with_reducible assumption))
  · have q0 : (↑c.length : Int) > 1048576 := dTt h0; refine rT G (decide ((↑c.length : Int) > (1048576 : Int))) (by assumption) ?_; refine wp_seq ?_; refine rs0s G [(0, .ref 0), (2, bA true)] fun ρ a w G => th_n (wp_ret (th_r ?_)); exact rx_ret (v := bA true) G [0] (by kernel_rfl) (by kernel_rfl) (by kernel_rfl) (by kernel_rfl)

theorem walk (u : Value) (c : List UInt8) (w : World) (hp : Row w u c.length 1 (u8s c)) : Calls Try.prog 13 #[u] w fun e w' => e = .returned (.bool true) ∧ Below w.heap.size w w' :=
  bytes_law (c_law c) u w (hp.rowF fun _ _ => trivial)

end Go.Proofs.Ytimmlkmpbmbgdaa.exLInferLabels

namespace Go.Proofs.Ytimmlkmpbmbgdaa.exLInferLabels
set_option linter.unusedVariables false
set_option linter.unusedSimpArgs false
open Go Go.RowKit Go.ChangeShapes Go.WideShapes Go.ChangeAt Go.Proofs.Ytimmlkmpbmbgdaa

set_option maxRecDepth 100000 in
theorem lifted (os : Os) (started : os.Started) (H : Type) (enc : TypeId × Value → H) :
    ReturnsInHanded {} Try.checked os 13 .any (Rows.fnInferLabelsSpec.pre6 enc Try.prog Try.f13 Rows.fnInferLabelsRow.domain false) (Rows.fnInferLabelsSpec.post enc Try.prog Try.f13 false true false false) := by
  refine returnsInHanded_of_change (C := Try.checked) own started (by kernel_rfl) Try.func13
    (ChangeSpec.witness6 (enc := enc) (C := Try.checked) false ⟨#[], #[.slice none 0 0], []⟩ 8 (by kernel_rfl) (by kernel_rfl) (by kernel_rfl) (by kernel_rfl)) ?_
  intro W base args ds gs before hval0 hW hcnd _
  have hval : ∀ (j : Nat) t v, Try.f13.params[j]? = some t → args[j]? = some v → Value.okWide Try.prog W .any base t v := hval0
  have hW' := hW
  obtain ⟨p, q, hA0, hV, rfl, hfz, hnd⟩ := hW
  have hA : DataW.TrodAll enc Try.prog W 0 (fun _ => true) true Try.f13.params.toList args.toList ds p := hA0
  rw [Try.params13] at hA hval
  obtain ⟨v0, vs0, d0, ds0, p0, q0, hargs, rfl, rfl, h0, r0⟩ := trodAll_cons hA
  obtain ⟨rfl, rfl, rfl⟩ := trodAll_nil r0
  obtain rfl : args = #[v0] := by cases args; simp_all
  obtain ⟨rfl, rfl⟩ := trodVars_none hV
  have k0 := h0
  have lt0 : ∀ x ∈ p0, x.block < W.heap.size := by obtain ⟨m, hm⟩ := k0; exact DataW.trod_lt m _ _ _ hm
  obtain ⟨a0, len0, cap0, rfl⟩ := okWide_slice Try.underlying45 (hval 0 45 v0 rfl rfl)
  obtain ⟨x0, hx0⟩ : ∃ l : List UInt8, Row W (.slice a0 len0 cap0) l.length 1 (u8s l) := by
    obtain ⟨fuel, hf⟩ := h0
    exact bytes_of_trod Try.underlying45 hf
  clear hA0 hval0
  refine (walk _ x0 W hx0).mono fun e W' ⟨he, bel⟩ => ?_
  subst he
  exact ⟨_, rfl, _, _, _, [], _, [], hW', trodAll_mk1 (shut_bool Try.underlying4 _), (trodAll_cons_mk (Below.trod laidOut (by kernel_rfl) (of_decide_eq_true (by kernel_rfl)) k0 bel lt0) trodAll_mk0), rfl, bel.frame _, fun h => by cases h⟩

theorem facts : joinedFacts Try.pinned.checked.prog 13 Try.f13 Rows.fnInferLabelsSpec Rows.fnInferLabelsRow = true := by
  unfold joinedFacts
  rw [may_enter, lifts_final, make_is]
  kernel_rfl

theorem over : Rows.fnInferLabelsRow.holds Try.pinned (OpenSpec.ofChange Rows.fnInferLabelsSpec) :=
  OpenClaim.holds_of_wide 13 Try.f13 rfl rfl rfl rfl rfl rfl rfl ⟨rfl, rfl, rfl, rfl, rfl⟩ rfl rfl rfl rfl rfl (by kernel_rfl) Try.func13 facts
    (of_decide_eq_true (by kernel_rfl)) (by unfold Func.isWrapper; first | (rw [if_pos (by decide +kernel)]; kernel_rfl) | (rw [if_neg (by decide +kernel)]; exact ⟨rfl, rfl⟩))
    (fun os started H enc _ => lifted os started H enc)

theorem proved : Rows.FnInferLabelsSaid := over
end Go.Proofs.Ytimmlkmpbmbgdaa.exLInferLabels
