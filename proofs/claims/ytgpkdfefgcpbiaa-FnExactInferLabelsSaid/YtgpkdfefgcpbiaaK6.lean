/-
  Texts of this claim, part 6: what the functions on the way do, and plain laws. Conditions: as each statement says.
-/
import Derived.Test.YtgpkdfefgcpbiaaK5

namespace Go.Proofs.Ytgpkdfefgcpbiaa
set_option linter.unusedVariables false
set_option linter.unusedSimpArgs false
open Go Go.RowKit

theorem sx_no {a b : LExpr} (h : ¬ a = b) : sameE a b = false := by
  cases e : sameE a b
  · rfl
  · exact absurd ((sameE_eq a b).1 e) h
section
variable {a b : LExpr} {k : Nat}
theorem sx1 (h : ¬ a.kind = b.kind) : sameE a b = false := sx_no fun e => h (by rw [e])
theorem sx2 (h : ¬ a.value = b.value) : sameE a b = false := sx_no fun e => h (by rw [e])
theorem sx3 (h : ¬ (a.kids.length : Int) = b.kids.length) : sameE a b = false := sx_no fun e => h (by rw [e])
theorem sx4 (h : sameE (a.kids.getD k default) (b.kids.getD k default) = false) : sameE a b = false := sx_no fun e => by
  subst e
  rw [(sameE_eq _ _).2 rfl] at h; cases h
theorem take_next {α : Type} {l m : List α} {k : Nat} {z : α} (h : l.take k = m.take k) (h1 : k < l.length) (h2 : k < m.length) (e : l.getD k z = m.getD k z) : l.take (k + 1) = m.take (k + 1) := by
  rw [take_succ_get _ _ h1, take_succ_get _ _ h2, h, ← getD_lt (d := z) h1, ← getD_lt (d := z) h2, e]
theorem take_fin {α : Type} {l m : List α} {k : Nat} (h : l.take k = m.take k) (h1 : l.length ≤ k) (h2 : (l.length : Int) = m.length) : l = m := by
  rw [List.take_of_length_le h1, List.take_of_length_le (by omega)] at h
  exact h
theorem sx5 (h1 : a.kind = b.kind) (h2 : a.value = b.value) (h3 : (a.kids.length : Int) = b.kids.length) (h : a.kids.take k = b.kids.take k) (hk : a.kids.length ≤ k) : sameE a b = true := by
  refine (sameE_eq _ _).2 ?_
  rw [← LExpr.eta a, ← LExpr.eta b, h1, h2, take_fin h hk h3]
end
abbrev sxC (a b : LExpr) : Ctr := fnC 207 [eA a 0, eA b 1] [dE a.kids, dE b.kids] (bA (sameE a b))
set_option maxRecDepth 100000 in
theorem s_sameX (x y : LExpr) (ih : ∀ (u : LExpr), u ∈ x.kids → ∀ (v : LExpr), Ctr.ok Try.prog (sxC u v)) : Ctr.ok Try.prog (sxC x y) := by
  refine rx_enter 46 Try.func207 (by rfl) (by kernel_rfl) (by kernel_rfl) ?_
  intro ι φ ψ w0 w F ρ0 ρ a G
  replace G := Gam.at G [dE x.kids, dE y.kids] [(0, eA x 0), (1, eA y 1)]
  have hl : x.kids.length ≤ 9223372036854775807 := G.len 0 (d := .exprs x.kids) (by kernel_rfl)
  refine wp_seq ?_
  refine rs0 G [0, 1, 2, 10] [dE x.kids, dE y.kids, .box (eL x 0), .box (eL y 1)] [(2, .ptr 2 0), (3, .ptr 3 0), (4, bA false)] ?_
  clear G; intro ρ a w G
  refine th_n ?_
  refine wp_seq ?_
  refine wp_seq ?_
  cases h0 : (x.kind != y.kind)
  ·
   have q0 : x.kind = y.kind := (by simpa using h0)
   cases h1 : (x.value != y.value)
   ·
    have q1 : x.value = y.value := (by simpa using h1)
    refine rs1s G ⟨[], [(x.kind != y.kind, false), (x.value != y.value, false)], [(6, 0), (7, 0), (8, 0), (9, 0), (10, 0), (1011, 0), (13, 1), (14, 1), (15, 1), (16, 1), (17, 1), (18, 1), (19, 1), (1020, 1)]⟩ calls_nil ⟨(by assumption), (by assumption), trivial⟩ [(2, .ptr 2 0), (3, .ptr 3 0), (4, bA false), (26, bA ((↑x.kids.length : Int) != (↑y.kids.length : Int)))] [] trivial ?_
    clear G; intro ρ a w G
    refine th_n ?_
    cases h2 : ((↑x.kids.length : Int) != (↑y.kids.length : Int))
    ·
     have q2 : (↑x.kids.length : Int) = (↑y.kids.length : Int) := (by simpa using h2)
     refine rF G ((↑x.kids.length : Int) != (↑y.kids.length : Int)) (by assumption) ?_
     refine wp_skip ?_
     refine th_n ?_
     refine wp_seq ?_
     refine wp_seq ?_
     refine rs0s G [(2, .ptr 2 0), (3, .ptr 3 0), (4, bA false), (5, iA 0)] ?_
     clear G; intro ρ a w G
     refine th_n ?_
     refine wp_block ?_
     refine rx_for (κ := Nat) (fun k => k ≤ x.kids.length ∧ x.kids.take k = y.kids.take k) (fun k => x.kids.length - k) (fun k => [dE x.kids, dE y.kids, .box (eL x 0), .box (eL y 1)]) (fun k => [(2, .ptr 2 0), (3, .ptr 3 0), (4, bA false), (5, iA k)]) (0) (by simp [h0, h1, h2]) (Gam.at G _ _) ?_
     clear G
     intro k ρ a w hp G
     replace G := Gam.at G [dE x.kids, dE y.kids, .box (eL x 0), .box (eL y 1)] [(2, .ptr 2 0), (3, .ptr 3 0), (4, bA false), (5, iA (↑k : Int))]
     refine wp_seq ?_
     refine wp_seq ?_
     refine rs0s G [(2, .ptr 2 0), (3, .ptr 3 0), (4, bA false), (5, iA (↑k : Int)), (31, bA (decide ((↑k : Int) < (↑x.kids.length : Int))))] ?_
     clear G; intro ρ a w G
     refine th_n ?_
     cases h3 : (decide ((↑k : Int) < (↑x.kids.length : Int)))
     ·
      have q3 : ¬ ((↑k : Int) < (↑x.kids.length : Int)) := of_decide_eq_false h3
      refine rF G (decide ((↑k : Int) < (↑x.kids.length : Int))) (by assumption) ?_
      refine wp_exit ?_
      refine th_e ?_
      refine th_e ?_
      refine bl_hit ?_
      refine th_n ?_
      refine wp_seq ?_
      refine rs0 G [0, 1] [dE x.kids, dE y.kids] [(4, bA true)] ?_
      clear G; intro ρ a w G
      refine th_n ?_
      refine wp_ret ?_
      exact rx_ret (v := bA true) G [0, 1] (by kernel_rfl) (by kernel_rfl) (by kernel_rfl) (by have e1 : (sameE x y : Bool) = (true) := (by exact sx5 (by omega) (by omega) (by omega) hp.2 (by omega)); first | (rw [e1]; done) | (rw [e1]; rfl) | (simp only [e1]; done) | (simp only [e1]; rfl))
     ·
      have q3 : (↑k : Int) < (↑x.kids.length : Int) := of_decide_eq_true h3
      refine rT G (decide ((↑k : Int) < (↑x.kids.length : Int))) (by assumption) ?_
      refine wp_skip ?_
      refine th_n ?_
      refine wp_seq ?_
      refine wp_block ?_
      refine wp_seq ?_
      refine rd1s G ⟨[(10, _, [36, 76])], [], []⟩ (calls_cons (ih (x.kids.getD k default) (by exact getE_mem (by omega)) (y.kids.getD k default)) calls_nil) trivial [0, 1, 0, 7, 15, 0, 32, 0, 224, 480, 1023, 2047] [(2, .ptr 2 0), (3, .ptr 3 0), (4, bA false), (5, iA (↑k : Int)), (45, .v (.bool !sameE (x.kids.getD k default) (y.kids.getD k default)))] [(0 : Int) ≤ (↑k : Int), (↑k : Int) < (↑x.kids.length : Int), k < x.kids.length, (0 : Int) ≤ (↑k : Int), (↑k : Int) < (↑y.kids.length : Int), k < y.kids.length] ⟨(by simp [h0, h1, h2, h3]), (by assumption), (by have hp := hp; omega), (by simp [h0, h1, h2, h3]), (by have hp := hp; omega), (by have hp := hp; omega), trivial⟩ ?_
      clear G; intro ρ a w G
      refine th_n ?_
      cases h4 : (!sameE (x.kids.getD k default) (y.kids.getD k default))
      ·
       have q4 : (sameE (x.kids.getD k default) (y.kids.getD k default)) = true := (fun hq => (hq)) (Eq.mp (Bool.not_eq_false' _) h4)
       refine rF G (!sameE (x.kids.getD k default) (y.kids.getD k default)) (by assumption) ?_
       refine wp_skip ?_
       refine bl_n ?_
       refine th_n ?_
       refine rs1s G ⟨[], [], []⟩ calls_nil trivial [(2, .ptr 2 0), (3, .ptr 3 0), (4, bA false), (5, iA ((↑k : Int) + 1))] [IntKind.i64.wrap ((↑k : Int) + (1 : Int)) = (↑k : Int) + (1 : Int)] ⟨(by exact w64 (by omega) (by omega)), trivial⟩ ?_
       clear G; intro ρ a w G
       refine th_n ?_
       exact rx_next G (k + 1) (by exact ⟨by omega, take_next hp.2 (by omega) (by omega) ((sameE_eq _ _).1 (by with_reducible assumption))⟩) (by have hp := hp; omega) [0, 1, 2, 3] [dE x.kids, dE y.kids, .box (eL x 0), .box (eL y 1)] [(2, .ptr 2 0), (3, .ptr 3 0), (4, bA false), (5, iA (↑(k + 1) : Int))] (by kernel_rfl) (by kernel_rfl) (by kernel_rfl) (by kernel_rfl) (by kernel_rfl)
      ·
       have q4 : (sameE (x.kids.getD k default) (y.kids.getD k default)) = false := (fun hq => (hq)) (Eq.mp (Bool.not_eq_true' _) h4)
       refine rT G (!sameE (x.kids.getD k default) (y.kids.getD k default)) (by assumption) ?_
       refine wp_seq ?_
       refine rs0s G [(2, .ptr 2 0), (3, .ptr 3 0), (4, bA false), (5, iA (↑k : Int))] ?_
       clear G; intro ρ a w G
       refine th_n ?_
       refine wp_ret ?_
       refine bl_r ?_
       refine th_r ?_
       refine th_r ?_
       refine bl_r ?_
       refine th_r ?_
       exact rx_ret (v := bA false) G [0, 1] (by kernel_rfl) (by kernel_rfl) (by kernel_rfl) (by have e1 : (sameE x y : Bool) = (false) := (by exact sx4 (by with_reducible assumption)); first | (rw [e1]; done) | (rw [e1]; rfl) | (simp only [e1]; done) | (simp only [e1]; rfl))
    ·
     have q2 : ¬ ((↑x.kids.length : Int) = (↑y.kids.length : Int)) := bne_iff_ne.1 h2
     refine rT G ((↑x.kids.length : Int) != (↑y.kids.length : Int)) (by assumption) ?_
     refine wp_seq ?_
     refine rs0s G [(2, .ptr 2 0), (3, .ptr 3 0), (4, bA false)] ?_
     clear G; intro ρ a w G
     refine th_n ?_
     refine wp_ret ?_
     refine th_r ?_
     exact rx_ret (v := bA false) G [0, 1] (by kernel_rfl) (by kernel_rfl) (by kernel_rfl) (by have e1 : (sameE x y : Bool) = (false) := (by exact sx3 (by omega)); first | (rw [e1]; done) | (rw [e1]; rfl) | (simp only [e1]; done) | (simp only [e1]; rfl))
   ·
    have q1 : ¬ (x.value = y.value) := bne_iff_ne.1 h1
    refine rs1s G ⟨[], [(x.kind != y.kind, false), (x.value != y.value, true)], [(6, 0), (7, 0), (8, 0), (9, 0), (10, 0), (1011, 0), (13, 1), (14, 1), (15, 1), (16, 1), (17, 1), (18, 1), (19, 1), (1020, 1)]⟩ calls_nil ⟨(by assumption), (by assumption), trivial⟩ [(2, .ptr 2 0), (3, .ptr 3 0), (4, bA false), (26, bA true)] [] trivial ?_
    clear G; intro ρ a w G
    refine th_n ?_
    refine rT G (true) (by kernel_rfl) ?_
    refine wp_seq ?_
    refine rs0s G [(2, .ptr 2 0), (3, .ptr 3 0), (4, bA false)] ?_
    clear G; intro ρ a w G
    refine th_n ?_
    refine wp_ret ?_
    refine th_r ?_
    exact rx_ret (v := bA false) G [0, 1] (by kernel_rfl) (by kernel_rfl) (by kernel_rfl) (by have e1 : (sameE x y : Bool) = (false) := (by exact sx2 (by omega)); first | (rw [e1]; done) | (rw [e1]; rfl) | (simp only [e1]; done) | (simp only [e1]; rfl))
  ·
   have q0 : ¬ (x.kind = y.kind) := bne_iff_ne.1 h0
   refine rs1s G ⟨[], [(x.kind != y.kind, true), (true, true)], [(6, 0), (7, 0), (8, 0), (9, 0), (10, 0), (1011, 0), (13, 1), (14, 1), (15, 1), (16, 1), (17, 1), (18, 1), (19, 1), (1020, 1)]⟩ calls_nil ⟨(by assumption), (by kernel_rfl), trivial⟩ [(2, .ptr 2 0), (3, .ptr 3 0), (4, bA false), (26, bA true)] [] trivial ?_
   clear G; intro ρ a w G
   refine th_n ?_
   refine rT G (true) (by kernel_rfl) ?_
   refine wp_seq ?_
   refine rs0s G [(2, .ptr 2 0), (3, .ptr 3 0), (4, bA false)] ?_
   clear G; intro ρ a w G
   refine th_n ?_
   refine wp_ret ?_
   refine th_r ?_
   exact rx_ret (v := bA false) G [0, 1] (by kernel_rfl) (by kernel_rfl) (by kernel_rfl) (by have e1 : (sameE x y : Bool) = (false) := (by exact sx1 (by omega)); first | (rw [e1]; done) | (rw [e1]; rfl) | (simp only [e1]; done) | (simp only [e1]; rfl))

theorem c_sameX (x : LExpr) : ∀ (y : LExpr), Ctr.ok Try.prog (sxC x y) :=
  LExpr.ind (P := fun x => ∀ (y : LExpr), Ctr.ok Try.prog (sxC x y)) (fun k n ks ih y => s_sameX ⟨k, n, ks⟩ y fun u hu => ih u hu) x

set_option maxRecDepth 100000 in
theorem c_l2Ints (xs ys : List Int) : Ctr.ok Try.prog (fnC 152 [.ref 0, .ref 1] [dI xs, dI ys] (bA (decide (xs = ys)))) := by
  refine rx_enter 26 Try.func152 (by rfl) (by kernel_rfl) (by kernel_rfl) ?_
  intro ι φ ψ w0 w F ρ0 ρ a G
  replace G := Gam.at G [dI xs, dI ys] [(0, .ref 0), (1, .ref 1)]
  have hl : xs.length ≤ 9223372036854775807 := G.len 0 (d := .ints xs) (by kernel_rfl)
  refine wp_seq ?_
  refine rs0s G [(0, .ref 0), (1, .ref 1), (4, bA false)] ?_
  clear G; intro ρ a w G
  refine th_n ?_
  refine wp_seq ?_
  refine wp_seq ?_
  refine rs0s G [(0, .ref 0), (1, .ref 1), (4, bA false), (10, bA ((↑xs.length : Int) != (↑ys.length : Int)))] ?_
  clear G; intro ρ a w G
  refine th_n ?_
  cases h0 : ((↑xs.length : Int) != (↑ys.length : Int))
  ·
   have q0 : (↑xs.length : Int) = (↑ys.length : Int) := (by simpa using h0)
   refine rF G ((↑xs.length : Int) != (↑ys.length : Int)) (by assumption) ?_
   refine wp_skip ?_
   refine th_n ?_
   refine wp_seq ?_
   refine wp_seq ?_
   refine rs0s G [(0, .ref 0), (1, .ref 1), (4, bA false), (5, iA 0)] ?_
   clear G; intro ρ a w G
   refine th_n ?_
   refine wp_block ?_
   refine rx_for (κ := Nat) (fun k => k ≤ xs.length ∧ xs.take k = ys.take k) (fun k => xs.length - k) (fun k => [dI xs, dI ys]) (fun k => [(0, .ref 0), (1, .ref 1), (4, bA false), (5, iA k)]) (0) (by simp [h0]) (Gam.at G _ _) ?_
   clear G
   intro k ρ a w hp G
   replace G := Gam.at G [dI xs, dI ys] [(0, .ref 0), (1, .ref 1), (4, bA false), (5, iA (↑k : Int))]
   refine wp_seq ?_
   refine wp_seq ?_
   refine rs0s G [(0, .ref 0), (1, .ref 1), (4, bA false), (5, iA (↑k : Int)), (14, bA (decide ((↑k : Int) < (↑xs.length : Int))))] ?_
   clear G; intro ρ a w G
   refine th_n ?_
   cases h1 : (decide ((↑k : Int) < (↑xs.length : Int)))
   ·
    have q1 : ¬ ((↑k : Int) < (↑xs.length : Int)) := of_decide_eq_false h1
    refine rF G (decide ((↑k : Int) < (↑xs.length : Int))) (by assumption) ?_
    refine wp_exit ?_
    refine th_e ?_
    refine th_e ?_
    refine bl_hit ?_
    refine th_n ?_
    refine wp_seq ?_
    refine rs0s G [(4, bA true)] ?_
    clear G; intro ρ a w G
    refine th_n ?_
    refine wp_ret ?_
    exact rx_ret (v := bA true) G [0, 1] (by kernel_rfl) (by kernel_rfl) (by kernel_rfl) (by have e1 : (decide (xs = ys) : Bool) = (true) := (by exact decide_eq_true (take_fin hp.2 (by omega) (by omega))); first | (rw [e1]; done) | (rw [e1]; rfl) | (simp only [e1]; done) | (simp only [e1]; rfl))
   ·
    have q1 : (↑k : Int) < (↑xs.length : Int) := of_decide_eq_true h1
    refine rT G (decide ((↑k : Int) < (↑xs.length : Int))) (by assumption) ?_
    refine wp_skip ?_
    refine th_n ?_
    refine wp_seq ?_
    refine wp_block ?_
    refine wp_seq ?_
    refine rd1s G ⟨[], [], []⟩ calls_nil trivial [0, 0, 3, 7, 0, 0, 48, 112, 255] [(0, .ref 0), (1, .ref 1), (4, bA false), (5, iA (↑k : Int)), (25, bA (xs.getD k 0 != ys.getD k 0))] [(0 : Int) ≤ (↑k : Int), (↑k : Int) < (↑xs.length : Int), k < xs.length, (0 : Int) ≤ (↑k : Int), (↑k : Int) < (↑ys.length : Int), k < ys.length] ⟨(by simp [h0, h1]), (by assumption), (by have hp := hp; omega), (by simp [h0, h1]), (by have hp := hp; omega), (by have hp := hp; omega), trivial⟩ ?_
    clear G; intro ρ a w G
    refine th_n ?_
    cases h2 : (xs.getD k (0 : Int) != ys.getD k (0 : Int))
    ·
     have q2 : xs.getD k 0 = ys.getD k 0 := (by simpa using h2)
     refine rF G (xs.getD k (0 : Int) != ys.getD k (0 : Int)) (by assumption) ?_
     refine wp_skip ?_
     refine bl_n ?_
     refine th_n ?_
     refine rs1s G ⟨[], [], []⟩ calls_nil trivial [(0, .ref 0), (1, .ref 1), (4, bA false), (5, iA ((↑k : Int) + 1))] [IntKind.i64.wrap ((↑k : Int) + (1 : Int)) = (↑k : Int) + (1 : Int)] ⟨(by exact w64 (by omega) (by omega)), trivial⟩ ?_
     clear G; intro ρ a w G
     refine th_n ?_
     exact rx_next G (k + 1) (by exact ⟨by omega, take_next hp.2 (by omega) (by omega) (by omega)⟩) (by have hp := hp; omega) [0, 1] [dI xs, dI ys] [(0, .ref 0), (1, .ref 1), (4, bA false), (5, iA (↑(k + 1) : Int))] (by kernel_rfl) (by kernel_rfl) (by kernel_rfl) (by kernel_rfl) (by kernel_rfl)
    ·
     have q2 : ¬ (xs.getD k 0 = ys.getD k 0) := bne_iff_ne.1 h2
     refine rT G (xs.getD k (0 : Int) != ys.getD k (0 : Int)) (by assumption) ?_
     refine wp_seq ?_
     refine rs0s G [(0, .ref 0), (1, .ref 1), (4, bA false), (5, iA (↑k : Int))] ?_
     clear G; intro ρ a w G
     refine th_n ?_
     refine wp_ret ?_
     refine bl_r ?_
     refine th_r ?_
     refine th_r ?_
     refine bl_r ?_
     refine th_r ?_
     exact rx_ret (v := bA false) G [0, 1] (by kernel_rfl) (by kernel_rfl) (by kernel_rfl) (by have e1 : (decide (xs = ys) : Bool) = (false) := (by exact decide_eq_false fun e => by subst e; omega); first | (rw [e1]; done) | (rw [e1]; rfl) | (simp only [e1]; done) | (simp only [e1]; rfl))
  ·
   have q0 : ¬ ((↑xs.length : Int) = (↑ys.length : Int)) := bne_iff_ne.1 h0
   refine rT G ((↑xs.length : Int) != (↑ys.length : Int)) (by assumption) ?_
   refine wp_seq ?_
   refine rs0s G [(0, .ref 0), (1, .ref 1), (4, bA false)] ?_
   clear G; intro ρ a w G
   refine th_n ?_
   refine wp_ret ?_
   refine th_r ?_
   exact rx_ret (v := bA false) G [0, 1] (by kernel_rfl) (by kernel_rfl) (by kernel_rfl) (by have e1 : (decide (xs = ys) : Bool) = (false) := (by exact decide_eq_false fun e => by subst e; omega); first | (rw [e1]; done) | (rw [e1]; rfl) | (simp only [e1]; done) | (simp only [e1]; rfl))

theorem ss_no {s t : LStmt} (h : ¬ s = t) : sameS s t = false := by
  cases e : sameS s t
  · rfl
  · exact absurd ((sameS_eq s t).1 e) h
theorem sb_no {l m : List LStmt} (h : ¬ l = m) : sameSs l m = false := by
  cases e : sameSs l m
  · rfl
  · exact absurd ((sameSs_eq l m).1 e) h
section
variable {s t : LStmt} {l m : List LStmt} {k : Nat}
theorem sr1 (h : ¬ s.kind = t.kind) : sameS s t = false := ss_no fun e => h (by rw [e])
theorem sr2 (h : ¬ s.target = t.target) : sameS s t = false := ss_no fun e => h (by rw [e])
theorem sr3 (h : ¬ s.count = t.count) : sameS s t = false := ss_no fun e => h (by rw [e])
theorem sr4 (h : sameE s.index t.index = false) : sameS s t = false := ss_no fun e => by subst e; rw [(sameE_eq _ _).2 rfl] at h; cases h
theorem sr5 (h : sameE s.value t.value = false) : sameS s t = false := ss_no fun e => by subst e; rw [(sameE_eq _ _).2 rfl] at h; cases h
theorem sr6 (h : sameSs s.body t.body = false) : sameS s t = false := ss_no fun e => by subst e; rw [(sameSs_eq _ _).2 rfl] at h; cases h
theorem sr7 (h : sameSs s.els t.els = false) : sameS s t = false := ss_no fun e => by subst e; rw [(sameSs_eq _ _).2 rfl] at h; cases h
theorem sr8 (h1 : s.kind = t.kind) (h2 : s.target = t.target) (h3 : s.count = t.count) (h4 : sameE s.index t.index = true) (h5 : sameE s.value t.value = true) (h6 : sameSs s.body t.body = true) : sameS s t = sameSs s.els t.els := by
  cases e : sameSs s.els t.els
  · exact sr7 e
  · refine (sameS_eq _ _).2 ?_
    rw [← LStmt.eta s, ← LStmt.eta t, h1, h2, h3, (sameE_eq _ _).1 h4, (sameE_eq _ _).1 h5, (sameSs_eq _ _).1 h6, (sameSs_eq _ _).1 e]
theorem sb1 (h : ¬ (l.length : Int) = m.length) : sameSs l m = false := sb_no fun e => h (by rw [e])
theorem sb2 (h : sameS (l.getD k default) (m.getD k default) = false) : sameSs l m = false := sb_no fun e => by
  subst e
  rw [(sameS_eq _ _).2 rfl] at h; cases h
theorem sb3 (h3 : (l.length : Int) = m.length) (h : l.take k = m.take k) (hk : l.length ≤ k) : sameSs l m = true := (sameSs_eq _ _).2 (take_fin h hk h3)
end
abbrev sbC (l m : List LStmt) : Ctr := fnC 171 [.ref 0, .ref 1] [dT l, dT m] (bA (sameSs l m))
abbrev ssC (s t : LStmt) : Ctr := fnC 195 [sA s 0, sA t 4] (sS s ++ sS t) (bA (sameS s t))
set_option maxRecDepth 100000 in
theorem s_sameS (s t : LStmt) (ih1 : ∀ (m : List LStmt), Ctr.ok Try.prog (sbC s.body m)) (ih2 : ∀ (m : List LStmt), Ctr.ok Try.prog (sbC s.els m)) : Ctr.ok Try.prog (ssC s t) := by
  refine rx_enter 52 Try.func195 (by rfl) (by kernel_rfl) (by kernel_rfl) ?_
  intro ι φ ψ w0 w F ρ0 ρ a G
  replace G := Gam.at G [dE s.index.kids, dE s.value.kids, dT s.body, dT s.els, dE t.index.kids, dE t.value.kids, dT t.body, dT t.els] [(0, sA s 0), (1, sA t 4)]
  refine wp_seq ?_
  refine rs0 G [0, 1, 2, 3, 4, 5, 6, 7, 8, 16] [dE s.index.kids, dE s.value.kids, dT s.body, dT s.els, dE t.index.kids, dE t.value.kids, dT t.body, dT t.els, .box (sL s 0), .box (sL t 4)] [(2, .ptr 8 0), (3, .ptr 9 0), (4, bA false)] ?_
  clear G; intro ρ a w G
  refine th_n ?_
  refine wp_seq ?_
  cases h0 : (s.kind == t.kind)
  ·
   have q0 : ¬ (s.kind = t.kind) := ne_of_beq_false h0
   refine rs1 (dk := dkP) G ⟨[], [(s.kind == t.kind, false), (false, false)], [(6, 0), (7, 0), (8, 0), (9, 0), (10, 0), (1011, 0), (13, 1), (14, 1), (15, 1), (16, 1), (17, 1), (1018, 1), (20, 1), (21, 1), (22, 1), (23, 1), (24, 1), (1025, 1), (27, 1), (28, 1), (29, 1), (30, 1), (31, 1), (1032, 1), (34, 1), (35, 1), (36, 1), (37, 1), (38, 1), (1039, 1), (41, 1), (42, 1), (43, 1), (44, 1), (45, 1), (1046, 1)]⟩ calls_nil ⟨(by assumption), (by kernel_rfl), trivial⟩ [0, 1, 2, 3, 4, 5, 6, 7] [dE s.index.kids, dE s.value.kids, dT s.body, dT s.els, dE t.index.kids, dE t.value.kids, dT t.body, dT t.els] [(4, bA false)] [] trivial ?_
   clear G; intro ρ a w G
   refine th_n ?_
   refine wp_ret ?_
   exact rx_ret (v := bA false) G [0, 1, 2, 3, 4, 5, 6, 7] (by kernel_rfl) (by kernel_rfl) (by kernel_rfl) (by have e1 : (sameS s t : Bool) = (false) := (by exact sr1 (by omega)); first | (rw [e1]; done) | (rw [e1]; rfl) | (simp only [e1]; done) | (simp only [e1]; rfl))
  ·
   have q0 : s.kind = t.kind := eq_of_beq h0
   cases h1 : (s.target == t.target)
   ·
    have q1 : ¬ (s.target = t.target) := ne_of_beq_false h1
    refine rs1 (dk := dkP) G ⟨[], [(s.kind == t.kind, true), (s.target == t.target, false), (false, false)], [(6, 0), (7, 0), (8, 0), (9, 0), (10, 0), (1011, 0), (13, 1), (14, 1), (15, 1), (16, 1), (17, 1), (1018, 1), (20, 2), (21, 2), (22, 2), (23, 2), (24, 2), (1025, 2), (27, 2), (28, 2), (29, 2), (30, 2), (31, 2), (1032, 2), (34, 2), (35, 2), (36, 2), (37, 2), (38, 2), (1039, 2), (41, 2), (42, 2), (43, 2), (44, 2), (45, 2), (1046, 2)]⟩ calls_nil ⟨(by assumption), (by assumption), (by kernel_rfl), trivial⟩ [0, 1, 2, 3, 4, 5, 6, 7] [dE s.index.kids, dE s.value.kids, dT s.body, dT s.els, dE t.index.kids, dE t.value.kids, dT t.body, dT t.els] [(4, bA false)] [] trivial ?_
    clear G; intro ρ a w G
    refine th_n ?_
    refine wp_ret ?_
    exact rx_ret (v := bA false) G [0, 1, 2, 3, 4, 5, 6, 7] (by kernel_rfl) (by kernel_rfl) (by kernel_rfl) (by have e1 : (sameS s t : Bool) = (false) := (by exact sr2 (by omega)); first | (rw [e1]; done) | (rw [e1]; rfl) | (simp only [e1]; done) | (simp only [e1]; rfl))
   ·
    have q1 : s.target = t.target := eq_of_beq h1
    cases h2 : (s.count == t.count)
    ·
     have q2 : ¬ (s.count = t.count) := ne_of_beq_false h2
     refine rs1 (dk := dkP) G ⟨[], [(s.kind == t.kind, true), (s.target == t.target, true), (s.count == t.count, false), (false, false)], [(6, 0), (7, 0), (8, 0), (9, 0), (10, 0), (1011, 0), (13, 1), (14, 1), (15, 1), (16, 1), (17, 1), (1018, 1), (20, 2), (21, 2), (22, 2), (23, 2), (24, 2), (1025, 2), (27, 3), (28, 3), (29, 3), (30, 3), (31, 3), (1032, 3), (34, 3), (35, 3), (36, 3), (37, 3), (38, 3), (1039, 3), (41, 3), (42, 3), (43, 3), (44, 3), (45, 3), (1046, 3)]⟩ calls_nil ⟨(by assumption), (by assumption), (by assumption), (by kernel_rfl), trivial⟩ [0, 1, 2, 3, 4, 5, 6, 7] [dE s.index.kids, dE s.value.kids, dT s.body, dT s.els, dE t.index.kids, dE t.value.kids, dT t.body, dT t.els] [(4, bA false)] [] trivial ?_
     clear G; intro ρ a w G
     refine th_n ?_
     refine wp_ret ?_
     exact rx_ret (v := bA false) G [0, 1, 2, 3, 4, 5, 6, 7] (by kernel_rfl) (by kernel_rfl) (by kernel_rfl) (by have e1 : (sameS s t : Bool) = (false) := (by exact sr3 (by omega)); first | (rw [e1]; done) | (rw [e1]; rfl) | (simp only [e1]; done) | (simp only [e1]; rfl))
    ·
     have q2 : s.count = t.count := eq_of_beq h2
     cases h3 : (sameE s.index t.index)
     ·
      refine rs1 (dk := dkP) G ⟨[(24, _, [0, 4])], [(s.kind == t.kind, true), (s.target == t.target, true), (s.count == t.count, true), (sameE s.index t.index, false), (false, false)], [(6, 0), (7, 0), (8, 0), (9, 0), (10, 0), (1011, 0), (13, 1), (14, 1), (15, 1), (16, 1), (17, 1), (1018, 1), (20, 2), (21, 2), (22, 2), (23, 2), (24, 2), (1025, 2), (27, 3), (28, 3), (29, 3), (30, 3), (31, 3), (1032, 3), (34, 4), (35, 4), (36, 4), (37, 4), (38, 4), (1039, 4), (41, 4), (42, 4), (43, 4), (44, 4), (45, 4), (1046, 4)]⟩ (calls_cons (c_sameX (s.index) (t.index)) calls_nil) ⟨(by assumption), (by assumption), (by assumption), (by assumption), (by kernel_rfl), trivial⟩ [0, 1, 2, 3, 4, 5, 6, 7] [dE s.index.kids, dE s.value.kids, dT s.body, dT s.els, dE t.index.kids, dE t.value.kids, dT t.body, dT t.els] [(4, bA false)] [] trivial ?_
      clear G; intro ρ a w G
      refine th_n ?_
      refine wp_ret ?_
      exact rx_ret (v := bA false) G [0, 1, 2, 3, 4, 5, 6, 7] (by kernel_rfl) (by kernel_rfl) (by kernel_rfl) (by have e1 : (sameS s t : Bool) = (false) := (by exact sr4 (by with_reducible assumption)); first | (rw [e1]; done) | (rw [e1]; rfl) | (simp only [e1]; done) | (simp only [e1]; rfl))
     ·
      cases h4 : (sameE s.value t.value)
      ·
       refine rs1 (dk := dkP) G ⟨[(24, _, [0, 4]), (31, _, [1, 5])], [(s.kind == t.kind, true), (s.target == t.target, true), (s.count == t.count, true), (sameE s.index t.index, true), (sameE s.value t.value, false), (false, false)], [(6, 0), (7, 0), (8, 0), (9, 0), (10, 0), (1011, 0), (13, 1), (14, 1), (15, 1), (16, 1), (17, 1), (1018, 1), (20, 2), (21, 2), (22, 2), (23, 2), (24, 2), (1025, 2), (27, 3), (28, 3), (29, 3), (30, 3), (31, 3), (1032, 3), (34, 4), (35, 4), (36, 4), (37, 4), (38, 4), (1039, 4), (41, 5), (42, 5), (43, 5), (44, 5), (45, 5), (1046, 5)]⟩ (calls_cons (c_sameX (s.index) (t.index)) (calls_cons (c_sameX (s.value) (t.value)) calls_nil)) ⟨(by assumption), (by assumption), (by assumption), (by assumption), (by assumption), (by kernel_rfl), trivial⟩ [0, 1, 2, 3, 4, 5, 6, 7] [dE s.index.kids, dE s.value.kids, dT s.body, dT s.els, dE t.index.kids, dE t.value.kids, dT t.body, dT t.els] [(4, bA false)] [] trivial ?_
       clear G; intro ρ a w G
       refine th_n ?_
       refine wp_ret ?_
       exact rx_ret (v := bA false) G [0, 1, 2, 3, 4, 5, 6, 7] (by kernel_rfl) (by kernel_rfl) (by kernel_rfl) (by have e1 : (sameS s t : Bool) = (false) := (by exact sr5 (by with_reducible assumption)); first | (rw [e1]; done) | (rw [e1]; rfl) | (simp only [e1]; done) | (simp only [e1]; rfl))
      ·
       cases h5 : (sameSs s.body t.body)
       ·
        refine rs1 (dk := dkP) G ⟨[(24, _, [0, 4]), (31, _, [1, 5]), (38, _, [2, 6])], [(s.kind == t.kind, true), (s.target == t.target, true), (s.count == t.count, true), (sameE s.index t.index, true), (sameE s.value t.value, true), (sameSs s.body t.body, false)], [(6, 0), (7, 0), (8, 0), (9, 0), (10, 0), (1011, 0), (13, 1), (14, 1), (15, 1), (16, 1), (17, 1), (1018, 1), (20, 2), (21, 2), (22, 2), (23, 2), (24, 2), (1025, 2), (27, 3), (28, 3), (29, 3), (30, 3), (31, 3), (1032, 3), (34, 4), (35, 4), (36, 4), (37, 4), (38, 4), (1039, 4), (41, 5), (42, 5), (43, 5), (44, 5), (45, 5), (1046, 5)]⟩ (calls_cons (c_sameX (s.index) (t.index)) (calls_cons (c_sameX (s.value) (t.value)) (calls_cons (ih1 (t.body)) calls_nil))) ⟨(by assumption), (by assumption), (by assumption), (by assumption), (by assumption), (by assumption), trivial⟩ [0, 1, 2, 3, 4, 5, 6, 7] [dE s.index.kids, dE s.value.kids, dT s.body, dT s.els, dE t.index.kids, dE t.value.kids, dT t.body, dT t.els] [(4, bA false)] [] trivial ?_
        clear G; intro ρ a w G
        refine th_n ?_
        refine wp_ret ?_
        exact rx_ret (v := bA false) G [0, 1, 2, 3, 4, 5, 6, 7] (by kernel_rfl) (by kernel_rfl) (by kernel_rfl) (by have e1 : (sameS s t : Bool) = (false) := (by exact sr6 (by with_reducible assumption)); first | (rw [e1]; done) | (rw [e1]; rfl) | (simp only [e1]; done) | (simp only [e1]; rfl))
       ·
        refine rs1 (dk := dkP) G ⟨[(24, _, [0, 4]), (31, _, [1, 5]), (38, _, [2, 6]), (45, _, [3, 7])], [(s.kind == t.kind, true), (s.target == t.target, true), (s.count == t.count, true), (sameE s.index t.index, true), (sameE s.value t.value, true), (sameSs s.body t.body, true)], [(6, 0), (7, 0), (8, 0), (9, 0), (10, 0), (1011, 0), (13, 1), (14, 1), (15, 1), (16, 1), (17, 1), (1018, 1), (20, 2), (21, 2), (22, 2), (23, 2), (24, 2), (1025, 2), (27, 3), (28, 3), (29, 3), (30, 3), (31, 3), (1032, 3), (34, 4), (35, 4), (36, 4), (37, 4), (38, 4), (1039, 4), (41, 5), (42, 5), (43, 5), (44, 5), (45, 5), (1046, 5)]⟩ (calls_cons (c_sameX (s.index) (t.index)) (calls_cons (c_sameX (s.value) (t.value)) (calls_cons (ih1 (t.body)) (calls_cons (ih2 (t.els)) calls_nil)))) ⟨(by assumption), (by assumption), (by assumption), (by assumption), (by assumption), (by assumption), trivial⟩ [0, 1, 2, 3, 4, 5, 6, 7] [dE s.index.kids, dE s.value.kids, dT s.body, dT s.els, dE t.index.kids, dE t.value.kids, dT t.body, dT t.els] [(4, bA (sameSs s.els t.els))] [] trivial ?_
        clear G; intro ρ a w G
        refine th_n ?_
        refine wp_ret ?_
        exact rx_ret (v := bA (sameSs s.els t.els)) G [0, 1, 2, 3, 4, 5, 6, 7] (by kernel_rfl) (by kernel_rfl) (by kernel_rfl) (by have e1 : (sameS s t : Bool) = (sameSs s.els t.els) := (by exact sr8 (by omega) (by omega) (by omega) (by with_reducible assumption) (by with_reducible assumption) (by with_reducible assumption)); first | (rw [e1]; done) | (rw [e1]; rfl) | (simp only [e1]; done) | (simp only [e1]; rfl))

set_option maxRecDepth 100000 in
theorem s_sameB (l m : List LStmt) (ih : ∀ (s : LStmt), s ∈ l → ∀ (t : LStmt), Ctr.ok Try.prog (ssC s t)) : Ctr.ok Try.prog (sbC l m) := by
  refine rx_enter 27 Try.func171 (by rfl) (by kernel_rfl) (by kernel_rfl) ?_
  intro ι φ ψ w0 w F ρ0 ρ a G
  replace G := Gam.at G [dT l, dT m] [(0, .ref 0), (1, .ref 1)]
  have hl : l.length ≤ 9223372036854775807 := G.len 0 (d := .stmts l) (by kernel_rfl)
  refine wp_seq ?_
  refine rs0s G [(0, .ref 0), (1, .ref 1), (4, bA false)] ?_
  clear G; intro ρ a w G
  refine th_n ?_
  refine wp_seq ?_
  refine wp_seq ?_
  refine rs0s G [(0, .ref 0), (1, .ref 1), (4, bA false), (10, bA ((↑l.length : Int) != (↑m.length : Int)))] ?_
  clear G; intro ρ a w G
  refine th_n ?_
  cases h0 : ((↑l.length : Int) != (↑m.length : Int))
  ·
   have q0 : (↑l.length : Int) = (↑m.length : Int) := (by simpa using h0)
   refine rF G ((↑l.length : Int) != (↑m.length : Int)) (by assumption) ?_
   refine wp_skip ?_
   refine th_n ?_
   refine wp_seq ?_
   refine wp_seq ?_
   refine rs0s G [(0, .ref 0), (1, .ref 1), (4, bA false), (5, iA 0)] ?_
   clear G; intro ρ a w G
   refine th_n ?_
   refine wp_block ?_
   refine rx_for (κ := Nat) (fun k => k ≤ l.length ∧ l.take k = m.take k) (fun k => l.length - k) (fun k => [dT l, dT m]) (fun k => [(0, .ref 0), (1, .ref 1), (4, bA false), (5, iA k)]) (0) (by simp [h0]) (Gam.at G _ _) ?_
   clear G
   intro k ρ a w hp G
   replace G := Gam.at G [dT l, dT m] [(0, .ref 0), (1, .ref 1), (4, bA false), (5, iA (↑k : Int))]
   refine wp_seq ?_
   refine wp_seq ?_
   refine rs0s G [(0, .ref 0), (1, .ref 1), (4, bA false), (5, iA (↑k : Int)), (14, bA (decide ((↑k : Int) < (↑l.length : Int))))] ?_
   clear G; intro ρ a w G
   refine th_n ?_
   cases h1 : (decide ((↑k : Int) < (↑l.length : Int)))
   ·
    have q1 : ¬ ((↑k : Int) < (↑l.length : Int)) := of_decide_eq_false h1
    refine rF G (decide ((↑k : Int) < (↑l.length : Int))) (by assumption) ?_
    refine wp_exit ?_
    refine th_e ?_
    refine th_e ?_
    refine bl_hit ?_
    refine th_n ?_
    refine wp_seq ?_
    refine rs0s G [(4, bA true)] ?_
    clear G; intro ρ a w G
    refine th_n ?_
    refine wp_ret ?_
    exact rx_ret (v := bA true) G [0, 1] (by kernel_rfl) (by kernel_rfl) (by kernel_rfl) (by have e1 : (sameSs l m : Bool) = (true) := (by exact sb3 (by omega) hp.2 (by omega)); first | (rw [e1]; done) | (rw [e1]; rfl) | (simp only [e1]; done) | (simp only [e1]; rfl))
   ·
    have q1 : (↑k : Int) < (↑l.length : Int) := of_decide_eq_true h1
    refine rT G (decide ((↑k : Int) < (↑l.length : Int))) (by assumption) ?_
    refine wp_skip ?_
    refine th_n ?_
    refine wp_seq ?_
    refine wp_block ?_
    refine wp_seq ?_
    refine rd1s G ⟨[(8, _, [26, 27, 28, 29, 58, 59, 60, 61])], [], []⟩ (calls_cons (ih (l.getD k default) (by exact getS_mem (by omega)) (m.getD k default)) calls_nil) trivial [0, 0, 3, 7, 0, 0, 48, 112, 255, 511] [(0, .ref 0), (1, .ref 1), (4, bA false), (5, iA (↑k : Int)), (26, .v (.bool !sameS (l.getD k default) (m.getD k default)))] [(0 : Int) ≤ (↑k : Int), (↑k : Int) < (↑l.length : Int), k < l.length, (0 : Int) ≤ (↑k : Int), (↑k : Int) < (↑m.length : Int), k < m.length] ⟨(by simp [h0, h1]), (by assumption), (by have hp := hp; omega), (by simp [h0, h1]), (by have hp := hp; omega), (by have hp := hp; omega), trivial⟩ ?_
    clear G; intro ρ a w G
    refine th_n ?_
    cases h2 : (!sameS (l.getD k default) (m.getD k default))
    ·
     have q2 : (sameS (l.getD k default) (m.getD k default)) = true := (fun hq => (hq)) (Eq.mp (Bool.not_eq_false' _) h2)
     refine rF G (!sameS (l.getD k default) (m.getD k default)) (by assumption) ?_
     refine wp_skip ?_
     refine bl_n ?_
     refine th_n ?_
     refine rs1s G ⟨[], [], []⟩ calls_nil trivial [(0, .ref 0), (1, .ref 1), (4, bA false), (5, iA ((↑k : Int) + 1))] [IntKind.i64.wrap ((↑k : Int) + (1 : Int)) = (↑k : Int) + (1 : Int)] ⟨(by exact w64 (by omega) (by omega)), trivial⟩ ?_
     clear G; intro ρ a w G
     refine th_n ?_
     exact rx_next G (k + 1) (by exact ⟨by omega, take_next hp.2 (by omega) (by omega) ((sameS_eq _ _).1 (by with_reducible assumption))⟩) (by have hp := hp; omega) [0, 1] [dT l, dT m] [(0, .ref 0), (1, .ref 1), (4, bA false), (5, iA (↑(k + 1) : Int))] (by kernel_rfl) (by kernel_rfl) (by kernel_rfl) (by kernel_rfl) (by kernel_rfl)
    ·
     have q2 : (sameS (l.getD k default) (m.getD k default)) = false := (fun hq => (hq)) (Eq.mp (Bool.not_eq_true' _) h2)
     refine rT G (!sameS (l.getD k default) (m.getD k default)) (by assumption) ?_
     refine wp_seq ?_
     refine rs0s G [(0, .ref 0), (1, .ref 1), (4, bA false), (5, iA (↑k : Int))] ?_
     clear G; intro ρ a w G
     refine th_n ?_
     refine wp_ret ?_
     refine bl_r ?_
     refine th_r ?_
     refine th_r ?_
     refine bl_r ?_
     refine th_r ?_
     exact rx_ret (v := bA false) G [0, 1] (by kernel_rfl) (by kernel_rfl) (by kernel_rfl) (by have e1 : (sameSs l m : Bool) = (false) := (by exact sb2 (by with_reducible assumption)); first | (rw [e1]; done) | (rw [e1]; rfl) | (simp only [e1]; done) | (simp only [e1]; rfl))
  ·
   have q0 : ¬ ((↑l.length : Int) = (↑m.length : Int)) := bne_iff_ne.1 h0
   refine rT G ((↑l.length : Int) != (↑m.length : Int)) (by assumption) ?_
   refine wp_seq ?_
   refine rs0s G [(0, .ref 0), (1, .ref 1), (4, bA false)] ?_
   clear G; intro ρ a w G
   refine th_n ?_
   refine wp_ret ?_
   refine th_r ?_
   exact rx_ret (v := bA false) G [0, 1] (by kernel_rfl) (by kernel_rfl) (by kernel_rfl) (by have e1 : (sameSs l m : Bool) = (false) := (by exact sb1 (by omega)); first | (rw [e1]; done) | (rw [e1]; rfl) | (simp only [e1]; done) | (simp only [e1]; rfl))

theorem sameS2 (s : LStmt) : ∀ (t : LStmt), Ctr.ok Try.prog (ssC s t) :=
  LStmt.ind (P := fun s => ∀ (t : LStmt), Ctr.ok Try.prog (ssC s t)) (fun k t i v c b e h1 h2 u => s_sameS ⟨k, t, i, v, c, b, e⟩ u (fun m => s_sameB b m fun s hs => h1 s hs) fun m => s_sameB e m fun s hs => h2 s hs) s
theorem c_sameB (l m : List LStmt) : Ctr.ok Try.prog (sbC l m) := s_sameB l m fun s _ => sameS2 s
set_option maxRecDepth 100000 in
theorem c_ProgramSame (xs xt : List Int) (l : List LStmt) (ys yt : List Int) (m : List LStmt) : Ctr.ok Try.prog (fnC 123 [pA 0, pA 3] [dI xs, dI xt, dT l, dI ys, dI yt, dT m] (bA (decide (xs = ys) && (decide (xt = yt) && sameSs l m)))) := by
  refine rx_enter 24 Try.func123 (by rfl) (by kernel_rfl) (by kernel_rfl) ?_
  intro ι φ ψ w0 w F ρ0 ρ a G
  replace G := Gam.at G [dI xs, dI xt, dT l, dI ys, dI yt, dT m] [(0, pA 0), (1, pA 3)]
  refine wp_seq ?_
  refine rs0 G [0, 1, 2, 3, 4, 5, 6, 14] [dI xs, dI xt, dT l, dI ys, dI yt, dT m, .box (pL 0), .box (pL 3)] [(2, .ptr 6 0), (3, .ptr 7 0), (4, bA false)] ?_
  clear G; intro ρ a w G
  refine th_n ?_
  refine wp_seq ?_
  cases h0 : (decide (xs = ys))
  ·
   have q0 : ¬ (xs = ys) := of_decide_eq_false h0
   refine rs1 (dk := dkP) G ⟨[(4, _, [0, 3])], [(decide (xs = ys), false), (false, false)], [(6, 0), (7, 0), (8, 0), (9, 0), (10, 0), (1011, 0), (13, 1), (14, 1), (15, 1), (16, 1), (17, 1), (1018, 1)]⟩ (calls_cons (c_l2Ints (xs) (ys)) calls_nil) ⟨(by assumption), (by kernel_rfl), trivial⟩ [0, 1, 2, 3, 4, 5] [dI xs, dI xt, dT l, dI ys, dI yt, dT m] [(4, bA false)] [] trivial ?_
   clear G; intro ρ a w G
   refine th_n ?_
   refine wp_ret ?_
   exact rx_ret (v := bA false) G [0, 1, 2, 3, 4, 5] (by kernel_rfl) (by kernel_rfl) (by kernel_rfl) (by kernel_rfl)
  ·
   have q0 : xs = ys := of_decide_eq_true h0
   cases h1 : (decide (xt = yt))
   ·
    have q1 : ¬ (xt = yt) := of_decide_eq_false h1
    refine rs1 (dk := dkP) G ⟨[(4, _, [0, 3]), (10, _, [1, 4])], [(decide (xs = ys), true), (decide (xt = yt), false)], [(6, 0), (7, 0), (8, 0), (9, 0), (10, 0), (1011, 0), (13, 1), (14, 1), (15, 1), (16, 1), (17, 1), (1018, 1)]⟩ (calls_cons (c_l2Ints (xs) (ys)) (calls_cons (c_l2Ints (xt) (yt)) calls_nil)) ⟨(by assumption), (by assumption), trivial⟩ [0, 1, 2, 3, 4, 5] [dI xs, dI xt, dT l, dI ys, dI yt, dT m] [(4, bA false)] [] trivial ?_
    clear G; intro ρ a w G
    refine th_n ?_
    refine wp_ret ?_
    exact rx_ret (v := bA false) G [0, 1, 2, 3, 4, 5] (by kernel_rfl) (by kernel_rfl) (by kernel_rfl) (by kernel_rfl)
   ·
    have q1 : xt = yt := of_decide_eq_true h1
    refine rs1 (dk := dkP) G ⟨[(4, _, [0, 3]), (10, _, [1, 4]), (17, _, [2, 5])], [(decide (xs = ys), true), (decide (xt = yt), true)], [(6, 0), (7, 0), (8, 0), (9, 0), (10, 0), (1011, 0), (13, 1), (14, 1), (15, 1), (16, 1), (17, 1), (1018, 1)]⟩ (calls_cons (c_l2Ints (xs) (ys)) (calls_cons (c_l2Ints (xt) (yt)) (calls_cons (c_sameB (l) (m)) calls_nil))) ⟨(by assumption), (by assumption), trivial⟩ [0, 1, 2, 3, 4, 5] [dI xs, dI xt, dT l, dI ys, dI yt, dT m] [(4, bA (sameSs l m))] [] trivial ?_
    clear G; intro ρ a w G
    refine th_n ?_
    refine wp_ret ?_
    exact rx_ret (v := bA (sameSs l m)) G [0, 1, 2, 3, 4, 5] (by kernel_rfl) (by kernel_rfl) (by kernel_rfl) (by kernel_rfl)

end Go.Proofs.Ytgpkdfefgcpbiaa

namespace Go.Proofs.Ytgpkdfefgcpbiaa
set_option linter.unusedVariables false
set_option linter.unusedSimpArgs false
open Go Go.RowKit

theorem c_l4LabelV (vs ars : List Int) (b : List LStmt) (e : LExpr) (he : shapeB vs.length ars.length 5 e = true) : Ctr.ok Try.prog (fnC 170 [pA 0, eA e 3] ([dI vs, dI ars, dT b] ++ eS e) (iA (labE vs ars 5 e))) := c_l4Label ⟨vs, ars, b⟩ e he
theorem c_l2CopyV (vs ars : List Int) (b : List LStmt) (hb : vs.length + ars.length + szSs b ≤ 1048576) : Ctr.ok Try.prog ⟨84, [pA 0], [dI vs, dI ars, dT b], [dI vs, dI ars, dT b, .row 3 (.ints vs), .row 3 (.ints ars), .tree (.stmts b)], oA 3⟩ := c_l2Copy ⟨vs, ars, b⟩ hb
theorem c_CheckFlowV (vs ars : List Int) (b : List LStmt) (hb : szSs b ≤ 1048576) : Ctr.ok Try.prog (fnC 124 [pA 0] [dI vs, dI ars, dT b] (.tup [iA (ckR ⟨vs, ars, b⟩ false).1, iA (ckR ⟨vs, ars, b⟩ false).2])) := c_CheckFlow ⟨vs, ars, b⟩ hb

section
variable {vs ars : List Int} {cx : Int} {s : LStmt} {d : Nat} {b : Bool}
theorem on1 (k : s.kind = 1) : oneL (vs, ars) s cx = (vs.set s.target.toNat (orI (orI (vs.getD s.target.toNat 0) (labE vs ars 5 s.value)) cx), ars) := if_pos k
theorem on2 (k : s.kind = 2) : oneL (vs, ars) s cx = (vs, ars.set s.target.toNat (orI (orI (orI (ars.getD s.target.toNat 0) (labE vs ars 5 s.value)) (labE vs ars 5 s.index)) cx)) := by unfold oneL; rw [if_neg (by omega), if_pos k]
theorem on0 {q : Lab} (k1 : ¬ s.kind = 1) (k2 : ¬ s.kind = 2) : oneL q s cx = q := by unfold oneL; rw [if_neg k1, if_neg k2]
theorem up1 {q : Lab} (h1 : s.body = []) (h2 : s.els = []) : upS b (d + 1) q cx s = oneL q s cx := by rw [upS_eq, h1, h2]; rfl
theorem up3 {q : Lab} (k : s.kind = 3) : upS true (d + 1) q cx s = upB true d (upB true d q (orI cx (labE q.1 q.2 5 s.value)) s.body) (orI cx (labE (upB true d q (orI cx (labE q.1 q.2 5 s.value)) s.body).1 (upB true d q (orI cx (labE q.1 q.2 5 s.value)) s.body).2 5 s.value)) s.els := by
  rw [upS_eq, on0 (by omega) (by omega)]
  unfold innL
  simp only [if_pos k, if_true]
theorem up4 {q : Lab} (k : s.kind = 4) (h2 : s.els = []) : upS b (d + 1) q cx s = upB b d q cx s.body := by
  rw [upS_eq, on0 (by omega) (by omega), h2]
  unfold innL
  simp only [if_neg (show ¬ s.kind = 3 by omega)]
  rfl
theorem upB_next {q : Lab} {ss : List LStmt} {k : Nat} (hk : k < ss.length) : upB b d q cx (ss.take (k + 1)) = upS b d (upB b d q cx (ss.take k)) cx (ss.getD k default) := by
  unfold upB
  rw [take_succ_get _ _ hk, List.foldl_append, getD_lt hk]; rfl
theorem st_flat {nv na d k : Nat} {ss : List LStmt} (hs : ss.all (stmtB nv na (d + 1)) = true) (hk : k < ss.length) (k3 : ¬ (ss.getD k default).kind = 3) : (ss.getD k default).els = [] ∧ (¬ (ss.getD k default).kind = 4 → (ss.getD k default).body = []) := by
  have h0 := List.all_eq_true.1 hs _ (List.getElem_mem hk)
  rw [← getD_lt (d := default) hk] at h0
  rw [stmtB, Bool.and_eq_true] at h0
  have h1 := h0.1
  unfold partsB at h1
  by_cases k4 : (ss.getD k default).kind = 4
  · rw [if_pos (.inr k4), if_pos k4] at h1
    simp only [Bool.and_eq_true, decide_eq_true_eq] at h1
    exact ⟨List.eq_nil_of_length_eq_zero h1.2.1.1.1.1, fun h => absurd k4 h⟩
  · rw [if_neg (by omega)] at h1
    simp only [Bool.and_eq_true, decide_eq_true_eq] at h1
    exact ⟨List.eq_nil_of_length_eq_zero h1.1.1.2, fun _ => List.eq_nil_of_length_eq_zero h1.1.1.1⟩
section
variable {nv na d k : Nat} {ss : List LStmt} {q : Lab} {cx : Int}
theorem rn1 (hs : ss.all (stmtB nv na (d + 1)) = true) (hk : k < ss.length) (k1 : (ss.getD k default).kind = 1) : upB true (d + 1) q cx (ss.take (k + 1)) = ((upB true (d + 1) q cx (ss.take k)).1.set (ss.getD k default).target.toNat (orI (orI ((upB true (d + 1) q cx (ss.take k)).1.getD (ss.getD k default).target.toNat 0) (labE (upB true (d + 1) q cx (ss.take k)).1 (upB true (d + 1) q cx (ss.take k)).2 5 (ss.getD k default).value)) cx), (upB true (d + 1) q cx (ss.take k)).2) := by
  have h1 := st_flat hs hk (by omega)
  rw [upB_next hk, up1 (h1.2 (by omega)) h1.1]
  exact on1 k1
theorem rn2 (hs : ss.all (stmtB nv na (d + 1)) = true) (hk : k < ss.length) (k2 : (ss.getD k default).kind = 2) : upB true (d + 1) q cx (ss.take (k + 1)) = ((upB true (d + 1) q cx (ss.take k)).1, (upB true (d + 1) q cx (ss.take k)).2.set (ss.getD k default).target.toNat (orI (orI (orI ((upB true (d + 1) q cx (ss.take k)).2.getD (ss.getD k default).target.toNat 0) (labE (upB true (d + 1) q cx (ss.take k)).1 (upB true (d + 1) q cx (ss.take k)).2 5 (ss.getD k default).value)) (labE (upB true (d + 1) q cx (ss.take k)).1 (upB true (d + 1) q cx (ss.take k)).2 5 (ss.getD k default).index)) cx)) := by
  have h1 := st_flat hs hk (by omega)
  rw [upB_next hk, up1 (h1.2 (by omega)) h1.1]
  exact on2 k2
theorem rn3 (hk : k < ss.length) (k3 : (ss.getD k default).kind = 3) : upB true (d + 1) q cx (ss.take (k + 1)) = upB true d (upB true d (upB true (d + 1) q cx (ss.take k)) (orI cx (labE (upB true (d + 1) q cx (ss.take k)).1 (upB true (d + 1) q cx (ss.take k)).2 5 (ss.getD k default).value)) (ss.getD k default).body) (orI cx (labE (upB true d (upB true (d + 1) q cx (ss.take k)) (orI cx (labE (upB true (d + 1) q cx (ss.take k)).1 (upB true (d + 1) q cx (ss.take k)).2 5 (ss.getD k default).value)) (ss.getD k default).body).1 (upB true d (upB true (d + 1) q cx (ss.take k)) (orI cx (labE (upB true (d + 1) q cx (ss.take k)).1 (upB true (d + 1) q cx (ss.take k)).2 5 (ss.getD k default).value)) (ss.getD k default).body).2 5 (ss.getD k default).value)) (ss.getD k default).els := by
  rw [upB_next hk, up3 k3]
theorem rn4 (hs : ss.all (stmtB nv na (d + 1)) = true) (hk : k < ss.length) (k4 : (ss.getD k default).kind = 4) : upB true (d + 1) q cx (ss.take (k + 1)) = upB true d (upB true (d + 1) q cx (ss.take k)) cx (ss.getD k default).body := by
  rw [upB_next hk, up4 k4 (st_flat hs hk (by omega)).1]
theorem rn0 (hs : ss.all (stmtB nv na (d + 1)) = true) (hk : k < ss.length) (k1 : ¬ (ss.getD k default).kind = 1) (k2 : ¬ (ss.getD k default).kind = 2) (k3 : ¬ (ss.getD k default).kind = 3) (k4 : ¬ (ss.getD k default).kind = 4) : upB true (d + 1) q cx (ss.take (k + 1)) = upB true (d + 1) q cx (ss.take k) := by
  have h1 := st_flat hs hk k3
  rw [upB_next hk, up1 (h1.2 k4) h1.1, on0 k1 k2]
theorem rn_end (hk : ss.length ≤ k) : upB true (d + 1) q cx ss = upB true (d + 1) q cx (ss.take k) := by rw [List.take_of_length_le hk]
theorem sh_val {q r : Lab} {s : LStmt} (h : shP q r) (hv : q.1.length = nv) (ha : q.2.length = na) (hh : headB nv na s = true) (k : ¬ s.kind = 4) : shapeB r.1.length r.2.length 5 s.value = true := by rw [h.1, h.2, hv, ha]; exact hd_value hh k
theorem sh_idx {q r : Lab} {s : LStmt} (h : shP q r) (hv : q.1.length = nv) (ha : q.2.length = na) (hh : headB nv na s = true) (k : s.kind = 2) : shapeB r.1.length r.2.length 5 s.index = true := by rw [h.1, h.2, hv, ha]; exact hd_index hh k
end
end

abbrev raC (vs ars : List Int) (d : Nat) (bd ss : List LStmt) (cx : Int) : Ctr := ⟨122, [pA 0, .ref 3, iA cx], [.row 3 (.ints vs), .row 3 (.ints ars), dT bd, dT ss], [.row 3 (.ints (upB true d (vs, ars) cx ss).1), .row 3 (.ints (upB true d (vs, ars) cx ss).2), dT bd, dT ss], .tup []⟩
set_option maxHeartbeats 4000000 in
set_option maxRecDepth 100000 in
theorem s_l4Raise (nv na d : Nat) (bd ss : List LStmt) (ih : ∀ (vs ars : List Int) (tt : List LStmt) (cx : Int), 0 < ss.length → vs.length = nv → ars.length = na → tt.all (stmtB nv na d) = true → Ctr.ok Try.prog (raC vs ars d bd tt cx))
    (vs ars : List Int) (cx : Int) (hv : vs.length = nv) (ha : ars.length = na) (hs : ss.all (stmtB nv na (d + 1)) = true) : Ctr.ok Try.prog (raC vs ars (d + 1) bd ss cx) := by
  refine rx_enter 94 Try.func122 (by rfl) (by kernel_rfl) (by kernel_rfl) ?_
  intro ι φ ψ w0 w F ρ0 ρ a G
  replace G := Gam.at G [.row 3 (D.ints vs), .row 3 (D.ints ars), dT bd, dT ss] [(0, pA 0), (1, .ref 3), (2, iA cx)]
  have hlen : ss.length ≤ 9223372036854775807 := G.len 3 (d := .stmts ss) (by kernel_rfl)
  refine wp_seq ?_
  refine rs0 G [0, 1, 2, 3, 4] [.row 3 (D.ints vs), .row 3 (D.ints ars), dT bd, dT ss, .box (pL 0)] [(1, .ref 3), (2, iA cx), (3, .ptr 4 0)] ?_
  clear G; intro ρ a w G
  refine th_n ?_
  refine wp_seq ?_
  refine rs0s G [(1, .ref 3), (2, iA cx), (3, .ptr 4 0), (6, iA 0)] ?_
  clear G; intro ρ a w G
  refine th_n ?_
  refine wp_block ?_
  refine rx_for (κ := Nat) (fun k => k ≤ ss.length) (fun k => ss.length - k) (fun k => [.row 3 (.ints (upB true (d + 1) (vs, ars) cx (ss.take k)).1), .row 3 (.ints (upB true (d + 1) (vs, ars) cx (ss.take k)).2), dT bd, dT ss, .box (pL 0)]) (fun k => [(1, .ref 3), (2, iA cx), (3, .ptr 4 0), (6, iA k)]) (0) (by simp [hs]) (Gam.at G _ _) ?_
  clear G
  intro k ρ a w hp G
  replace G := Gam.at G [.row 3 (D.ints (upB true (d + 1) (vs, ars) cx (List.take k ss)).fst), .row 3 (D.ints (upB true (d + 1) (vs, ars) cx (List.take k ss)).snd), dT bd, dT ss, .box (pL 0)] [(1, .ref 3), (2, iA cx), (3, .ptr 4 0), (6, iA (↑k : Int))]
  have hsh : shP (vs, ars) (upB true (d + 1) (vs, ars) cx (ss.take k)) := upB_sh
  refine wp_seq ?_
  refine wp_seq ?_
  refine rs0s G [(1, .ref 3), (2, iA cx), (3, .ptr 4 0), (6, iA (↑k : Int)), (11, bA (decide ((↑k : Int) < (↑ss.length : Int))))] ?_
  clear G; intro ρ a w G
  refine th_n ?_
  cases h0 : (decide ((↑k : Int) < (↑ss.length : Int)))
  ·
   have q0 : ¬ ((↑k : Int) < (↑ss.length : Int)) := of_decide_eq_false h0
   refine rF G (decide ((↑k : Int) < (↑ss.length : Int))) (by assumption) ?_
   refine wp_exit ?_
   refine th_e ?_
   refine th_e ?_
   refine bl_hit ?_
   exact rx_retN (v := .tup []) G [0, 1, 2, 3] (by kernel_rfl) (by kernel_rfl) (by show _ = List.map (It.ren (nth [0, 1, 2, 3])) [.row 3 (D.ints (upB true (d + 1) (vs, ars) cx ss).fst), .row 3 (D.ints (upB true (d + 1) (vs, ars) cx ss).snd), dT bd, dT ss]; have e1 : ((upB true (d + 1) (vs, ars) cx ss).fst : List Int) = ((upB true (d + 1) (vs, ars) cx (List.take k ss)).fst) := (by exact congrArg Prod.fst (rn_end (by omega))); have e2 : ((upB true (d + 1) (vs, ars) cx ss).snd : List Int) = ((upB true (d + 1) (vs, ars) cx (List.take k ss)).snd) := (by exact congrArg Prod.snd (rn_end (by omega))); first | (rw [e1, e2]; done) | (rw [e1, e2]; rfl) | (simp only [e1, e2]; done) | (simp only [e1, e2]; rfl)) (by kernel_rfl)
  ·
   have q0 : (↑k : Int) < (↑ss.length : Int) := of_decide_eq_true h0
   refine rT G (decide ((↑k : Int) < (↑ss.length : Int))) (by assumption) ?_
   refine wp_skip ?_
   refine th_n ?_
   refine wp_seq ?_
   refine wp_block ?_
   refine wp_seq ?_
   refine rs1 (dk := dkP) G ⟨[], [], []⟩ calls_nil trivial [0, 1, 2, 3, 4, 29, 30, 31, 32, 37] [.row 3 (D.ints (upB true (d + 1) (vs, ars) cx (List.take k ss)).fst), .row 3 (D.ints (upB true (d + 1) (vs, ars) cx (List.take k ss)).snd), dT bd, dT ss, .box (pL 0), dE (ss.getD k default).index.kids, dE (ss.getD k default).value.kids, dT (ss.getD k default).body, dT (ss.getD k default).els, .box (sL (ss.getD k default) 5)] [(1, .ref 3), (2, iA cx), (3, .ptr 4 0), (6, iA (↑k : Int)), (7, .ptr 9 0)] [(0 : Int) ≤ (↑k : Int), (↑k : Int) < (↑ss.length : Int), k < ss.length] ⟨(by simp [hs, h0]), (by assumption), (by omega), trivial⟩ ?_
   clear G; intro ρ a w G
   refine th_n ?_
   refine wp_seq ?_
   refine rs0s G [(1, .ref 3), (2, iA cx), (3, .ptr 4 0), (6, iA (↑k : Int)), (7, .ptr 9 0), (19, iA (ss.getD k default).kind)] ?_
   clear G; intro ρ a w G
   refine th_n ?_
   refine wp_block ?_
   refine wp_seq ?_
   refine rs0s G [(1, .ref 3), (2, iA cx), (3, .ptr 4 0), (6, iA (↑k : Int)), (7, .ptr 9 0), (19, iA (ss.getD k default).kind), (20, bA ((ss.getD k default).kind == 1))] ?_
   clear G; intro ρ a w G
   refine th_n ?_
   cases h1 : ((ss.getD k default).kind == (1 : Int))
   ·
    have q1 : ¬ ((ss.getD k default).kind = 1) := ne_of_beq_false h1
    refine rF G ((ss.getD k default).kind == (1 : Int)) (by assumption) ?_
    refine wp_seq ?_
    refine rs0s G [(1, .ref 3), (2, iA cx), (3, .ptr 4 0), (6, iA (↑k : Int)), (7, .ptr 9 0), (19, iA (ss.getD k default).kind), (40, bA ((ss.getD k default).kind == 2))] ?_
    clear G; intro ρ a w G
    refine th_n ?_
    cases h2 : ((ss.getD k default).kind == (2 : Int))
    ·
     have q2 : ¬ ((ss.getD k default).kind = 2) := ne_of_beq_false h2
     refine rF G ((ss.getD k default).kind == (2 : Int)) (by assumption) ?_
     refine wp_seq ?_
     refine rs0s G [(1, .ref 3), (2, iA cx), (3, .ptr 4 0), (6, iA (↑k : Int)), (7, .ptr 9 0), (19, iA (ss.getD k default).kind), (65, bA ((ss.getD k default).kind == 3))] ?_
     clear G; intro ρ a w G
     refine th_n ?_
     cases h3 : ((ss.getD k default).kind == (3 : Int))
     ·
      have q3 : ¬ ((ss.getD k default).kind = 3) := ne_of_beq_false h3
      refine rF G ((ss.getD k default).kind == (3 : Int)) (by assumption) ?_
      refine wp_seq ?_
      refine rs0s G [(1, .ref 3), (2, iA cx), (3, .ptr 4 0), (6, iA (↑k : Int)), (7, .ptr 9 0), (87, bA ((ss.getD k default).kind == 4))] ?_
      clear G; intro ρ a w G
      refine th_n ?_
      cases h4 : ((ss.getD k default).kind == (4 : Int))
      ·
       have q4 : ¬ ((ss.getD k default).kind = 4) := ne_of_beq_false h4
       refine rF G ((ss.getD k default).kind == (4 : Int)) (by assumption) ?_
       refine wp_skip ?_
       refine bl_n ?_
       refine bl_n ?_
       refine th_n ?_
       refine rs1 (dk := dkP) G ⟨[], [], []⟩ calls_nil trivial [0, 1, 2, 3, 4] [.row 3 (D.ints (upB true (d + 1) (vs, ars) cx (List.take k ss)).fst), .row 3 (D.ints (upB true (d + 1) (vs, ars) cx (List.take k ss)).snd), dT bd, dT ss, .box (pL 0)] [(1, .ref 3), (2, iA cx), (3, .ptr 4 0), (6, iA ((↑k : Int) + 1))] [IntKind.i64.wrap ((↑k : Int) + (1 : Int)) = (↑k : Int) + (1 : Int)] ⟨(by exact w64 (by omega) (by omega)), trivial⟩ ?_
       clear G; intro ρ a w G
       refine th_n ?_
       exact rx_next G (k + 1) (by omega) (by omega) [0, 1, 2, 3, 4] [.row 3 (D.ints (upB true (d + 1) (vs, ars) cx (List.take (k + 1) ss)).fst), .row 3 (D.ints (upB true (d + 1) (vs, ars) cx (List.take (k + 1) ss)).snd), dT bd, dT ss, .box (pL 0)] [(1, .ref 3), (2, iA cx), (3, .ptr 4 0), (6, iA (↑(k + 1) : Int))] (by kernel_rfl) (by kernel_rfl) (by kernel_rfl) (by have e1 : ((upB true (d + 1) (vs, ars) cx (List.take (k + 1) ss)).fst : List Int) = ((upB true (d + 1) (vs, ars) cx (List.take k ss)).fst) := (by exact congrArg Prod.fst (rn0 hs (by omega) (by omega) (by omega) (by omega) (by omega))); have e2 : ((upB true (d + 1) (vs, ars) cx (List.take (k + 1) ss)).snd : List Int) = ((upB true (d + 1) (vs, ars) cx (List.take k ss)).snd) := (by exact congrArg Prod.snd (rn0 hs (by omega) (by omega) (by omega) (by omega) (by omega))); first | (rw [e1, e2]; done) | (rw [e1, e2]; rfl) | (simp only [e1, e2]; done) | (simp only [e1, e2]; rfl)) (by kernel_rfl)
      ·
       have q4 : (ss.getD k default).kind = 4 := eq_of_beq h4
       refine rT G ((ss.getD k default).kind == (4 : Int)) (by assumption) ?_
       refine rs1 (dk := dkP) G ⟨[(4, _, [0, 1, 2, 7])], [], []⟩ (calls_cons (ih ((upB true (d + 1) (vs, ars) cx (List.take k ss)).fst) ((upB true (d + 1) (vs, ars) cx (List.take k ss)).snd) ((ss.getD k default).body) (cx) (by omega) (by exact hsh.1.trans hv) (by exact hsh.2.trans ha) (by exact (bl_at hs (by omega)).2.1)) calls_nil) trivial [0, 1, 2, 3, 4] [.row 3 (D.ints (upB true d (upB true (d + 1) (vs, ars) cx (List.take k ss)) cx (ss.getD k default).body).fst), .row 3 (D.ints (upB true d (upB true (d + 1) (vs, ars) cx (List.take k ss)) cx (ss.getD k default).body).snd), dT bd, dT ss, .box (pL 0)] [(1, .ref 3), (2, iA cx), (3, .ptr 4 0), (6, iA (↑k : Int))] [] trivial ?_
       clear G; intro ρ a w G
       refine bl_n ?_
       refine bl_n ?_
       refine th_n ?_
       refine rs1s G ⟨[], [], []⟩ calls_nil trivial [(1, .ref 3), (2, iA cx), (3, .ptr 4 0), (6, iA ((↑k : Int) + 1))] [IntKind.i64.wrap ((↑k : Int) + (1 : Int)) = (↑k : Int) + (1 : Int)] ⟨(by exact w64 (by omega) (by omega)), trivial⟩ ?_
       clear G; intro ρ a w G
       refine th_n ?_
       exact rx_next G (k + 1) (by omega) (by omega) [0, 1, 2, 3, 4] [.row 3 (D.ints (upB true (d + 1) (vs, ars) cx (List.take (k + 1) ss)).fst), .row 3 (D.ints (upB true (d + 1) (vs, ars) cx (List.take (k + 1) ss)).snd), dT bd, dT ss, .box (pL 0)] [(1, .ref 3), (2, iA cx), (3, .ptr 4 0), (6, iA (↑(k + 1) : Int))] (by kernel_rfl) (by kernel_rfl) (by kernel_rfl) (by have e1 : ((upB true (d + 1) (vs, ars) cx (List.take (k + 1) ss)).fst : List Int) = ((upB true d (upB true (d + 1) (vs, ars) cx (List.take k ss)) cx (ss.getD k default).body).fst) := (by exact congrArg Prod.fst (rn4 hs (by omega) (by omega))); have e2 : ((upB true (d + 1) (vs, ars) cx (List.take (k + 1) ss)).snd : List Int) = ((upB true d (upB true (d + 1) (vs, ars) cx (List.take k ss)) cx (ss.getD k default).body).snd) := (by exact congrArg Prod.snd (rn4 hs (by omega) (by omega))); first | (rw [e1, e2]; done) | (rw [e1, e2]; rfl) | (simp only [e1, e2]; done) | (simp only [e1, e2]; rfl)) (by kernel_rfl)
     ·
      have q3 : (ss.getD k default).kind = 3 := eq_of_beq h3
      refine rT G ((ss.getD k default).kind == (3 : Int)) (by assumption) ?_
      refine wp_seq ?_
      refine rd1 (dk := dkP) G ⟨[(7, _, [0, 1, 2, 6]), (9, _, [0, 1, 2, 7])], [], []⟩ (calls_cons (Ctr.lend (c_l4LabelV ((upB true (d + 1) (vs, ars) cx (List.take k ss)).fst) ((upB true (d + 1) (vs, ars) cx (List.take k ss)).snd) (bd) ((ss.getD k default).value) (by exact sh_val hsh hv ha (bl_at hs (by omega)).1 (by omega))) [.row 3, .row 3]) (calls_cons (ih ((upB true (d + 1) (vs, ars) cx (List.take k ss)).fst) ((upB true (d + 1) (vs, ars) cx (List.take k ss)).snd) ((ss.getD k default).body) (orI cx (labE (upB true (d + 1) (vs, ars) cx (List.take k ss)).fst (upB true (d + 1) (vs, ars) cx (List.take k ss)).snd 5 (ss.getD k default).value)) (by omega) (by exact hsh.1.trans hv) (by exact hsh.2.trans ha) (by exact (bl_at hs (by omega)).2.1)) calls_nil)) trivial [0, 0, 2, 0, 0, 0, 32, 112, 248, 511] [0, 1, 2, 3, 4, 5, 6, 7, 8, 9] [.row 3 (D.ints (upB true d (upB true (d + 1) (vs, ars) cx (List.take k ss)) (orI cx (labE (upB true (d + 1) (vs, ars) cx (List.take k ss)).fst (upB true (d + 1) (vs, ars) cx (List.take k ss)).snd 5 (ss.getD k default).value)) (ss.getD k default).body).fst), .row 3 (D.ints (upB true d (upB true (d + 1) (vs, ars) cx (List.take k ss)) (orI cx (labE (upB true (d + 1) (vs, ars) cx (List.take k ss)).fst (upB true (d + 1) (vs, ars) cx (List.take k ss)).snd 5 (ss.getD k default).value)) (ss.getD k default).body).snd), dT bd, dT ss, .box (pL 0), dE (ss.getD k default).index.kids, dE (ss.getD k default).value.kids, dT (ss.getD k default).body, dT (ss.getD k default).els, .box (sL (ss.getD k default) 5)] [(1, .ref 3), (2, iA cx), (3, .ptr 4 0), (6, iA (↑k : Int)), (7, .ptr 9 0)] [] trivial ?_
      clear G; intro ρ a w G
      refine th_n ?_
      refine rd1 (dk := dkP) G ⟨[(7, _, [0, 1, 2, 6]), (9, _, [0, 1, 2, 8])], [], []⟩ (calls_cons (Ctr.lend (c_l4LabelV ((upB true d (upB true (d + 1) (vs, ars) cx (List.take k ss)) (orI cx (labE (upB true (d + 1) (vs, ars) cx (List.take k ss)).fst (upB true (d + 1) (vs, ars) cx (List.take k ss)).snd 5 (ss.getD k default).value)) (ss.getD k default).body).fst) ((upB true d (upB true (d + 1) (vs, ars) cx (List.take k ss)) (orI cx (labE (upB true (d + 1) (vs, ars) cx (List.take k ss)).fst (upB true (d + 1) (vs, ars) cx (List.take k ss)).snd 5 (ss.getD k default).value)) (ss.getD k default).body).snd) (bd) ((ss.getD k default).value) (by exact sh_val (hsh.trans upB_sh) hv ha (bl_at hs (by omega)).1 (by omega))) [.row 3, .row 3]) (calls_cons (ih ((upB true d (upB true (d + 1) (vs, ars) cx (List.take k ss)) (orI cx (labE (upB true (d + 1) (vs, ars) cx (List.take k ss)).fst (upB true (d + 1) (vs, ars) cx (List.take k ss)).snd 5 (ss.getD k default).value)) (ss.getD k default).body).fst) ((upB true d (upB true (d + 1) (vs, ars) cx (List.take k ss)) (orI cx (labE (upB true (d + 1) (vs, ars) cx (List.take k ss)).fst (upB true (d + 1) (vs, ars) cx (List.take k ss)).snd 5 (ss.getD k default).value)) (ss.getD k default).body).snd) ((ss.getD k default).els) (orI cx (labE (upB true d (upB true (d + 1) (vs, ars) cx (List.take k ss)) (orI cx (labE (upB true (d + 1) (vs, ars) cx (List.take k ss)).fst (upB true (d + 1) (vs, ars) cx (List.take k ss)).snd 5 (ss.getD k default).value)) (ss.getD k default).body).fst (upB true d (upB true (d + 1) (vs, ars) cx (List.take k ss)) (orI cx (labE (upB true (d + 1) (vs, ars) cx (List.take k ss)).fst (upB true (d + 1) (vs, ars) cx (List.take k ss)).snd 5 (ss.getD k default).value)) (ss.getD k default).body).snd 5 (ss.getD k default).value)) (by omega) (by exact (hsh.trans upB_sh).1.trans hv) (by exact (hsh.trans upB_sh).2.trans ha) (by exact (bl_at hs (by omega)).2.2)) calls_nil)) trivial [0, 0, 2, 0, 0, 0, 32, 112, 248, 511] [0, 1, 2, 3, 4] [.row 3 (D.ints (upB true d (upB true d (upB true (d + 1) (vs, ars) cx (List.take k ss)) (orI cx (labE (upB true (d + 1) (vs, ars) cx (List.take k ss)).fst (upB true (d + 1) (vs, ars) cx (List.take k ss)).snd 5 (ss.getD k default).value)) (ss.getD k default).body) (orI cx (labE (upB true d (upB true (d + 1) (vs, ars) cx (List.take k ss)) (orI cx (labE (upB true (d + 1) (vs, ars) cx (List.take k ss)).fst (upB true (d + 1) (vs, ars) cx (List.take k ss)).snd 5 (ss.getD k default).value)) (ss.getD k default).body).fst (upB true d (upB true (d + 1) (vs, ars) cx (List.take k ss)) (orI cx (labE (upB true (d + 1) (vs, ars) cx (List.take k ss)).fst (upB true (d + 1) (vs, ars) cx (List.take k ss)).snd 5 (ss.getD k default).value)) (ss.getD k default).body).snd 5 (ss.getD k default).value)) (ss.getD k default).els).fst), .row 3 (D.ints (upB true d (upB true d (upB true (d + 1) (vs, ars) cx (List.take k ss)) (orI cx (labE (upB true (d + 1) (vs, ars) cx (List.take k ss)).fst (upB true (d + 1) (vs, ars) cx (List.take k ss)).snd 5 (ss.getD k default).value)) (ss.getD k default).body) (orI cx (labE (upB true d (upB true (d + 1) (vs, ars) cx (List.take k ss)) (orI cx (labE (upB true (d + 1) (vs, ars) cx (List.take k ss)).fst (upB true (d + 1) (vs, ars) cx (List.take k ss)).snd 5 (ss.getD k default).value)) (ss.getD k default).body).fst (upB true d (upB true (d + 1) (vs, ars) cx (List.take k ss)) (orI cx (labE (upB true (d + 1) (vs, ars) cx (List.take k ss)).fst (upB true (d + 1) (vs, ars) cx (List.take k ss)).snd 5 (ss.getD k default).value)) (ss.getD k default).body).snd 5 (ss.getD k default).value)) (ss.getD k default).els).snd), dT bd, dT ss, .box (pL 0)] [(1, .ref 3), (2, iA cx), (3, .ptr 4 0), (6, iA (↑k : Int))] [] trivial ?_
      clear G; intro ρ a w G
      refine bl_n ?_
      refine bl_n ?_
      refine th_n ?_
      refine rs1s G ⟨[], [], []⟩ calls_nil trivial [(1, .ref 3), (2, iA cx), (3, .ptr 4 0), (6, iA ((↑k : Int) + 1))] [IntKind.i64.wrap ((↑k : Int) + (1 : Int)) = (↑k : Int) + (1 : Int)] ⟨(by exact w64 (by omega) (by omega)), trivial⟩ ?_
      clear G; intro ρ a w G
      refine th_n ?_
      exact rx_next G (k + 1) (by omega) (by omega) [0, 1, 2, 3, 4] [.row 3 (D.ints (upB true (d + 1) (vs, ars) cx (List.take (k + 1) ss)).fst), .row 3 (D.ints (upB true (d + 1) (vs, ars) cx (List.take (k + 1) ss)).snd), dT bd, dT ss, .box (pL 0)] [(1, .ref 3), (2, iA cx), (3, .ptr 4 0), (6, iA (↑(k + 1) : Int))] (by kernel_rfl) (by kernel_rfl) (by kernel_rfl) (by have e1 : ((upB true (d + 1) (vs, ars) cx (List.take (k + 1) ss)).fst : List Int) = ((upB true d (upB true d (upB true (d + 1) (vs, ars) cx (List.take k ss)) (orI cx (labE (upB true (d + 1) (vs, ars) cx (List.take k ss)).fst (upB true (d + 1) (vs, ars) cx (List.take k ss)).snd 5 (ss.getD k default).value)) (ss.getD k default).body) (orI cx (labE (upB true d (upB true (d + 1) (vs, ars) cx (List.take k ss)) (orI cx (labE (upB true (d + 1) (vs, ars) cx (List.take k ss)).fst (upB true (d + 1) (vs, ars) cx (List.take k ss)).snd 5 (ss.getD k default).value)) (ss.getD k default).body).fst (upB true d (upB true (d + 1) (vs, ars) cx (List.take k ss)) (orI cx (labE (upB true (d + 1) (vs, ars) cx (List.take k ss)).fst (upB true (d + 1) (vs, ars) cx (List.take k ss)).snd 5 (ss.getD k default).value)) (ss.getD k default).body).snd 5 (ss.getD k default).value)) (ss.getD k default).els).fst) := (by exact congrArg Prod.fst (rn3 (by omega) (by omega))); have e2 : ((upB true (d + 1) (vs, ars) cx (List.take (k + 1) ss)).snd : List Int) = ((upB true d (upB true d (upB true (d + 1) (vs, ars) cx (List.take k ss)) (orI cx (labE (upB true (d + 1) (vs, ars) cx (List.take k ss)).fst (upB true (d + 1) (vs, ars) cx (List.take k ss)).snd 5 (ss.getD k default).value)) (ss.getD k default).body) (orI cx (labE (upB true d (upB true (d + 1) (vs, ars) cx (List.take k ss)) (orI cx (labE (upB true (d + 1) (vs, ars) cx (List.take k ss)).fst (upB true (d + 1) (vs, ars) cx (List.take k ss)).snd 5 (ss.getD k default).value)) (ss.getD k default).body).fst (upB true d (upB true (d + 1) (vs, ars) cx (List.take k ss)) (orI cx (labE (upB true (d + 1) (vs, ars) cx (List.take k ss)).fst (upB true (d + 1) (vs, ars) cx (List.take k ss)).snd 5 (ss.getD k default).value)) (ss.getD k default).body).snd 5 (ss.getD k default).value)) (ss.getD k default).els).snd) := (by exact congrArg Prod.snd (rn3 (by omega) (by omega))); first | (rw [e1, e2]; done) | (rw [e1, e2]; rfl) | (simp only [e1, e2]; done) | (simp only [e1, e2]; rfl)) (by kernel_rfl)
    ·
     have q2 : (ss.getD k default).kind = 2 := eq_of_beq h2
     refine rT G ((ss.getD k default).kind == (2 : Int)) (by assumption) ?_
     refine rd1 (dk := dkP) G ⟨[(13, _, [0, 1, 2, 6]), (18, _, [0, 1, 2, 5])], [], []⟩ (calls_cons (Ctr.lend (c_l4LabelV ((upB true (d + 1) (vs, ars) cx (List.take k ss)).fst) ((upB true (d + 1) (vs, ars) cx (List.take k ss)).snd) (bd) ((ss.getD k default).value) (by exact sh_val hsh hv ha (bl_at hs (by omega)).1 (by omega))) [.row 3, .row 3]) (calls_cons (Ctr.lend (c_l4LabelV ((upB true (d + 1) (vs, ars) cx (List.take k ss)).fst) ((upB true (d + 1) (vs, ars) cx (List.take k ss)).snd) (bd) ((ss.getD k default).index) (by exact sh_idx hsh hv ha (bl_at hs (by omega)).1 (by omega))) [.row 3, .row 3]) calls_nil)) trivial [0, 1, 0, 4, 0, 16, 0, 64, 240, 496, 0, 0, 2048, 7168, 16368, 0, 0, 65536, 244736, 524272, 0, 2097136, 4194303, 8388607] [0, 1, 2, 3, 4] [.row 3 (D.ints (upB true (d + 1) (vs, ars) cx (List.take k ss)).fst), .row 3 (D.ints ((upB true (d + 1) (vs, ars) cx (List.take k ss)).snd.set (ss.getD k default).target.toNat (orI (orI (orI ((upB true (d + 1) (vs, ars) cx (List.take k ss)).snd.getD (ss.getD k default).target.toNat 0) (labE (upB true (d + 1) (vs, ars) cx (List.take k ss)).fst (upB true (d + 1) (vs, ars) cx (List.take k ss)).snd 5 (ss.getD k default).value)) (labE (upB true (d + 1) (vs, ars) cx (List.take k ss)).fst (upB true (d + 1) (vs, ars) cx (List.take k ss)).snd 5 (ss.getD k default).index)) cx))), dT bd, dT ss, .box (pL 0)] [(1, .ref 3), (2, iA cx), (3, .ptr 4 0), (6, iA (↑k : Int))] [(0 : Int) ≤ (ss.getD k default).target, (ss.getD k default).target < (↑(upB true (d + (1 : Nat)) (vs, ars) cx (List.take k ss)).snd.length : Int), (ss.getD k default).target.toNat < (upB true (d + (1 : Nat)) (vs, ars) cx (List.take k ss)).snd.length, (0 : Int) ≤ (ss.getD k default).target, (ss.getD k default).target < (↑(upB true (d + (1 : Nat)) (vs, ars) cx (List.take k ss)).snd.length : Int), (ss.getD k default).target.toNat < (upB true (d + (1 : Nat)) (vs, ars) cx (List.take k ss)).snd.length] ⟨(by have h9 := hd_arr (bl_at (k := k) hs (by omega)).1 (by omega); have h8 := hsh.2.trans ha; omega), (by have h9 := hd_arr (bl_at (k := k) hs (by omega)).1 (by omega); have h8 := hsh.2.trans ha; omega), (by have h9 := hd_arr (bl_at (k := k) hs (by omega)).1 (by omega); have h8 := hsh.2.trans ha; omega), (by have h9 := hd_arr (bl_at (k := k) hs (by omega)).1 (by omega); have h8 := hsh.2.trans ha; omega), (by have h9 := hd_arr (bl_at (k := k) hs (by omega)).1 (by omega); have h8 := hsh.2.trans ha; omega), (by have h9 := hd_arr (bl_at (k := k) hs (by omega)).1 (by omega); have h8 := hsh.2.trans ha; omega), trivial⟩ ?_
     clear G; intro ρ a w G
     refine bl_n ?_
     refine bl_n ?_
     refine th_n ?_
     refine rs1s G ⟨[], [], []⟩ calls_nil trivial [(1, .ref 3), (2, iA cx), (3, .ptr 4 0), (6, iA ((↑k : Int) + 1))] [IntKind.i64.wrap ((↑k : Int) + (1 : Int)) = (↑k : Int) + (1 : Int)] ⟨(by exact w64 (by omega) (by omega)), trivial⟩ ?_
     clear G; intro ρ a w G
     refine th_n ?_
     exact rx_next G (k + 1) (by have h9 := hd_arr (bl_at (k := k) hs (by omega)).1 (by omega); have h8 := hsh.2.trans ha; omega) (by have h9 := hd_arr (bl_at (k := k) hs (by omega)).1 (by omega); have h8 := hsh.2.trans ha; omega) [0, 1, 2, 3, 4] [.row 3 (D.ints (upB true (d + 1) (vs, ars) cx (List.take (k + 1) ss)).fst), .row 3 (D.ints (upB true (d + 1) (vs, ars) cx (List.take (k + 1) ss)).snd), dT bd, dT ss, .box (pL 0)] [(1, .ref 3), (2, iA cx), (3, .ptr 4 0), (6, iA (↑(k + 1) : Int))] (by kernel_rfl) (by kernel_rfl) (by kernel_rfl) (by have e1 : ((upB true (d + 1) (vs, ars) cx (List.take (k + 1) ss)).fst : List Int) = ((upB true (d + 1) (vs, ars) cx (List.take k ss)).fst) := (by have h9 := congrArg Prod.fst (rn2 (q := (vs, ars)) (cx := cx) hs (show k < _ by omega) (by omega)); exact h9); have e2 : ((upB true (d + 1) (vs, ars) cx (List.take (k + 1) ss)).snd : List Int) = ((upB true (d + 1) (vs, ars) cx (List.take k ss)).snd.set (ss.getD k default).target.toNat (orI (orI (orI ((upB true (d + 1) (vs, ars) cx (List.take k ss)).snd.getD (ss.getD k default).target.toNat 0) (labE (upB true (d + 1) (vs, ars) cx (List.take k ss)).fst (upB true (d + 1) (vs, ars) cx (List.take k ss)).snd 5 (ss.getD k default).value)) (labE (upB true (d + 1) (vs, ars) cx (List.take k ss)).fst (upB true (d + 1) (vs, ars) cx (List.take k ss)).snd 5 (ss.getD k default).index)) cx)) := (by exact congrArg Prod.snd (rn2 hs (by omega) (by omega))); first | (rw [e1, e2]; done) | (rw [e1, e2]; rfl) | (simp only [e1, e2]; done) | (simp only [e1, e2]; rfl)) (by kernel_rfl)
   ·
    have q1 : (ss.getD k default).kind = 1 := eq_of_beq h1
    refine rT G ((ss.getD k default).kind == (1 : Int)) (by assumption) ?_
    refine rd1 (dk := dkP) G ⟨[(13, _, [0, 1, 2, 6])], [], []⟩ (calls_cons (Ctr.lend (c_l4LabelV ((upB true (d + 1) (vs, ars) cx (List.take k ss)).fst) ((upB true (d + 1) (vs, ars) cx (List.take k ss)).snd) (bd) ((ss.getD k default).value) (by exact sh_val hsh hv ha (bl_at hs (by omega)).1 (by omega))) [.row 3, .row 3]) calls_nil) trivial [0, 1, 0, 4, 0, 16, 0, 64, 240, 496, 0, 0, 2048, 7168, 16368, 0, 65520, 131071, 262143] [0, 1, 2, 3, 4] [.row 3 (D.ints ((upB true (d + 1) (vs, ars) cx (List.take k ss)).fst.set (ss.getD k default).target.toNat (orI (orI ((upB true (d + 1) (vs, ars) cx (List.take k ss)).fst.getD (ss.getD k default).target.toNat 0) (labE (upB true (d + 1) (vs, ars) cx (List.take k ss)).fst (upB true (d + 1) (vs, ars) cx (List.take k ss)).snd 5 (ss.getD k default).value)) cx))), .row 3 (D.ints (upB true (d + 1) (vs, ars) cx (List.take k ss)).snd), dT bd, dT ss, .box (pL 0)] [(1, .ref 3), (2, iA cx), (3, .ptr 4 0), (6, iA (↑k : Int))] [(0 : Int) ≤ (ss.getD k default).target, (ss.getD k default).target < (↑(upB true (d + (1 : Nat)) (vs, ars) cx (List.take k ss)).fst.length : Int), (ss.getD k default).target.toNat < (upB true (d + (1 : Nat)) (vs, ars) cx (List.take k ss)).fst.length, (0 : Int) ≤ (ss.getD k default).target, (ss.getD k default).target < (↑(upB true (d + (1 : Nat)) (vs, ars) cx (List.take k ss)).fst.length : Int), (ss.getD k default).target.toNat < (upB true (d + (1 : Nat)) (vs, ars) cx (List.take k ss)).fst.length] ⟨(by have h9 := hd_var (bl_at (k := k) hs (by omega)).1 (by omega); have h8 := hsh.1.trans hv; omega), (by have h9 := hd_var (bl_at (k := k) hs (by omega)).1 (by omega); have h8 := hsh.1.trans hv; omega), (by have h9 := hd_var (bl_at (k := k) hs (by omega)).1 (by omega); have h8 := hsh.1.trans hv; omega), (by have h9 := hd_var (bl_at (k := k) hs (by omega)).1 (by omega); have h8 := hsh.1.trans hv; omega), (by have h9 := hd_var (bl_at (k := k) hs (by omega)).1 (by omega); have h8 := hsh.1.trans hv; omega), (by have h9 := hd_var (bl_at (k := k) hs (by omega)).1 (by omega); have h8 := hsh.1.trans hv; omega), trivial⟩ ?_
    clear G; intro ρ a w G
    refine bl_n ?_
    refine bl_n ?_
    refine th_n ?_
    refine rs1s G ⟨[], [], []⟩ calls_nil trivial [(1, .ref 3), (2, iA cx), (3, .ptr 4 0), (6, iA ((↑k : Int) + 1))] [IntKind.i64.wrap ((↑k : Int) + (1 : Int)) = (↑k : Int) + (1 : Int)] ⟨(by exact w64 (by omega) (by omega)), trivial⟩ ?_
    clear G; intro ρ a w G
    refine th_n ?_
    exact rx_next G (k + 1) (by have h9 := hd_var (bl_at (k := k) hs (by omega)).1 (by omega); have h8 := hsh.1.trans hv; omega) (by have h9 := hd_var (bl_at (k := k) hs (by omega)).1 (by omega); have h8 := hsh.1.trans hv; omega) [0, 1, 2, 3, 4] [.row 3 (D.ints (upB true (d + 1) (vs, ars) cx (List.take (k + 1) ss)).fst), .row 3 (D.ints (upB true (d + 1) (vs, ars) cx (List.take (k + 1) ss)).snd), dT bd, dT ss, .box (pL 0)] [(1, .ref 3), (2, iA cx), (3, .ptr 4 0), (6, iA (↑(k + 1) : Int))] (by kernel_rfl) (by kernel_rfl) (by kernel_rfl) (by have e1 : ((upB true (d + 1) (vs, ars) cx (List.take (k + 1) ss)).fst : List Int) = ((upB true (d + 1) (vs, ars) cx (List.take k ss)).fst.set (ss.getD k default).target.toNat (orI (orI ((upB true (d + 1) (vs, ars) cx (List.take k ss)).fst.getD (ss.getD k default).target.toNat 0) (labE (upB true (d + 1) (vs, ars) cx (List.take k ss)).fst (upB true (d + 1) (vs, ars) cx (List.take k ss)).snd 5 (ss.getD k default).value)) cx)) := (by exact congrArg Prod.fst (rn1 hs (by omega) (by omega))); have e2 : ((upB true (d + 1) (vs, ars) cx (List.take (k + 1) ss)).snd : List Int) = ((upB true (d + 1) (vs, ars) cx (List.take k ss)).snd) := (by have h9 := congrArg Prod.snd (rn1 (q := (vs, ars)) (cx := cx) hs (show k < _ by omega) (by omega)); exact h9); first | (rw [e1, e2]; done) | (rw [e1, e2]; rfl) | (simp only [e1, e2]; done) | (simp only [e1, e2]; rfl)) (by kernel_rfl)

theorem c_l4RaiseD (nv na : Nat) (bd : List LStmt) : ∀ (d : Nat) (vs ars : List Int) (ss : List LStmt) (cx : Int), vs.length = nv → ars.length = na → ss.all (stmtB nv na d) = true → Ctr.ok Try.prog (raC vs ars d bd ss cx) := by
  intro d
  induction d with
  | zero =>
    intro vs ars ss cx hv ha hs
    have h0 : ss = [] := by
      cases ss with
      | nil => rfl
      | cons a r => simp [stmtB] at hs
    subst h0
    exact s_l4Raise nv na 0 bd [] (fun _ _ _ _ h => absurd h (by simp)) vs ars cx hv ha rfl
  | succ d ih => intro vs ars ss cx hv ha hs; exact s_l4Raise nv na d bd ss (fun vs ars tt cx _ h1 h2 h3 => ih vs ars tt cx h1 h2 h3) vs ars cx hv ha hs
theorem c_l4RaiseP (vs ars : List Int) (b : List LStmt) (hs : b.all (stmtB vs.length ars.length 5) = true) : Ctr.ok Try.prog ⟨122, [pA 0, .ref 2, iA 0], [.row 3 (.ints vs), .row 3 (.ints ars), dT b], [.row 3 (.ints (upB true 5 (vs, ars) 0 b).1), .row 3 (.ints (upB true 5 (vs, ars) 0 b).2), dT b], .tup []⟩ :=
  Ctr.dup (S := [.row 3 (.ints vs), .row 3 (.ints ars), dT b]) (S' := [.row 3 (.ints (upB true 5 (vs, ars) 0 b).1), .row 3 (.ints (upB true 5 (vs, ars) 0 b).2), dT b]) (d := .stmts b) (i := 2) (c_l4RaiseD _ _ b 5 vs ars b 0 rfl rfl hs) rfl rfl rfl (fun ρ h => by simp only [AV.vals, AV.val]; rw [show ρ 3 = ρ 2 from h]) rfl

end Go.Proofs.Ytgpkdfefgcpbiaa

namespace Go.Proofs.Ytgpkdfefgcpbiaa
set_option linter.unusedVariables false
set_option linter.unusedSimpArgs false
open Go Go.RowKit

/-- The program with its least labels. -/
def okI (p : LProg) : Bool := progB p && decide ((ckR ⟨(infL p).1, (infL p).2, p.body⟩ false).1 = 0)
def infR (p : LProg) : LProg := if okI p = true then ⟨(infL p).1, (infL p).2, p.body⟩ else ⟨[], [], []⟩
theorem prog_len {p : LProg} (h : progB p = true) : p.vars.length + p.arrays.length ≤ 14 := by
  unfold progB headsB at h
  simp only [Bool.and_eq_true, decide_eq_true_eq] at h
  omega
section
variable {p : LProg} {q : Lab} {b : List LStmt} {X : Lab}
theorem same_true (h : (decide (X.1 = q.1) && (decide (X.2 = q.2) && sameSs b b)) = true) : X = q := by
  simp only [Bool.and_eq_true, decide_eq_true_eq] at h
  exact Prod.ext h.1 h.2.1
theorem same_false (h : (decide (X.1 = q.1) && (decide (X.2 = q.2) && sameSs b b)) = false) : ¬ X = q := fun e => by
  subst e
  rw [(sameSs_eq b b).2 rfl] at h
  simp at h
theorem inf_less {f : Bool} (hp : progB p = true) (h : InfW p.body (p.vars, p.arrays) q) (hne : ¬ upB f 5 q 0 p.body = q) : 100 - sumP (upB f 5 q 0 p.body) < 100 - sumP q := by
  have h1 := infW_step (f := f) h
  have h2 := sumP_lt upB_sh h.2.1 h1.2.1 upB_infl hne
  have h3 := sumP_max h1.2.1
  have h4 := prog_len hp
  rw [h1.1.1, h1.1.2] at h3
  simp only at h3
  omega
theorem inf_fit (hb : p.size ≤ 1048576) (h : InfW p.body (p.vars, p.arrays) q) : q.1.length + q.2.length + szSs p.body ≤ 1048576 := by
  have h1 := h.1.1
  have h2 := h.1.2
  unfold LProg.size at hb
  simp only at h1 h2
  omega
theorem inf_valid (hp : progB p = true) (h : InfW p.body (p.vars, p.arrays) q) : p.body.all (stmtB q.1.length q.2.length 5) = true := by
  rw [h.1.1, h.1.2]; exact (progB_all hp).1
theorem okI_no (h : progB p = false) : okI p = false := by unfold okI; rw [h]; rfl
theorem okI_at (hp : progB p = true) (h : InfW p.body (p.vars, p.arrays) q) (hf : upB true 5 q 0 p.body = q) : okI p = decide ((ckR ⟨q.1, q.2, p.body⟩ false).1 = 0) := by
  unfold okI; rw [hp, infL_is hp (prog_len hp) h hf]; rfl
theorem infR_no (h : okI p = false) : infR p = ⟨[], [], []⟩ := by unfold infR; rw [h]; rfl
theorem infR_at (hp : progB p = true) (h : InfW p.body (p.vars, p.arrays) q) (hf : upB true 5 q 0 p.body = q) (hk : okI p = true) : infR p = ⟨q.1, q.2, p.body⟩ := by unfold infR; rw [hk, infL_is hp (prog_len hp) h hf]; rfl
theorem ok_t (hp : progB p = true) (h : InfW p.body (p.vars, p.arrays) q) (hf : upB true 5 q 0 p.body = q) (hc : (ckR ⟨q.1, q.2, p.body⟩ false).1 = 0) : okI p = true := by rw [okI_at hp h hf]; exact decide_eq_true hc
theorem ok_f (hp : progB p = true) (h : InfW p.body (p.vars, p.arrays) q) (hf : upB true 5 q 0 p.body = q) (hc : ¬ (ckR ⟨q.1, q.2, p.body⟩ false).1 = 0) : okI p = false := by rw [okI_at hp h hf]; exact decide_eq_false hc
end
set_option maxHeartbeats 4000000 in
set_option maxRecDepth 100000 in
theorem c_InferLabels (p : LProg) (hb : p.size ≤ 1048576) : Ctr.ok Try.prog ⟨61, [pA 0], pS p, pS p ++ oP (infR p), .tup [oA 3, bA (okI p)]⟩ := by
  refine rx_enter 33 Try.func61 (by rfl) (by kernel_rfl) (by kernel_rfl) ?_
  intro ι φ ψ w0 w F ρ0 ρ a G
  replace G := Gam.at G [dI p.vars, dI p.arrays, dT p.body] [(0, pA 0)]
  have hb1 : p.vars.length ≤ 1048576 ∧ p.arrays.length ≤ 1048576 ∧ szSs p.body ≤ 1048576 := by unfold LProg.size at hb; omega
  refine wp_seq ?_
  refine rs0 G [0, 1, 2, 3, 11] [dI p.vars, dI p.arrays, dT p.body, .box (pL 0), .box [.v (.slice none 0 0), .v (.slice none 0 0), .v (.slice none 0 0)]] [(1, .ptr 3 0), (2, .ptr 4 0), (3, bA false)] ?_
  clear G; intro ρ a w G
  refine th_n ?_
  refine wp_seq ?_
  refine wp_seq ?_
  refine rs1s G ⟨[(1, _, [0, 1, 2])], [], []⟩ (calls_cons (c_ProgramValid (p) (by exact hb1.2.2)) calls_nil) trivial [(1, .ptr 3 0), (2, .ptr 4 0), (3, bA false), (10, .v (.bool !progB p))] [] trivial ?_
  clear G; intro ρ a w G
  refine th_n ?_
  cases h0 : (!progB p)
  ·
   have q0 : (progB p) = true := (fun hq => (hq)) (Eq.mp (Bool.not_eq_false' _) h0)
   refine rF G (!progB p) (by assumption) ?_
   refine wp_skip ?_
   refine th_n ?_
   refine wp_seq ?_
   refine rs1 (dk := dkP) G ⟨[(1, _, [0, 1, 2])], [], []⟩ (calls_cons (c_l2Copy (p) (by assumption)) calls_nil) trivial [0, 1, 2, 4, 13, 14, 15, 21] [dI p.vars, dI p.arrays, dT p.body, .box [.v (.slice none 0 0), .v (.slice none 0 0), .v (.slice none 0 0)], .row 3 (D.ints p.vars), .row 3 (D.ints p.arrays), .tree (D.stmts p.body), .box [.ref 4, .ref 5, .tref 6]] [(2, .ptr 3 0), (3, bA false), (4, .ptr 7 0)] [] trivial ?_
   clear G; intro ρ a w G
   refine th_n ?_
   refine wp_seq ?_
   refine wp_block ?_
   refine rx_for (κ := Lab) (fun q => InfW p.body (p.vars, p.arrays) q) (fun q => 100 - sumP q) (fun q => [dI p.vars, dI p.arrays, dT p.body, .box [.v (.slice none 0 0), .v (.slice none 0 0), .v (.slice none 0 0)], .row 3 (.ints q.1), .row 3 (.ints q.2), .tree (D.stmts p.body), .box [.ref 4, .ref 5, .tref 6]]) (fun q => [(2, .ptr 3 0), (3, bA false), (4, .ptr 7 0)]) ((p.vars, p.arrays)) (by exact infW_start (labs_ok (by with_reducible assumption))) (Gam.at G _ _) ?_
   clear G
   intro q ρ a w hp G
   replace G := Gam.at G [dI p.vars, dI p.arrays, dT p.body, .box [.v (.slice none 0 0), .v (.slice none 0 0), .v (.slice none 0 0)], .row 3 (D.ints q.fst), .row 3 (D.ints q.snd), .tree (D.stmts p.body), .box [.ref 4, .ref 5, .tref 6]] [(2, .ptr 3 0), (3, bA false), (4, .ptr 7 0)]
   refine wp_block ?_
   refine wp_seq ?_
   refine rs1 (dk := dkP) G ⟨[(1, _, [4, 5, 6])], [], []⟩ (calls_cons (Ctr.lend (c_l2CopyV (q.fst) (q.snd) (p.body) (by exact inf_fit hb (by with_reducible assumption))) [.row 3, .row 3, .tree]) calls_nil) trivial [0, 1, 2, 3, 4, 5, 6, 7, 16, 17, 18, 24] [dI p.vars, dI p.arrays, dT p.body, .box [.v (.slice none 0 0), .v (.slice none 0 0), .v (.slice none 0 0)], .row 3 (D.ints q.fst), .row 3 (D.ints q.snd), .tree (D.stmts p.body), .box [.ref 4, .ref 5, .tref 6], .row 3 (D.ints q.fst), .row 3 (D.ints q.snd), .tree (D.stmts p.body), .box [.ref 8, .ref 9, .tref 10]] [(2, .ptr 3 0), (3, bA false), (4, .ptr 7 0), (5, .ptr 11 0)] [] trivial ?_
   clear G; intro ρ a w G
   refine th_n ?_
   refine wp_seq ?_
   refine rs1 (dk := dkP) G ⟨[(3, _, [8, 9, 10])], [], []⟩ (calls_cons (Ctr.lend (c_l4RaiseP (q.fst) (q.snd) (p.body) (by exact inf_valid (by with_reducible assumption) (by with_reducible assumption))) [.no, .no, .tree]) calls_nil) trivial [0, 1, 2, 3, 4, 5, 6, 7, 8, 9, 10, 11] [dI p.vars, dI p.arrays, dT p.body, .box [.v (.slice none 0 0), .v (.slice none 0 0), .v (.slice none 0 0)], .row 3 (D.ints q.fst), .row 3 (D.ints q.snd), .tree (D.stmts p.body), .box [.ref 4, .ref 5, .tref 6], .row 3 (D.ints (upB true 5 q 0 p.body).fst), .row 3 (D.ints (upB true 5 q 0 p.body).snd), .tree (D.stmts p.body), .box [.ref 8, .ref 9, .tref 10]] [(2, .ptr 3 0), (3, bA false), (4, .ptr 7 0), (5, .ptr 11 0)] [] trivial ?_
   clear G; intro ρ a w G
   refine th_n ?_
   refine wp_seq ?_
   refine wp_seq ?_
   refine rs1s G ⟨[(2, _, [8, 9, 10, 4, 5, 6])], [], []⟩ (calls_cons (Ctr.lend (c_ProgramSame ((upB true 5 q 0 p.body).fst) ((upB true 5 q 0 p.body).snd) (p.body) (q.fst) (q.snd) (p.body)) [.row 3, .row 3, .tree, .row 3, .row 3, .tree]) calls_nil) trivial [(2, .ptr 3 0), (3, bA false), (4, .ptr 7 0), (5, .ptr 11 0), (22, bA (decide ((upB true 5 q 0 p.body).fst = q.fst) && (decide ((upB true 5 q 0 p.body).snd = q.snd) && sameSs p.body p.body)))] [] trivial ?_
   clear G; intro ρ a w G
   refine th_n ?_
   cases h1 : (decide ((upB true (5 : Nat) q (0 : Int) p.body).fst = q.fst) && (decide ((upB true (5 : Nat) q (0 : Int) p.body).snd = q.snd) && sameSs p.body p.body))
   ·
    have q1 : (¬ ((upB true 5 q 0 p.body).fst = q.fst)) ∨ ((¬ ((upB true 5 q 0 p.body).snd = q.snd)) ∨ ((sameSs p.body p.body) = false)) := Or.imp (fun hq => of_decide_eq_false (hq)) (fun hq => Or.imp (fun hq => of_decide_eq_false (hq)) (fun hq => (hq)) (Bool.and_eq_false_iff.1 (hq))) (Bool.and_eq_false_iff.1 h1)
    refine rF G (decide ((upB true (5 : Nat) q (0 : Int) p.body).fst = q.fst) && (decide ((upB true (5 : Nat) q (0 : Int) p.body).snd = q.snd) && sameSs p.body p.body)) (by assumption) ?_
    refine wp_skip ?_
    refine th_n ?_
    refine rs0 G [0, 1, 2, 3, 7, 8, 9, 10] [dI p.vars, dI p.arrays, dT p.body, .box [.v (.slice none 0 0), .v (.slice none 0 0), .v (.slice none 0 0)], .box [.ref 5, .ref 6, .tref 7], .row 3 (D.ints (upB true 5 q 0 p.body).fst), .row 3 (D.ints (upB true 5 q 0 p.body).snd), .tree (D.stmts p.body)] [(2, .ptr 3 0), (3, bA false), (4, .ptr 4 0)] ?_
    clear G; intro ρ a w G
    refine bl_n ?_
    refine th_n ?_
    exact rx_next G (upB true 5 q 0 p.body) (by exact infW_step (by with_reducible assumption)) (by exact inf_less (by with_reducible assumption) (by with_reducible assumption) (same_false (by with_reducible assumption))) [0, 1, 2, 3, 5, 6, 7, 4] [dI p.vars, dI p.arrays, dT p.body, .box [.v (.slice none 0 0), .v (.slice none 0 0), .v (.slice none 0 0)], .row 3 (D.ints (upB true 5 q 0 p.body).fst), .row 3 (D.ints (upB true 5 q 0 p.body).snd), .tree (D.stmts p.body), .box [.ref 4, .ref 5, .tref 6]] [(2, .ptr 3 0), (3, bA false), (4, .ptr 7 0)] (by kernel_rfl) (by kernel_rfl) (by kernel_rfl) (by kernel_rfl) (by kernel_rfl)
   ·
    have q1 : ((upB true 5 q 0 p.body).fst = q.fst) ∧ (((upB true 5 q 0 p.body).snd = q.snd) ∧ ((sameSs p.body p.body) = true)) := And.imp (fun hq => of_decide_eq_true (hq)) (fun hq => And.imp (fun hq => of_decide_eq_true (hq)) (fun hq => (hq)) (Bool.and_eq_true_iff.1 (hq))) (Bool.and_eq_true_iff.1 h1)
    refine rT G (decide ((upB true (5 : Nat) q (0 : Int) p.body).fst = q.fst) && (decide ((upB true (5 : Nat) q (0 : Int) p.body).snd = q.snd) && sameSs p.body p.body)) (by assumption) ?_
    refine wp_exit ?_
    refine th_e ?_
    refine bl_miss (by kernel_rfl) ?_
    refine th_e ?_
    refine bl_hit ?_
    refine th_n ?_
    refine wp_seq ?_
    refine rs1 (dk := dkP) G ⟨[(1, _, [4, 5, 6])], [], []⟩ (calls_cons (Ctr.lend (c_CheckFlowV (q.fst) (q.snd) (p.body) (by exact hb1.2.2)) [.row 3, .row 3, .tree]) calls_nil) trivial [0, 1, 2, 3, 4, 5, 6, 7] [dI p.vars, dI p.arrays, dT p.body, .box [.v (.slice none 0 0), .v (.slice none 0 0), .v (.slice none 0 0)], .row 3 (D.ints q.fst), .row 3 (D.ints q.snd), .tree (D.stmts p.body), .box [.ref 4, .ref 5, .tref 6]] [(2, .ptr 3 0), (3, bA false), (4, .ptr 7 0), (6, iA (ckR { vars := q.fst, arrays := q.snd, body := p.body } false).fst)] [] trivial ?_
    clear G; intro ρ a w G
    refine th_n ?_
    refine wp_seq ?_
    refine wp_seq ?_
    refine rs0s G [(2, .ptr 3 0), (3, bA false), (4, .ptr 7 0), (30, bA ((ckR { vars := q.fst, arrays := q.snd, body := p.body } false).fst != 0))] ?_
    clear G; intro ρ a w G
    refine th_n ?_
    cases h2 : ((ckR { vars := q.fst, arrays := q.snd, body := p.body } false).fst != (0 : Int))
    ·
     have q2 : (ckR { vars := q.fst, arrays := q.snd, body := p.body } false).fst = 0 := (by simpa using h2)
     refine rF G ((ckR { vars := q.fst, arrays := q.snd, body := p.body } false).fst != (0 : Int)) (by assumption) ?_
     refine wp_skip ?_
     refine th_n ?_
     refine wp_seq ?_
     refine rs0 G [0, 1, 2, 3, 4, 5, 6] [dI p.vars, dI p.arrays, dT p.body, .box [.ref 4, .ref 5, .tref 6], .row 3 (D.ints q.fst), .row 3 (D.ints q.snd), .tree (D.stmts p.body)] [(2, .ptr 3 0), (3, bA true)] ?_
     clear G; intro ρ a w G
     refine th_n ?_
     refine wp_ret ?_
     exact rx_ret (v := .tup [.agg [.ref 4, .ref 5, .tref 6], bA true]) G [0, 1, 2, 4, 5, 6] (by kernel_rfl) (by kernel_rfl) (by show _ = List.map (It.ren (nth [0, 1, 2, 4, 5, 6])) [dI p.vars, dI p.arrays, dT p.body, .row 3 (D.ints (infR p).vars), .row 3 (D.ints (infR p).arrays), .tree (D.stmts (infR p).body)]; have e1 : ((infR p).vars : List Int) = (q.fst) := (by rw [infR_at (by with_reducible assumption) (by with_reducible assumption) (same_true (by with_reducible assumption)) (ok_t (by with_reducible assumption) (by with_reducible assumption) (same_true (by with_reducible assumption)) (by with_reducible assumption))]; done); have e2 : ((infR p).arrays : List Int) = (q.snd) := (by rw [infR_at (by with_reducible assumption) (by with_reducible assumption) (same_true (by with_reducible assumption)) (ok_t (by with_reducible assumption) (by with_reducible assumption) (same_true (by with_reducible assumption)) (by with_reducible assumption))]; done); have e3 : ((infR p).body : List LStmt) = (p.body) := (by rw [infR_at (by with_reducible assumption) (by with_reducible assumption) (same_true (by with_reducible assumption)) (ok_t (by with_reducible assumption) (by with_reducible assumption) (same_true (by with_reducible assumption)) (by with_reducible assumption))]; done); first | (rw [e1, e2, e3]; done) | (rw [e1, e2, e3]; rfl) | (simp only [e1, e2, e3]; done) | (simp only [e1, e2, e3]; rfl)) (by have e1 : (okI p : Bool) = (true) := (by exact ok_t (by with_reducible assumption) (by with_reducible assumption) (same_true (by with_reducible assumption)) (by with_reducible assumption)); first | (rw [e1]; done) | (rw [e1]; rfl) | (simp only [e1]; done) | (simp only [e1]; rfl))
    ·
     have q2 : ¬ ((ckR { vars := q.fst, arrays := q.snd, body := p.body } false).fst = 0) := bne_iff_ne.1 h2
     refine rT G ((ckR { vars := q.fst, arrays := q.snd, body := p.body } false).fst != (0 : Int)) (by assumption) ?_
     refine wp_seq ?_
     refine rs0s G [(2, .ptr 3 0), (3, bA false), (4, .ptr 7 0)] ?_
     clear G; intro ρ a w G
     refine th_n ?_
     refine wp_ret ?_
     refine th_r ?_
     have Gx := G.nil 8 3 (.ints []) 1 [dI p.vars, dI p.arrays, dT p.body, .box [.ref 8, .v (.slice none 0 0), .v (.slice none 0 0)], .row 3 (D.ints q.fst), .row 3 (D.ints q.snd), .tree (D.stmts p.body), .box [.ref 4, .ref 5, .tref 6]] [(2, .ptr 3 0), (3, bA false), (4, .ptr 7 0)]
     clear G
     obtain ⟨ρ, G⟩ := Gx
     replace G := Gam.at G [dI p.vars, dI p.arrays, dT p.body, .box [.ref 8, .v (.slice none 0 0), .v (.slice none 0 0)], .row 3 (D.ints q.fst), .row 3 (D.ints q.snd), .tree (D.stmts p.body), .box [.ref 4, .ref 5, .tref 6], .row 3 (D.ints [])] [(2, .ptr 3 0), (3, bA false), (4, .ptr 7 0)]
     have Gx := G.nil 9 3 (.ints []) 1 [dI p.vars, dI p.arrays, dT p.body, .box [.ref 8, .ref 9, .v (.slice none 0 0)], .row 3 (D.ints q.fst), .row 3 (D.ints q.snd), .tree (D.stmts p.body), .box [.ref 4, .ref 5, .tref 6], .row 3 (D.ints [])] [(2, .ptr 3 0), (3, bA false), (4, .ptr 7 0)]
     clear G
     obtain ⟨ρ, G⟩ := Gx
     replace G := Gam.at G [dI p.vars, dI p.arrays, dT p.body, .box [.ref 8, .ref 9, .v (.slice none 0 0)], .row 3 (D.ints q.fst), .row 3 (D.ints q.snd), .tree (D.stmts p.body), .box [.ref 4, .ref 5, .tref 6], .row 3 (D.ints []), .row 3 (D.ints [])] [(2, .ptr 3 0), (3, bA false), (4, .ptr 7 0)]
     have Gx := G.nilT 10 (.stmts []) [dI p.vars, dI p.arrays, dT p.body, .box [.ref 8, .ref 9, .tref 10], .row 3 (D.ints q.fst), .row 3 (D.ints q.snd), .tree (D.stmts p.body), .box [.ref 4, .ref 5, .tref 6], .row 3 (D.ints []), .row 3 (D.ints [])] [(2, .ptr 3 0), (3, bA false), (4, .ptr 7 0)]
     clear G
     obtain ⟨ρ, G⟩ := Gx
     replace G := Gam.at G [dI p.vars, dI p.arrays, dT p.body, .box [.ref 8, .ref 9, .tref 10], .row 3 (D.ints q.fst), .row 3 (D.ints q.snd), .tree (D.stmts p.body), .box [.ref 4, .ref 5, .tref 6], .row 3 (D.ints []), .row 3 (D.ints []), .tree (D.stmts [])] [(2, .ptr 3 0), (3, bA false), (4, .ptr 7 0)]
     exact rx_ret (v := .tup [.agg [.ref 8, .ref 9, .tref 10], bA false]) G [0, 1, 2, 8, 9, 10] (by kernel_rfl) (by kernel_rfl) (by show _ = List.map (It.ren (nth [0, 1, 2, 8, 9, 10])) [dI p.vars, dI p.arrays, dT p.body, .row 3 (D.ints (infR p).vars), .row 3 (D.ints (infR p).arrays), .tree (D.stmts (infR p).body)]; have e1 : ((infR p).vars : List Int) = ([]) := (by rw [infR_no (ok_f (by with_reducible assumption) (by with_reducible assumption) (same_true (by with_reducible assumption)) (by with_reducible assumption))]; done); have e2 : ((infR p).arrays : List Int) = ([]) := (by rw [infR_no (ok_f (by with_reducible assumption) (by with_reducible assumption) (same_true (by with_reducible assumption)) (by with_reducible assumption))]; done); have e3 : ((infR p).body : List LStmt) = ([]) := (by rw [infR_no (ok_f (by with_reducible assumption) (by with_reducible assumption) (same_true (by with_reducible assumption)) (by with_reducible assumption))]; done); first | (rw [e1, e2, e3]; done) | (rw [e1, e2, e3]; rfl) | (simp only [e1, e2, e3]; done) | (simp only [e1, e2, e3]; rfl)) (by have e1 : (okI p : Bool) = (false) := (by exact ok_f (by with_reducible assumption) (by with_reducible assumption) (same_true (by with_reducible assumption)) (by with_reducible assumption)); first | (rw [e1]; done) | (rw [e1]; rfl) | (simp only [e1]; done) | (simp only [e1]; rfl))
  ·
   have q0 : (progB p) = false := (fun hq => (hq)) (Eq.mp (Bool.not_eq_true' _) h0)
   refine rT G (!progB p) (by assumption) ?_
   refine wp_seq ?_
   refine rs0s G [(1, .ptr 3 0), (2, .ptr 4 0), (3, bA false)] ?_
   clear G; intro ρ a w G
   refine th_n ?_
   refine wp_ret ?_
   refine th_r ?_
   have Gx := G.nil 5 3 (.ints []) 1 [dI p.vars, dI p.arrays, dT p.body, .box (pL 0), .box [.ref 5, .v (.slice none 0 0), .v (.slice none 0 0)]] [(1, .ptr 3 0), (2, .ptr 4 0), (3, bA false)]
   clear G
   obtain ⟨ρ, G⟩ := Gx
   replace G := Gam.at G [dI p.vars, dI p.arrays, dT p.body, .box (pL 0), .box [.ref 5, .v (.slice none 0 0), .v (.slice none 0 0)], .row 3 (D.ints [])] [(1, .ptr 3 0), (2, .ptr 4 0), (3, bA false)]
   have Gx := G.nil 6 3 (.ints []) 1 [dI p.vars, dI p.arrays, dT p.body, .box (pL 0), .box [.ref 5, .ref 6, .v (.slice none 0 0)], .row 3 (D.ints [])] [(1, .ptr 3 0), (2, .ptr 4 0), (3, bA false)]
   clear G
   obtain ⟨ρ, G⟩ := Gx
   replace G := Gam.at G [dI p.vars, dI p.arrays, dT p.body, .box (pL 0), .box [.ref 5, .ref 6, .v (.slice none 0 0)], .row 3 (D.ints []), .row 3 (D.ints [])] [(1, .ptr 3 0), (2, .ptr 4 0), (3, bA false)]
   have Gx := G.nilT 7 (.stmts []) [dI p.vars, dI p.arrays, dT p.body, .box (pL 0), .box [.ref 5, .ref 6, .tref 7], .row 3 (D.ints []), .row 3 (D.ints [])] [(1, .ptr 3 0), (2, .ptr 4 0), (3, bA false)]
   clear G
   obtain ⟨ρ, G⟩ := Gx
   replace G := Gam.at G [dI p.vars, dI p.arrays, dT p.body, .box (pL 0), .box [.ref 5, .ref 6, .tref 7], .row 3 (D.ints []), .row 3 (D.ints []), .tree (D.stmts [])] [(1, .ptr 3 0), (2, .ptr 4 0), (3, bA false)]
   exact rx_ret (v := .tup [.agg [.ref 5, .ref 6, .tref 7], bA false]) G [0, 1, 2, 5, 6, 7] (by kernel_rfl) (by kernel_rfl) (by show _ = List.map (It.ren (nth [0, 1, 2, 5, 6, 7])) [dI p.vars, dI p.arrays, dT p.body, .row 3 (D.ints (infR p).vars), .row 3 (D.ints (infR p).arrays), .tree (D.stmts (infR p).body)]; have e1 : ((infR p).vars : List Int) = ([]) := (by rw [infR_no (okI_no (by with_reducible assumption))]; done); have e2 : ((infR p).arrays : List Int) = ([]) := (by rw [infR_no (okI_no (by with_reducible assumption))]; done); have e3 : ((infR p).body : List LStmt) = ([]) := (by rw [infR_no (okI_no (by with_reducible assumption))]; done); first | (rw [e1, e2, e3]; done) | (rw [e1, e2, e3]; rfl) | (simp only [e1, e2, e3]; done) | (simp only [e1, e2, e3]; rfl)) (by have e1 : (okI p : Bool) = (false) := (by exact okI_no (by with_reducible assumption)); first | (rw [e1]; done) | (rw [e1]; rfl) | (simp only [e1]; done) | (simp only [e1]; rfl))

end Go.Proofs.Ytgpkdfefgcpbiaa

namespace Go.Proofs.Ytgpkdfefgcpbiaa
set_option linter.unusedVariables false
set_option linter.unusedSimpArgs false
open Go Go.RowKit

abbrev LabC : Type := Lab × Bool
def oneC (x : LabC) (s : LStmt) (cx : Int) : LabC := (oneL x.1 s cx, x.2 || !decide (oneL x.1 s cx = x.1))
def upC : Nat → LabC → Int → LStmt → LabC
  | 0, x, _, _ => x
  | d + 1, x, cx, s => s.els.foldl (fun r t => upC d r (innL (oneC x s cx).1 s cx) t) (s.body.foldl (fun r t => upC d r (innL (oneC x s cx).1 s cx) t) (oneC x s cx))
abbrev upCB (d : Nat) (x : LabC) (cx : Int) (ss : List LStmt) : LabC := ss.foldl (fun r t => upC d r cx t) x
theorem upC_eq (d : Nat) (x : LabC) (cx : Int) (s : LStmt) : upC (d + 1) x cx s = upCB d (upCB d (oneC x s cx) (innL (oneC x s cx).1 s cx) s.body) (innL (oneC x s cx).1 s cx) s.els := by rw [upC]
theorem foldC_fst {F : LabC → LStmt → LabC} {G : Lab → LStmt → Lab} (h : ∀ x s, (F x s).1 = G x.1 s) : ∀ (ss : List LStmt) (x : LabC), (ss.foldl F x).1 = ss.foldl G x.1
  | [], _ => rfl
  | s :: r, x => by rw [List.foldl_cons, List.foldl_cons, foldC_fst h r, h]
theorem upC_fst : ∀ (d : Nat) (cx : Int) (x : LabC) (s : LStmt), (upC d x cx s).1 = upS false d x.1 cx s
  | 0, _, _, _ => rfl
  | d + 1, cx, x, s => by
    rw [upC_eq, upS_eq]
    simp only [Bool.false_eq_true, if_false]
    have e := fun (ss : List LStmt) (y : LabC) => foldC_fst (F := fun r t => upC d r (innL (oneC x s cx).1 s cx) t) (G := fun r t => upS false d r (innL (oneC x s cx).1 s cx) t) (fun x t => upC_fst d _ x t) ss y
    unfold upCB upB
    rw [e, e]
    rfl
theorem upCB_fst {d : Nat} {x : LabC} {cx : Int} {ss : List LStmt} : (upCB d x cx ss).1 = upB false d x.1 cx ss := foldC_fst (fun x t => upC_fst d cx x t) ss x
/-- The mark is up where something has turned, and only there. -/
def Mk (F : LabC → LStmt → LabC) : Prop := ∀ x s, ((F x s).2 = false → x.2 = false ∧ (F x s).1 = x.1) ∧ (okP x.1 → (F x s).1 = x.1 → F x s = x)
theorem fold_mk {F : LabC → LStmt → LabC} {G : Lab → LStmt → Lab} (hG : ∀ x s, (F x s).1 = G x.1 s) (h1 : ∀ q s, leP q (G q s)) (h2 : ∀ q s, shP q (G q s)) (h3 : ∀ q s, okP q → okP (G q s)) (h : Mk F) : ∀ (ss : List LStmt) (x : LabC), ((ss.foldl F x).2 = false → x.2 = false ∧ (ss.foldl F x).1 = x.1) ∧ (okP x.1 → (ss.foldl F x).1 = x.1 → ss.foldl F x = x)
  | [], x => ⟨fun h => ⟨h, rfl⟩, fun _ _ => rfl⟩
  | s :: r, x => by
    obtain ⟨a1, a2⟩ := h x s
    obtain ⟨b1, b2⟩ := fold_mk hG h1 h2 h3 h r (F x s)
    refine ⟨fun hf => ?_, fun ho hf => ?_⟩
    · obtain ⟨c1, c2⟩ := b1 hf
      obtain ⟨d1, d2⟩ := a1 c1
      exact ⟨d1, by rw [List.foldl_cons, c2, d2]⟩
    · rw [List.foldl_cons] at hf ⊢
      have e : (F x s).1 = x.1 := by
        have i1 := h1 x.1 s
        have i2 := fold_infl h1 r (G x.1 s)
        rw [← hG, ← foldC_fst hG, hf] at i2
        rw [hG]
        exact (i1.anti (by rw [← hG]; exact i2) (h2 _ _) ho (h3 _ _ ho)).symm
      have e2 := a2 ho e
      rw [e2] at hf ⊢
      have b3 := fold_mk hG h1 h2 h3 h r x
      exact b3.2 ho hf
theorem oneC_mk (x : LabC) (s : LStmt) (cx : Int) : ((oneC x s cx).2 = false → x.2 = false ∧ (oneC x s cx).1 = x.1) ∧ ((oneC x s cx).1 = x.1 → oneC x s cx = x) := by
  unfold oneC
  refine ⟨fun h => ?_, fun h => ?_⟩
  · simp only [Bool.or_eq_false_iff, Bool.not_eq_false', decide_eq_true_eq] at h
    exact h
  · simp only at h
    refine Prod.ext h ?_
    simp [h]
theorem upC_mk : ∀ (d : Nat) (cx : Int), labOk cx = true → Mk fun x s => upC d x cx s
  | 0, _, _ => fun _ _ => ⟨fun h => ⟨h, rfl⟩, fun _ _ => rfl⟩
  | d + 1, cx, hc => fun x s => by
    simp only
    rw [upC_eq]
    obtain ⟨a1, a2⟩ := oneC_mk x s cx
    -- where labels are labels
    by_cases ho : okP x.1
    · have o1 : okP (oneC x s cx).1 := one_ok ho hc s
      have hi := inn_ok o1 hc s
      have mkB := fun (ss : List LStmt) (y : LabC) => fold_mk (F := fun r t => upC d r (innL (oneC x s cx).1 s cx) t) (G := fun r t => upS false d r (innL (oneC x s cx).1 s cx) t) (fun x t => upC_fst d _ x t) (fun q t => up_infl false d _ q t) (fun q t => up_sh false d _ q t) (fun q t hq => up_ok false d _ q t hi hq) (upC_mk d _ hi) ss y
      obtain ⟨b1, b2⟩ := mkB s.body (oneC x s cx)
      obtain ⟨c1, c2⟩ := mkB s.els (upCB d (oneC x s cx) (innL (oneC x s cx).1 s cx) s.body)
      refine ⟨fun hf => ?_, fun _ hf => ?_⟩
      · obtain ⟨p1, p2⟩ := c1 hf
        obtain ⟨p3, p4⟩ := b1 p1
        obtain ⟨p5, p6⟩ := a1 p3
        exact ⟨p5, by rw [show (upCB d (upCB d (oneC x s cx) (innL (oneC x s cx).1 s cx) s.body) (innL (oneC x s cx).1 s cx) s.els).1 = _ from p2, show (upCB d (oneC x s cx) (innL (oneC x s cx).1 s cx) s.body).1 = _ from p4, p6]⟩
      · have i1 : leP x.1 (oneC x s cx).1 := one_infl x.1 s cx
        have i2 : leP (oneC x s cx).1 (upCB d (oneC x s cx) (innL (oneC x s cx).1 s cx) s.body).1 := by rw [upCB_fst]; exact upB_infl
        have i3 : leP (upCB d (oneC x s cx) (innL (oneC x s cx).1 s cx) s.body).1 x.1 := by
          rw [← hf, upCB_fst (x := upCB d (oneC x s cx) (innL (oneC x s cx).1 s cx) s.body)]; exact upB_infl
        have e1 : (oneC x s cx).1 = x.1 := (i1.anti (i2.trans i3) (one_sh _ _ _) ho o1).symm
        have o2 : okP (upCB d (oneC x s cx) (innL (oneC x s cx).1 s cx) s.body).1 := by rw [upCB_fst]; exact upB_ok hi o1
        have e2 : (upCB d (oneC x s cx) (innL (oneC x s cx).1 s cx) s.body).1 = (oneC x s cx).1 := (i2.anti (i3.trans i1) (by rw [upCB_fst]; exact upB_sh) o1 o2).symm
        have e3 := a2 e1
        have e4 := b2 o1 e2
        have e5 := c2 o2 (hf.trans (e2.trans e1).symm)
        exact e5.trans (e4.trans e3)
    · refine ⟨fun hf => ?_, fun ho' => absurd ho' ho⟩
      -- the mark alone needs no labels
      have up2 : ∀ (d : Nat) (cx : Int) (x : LabC) (s : LStmt), (upC d x cx s).2 = false → x.2 = false ∧ (upC d x cx s).1 = x.1 := by
        intro d
        induction d with
        | zero => intro cx x s h; exact ⟨h, rfl⟩
        | succ d ih =>
          intro cx x s h
          rw [upC_eq] at h ⊢
          have fd : ∀ (cx : Int) (ss : List LStmt) (y : LabC), (upCB d y cx ss).2 = false → y.2 = false ∧ (upCB d y cx ss).1 = y.1 := by
            intro cx ss
            induction ss with
            | nil => intro y h; exact ⟨h, rfl⟩
            | cons t r ihh =>
              intro y h
              obtain ⟨p1, p2⟩ := ihh (upC d y cx t) h
              obtain ⟨p3, p4⟩ := ih cx y t p1
              exact ⟨p3, by rw [show upCB d y cx (t :: r) = upCB d (upC d y cx t) cx r from rfl, p2, p4]⟩
          obtain ⟨p1, p2⟩ := fd _ _ _ h
          obtain ⟨p3, p4⟩ := fd _ _ _ p1
          obtain ⟨p5, p6⟩ := (oneC_mk x s cx).1 p3
          exact ⟨p5, by rw [p2, p4, p6]⟩
      have := up2 (d + 1) cx x s (by rw [upC_eq]; exact hf)
      rw [upC_eq] at this
      exact this
theorem upCB_mk {d : Nat} {x : LabC} {cx : Int} {ss : List LStmt} (hc : labOk cx = true) : ((upCB d x cx ss).2 = false → x.2 = false ∧ (upCB d x cx ss).1 = x.1) ∧ (okP x.1 → (upCB d x cx ss).1 = x.1 → upCB d x cx ss = x) :=
  fold_mk (fun x t => upC_fst d cx x t) (fun q t => up_infl false d _ q t) (fun q t => up_sh false d _ q t) (fun q t hq => up_ok false d _ q t hc hq) (upC_mk d cx hc) ss x

theorem c_labelV (vs ars : List Int) (b : List LStmt) (e : LExpr) (he : shapeB vs.length ars.length 5 e = true) : Ctr.ok Try.prog (fnC 133 [pA 0, eA e 3] ([dI vs, dI ars, dT b] ++ eS e) (iA (labE vs ars 5 e))) := c_label ⟨vs, ars, b⟩ e he
theorem c_storedV (vs ars : List Int) (b : List LStmt) (s : LStmt) (cx : Int) (h : headB vs.length ars.length s = true) (h4 : ¬ s.kind = 4) : Ctr.ok Try.prog (fnC 127 [pA 0, sA s 3, iA cx] ([dI vs, dI ars, dT b] ++ sS s) (iA (stoR ⟨vs, ars, b⟩ s cx))) := c_stored ⟨vs, ars, b⟩ s cx h h4

section
variable {vs ars : List Int} {b : List LStmt} {s : LStmt} {cx : Int} {ch : Bool}
theorem or_eq1 (v x c : Int) : orI v (orI x c) = orI (orI v x) c := by simp only [orI_ofb, bv_ofb]; rw [BitVec.or_assoc]
theorem or_eq2 (v x c y : Int) : orI v (orI (orI x c) y) = orI (orI (orI v x) y) c := by
  simp only [orI_ofb, bv_ofb]
  rw [BitVec.or_assoc (bv x), BitVec.or_comm (bv c) (bv y), ← BitVec.or_assoc (bv x), ← BitVec.or_assoc (bv v), ← BitVec.or_assoc (bv v)]
theorem one1 (k : s.kind = 1) : oneL (vs, ars) s cx = (vs.set s.target.toNat (orI (vs.getD s.target.toNat 0) (stoR ⟨vs, ars, b⟩ s cx)), ars) := by
  rw [on1 k, sto_1 (by omega), or_eq1]
theorem one2 (k : s.kind = 2) : oneL (vs, ars) s cx = (vs, ars.set s.target.toNat (orI (ars.getD s.target.toNat 0) (stoR ⟨vs, ars, b⟩ s cx))) := by
  rw [on2 k, sto_2 k, or_eq2]
theorem set_same {l : List Int} {t : Nat} {x : Int} (h : x = l.getD t 0) : l.set t x = l := by
  subst h
  apply List.ext_getElem?
  intro j
  rw [List.getElem?_set]
  split
  · rename_i e
    subst e
    split
    · rename_i h; rw [getD_lt h, List.getElem?_eq_getElem h]
    · rename_i h; rw [List.getElem?_eq_none (by omega)]
  · rfl
theorem set_other {l : List Int} {t : Nat} {x : Int} (ht : t < l.length) (h : ¬ x = l.getD t 0) : ¬ l.set t x = l := fun e => by
  apply h
  have := set_getD l t t x
  rw [e, if_pos ⟨rfl, ht⟩] at this
  exact this.symm
theorem co1t (k : s.kind = 1) (ht : s.target.toNat < vs.length) (h : ¬ orI (vs.getD s.target.toNat 0) (stoR ⟨vs, ars, b⟩ s cx) = vs.getD s.target.toNat 0) : oneC ((vs, ars), ch) s cx = ((vs.set s.target.toNat (orI (vs.getD s.target.toNat 0) (stoR ⟨vs, ars, b⟩ s cx)), ars), true) := by
  unfold oneC
  simp only [one1 (b := b) k]
  rw [decide_eq_false (fun e => set_other ht h (congrArg Prod.fst e))]
  simp
theorem co1f (k : s.kind = 1) (h : orI (vs.getD s.target.toNat 0) (stoR ⟨vs, ars, b⟩ s cx) = vs.getD s.target.toNat 0) : oneC ((vs, ars), ch) s cx = ((vs, ars), ch) := by
  unfold oneC
  simp only [one1 (b := b) k, set_same h]
  simp
theorem co2t (k : s.kind = 2) (ht : s.target.toNat < ars.length) (h : ¬ orI (ars.getD s.target.toNat 0) (stoR ⟨vs, ars, b⟩ s cx) = ars.getD s.target.toNat 0) : oneC ((vs, ars), ch) s cx = ((vs, ars.set s.target.toNat (orI (ars.getD s.target.toNat 0) (stoR ⟨vs, ars, b⟩ s cx))), true) := by
  unfold oneC
  simp only [one2 (b := b) k]
  rw [decide_eq_false (fun e => set_other ht h (congrArg Prod.snd e))]
  simp
theorem co2f (k : s.kind = 2) (h : orI (ars.getD s.target.toNat 0) (stoR ⟨vs, ars, b⟩ s cx) = ars.getD s.target.toNat 0) : oneC ((vs, ars), ch) s cx = ((vs, ars), ch) := by
  unfold oneC
  simp only [one2 (b := b) k, set_same h]
  simp
theorem co0 (k1 : ¬ s.kind = 1) (k2 : ¬ s.kind = 2) : oneC ((vs, ars), ch) s cx = ((vs, ars), ch) := by
  unfold oneC
  simp only [on0 k1 k2]
  simp
end
abbrev inB (ch : Bool) : List It := [.box [.ref 0, .ref 1, .ref 2], .box [bA ch]]
abbrev ciC (vs ars : List Int) (b : List LStmt) (s : LStmt) (cx : Int) (ch : Bool) : Ctr := ⟨126, [sA s 5, iA cx, .ptr 3 0, .ptr 4 0], [.row 3 (.ints vs), .row 3 (.ints ars), dT b] ++ inB ch ++ sS s,
  [.row 3 (.ints (oneC ((vs, ars), ch) s cx).1.1), .row 3 (.ints (oneC ((vs, ars), ch) s cx).1.2), dT b] ++ inB (oneC ((vs, ars), ch) s cx).2 ++ sS s, .tup []⟩
set_option maxHeartbeats 4000000 in
set_option maxRecDepth 100000 in
theorem c_closI (vs ars : List Int) (b : List LStmt) (s : LStmt) (cx : Int) (ch : Bool) (h : headB vs.length ars.length s = true) : Ctr.ok Try.prog (ciC vs ars b s cx ch) := by
  refine rx_enter 40 Try.func126 (by rfl) (by kernel_rfl) (by kernel_rfl) ?_
  intro ι φ ψ w0 w F ρ0 ρ a G
  replace G := Gam.at G [.row 3 (D.ints vs), .row 3 (D.ints ars), dT b, .box (pL 0), .box [bA ch], dE s.index.kids, dE s.value.kids, dT s.body, dT s.els] [(0, sA s 5), (1, iA cx), (2, .ptr 3 0), (3, .ptr 4 0)]
  refine wp_seq ?_
  refine rs0 G [0, 1, 2, 3, 4, 5, 6, 7, 8, 9] [.row 3 (D.ints vs), .row 3 (D.ints ars), dT b, .box (pL 0), .box [bA ch], dE s.index.kids, dE s.value.kids, dT s.body, dT s.els, .box (sL s 5)] [(1, iA cx), (2, .ptr 3 0), (3, .ptr 4 0), (4, .ptr 9 0)] ?_
  clear G; intro ρ a w G
  refine th_n ?_
  refine wp_seq ?_
  refine rs0s G [(1, iA cx), (2, .ptr 3 0), (3, .ptr 4 0), (4, .ptr 9 0), (6, .ref 0)] ?_
  clear G; intro ρ a w G
  refine th_n ?_
  refine wp_seq ?_
  refine wp_seq ?_
  refine rs0s G [(1, iA cx), (2, .ptr 3 0), (3, .ptr 4 0), (4, .ptr 9 0), (6, .ref 0), (11, iA s.kind)] ?_
  clear G; intro ρ a w G
  refine th_n ?_
  refine wp_block ?_
  refine wp_seq ?_
  refine rs0s G [(1, iA cx), (2, .ptr 3 0), (3, .ptr 4 0), (4, .ptr 9 0), (6, .ref 0), (11, iA s.kind), (12, bA (s.kind == 2))] ?_
  clear G; intro ρ a w G
  refine th_n ?_
  cases h0 : (s.kind == (2 : Int))
  ·
   have q0 : ¬ (s.kind = 2) := ne_of_beq_false h0
   refine rF G (s.kind == (2 : Int)) (by assumption) ?_
   refine wp_seq ?_
   refine rs0s G [(1, iA cx), (2, .ptr 3 0), (3, .ptr 4 0), (4, .ptr 9 0), (6, .ref 0), (16, bA (s.kind == 1))] ?_
   clear G; intro ρ a w G
   refine th_n ?_
   cases h1 : (s.kind == (1 : Int))
   ·
    have q1 : ¬ (s.kind = 1) := ne_of_beq_false h1
    refine rF G (s.kind == (1 : Int)) (by assumption) ?_
    refine wp_ret ?_
    refine bl_r ?_
    refine th_r ?_
    exact rx_ret (v := .tup []) G [0, 1, 2, 3, 4, 5, 6, 7, 8] (by kernel_rfl) (by kernel_rfl) (by show _ = List.map (It.ren (nth [0, 1, 2, 3, 4, 5, 6, 7, 8])) [.row 3 (D.ints (oneC ((vs, ars), ch) s cx).fst.fst), .row 3 (D.ints (oneC ((vs, ars), ch) s cx).fst.snd), dT b, .box (pL 0), .box [bA (oneC ((vs, ars), ch) s cx).snd], dE s.index.kids, dE s.value.kids, dT s.body, dT s.els]; have e1 : ((oneC ((vs, ars), ch) s cx).fst.fst : List Int) = (vs) := (by have h9 := co0 (vs := vs) (ars := ars) (cx := cx) (ch := ch) (s := s) (by omega) (by omega); rw [h9]; done); have e2 : ((oneC ((vs, ars), ch) s cx).fst.snd : List Int) = (ars) := (by have h9 := co0 (vs := vs) (ars := ars) (cx := cx) (ch := ch) (s := s) (by omega) (by omega); rw [h9]; done); have e3 : ((oneC ((vs, ars), ch) s cx).snd : Bool) = (ch) := (by have h9 := co0 (vs := vs) (ars := ars) (cx := cx) (ch := ch) (s := s) (by omega) (by omega); rw [h9]; done); first | (rw [e1, e2, e3]; done) | (rw [e1, e2, e3]; rfl) | (simp only [e1, e2, e3]; done) | (simp only [e1, e2, e3]; rfl)) (by kernel_rfl)
   ·
    have q1 : s.kind = 1 := eq_of_beq h1
    refine rT G (s.kind == (1 : Int)) (by assumption) ?_
    refine wp_skip ?_
    refine bl_n ?_
    refine th_n ?_
    refine wp_seq ?_
    refine rd1s G ⟨[(8, _, [0, 1, 2, 5, 6, 7, 8])], [], []⟩ (calls_cons (Ctr.lend (c_storedV (vs) (ars) (b) (s) (cx) (by assumption) (by omega)) [.row 3, .row 3]) calls_nil) trivial [0, 0, 2, 7, 15, 0, 0, 0, 224, 511, 1023] [(3, .ptr 4 0), (4, .ptr 9 0), (6, .ref 0), (7, iA (orI (vs.getD s.target.toNat 0) (stoR { vars := vs, arrays := ars, body := b } s cx)))] [(0 : Int) ≤ s.target, s.target < (↑vs.length : Int), s.target.toNat < vs.length] ⟨(by exact (hd_var h (by omega)).1), (by exact (hd_var h (by omega)).2.1), (by exact (hd_var h (by omega)).2.2), trivial⟩ ?_
    clear G; intro ρ a w G
    refine th_n ?_
    refine wp_seq ?_
    refine rs1s G ⟨[], [], []⟩ calls_nil trivial [(3, .ptr 4 0), (4, .ptr 9 0), (6, .ref 0), (7, iA (orI (vs.getD s.target.toNat 0) (stoR { vars := vs, arrays := ars, body := b } s cx))), (34, bA (orI (vs.getD s.target.toNat 0) (stoR { vars := vs, arrays := ars, body := b } s cx) != vs.getD s.target.toNat 0))] [(0 : Int) ≤ s.target, s.target < (↑vs.length : Int), s.target.toNat < vs.length] ⟨(by exact (hd_var h (by omega)).1), (by exact (hd_var h (by omega)).2.1), (by exact (hd_var h (by omega)).2.2), trivial⟩ ?_
    clear G; intro ρ a w G
    refine th_n ?_
    cases h2 : (orI (vs.getD s.target.toNat (0 : Int)) (stoR { vars := vs, arrays := ars, body := b } s cx) != vs.getD s.target.toNat (0 : Int))
    ·
     have q2 : orI (vs.getD s.target.toNat 0) (stoR { vars := vs, arrays := ars, body := b } s cx) = vs.getD s.target.toNat 0 := (by simpa using h2)
     refine rF G (orI (vs.getD s.target.toNat (0 : Int)) (stoR { vars := vs, arrays := ars, body := b } s cx) != vs.getD s.target.toNat (0 : Int)) (by assumption) ?_
     refine wp_skip ?_
     exact rx_retN (v := .tup []) G [0, 1, 2, 3, 4, 5, 6, 7, 8] (by kernel_rfl) (by kernel_rfl) (by show _ = List.map (It.ren (nth [0, 1, 2, 3, 4, 5, 6, 7, 8])) [.row 3 (D.ints (oneC ((vs, ars), ch) s cx).fst.fst), .row 3 (D.ints (oneC ((vs, ars), ch) s cx).fst.snd), dT b, .box (pL 0), .box [bA (oneC ((vs, ars), ch) s cx).snd], dE s.index.kids, dE s.value.kids, dT s.body, dT s.els]; have e1 : ((oneC ((vs, ars), ch) s cx).fst.fst : List Int) = (vs) := (by have h9 := co1f (ch := ch) (by omega) (by with_reducible assumption); rw [h9]; done); have e2 : ((oneC ((vs, ars), ch) s cx).fst.snd : List Int) = (ars) := (by have h9 := co1f (ch := ch) (by omega) (by with_reducible assumption); rw [h9]; done); have e3 : ((oneC ((vs, ars), ch) s cx).snd : Bool) = (ch) := (by have h9 := co1f (ch := ch) (by omega) (by with_reducible assumption); rw [h9]; done); first | (rw [e1, e2, e3]; done) | (rw [e1, e2, e3]; rfl) | (simp only [e1, e2, e3]; done) | (simp only [e1, e2, e3]; rfl)) (by kernel_rfl)
    ·
     have q2 : ¬ (orI (vs.getD s.target.toNat 0) (stoR { vars := vs, arrays := ars, body := b } s cx) = vs.getD s.target.toNat 0) := bne_iff_ne.1 h2
     refine rT G (orI (vs.getD s.target.toNat (0 : Int)) (stoR { vars := vs, arrays := ars, body := b } s cx) != vs.getD s.target.toNat (0 : Int)) (by assumption) ?_
     refine rs1 (dk := dkP) G ⟨[], [], []⟩ calls_nil trivial [0, 1, 2, 3, 4, 5, 6, 7, 8] [.row 3 (D.ints (vs.set s.target.toNat (orI (vs.getD s.target.toNat 0) (stoR { vars := vs, arrays := ars, body := b } s cx)))), .row 3 (D.ints ars), dT b, .box (pL 0), .box [bA true], dE s.index.kids, dE s.value.kids, dT s.body, dT s.els] [] [(0 : Int) ≤ s.target, s.target < (↑vs.length : Int), s.target.toNat < vs.length] ⟨(by exact (hd_var h (by omega)).1), (by exact (hd_var h (by omega)).2.1), (by exact (hd_var h (by omega)).2.2), trivial⟩ ?_
     clear G; intro ρ a w G
     exact rx_retN (v := .tup []) G [0, 1, 2, 3, 4, 5, 6, 7, 8] (by kernel_rfl) (by kernel_rfl) (by show _ = List.map (It.ren (nth [0, 1, 2, 3, 4, 5, 6, 7, 8])) [.row 3 (D.ints (oneC ((vs, ars), ch) s cx).fst.fst), .row 3 (D.ints (oneC ((vs, ars), ch) s cx).fst.snd), dT b, .box (pL 0), .box [bA (oneC ((vs, ars), ch) s cx).snd], dE s.index.kids, dE s.value.kids, dT s.body, dT s.els]; have e1 : ((oneC ((vs, ars), ch) s cx).fst.fst : List Int) = (vs.set s.target.toNat (orI (vs.getD s.target.toNat 0) (stoR { vars := vs, arrays := ars, body := b } s cx))) := (by have h9 := co1t (ch := ch) (by omega) (hd_var h (by omega)).2.2 (by with_reducible assumption); rw [h9]; done); have e2 : ((oneC ((vs, ars), ch) s cx).fst.snd : List Int) = (ars) := (by have h9 := co1t (ch := ch) (by omega) (hd_var h (by omega)).2.2 (by with_reducible assumption); rw [h9]; done); have e3 : ((oneC ((vs, ars), ch) s cx).snd : Bool) = (true) := (by have h9 := co1t (ch := ch) (by omega) (hd_var h (by omega)).2.2 (by with_reducible assumption); rw [h9]; done); first | (rw [e1, e2, e3]; done) | (rw [e1, e2, e3]; rfl) | (simp only [e1, e2, e3]; done) | (simp only [e1, e2, e3]; rfl)) (by kernel_rfl)
  ·
   have q0 : s.kind = 2 := eq_of_beq h0
   refine rT G (s.kind == (2 : Int)) (by assumption) ?_
   refine rs0s G [(1, iA cx), (2, .ptr 3 0), (3, .ptr 4 0), (4, .ptr 9 0), (6, .ref 1)] ?_
   clear G; intro ρ a w G
   refine bl_n ?_
   refine th_n ?_
   refine wp_seq ?_
   refine rd1s G ⟨[(8, _, [0, 1, 2, 5, 6, 7, 8])], [], []⟩ (calls_cons (Ctr.lend (c_storedV (vs) (ars) (b) (s) (cx) (by assumption) (by omega)) [.row 3, .row 3]) calls_nil) trivial [0, 0, 2, 7, 15, 0, 0, 0, 224, 511, 1023] [(3, .ptr 4 0), (4, .ptr 9 0), (6, .ref 1), (7, iA (orI (ars.getD s.target.toNat 0) (stoR { vars := vs, arrays := ars, body := b } s cx)))] [(0 : Int) ≤ s.target, s.target < (↑ars.length : Int), s.target.toNat < ars.length] ⟨(by exact (hd_arr h (by omega)).1), (by exact (hd_arr h (by omega)).2.1), (by exact (hd_arr h (by omega)).2.2), trivial⟩ ?_
   clear G; intro ρ a w G
   refine th_n ?_
   refine wp_seq ?_
   refine rs1s G ⟨[], [], []⟩ calls_nil trivial [(3, .ptr 4 0), (4, .ptr 9 0), (6, .ref 1), (7, iA (orI (ars.getD s.target.toNat 0) (stoR { vars := vs, arrays := ars, body := b } s cx))), (34, bA (orI (ars.getD s.target.toNat 0) (stoR { vars := vs, arrays := ars, body := b } s cx) != ars.getD s.target.toNat 0))] [(0 : Int) ≤ s.target, s.target < (↑ars.length : Int), s.target.toNat < ars.length] ⟨(by exact (hd_arr h (by omega)).1), (by exact (hd_arr h (by omega)).2.1), (by exact (hd_arr h (by omega)).2.2), trivial⟩ ?_
   clear G; intro ρ a w G
   refine th_n ?_
   cases h3 : (orI (ars.getD s.target.toNat (0 : Int)) (stoR { vars := vs, arrays := ars, body := b } s cx) != ars.getD s.target.toNat (0 : Int))
   ·
    have q3 : orI (ars.getD s.target.toNat 0) (stoR { vars := vs, arrays := ars, body := b } s cx) = ars.getD s.target.toNat 0 := (by simpa using h3)
    refine rF G (orI (ars.getD s.target.toNat (0 : Int)) (stoR { vars := vs, arrays := ars, body := b } s cx) != ars.getD s.target.toNat (0 : Int)) (by assumption) ?_
    refine wp_skip ?_
    exact rx_retN (v := .tup []) G [0, 1, 2, 3, 4, 5, 6, 7, 8] (by kernel_rfl) (by kernel_rfl) (by show _ = List.map (It.ren (nth [0, 1, 2, 3, 4, 5, 6, 7, 8])) [.row 3 (D.ints (oneC ((vs, ars), ch) s cx).fst.fst), .row 3 (D.ints (oneC ((vs, ars), ch) s cx).fst.snd), dT b, .box (pL 0), .box [bA (oneC ((vs, ars), ch) s cx).snd], dE s.index.kids, dE s.value.kids, dT s.body, dT s.els]; have e1 : ((oneC ((vs, ars), ch) s cx).fst.fst : List Int) = (vs) := (by have h9 := co2f (ch := ch) (by omega) (by with_reducible assumption); rw [h9]; done); have e2 : ((oneC ((vs, ars), ch) s cx).fst.snd : List Int) = (ars) := (by have h9 := co2f (ch := ch) (by omega) (by with_reducible assumption); rw [h9]; done); have e3 : ((oneC ((vs, ars), ch) s cx).snd : Bool) = (ch) := (by have h9 := co2f (ch := ch) (by omega) (by with_reducible assumption); rw [h9]; done); first | (rw [e1, e2, e3]; done) | (rw [e1, e2, e3]; rfl) | (simp only [e1, e2, e3]; done) | (simp only [e1, e2, e3]; rfl)) (by kernel_rfl)
   ·
    have q3 : ¬ (orI (ars.getD s.target.toNat 0) (stoR { vars := vs, arrays := ars, body := b } s cx) = ars.getD s.target.toNat 0) := bne_iff_ne.1 h3
    refine rT G (orI (ars.getD s.target.toNat (0 : Int)) (stoR { vars := vs, arrays := ars, body := b } s cx) != ars.getD s.target.toNat (0 : Int)) (by assumption) ?_
    refine rs1 (dk := dkP) G ⟨[], [], []⟩ calls_nil trivial [0, 1, 2, 3, 4, 5, 6, 7, 8] [.row 3 (D.ints vs), .row 3 (D.ints (ars.set s.target.toNat (orI (ars.getD s.target.toNat 0) (stoR { vars := vs, arrays := ars, body := b } s cx)))), dT b, .box (pL 0), .box [bA true], dE s.index.kids, dE s.value.kids, dT s.body, dT s.els] [] [(0 : Int) ≤ s.target, s.target < (↑ars.length : Int), s.target.toNat < ars.length] ⟨(by exact (hd_arr h (by omega)).1), (by exact (hd_arr h (by omega)).2.1), (by exact (hd_arr h (by omega)).2.2), trivial⟩ ?_
    clear G; intro ρ a w G
    exact rx_retN (v := .tup []) G [0, 1, 2, 3, 4, 5, 6, 7, 8] (by kernel_rfl) (by kernel_rfl) (by show _ = List.map (It.ren (nth [0, 1, 2, 3, 4, 5, 6, 7, 8])) [.row 3 (D.ints (oneC ((vs, ars), ch) s cx).fst.fst), .row 3 (D.ints (oneC ((vs, ars), ch) s cx).fst.snd), dT b, .box (pL 0), .box [bA (oneC ((vs, ars), ch) s cx).snd], dE s.index.kids, dE s.value.kids, dT s.body, dT s.els]; have e1 : ((oneC ((vs, ars), ch) s cx).fst.fst : List Int) = (vs) := (by have h9 := co2t (ch := ch) (by omega) (hd_arr h (by omega)).2.2 (by with_reducible assumption); rw [h9]; done); have e2 : ((oneC ((vs, ars), ch) s cx).fst.snd : List Int) = (ars.set s.target.toNat (orI (ars.getD s.target.toNat 0) (stoR { vars := vs, arrays := ars, body := b } s cx))) := (by have h9 := co2t (ch := ch) (by omega) (hd_arr h (by omega)).2.2 (by with_reducible assumption); rw [h9]; done); have e3 : ((oneC ((vs, ars), ch) s cx).snd : Bool) = (true) := (by have h9 := co2t (ch := ch) (by omega) (hd_arr h (by omega)).2.2 (by with_reducible assumption); rw [h9]; done); first | (rw [e1, e2, e3]; done) | (rw [e1, e2, e3]; rfl) | (simp only [e1, e2, e3]; done) | (simp only [e1, e2, e3]; rfl)) (by kernel_rfl)

end Go.Proofs.Ytgpkdfefgcpbiaa

namespace Go.Proofs.Ytgpkdfefgcpbiaa
set_option linter.unusedVariables false
set_option linter.unusedSimpArgs false
open Go Go.RowKit

section
variable {nv na d k : Nat} {ss : List LStmt} {x : LabC} {cx : Int}
theorem upCB_sh : shP x.1 (upCB d x cx ss).1 := by rw [upCB_fst]; exact upB_sh
theorem cn (hk : k < ss.length) : upCB d x cx (ss.take (k + 1)) = upC d (upCB d x cx (ss.take k)) cx (ss.getD k default) := by
  unfold upCB
  rw [take_succ_get _ _ hk, List.foldl_append, getD_lt hk]; rfl
theorem cn3 (hk : k < ss.length) (k3 : (ss.getD k default).kind = 3) : upCB (d + 1) x cx (ss.take (k + 1)) = upCB d (upCB d (oneC (upCB (d + 1) x cx (ss.take k)) (ss.getD k default) cx) (orI cx (labE (oneC (upCB (d + 1) x cx (ss.take k)) (ss.getD k default) cx).1.1 (oneC (upCB (d + 1) x cx (ss.take k)) (ss.getD k default) cx).1.2 5 (ss.getD k default).value)) (ss.getD k default).body) (orI cx (labE (oneC (upCB (d + 1) x cx (ss.take k)) (ss.getD k default) cx).1.1 (oneC (upCB (d + 1) x cx (ss.take k)) (ss.getD k default) cx).1.2 5 (ss.getD k default).value)) (ss.getD k default).els := by
  rw [cn hk, upC_eq]
  unfold innL
  rw [if_pos k3]
theorem cnn (hk : k < ss.length) (k3 : ¬ (ss.getD k default).kind = 3) : upCB (d + 1) x cx (ss.take (k + 1)) = upCB d (upCB d (oneC (upCB (d + 1) x cx (ss.take k)) (ss.getD k default) cx) cx (ss.getD k default).body) cx (ss.getD k default).els := by
  rw [cn hk, upC_eq]
  unfold innL
  rw [if_neg k3]
theorem cn_end (hk : ss.length ≤ k) : upCB d x cx ss = upCB d x cx (ss.take k) := by rw [List.take_of_length_le hk]
theorem sh_head {q r : Lab} {s : LStmt} (h : shP q r) (hv : q.1.length = nv) (ha : q.2.length = na) (hh : headB nv na s = true) : headB r.1.length r.2.length s = true := by rw [h.1, h.2, hv, ha]; exact hh
end
abbrev eaC (vs ars : List Int) (d : Nat) (b ss : List LStmt) (cx : Int) (ch : Bool) : Ctr := ⟨125, [pA 0, .ref 5, iA cx, .fn 126 [.ptr 3 0, .ptr 4 0]], [.row 3 (.ints vs), .row 3 (.ints ars), dT b] ++ inB ch ++ [dT ss],
  [.row 3 (.ints (upCB d ((vs, ars), ch) cx ss).1.1), .row 3 (.ints (upCB d ((vs, ars), ch) cx ss).1.2), dT b] ++ inB (upCB d ((vs, ars), ch) cx ss).2 ++ [dT ss], .tup []⟩
set_option maxHeartbeats 8000000 in
set_option maxRecDepth 100000 in
theorem s_eachI (nv na d : Nat) (b ss : List LStmt) (ih : ∀ (vs ars : List Int) (tt : List LStmt) (cx : Int) (ch : Bool), 0 < ss.length → vs.length = nv → ars.length = na → tt.all (stmtB nv na d) = true → Ctr.ok Try.prog (eaC vs ars d b tt cx ch))
    (vs ars : List Int) (cx : Int) (ch : Bool) (hv : vs.length = nv) (ha : ars.length = na) (hs : ss.all (stmtB nv na (d + 1)) = true) : Ctr.ok Try.prog (eaC vs ars (d + 1) b ss cx ch) := by
  refine rx_enter 44 Try.func125 (by rfl) (by kernel_rfl) (by kernel_rfl) ?_
  intro ι φ ψ w0 w F ρ0 ρ a G
  replace G := Gam.at G [.row 3 (D.ints vs), .row 3 (D.ints ars), dT b, .box (pL 0), .box [bA ch], dT ss] [(0, pA 0), (1, .ref 5), (2, iA cx), (3, .fn 126 [.ptr 3 0, .ptr 4 0])]
  have hlen : ss.length ≤ 9223372036854775807 := G.len 5 (d := .stmts ss) (by kernel_rfl)
  refine wp_seq ?_
  refine rs0 G [0, 1, 2, 3, 4, 5, 6] [.row 3 (D.ints vs), .row 3 (D.ints ars), dT b, .box (pL 0), .box [bA ch], dT ss, .box (pL 0)] [(1, .ref 5), (2, iA cx), (3, .fn 126 [.ptr 3 0, .ptr 4 0]), (4, .ptr 6 0)] ?_
  clear G; intro ρ a w G
  refine th_n ?_
  refine wp_seq ?_
  refine rs0s G [(2, iA cx), (3, .fn 126 [.ptr 3 0, .ptr 4 0]), (4, .ptr 6 0), (11, .ref 5), (12, iA (↑ss.length : Int)), (13, iA 0)] ?_
  clear G; intro ρ a w G
  refine th_n ?_
  refine wp_block ?_
  refine rx_for (κ := Nat) (fun k => k ≤ ss.length) (fun k => ss.length - k) (fun k => [.row 3 (.ints (upCB (d + 1) ((vs, ars), ch) cx (ss.take k)).1.1), .row 3 (.ints (upCB (d + 1) ((vs, ars), ch) cx (ss.take k)).1.2), dT b, .box (pL 0), .box [bA (upCB (d + 1) ((vs, ars), ch) cx (ss.take k)).2], dT ss, .box (pL 0)]) (fun k => [(2, iA cx), (3, .fn 126 [.ptr 3 0, .ptr 4 0]), (4, .ptr 6 0), (11, .ref 5), (12, iA (↑ss.length : Int)), (13, iA k)]) (0) (by simp [hs]) (Gam.at G _ _) ?_
  clear G
  intro k ρ a w hp G
  replace G := Gam.at G [.row 3 (D.ints (upCB (d + 1) ((vs, ars), ch) cx (List.take k ss)).fst.fst), .row 3 (D.ints (upCB (d + 1) ((vs, ars), ch) cx (List.take k ss)).fst.snd), dT b, .box (pL 0), .box [bA (upCB (d + 1) ((vs, ars), ch) cx (List.take k ss)).snd], dT ss, .box (pL 0)] [(2, iA cx), (3, .fn 126 [.ptr 3 0, .ptr 4 0]), (4, .ptr 6 0), (11, .ref 5), (12, iA (↑ss.length : Int)), (13, iA (↑k : Int))]
  have hsh : shP (vs, ars) (upCB (d + 1) ((vs, ars), ch) cx (ss.take k)).1 := upCB_sh
  refine wp_seq ?_
  refine rs0s G [(2, iA cx), (3, .fn 126 [.ptr 3 0, .ptr 4 0]), (4, .ptr 6 0), (11, .ref 5), (12, iA (↑ss.length : Int)), (13, iA (↑k : Int)), (14, bA (decide ((↑k : Int) < (↑ss.length : Int))))] ?_
  clear G; intro ρ a w G
  refine th_n ?_
  refine wp_seq ?_
  cases h0 : (decide ((↑k : Int) < (↑ss.length : Int)))
  ·
   have q0 : ¬ ((↑k : Int) < (↑ss.length : Int)) := of_decide_eq_false h0
   refine rF G (decide ((↑k : Int) < (↑ss.length : Int))) (by assumption) ?_
   refine wp_exit ?_
   refine th_e ?_
   refine th_e ?_
   refine bl_hit ?_
   exact rx_retN (v := .tup []) G [0, 1, 2, 3, 4, 5] (by kernel_rfl) (by kernel_rfl) (by show _ = List.map (It.ren (nth [0, 1, 2, 3, 4, 5])) [.row 3 (D.ints (upCB (d + 1) ((vs, ars), ch) cx ss).fst.fst), .row 3 (D.ints (upCB (d + 1) ((vs, ars), ch) cx ss).fst.snd), dT b, .box (pL 0), .box [bA (upCB (d + 1) ((vs, ars), ch) cx ss).snd], dT ss]; have e1 : ((upCB (d + 1) ((vs, ars), ch) cx ss).fst.fst : List Int) = ((upCB (d + 1) ((vs, ars), ch) cx (List.take k ss)).fst.fst) := (by exact congrArg (fun x : LabC => x.1.1) (cn_end (by omega))); have e2 : ((upCB (d + 1) ((vs, ars), ch) cx ss).fst.snd : List Int) = ((upCB (d + 1) ((vs, ars), ch) cx (List.take k ss)).fst.snd) := (by exact congrArg (fun x : LabC => x.1.2) (cn_end (by omega))); have e3 : ((upCB (d + 1) ((vs, ars), ch) cx ss).snd : Bool) = ((upCB (d + 1) ((vs, ars), ch) cx (List.take k ss)).snd) := (by exact congrArg Prod.snd (cn_end (by omega))); first | (rw [e1, e2, e3]; done) | (rw [e1, e2, e3]; rfl) | (simp only [e1, e2, e3]; done) | (simp only [e1, e2, e3]; rfl)) (by kernel_rfl)
  ·
   have q0 : (↑k : Int) < (↑ss.length : Int) := of_decide_eq_true h0
   refine rT G (decide ((↑k : Int) < (↑ss.length : Int))) (by assumption) ?_
   refine wp_skip ?_
   refine th_n ?_
   refine wp_seq ?_
   refine wp_block ?_
   refine wp_seq ?_
   refine rs1 (dk := dkP) G ⟨[], [], []⟩ calls_nil trivial [0, 1, 2, 3, 4, 5, 6, 15, 16, 17, 18, 23] [.row 3 (D.ints (upCB (d + 1) ((vs, ars), ch) cx (List.take k ss)).fst.fst), .row 3 (D.ints (upCB (d + 1) ((vs, ars), ch) cx (List.take k ss)).fst.snd), dT b, .box (pL 0), .box [bA (upCB (d + 1) ((vs, ars), ch) cx (List.take k ss)).snd], dT ss, .box (pL 0), dE (ss.getD k default).index.kids, dE (ss.getD k default).value.kids, dT (ss.getD k default).body, dT (ss.getD k default).els, .box (sL (ss.getD k default) 7)] [(2, iA cx), (3, .fn 126 [.ptr 3 0, .ptr 4 0]), (4, .ptr 6 0), (9, .ptr 11 0), (11, .ref 5), (12, iA (↑ss.length : Int)), (13, iA (↑k : Int))] [(0 : Int) ≤ (↑k : Int), (↑k : Int) < (↑ss.length : Int), k < ss.length] ⟨(by simp [hs, h0]), (by assumption), (by omega), trivial⟩ ?_
   clear G; intro ρ a w G
   refine th_n ?_
   refine wp_seq ?_
   refine rs1 (dk := dkP) G ⟨[(3, _, [0, 1, 2, 3, 4, 7, 8, 9, 10])], [], []⟩ (calls_cons (c_closI ((upCB (d + 1) ((vs, ars), ch) cx (List.take k ss)).fst.fst) ((upCB (d + 1) ((vs, ars), ch) cx (List.take k ss)).fst.snd) (b) (ss.getD k default) (cx) ((upCB (d + 1) ((vs, ars), ch) cx (List.take k ss)).snd) (by exact sh_head hsh hv ha (bl_at hs (by omega)).1)) calls_nil) trivial [0, 1, 2, 3, 4, 5, 6, 7, 8, 9, 10, 11] [.row 3 (D.ints (oneC (upCB (d + 1) ((vs, ars), ch) cx (List.take k ss)) (ss.getD k default) cx).fst.fst), .row 3 (D.ints (oneC (upCB (d + 1) ((vs, ars), ch) cx (List.take k ss)) (ss.getD k default) cx).fst.snd), dT b, .box (pL 0), .box [bA (oneC (upCB (d + 1) ((vs, ars), ch) cx (List.take k ss)) (ss.getD k default) cx).snd], dT ss, .box (pL 0), dE (ss.getD k default).index.kids, dE (ss.getD k default).value.kids, dT (ss.getD k default).body, dT (ss.getD k default).els, .box (sL (ss.getD k default) 7)] [(2, iA cx), (3, .fn 126 [.ptr 3 0, .ptr 4 0]), (4, .ptr 6 0), (9, .ptr 11 0), (11, .ref 5), (12, iA (↑ss.length : Int)), (13, iA (↑k : Int))] [] trivial ?_
   clear G; intro ρ a w G
   refine th_n ?_
   refine wp_seq ?_
   refine rs0s G [(2, iA cx), (3, .fn 126 [.ptr 3 0, .ptr 4 0]), (4, .ptr 6 0), (9, .ptr 11 0), (10, iA cx), (11, .ref 5), (12, iA (↑ss.length : Int)), (13, iA (↑k : Int))] ?_
   clear G; intro ρ a w G
   refine th_n ?_
   refine wp_seq ?_
   refine wp_seq ?_
   refine rs0s G [(2, iA cx), (3, .fn 126 [.ptr 3 0, .ptr 4 0]), (4, .ptr 6 0), (9, .ptr 11 0), (10, iA cx), (11, .ref 5), (12, iA (↑ss.length : Int)), (13, iA (↑k : Int)), (24, bA ((ss.getD k default).kind == 3))] ?_
   clear G; intro ρ a w G
   refine th_n ?_
   cases h1 : ((ss.getD k default).kind == (3 : Int))
   ·
    have q1 : ¬ ((ss.getD k default).kind = 3) := ne_of_beq_false h1
    refine rF G ((ss.getD k default).kind == (3 : Int)) (by assumption) ?_
    refine wp_skip ?_
    refine th_n ?_
    refine wp_seq ?_
    refine rs1 (dk := dkP) G ⟨[(5, _, [0, 1, 2, 3, 4, 9])], [], []⟩ (calls_cons (ih ((oneC (upCB (d + 1) ((vs, ars), ch) cx (List.take k ss)) (ss.getD k default) cx).fst.fst) ((oneC (upCB (d + 1) ((vs, ars), ch) cx (List.take k ss)) (ss.getD k default) cx).fst.snd) ((ss.getD k default).body) (cx) ((oneC (upCB (d + 1) ((vs, ars), ch) cx (List.take k ss)) (ss.getD k default) cx).snd) (by omega) (by exact (hsh.trans (one_sh _ _ _)).1.trans hv) (by exact (hsh.trans (one_sh _ _ _)).2.trans ha) (by exact (bl_at hs (by omega)).2.1)) calls_nil) trivial [0, 1, 2, 3, 4, 5, 6, 7, 8, 9, 10, 11] [.row 3 (D.ints (upCB d (oneC (upCB (d + 1) ((vs, ars), ch) cx (List.take k ss)) (ss.getD k default) cx) cx (ss.getD k default).body).fst.fst), .row 3 (D.ints (upCB d (oneC (upCB (d + 1) ((vs, ars), ch) cx (List.take k ss)) (ss.getD k default) cx) cx (ss.getD k default).body).fst.snd), dT b, .box (pL 0), .box [bA (upCB d (oneC (upCB (d + 1) ((vs, ars), ch) cx (List.take k ss)) (ss.getD k default) cx) cx (ss.getD k default).body).snd], dT ss, .box (pL 0), dE (ss.getD k default).index.kids, dE (ss.getD k default).value.kids, dT (ss.getD k default).body, dT (ss.getD k default).els, .box (sL (ss.getD k default) 7)] [(2, iA cx), (3, .fn 126 [.ptr 3 0, .ptr 4 0]), (4, .ptr 6 0), (9, .ptr 11 0), (10, iA cx), (11, .ref 5), (12, iA (↑ss.length : Int)), (13, iA (↑k : Int))] [] trivial ?_
    clear G; intro ρ a w G
    refine th_n ?_
    refine rs1 (dk := dkP) G ⟨[(5, _, [0, 1, 2, 3, 4, 10])], [], []⟩ (calls_cons (ih ((upCB d (oneC (upCB (d + 1) ((vs, ars), ch) cx (List.take k ss)) (ss.getD k default) cx) cx (ss.getD k default).body).fst.fst) ((upCB d (oneC (upCB (d + 1) ((vs, ars), ch) cx (List.take k ss)) (ss.getD k default) cx) cx (ss.getD k default).body).fst.snd) ((ss.getD k default).els) (cx) ((upCB d (oneC (upCB (d + 1) ((vs, ars), ch) cx (List.take k ss)) (ss.getD k default) cx) cx (ss.getD k default).body).snd) (by omega) (by exact ((hsh.trans (one_sh _ _ _)).trans upCB_sh).1.trans hv) (by exact ((hsh.trans (one_sh _ _ _)).trans upCB_sh).2.trans ha) (by exact (bl_at hs (by omega)).2.2)) calls_nil) trivial [0, 1, 2, 3, 4, 5, 6] [.row 3 (D.ints (upCB d (upCB d (oneC (upCB (d + 1) ((vs, ars), ch) cx (List.take k ss)) (ss.getD k default) cx) cx (ss.getD k default).body) cx (ss.getD k default).els).fst.fst), .row 3 (D.ints (upCB d (upCB d (oneC (upCB (d + 1) ((vs, ars), ch) cx (List.take k ss)) (ss.getD k default) cx) cx (ss.getD k default).body) cx (ss.getD k default).els).fst.snd), dT b, .box (pL 0), .box [bA (upCB d (upCB d (oneC (upCB (d + 1) ((vs, ars), ch) cx (List.take k ss)) (ss.getD k default) cx) cx (ss.getD k default).body) cx (ss.getD k default).els).snd], dT ss, .box (pL 0)] [(2, iA cx), (3, .fn 126 [.ptr 3 0, .ptr 4 0]), (4, .ptr 6 0), (11, .ref 5), (12, iA (↑ss.length : Int)), (13, iA (↑k : Int))] [] trivial ?_
    clear G; intro ρ a w G
    refine bl_n ?_
    refine th_n ?_
    refine rs1s G ⟨[], [], []⟩ calls_nil trivial [(2, iA cx), (3, .fn 126 [.ptr 3 0, .ptr 4 0]), (4, .ptr 6 0), (11, .ref 5), (12, iA (↑ss.length : Int)), (13, iA ((↑k : Int) + 1))] [IntKind.i64.wrap ((↑k : Int) + (1 : Int)) = (↑k : Int) + (1 : Int)] ⟨(by exact w64 (by omega) (by omega)), trivial⟩ ?_
    clear G; intro ρ a w G
    refine th_n ?_
    exact rx_next G (k + 1) (by omega) (by omega) [0, 1, 2, 3, 4, 5, 6] [.row 3 (D.ints (upCB (d + 1) ((vs, ars), ch) cx (List.take (k + 1) ss)).fst.fst), .row 3 (D.ints (upCB (d + 1) ((vs, ars), ch) cx (List.take (k + 1) ss)).fst.snd), dT b, .box (pL 0), .box [bA (upCB (d + 1) ((vs, ars), ch) cx (List.take (k + 1) ss)).snd], dT ss, .box (pL 0)] [(2, iA cx), (3, .fn 126 [.ptr 3 0, .ptr 4 0]), (4, .ptr 6 0), (11, .ref 5), (12, iA (↑ss.length : Int)), (13, iA (↑(k + 1) : Int))] (by kernel_rfl) (by kernel_rfl) (by kernel_rfl) (by have e1 : ((upCB (d + 1) ((vs, ars), ch) cx (List.take (k + 1) ss)).fst.fst : List Int) = ((upCB d (upCB d (oneC (upCB (d + 1) ((vs, ars), ch) cx (List.take k ss)) (ss.getD k default) cx) cx (ss.getD k default).body) cx (ss.getD k default).els).fst.fst) := (by exact congrArg (fun x : LabC => x.1.1) (cnn (by omega) (by omega))); have e2 : ((upCB (d + 1) ((vs, ars), ch) cx (List.take (k + 1) ss)).fst.snd : List Int) = ((upCB d (upCB d (oneC (upCB (d + 1) ((vs, ars), ch) cx (List.take k ss)) (ss.getD k default) cx) cx (ss.getD k default).body) cx (ss.getD k default).els).fst.snd) := (by exact congrArg (fun x : LabC => x.1.2) (cnn (by omega) (by omega))); have e3 : ((upCB (d + 1) ((vs, ars), ch) cx (List.take (k + 1) ss)).snd : Bool) = ((upCB d (upCB d (oneC (upCB (d + 1) ((vs, ars), ch) cx (List.take k ss)) (ss.getD k default) cx) cx (ss.getD k default).body) cx (ss.getD k default).els).snd) := (by exact congrArg Prod.snd (cnn (by omega) (by omega))); first | (rw [e1, e2, e3]; done) | (rw [e1, e2, e3]; rfl) | (simp only [e1, e2, e3]; done) | (simp only [e1, e2, e3]; rfl)) (by kernel_rfl)
   ·
    have q1 : (ss.getD k default).kind = 3 := eq_of_beq h1
    refine rT G ((ss.getD k default).kind == (3 : Int)) (by assumption) ?_
    refine rs1s G ⟨[(4, _, [0, 1, 2, 8])], [], []⟩ (calls_cons (Ctr.lend (c_labelV ((oneC (upCB (d + 1) ((vs, ars), ch) cx (List.take k ss)) (ss.getD k default) cx).fst.fst) ((oneC (upCB (d + 1) ((vs, ars), ch) cx (List.take k ss)) (ss.getD k default) cx).fst.snd) (b) ((ss.getD k default).value) (by exact sh_val (hsh.trans (one_sh _ _ _)) hv ha (bl_at hs (by omega)).1 (by omega))) [.row 3, .row 3]) calls_nil) trivial [(2, iA cx), (3, .fn 126 [.ptr 3 0, .ptr 4 0]), (4, .ptr 6 0), (9, .ptr 11 0), (10, iA (orI cx (labE (oneC (upCB (d + 1) ((vs, ars), ch) cx (List.take k ss)) (ss.getD k default) cx).fst.fst (oneC (upCB (d + 1) ((vs, ars), ch) cx (List.take k ss)) (ss.getD k default) cx).fst.snd 5 (ss.getD k default).value))), (11, .ref 5), (12, iA (↑ss.length : Int)), (13, iA (↑k : Int))] [] trivial ?_
    clear G; intro ρ a w G
    refine th_n ?_
    refine wp_seq ?_
    refine rs1 (dk := dkP) G ⟨[(5, _, [0, 1, 2, 3, 4, 9])], [], []⟩ (calls_cons (ih ((oneC (upCB (d + 1) ((vs, ars), ch) cx (List.take k ss)) (ss.getD k default) cx).fst.fst) ((oneC (upCB (d + 1) ((vs, ars), ch) cx (List.take k ss)) (ss.getD k default) cx).fst.snd) ((ss.getD k default).body) (orI cx (labE (oneC (upCB (d + 1) ((vs, ars), ch) cx (List.take k ss)) (ss.getD k default) cx).fst.fst (oneC (upCB (d + 1) ((vs, ars), ch) cx (List.take k ss)) (ss.getD k default) cx).fst.snd 5 (ss.getD k default).value)) ((oneC (upCB (d + 1) ((vs, ars), ch) cx (List.take k ss)) (ss.getD k default) cx).snd) (by omega) (by exact (hsh.trans (one_sh _ _ _)).1.trans hv) (by exact (hsh.trans (one_sh _ _ _)).2.trans ha) (by exact (bl_at hs (by omega)).2.1)) calls_nil) trivial [0, 1, 2, 3, 4, 5, 6, 7, 8, 9, 10, 11] [.row 3 (D.ints (upCB d (oneC (upCB (d + 1) ((vs, ars), ch) cx (List.take k ss)) (ss.getD k default) cx) (orI cx (labE (oneC (upCB (d + 1) ((vs, ars), ch) cx (List.take k ss)) (ss.getD k default) cx).fst.fst (oneC (upCB (d + 1) ((vs, ars), ch) cx (List.take k ss)) (ss.getD k default) cx).fst.snd 5 (ss.getD k default).value)) (ss.getD k default).body).fst.fst), .row 3 (D.ints (upCB d (oneC (upCB (d + 1) ((vs, ars), ch) cx (List.take k ss)) (ss.getD k default) cx) (orI cx (labE (oneC (upCB (d + 1) ((vs, ars), ch) cx (List.take k ss)) (ss.getD k default) cx).fst.fst (oneC (upCB (d + 1) ((vs, ars), ch) cx (List.take k ss)) (ss.getD k default) cx).fst.snd 5 (ss.getD k default).value)) (ss.getD k default).body).fst.snd), dT b, .box (pL 0), .box [bA (upCB d (oneC (upCB (d + 1) ((vs, ars), ch) cx (List.take k ss)) (ss.getD k default) cx) (orI cx (labE (oneC (upCB (d + 1) ((vs, ars), ch) cx (List.take k ss)) (ss.getD k default) cx).fst.fst (oneC (upCB (d + 1) ((vs, ars), ch) cx (List.take k ss)) (ss.getD k default) cx).fst.snd 5 (ss.getD k default).value)) (ss.getD k default).body).snd], dT ss, .box (pL 0), dE (ss.getD k default).index.kids, dE (ss.getD k default).value.kids, dT (ss.getD k default).body, dT (ss.getD k default).els, .box (sL (ss.getD k default) 7)] [(2, iA cx), (3, .fn 126 [.ptr 3 0, .ptr 4 0]), (4, .ptr 6 0), (9, .ptr 11 0), (10, iA (orI cx (labE (oneC (upCB (d + 1) ((vs, ars), ch) cx (List.take k ss)) (ss.getD k default) cx).fst.fst (oneC (upCB (d + 1) ((vs, ars), ch) cx (List.take k ss)) (ss.getD k default) cx).fst.snd 5 (ss.getD k default).value))), (11, .ref 5), (12, iA (↑ss.length : Int)), (13, iA (↑k : Int))] [] trivial ?_
    clear G; intro ρ a w G
    refine th_n ?_
    refine rs1 (dk := dkP) G ⟨[(5, _, [0, 1, 2, 3, 4, 10])], [], []⟩ (calls_cons (ih ((upCB d (oneC (upCB (d + 1) ((vs, ars), ch) cx (List.take k ss)) (ss.getD k default) cx) (orI cx (labE (oneC (upCB (d + 1) ((vs, ars), ch) cx (List.take k ss)) (ss.getD k default) cx).fst.fst (oneC (upCB (d + 1) ((vs, ars), ch) cx (List.take k ss)) (ss.getD k default) cx).fst.snd 5 (ss.getD k default).value)) (ss.getD k default).body).fst.fst) ((upCB d (oneC (upCB (d + 1) ((vs, ars), ch) cx (List.take k ss)) (ss.getD k default) cx) (orI cx (labE (oneC (upCB (d + 1) ((vs, ars), ch) cx (List.take k ss)) (ss.getD k default) cx).fst.fst (oneC (upCB (d + 1) ((vs, ars), ch) cx (List.take k ss)) (ss.getD k default) cx).fst.snd 5 (ss.getD k default).value)) (ss.getD k default).body).fst.snd) ((ss.getD k default).els) (orI cx (labE (oneC (upCB (d + 1) ((vs, ars), ch) cx (List.take k ss)) (ss.getD k default) cx).fst.fst (oneC (upCB (d + 1) ((vs, ars), ch) cx (List.take k ss)) (ss.getD k default) cx).fst.snd 5 (ss.getD k default).value)) ((upCB d (oneC (upCB (d + 1) ((vs, ars), ch) cx (List.take k ss)) (ss.getD k default) cx) (orI cx (labE (oneC (upCB (d + 1) ((vs, ars), ch) cx (List.take k ss)) (ss.getD k default) cx).fst.fst (oneC (upCB (d + 1) ((vs, ars), ch) cx (List.take k ss)) (ss.getD k default) cx).fst.snd 5 (ss.getD k default).value)) (ss.getD k default).body).snd) (by omega) (by exact ((hsh.trans (one_sh _ _ _)).trans upCB_sh).1.trans hv) (by exact ((hsh.trans (one_sh _ _ _)).trans upCB_sh).2.trans ha) (by exact (bl_at hs (by omega)).2.2)) calls_nil) trivial [0, 1, 2, 3, 4, 5, 6] [.row 3 (D.ints (upCB d (upCB d (oneC (upCB (d + 1) ((vs, ars), ch) cx (List.take k ss)) (ss.getD k default) cx) (orI cx (labE (oneC (upCB (d + 1) ((vs, ars), ch) cx (List.take k ss)) (ss.getD k default) cx).fst.fst (oneC (upCB (d + 1) ((vs, ars), ch) cx (List.take k ss)) (ss.getD k default) cx).fst.snd 5 (ss.getD k default).value)) (ss.getD k default).body) (orI cx (labE (oneC (upCB (d + 1) ((vs, ars), ch) cx (List.take k ss)) (ss.getD k default) cx).fst.fst (oneC (upCB (d + 1) ((vs, ars), ch) cx (List.take k ss)) (ss.getD k default) cx).fst.snd 5 (ss.getD k default).value)) (ss.getD k default).els).fst.fst), .row 3 (D.ints (upCB d (upCB d (oneC (upCB (d + 1) ((vs, ars), ch) cx (List.take k ss)) (ss.getD k default) cx) (orI cx (labE (oneC (upCB (d + 1) ((vs, ars), ch) cx (List.take k ss)) (ss.getD k default) cx).fst.fst (oneC (upCB (d + 1) ((vs, ars), ch) cx (List.take k ss)) (ss.getD k default) cx).fst.snd 5 (ss.getD k default).value)) (ss.getD k default).body) (orI cx (labE (oneC (upCB (d + 1) ((vs, ars), ch) cx (List.take k ss)) (ss.getD k default) cx).fst.fst (oneC (upCB (d + 1) ((vs, ars), ch) cx (List.take k ss)) (ss.getD k default) cx).fst.snd 5 (ss.getD k default).value)) (ss.getD k default).els).fst.snd), dT b, .box (pL 0), .box [bA (upCB d (upCB d (oneC (upCB (d + 1) ((vs, ars), ch) cx (List.take k ss)) (ss.getD k default) cx) (orI cx (labE (oneC (upCB (d + 1) ((vs, ars), ch) cx (List.take k ss)) (ss.getD k default) cx).fst.fst (oneC (upCB (d + 1) ((vs, ars), ch) cx (List.take k ss)) (ss.getD k default) cx).fst.snd 5 (ss.getD k default).value)) (ss.getD k default).body) (orI cx (labE (oneC (upCB (d + 1) ((vs, ars), ch) cx (List.take k ss)) (ss.getD k default) cx).fst.fst (oneC (upCB (d + 1) ((vs, ars), ch) cx (List.take k ss)) (ss.getD k default) cx).fst.snd 5 (ss.getD k default).value)) (ss.getD k default).els).snd], dT ss, .box (pL 0)] [(2, iA cx), (3, .fn 126 [.ptr 3 0, .ptr 4 0]), (4, .ptr 6 0), (11, .ref 5), (12, iA (↑ss.length : Int)), (13, iA (↑k : Int))] [] trivial ?_
    clear G; intro ρ a w G
    refine bl_n ?_
    refine th_n ?_
    refine rs1s G ⟨[], [], []⟩ calls_nil trivial [(2, iA cx), (3, .fn 126 [.ptr 3 0, .ptr 4 0]), (4, .ptr 6 0), (11, .ref 5), (12, iA (↑ss.length : Int)), (13, iA ((↑k : Int) + 1))] [IntKind.i64.wrap ((↑k : Int) + (1 : Int)) = (↑k : Int) + (1 : Int)] ⟨(by exact w64 (by omega) (by omega)), trivial⟩ ?_
    clear G; intro ρ a w G
    refine th_n ?_
    exact rx_next G (k + 1) (by omega) (by omega) [0, 1, 2, 3, 4, 5, 6] [.row 3 (D.ints (upCB (d + 1) ((vs, ars), ch) cx (List.take (k + 1) ss)).fst.fst), .row 3 (D.ints (upCB (d + 1) ((vs, ars), ch) cx (List.take (k + 1) ss)).fst.snd), dT b, .box (pL 0), .box [bA (upCB (d + 1) ((vs, ars), ch) cx (List.take (k + 1) ss)).snd], dT ss, .box (pL 0)] [(2, iA cx), (3, .fn 126 [.ptr 3 0, .ptr 4 0]), (4, .ptr 6 0), (11, .ref 5), (12, iA (↑ss.length : Int)), (13, iA (↑(k + 1) : Int))] (by kernel_rfl) (by kernel_rfl) (by kernel_rfl) (by have e1 : ((upCB (d + 1) ((vs, ars), ch) cx (List.take (k + 1) ss)).fst.fst : List Int) = ((upCB d (upCB d (oneC (upCB (d + 1) ((vs, ars), ch) cx (List.take k ss)) (ss.getD k default) cx) (orI cx (labE (oneC (upCB (d + 1) ((vs, ars), ch) cx (List.take k ss)) (ss.getD k default) cx).fst.fst (oneC (upCB (d + 1) ((vs, ars), ch) cx (List.take k ss)) (ss.getD k default) cx).fst.snd 5 (ss.getD k default).value)) (ss.getD k default).body) (orI cx (labE (oneC (upCB (d + 1) ((vs, ars), ch) cx (List.take k ss)) (ss.getD k default) cx).fst.fst (oneC (upCB (d + 1) ((vs, ars), ch) cx (List.take k ss)) (ss.getD k default) cx).fst.snd 5 (ss.getD k default).value)) (ss.getD k default).els).fst.fst) := (by exact congrArg (fun x : LabC => x.1.1) (cn3 (by omega) (by omega))); have e2 : ((upCB (d + 1) ((vs, ars), ch) cx (List.take (k + 1) ss)).fst.snd : List Int) = ((upCB d (upCB d (oneC (upCB (d + 1) ((vs, ars), ch) cx (List.take k ss)) (ss.getD k default) cx) (orI cx (labE (oneC (upCB (d + 1) ((vs, ars), ch) cx (List.take k ss)) (ss.getD k default) cx).fst.fst (oneC (upCB (d + 1) ((vs, ars), ch) cx (List.take k ss)) (ss.getD k default) cx).fst.snd 5 (ss.getD k default).value)) (ss.getD k default).body) (orI cx (labE (oneC (upCB (d + 1) ((vs, ars), ch) cx (List.take k ss)) (ss.getD k default) cx).fst.fst (oneC (upCB (d + 1) ((vs, ars), ch) cx (List.take k ss)) (ss.getD k default) cx).fst.snd 5 (ss.getD k default).value)) (ss.getD k default).els).fst.snd) := (by exact congrArg (fun x : LabC => x.1.2) (cn3 (by omega) (by omega))); have e3 : ((upCB (d + 1) ((vs, ars), ch) cx (List.take (k + 1) ss)).snd : Bool) = ((upCB d (upCB d (oneC (upCB (d + 1) ((vs, ars), ch) cx (List.take k ss)) (ss.getD k default) cx) (orI cx (labE (oneC (upCB (d + 1) ((vs, ars), ch) cx (List.take k ss)) (ss.getD k default) cx).fst.fst (oneC (upCB (d + 1) ((vs, ars), ch) cx (List.take k ss)) (ss.getD k default) cx).fst.snd 5 (ss.getD k default).value)) (ss.getD k default).body) (orI cx (labE (oneC (upCB (d + 1) ((vs, ars), ch) cx (List.take k ss)) (ss.getD k default) cx).fst.fst (oneC (upCB (d + 1) ((vs, ars), ch) cx (List.take k ss)) (ss.getD k default) cx).fst.snd 5 (ss.getD k default).value)) (ss.getD k default).els).snd) := (by exact congrArg Prod.snd (cn3 (by omega) (by omega))); first | (rw [e1, e2, e3]; done) | (rw [e1, e2, e3]; rfl) | (simp only [e1, e2, e3]; done) | (simp only [e1, e2, e3]; rfl)) (by kernel_rfl)

theorem c_eachID (nv na : Nat) (b : List LStmt) : ∀ (d : Nat) (vs ars : List Int) (ss : List LStmt) (cx : Int) (ch : Bool), vs.length = nv → ars.length = na → ss.all (stmtB nv na d) = true → Ctr.ok Try.prog (eaC vs ars d b ss cx ch) := by
  intro d
  induction d with
  | zero =>
    intro vs ars ss cx ch hv ha hs
    have h0 : ss = [] := by
      cases ss with
      | nil => rfl
      | cons a r => simp [stmtB] at hs
    subst h0
    exact s_eachI nv na 0 b [] (fun _ _ _ _ _ h => absurd h (by simp)) vs ars cx ch hv ha rfl
  | succ d ih => intro vs ars ss cx ch hv ha hs; exact s_eachI nv na d b ss (fun vs ars tt cx ch _ h1 h2 h3 => ih vs ars tt cx ch h1 h2 h3) vs ars cx ch hv ha hs
theorem c_eachIP (vs ars : List Int) (b : List LStmt) (ch : Bool) (hs : b.all (stmtB vs.length ars.length 5) = true) : Ctr.ok Try.prog ⟨125, [pA 0, .ref 2, iA 0, .fn 126 [.ptr 3 0, .ptr 4 0]], [.row 3 (.ints vs), .row 3 (.ints ars), dT b] ++ inB ch,
    [.row 3 (.ints (upCB 5 ((vs, ars), ch) 0 b).1.1), .row 3 (.ints (upCB 5 ((vs, ars), ch) 0 b).1.2), dT b] ++ inB (upCB 5 ((vs, ars), ch) 0 b).2, .tup []⟩ :=
  Ctr.dup (S := [.row 3 (.ints vs), .row 3 (.ints ars), dT b] ++ inB ch) (S' := [.row 3 (.ints (upCB 5 ((vs, ars), ch) 0 b).1.1), .row 3 (.ints (upCB 5 ((vs, ars), ch) 0 b).1.2), dT b] ++ inB (upCB 5 ((vs, ars), ch) 0 b).2) (d := .stmts b) (i := 2) (c_eachID _ _ b 5 vs ars b 0 ch rfl rfl hs) rfl rfl rfl (fun ρ h => by simp only [AV.vals, AV.val]; rw [show ρ 5 = ρ 2 from h]) rfl

end Go.Proofs.Ytgpkdfefgcpbiaa

namespace Go.Proofs.Ytgpkdfefgcpbiaa
set_option linter.unusedVariables false
set_option linter.unusedSimpArgs false
open Go Go.RowKit

theorem c_iCheckFlowV (vs ars : List Int) (b : List LStmt) (hb : szSs b ≤ 1048576) : Ctr.ok Try.prog (fnC 68 [pA 0] [dI vs, dI ars, dT b] (.tup [iA (ckR ⟨vs, ars, b⟩ false).1, iA (ckR ⟨vs, ars, b⟩ false).2])) := c_iCheckFlow ⟨vs, ars, b⟩ hb
/-- On the way, and, the mark down, at its end. -/
def InfC (p : LProg) (y : LabC) : Prop := InfW p.body (p.vars, p.arrays) y.1 ∧ (y.2 = false → upB true 5 y.1 0 p.body = y.1)
def muC (y : LabC) : Nat := (100 - sumP y.1) * 2 + (if y.2 then 1 else 0)
section
variable {p : LProg} {y : LabC}
theorem infC_start (hp : progB p = true) : InfC p ((p.vars, p.arrays), true) := ⟨infW_start (labs_ok hp), fun h => by cases h⟩
theorem infC_step (h : InfC p y) : InfC p (upCB 5 (y.1, false) 0 p.body) := by
  have h1 := infW_step (f := false) h.1
  refine ⟨by rw [upCB_fst]; exact h1, fun hf => ?_⟩
  have h2 := ((upCB_mk (d := 5) (x := (y.1, false)) (cx := 0) (ss := p.body) rfl).1 hf).2
  rw [h2]
  rw [upCB_fst] at h2
  exact fixB_both rfl h.1.2.1 h2
theorem infC_less (hp : progB p = true) (h : InfC p y) (hy : y.2 = true) : muC (upCB 5 (y.1, false) 0 p.body) < muC y := by
  unfold muC
  rw [hy]
  cases hf : (upCB 5 (y.1, false) 0 p.body).2
  · have h2 := ((upCB_mk (d := 5) (x := (y.1, false)) (cx := 0) (ss := p.body) rfl).1 hf).2
    rw [h2]; simp
  · have hne : ¬ upB false 5 y.1 0 p.body = y.1 := fun e => by
      have h3 := (upCB_mk (d := 5) (x := (y.1, false)) (cx := 0) (ss := p.body) rfl).2 h.1.2.1 (by rw [upCB_fst]; exact e)
      rw [h3] at hf; cases hf
    have h4 := inf_less (f := false) hp h.1 hne
    rw [upCB_fst]
    simp only [if_true]
    omega
theorem infC_valid (hp : progB p = true) (h : InfC p y) : p.body.all (stmtB y.1.1.length y.1.2.length 5) = true := inf_valid hp h.1
theorem okC_t (hp : progB p = true) (h : InfC p y) (hy : y.2 = false) (hc : (ckR ⟨y.1.1, y.1.2, p.body⟩ false).1 = 0) : okI p = true := ok_t hp h.1 (h.2 hy) hc
theorem okC_f (hp : progB p = true) (h : InfC p y) (hy : y.2 = false) (hc : ¬ (ckR ⟨y.1.1, y.1.2, p.body⟩ false).1 = 0) : okI p = false := ok_f hp h.1 (h.2 hy) hc
theorem infC_at (hp : progB p = true) (h : InfC p y) (hy : y.2 = false) (hc : (ckR ⟨y.1.1, y.1.2, p.body⟩ false).1 = 0) : infR p = ⟨y.1.1, y.1.2, p.body⟩ := infR_at hp h.1 (h.2 hy) (okC_t hp h hy hc)
end
set_option maxHeartbeats 4000000 in
set_option maxRecDepth 100000 in
theorem c_iInferLabels (p : LProg) (hb : p.size ≤ 1048576) : Ctr.ok Try.prog ⟨62, [pA 0], pS p, pS p ++ oP (infR p), .tup [oA 3, bA (okI p)]⟩ := by
  refine rx_enter 30 Try.func62 (by rfl) (by kernel_rfl) (by kernel_rfl) ?_
  intro ι φ ψ w0 w F ρ0 ρ a G
  replace G := Gam.at G [dI p.vars, dI p.arrays, dT p.body] [(0, pA 0)]
  have hb1 : p.vars.length ≤ 1048576 ∧ p.arrays.length ≤ 1048576 ∧ szSs p.body ≤ 1048576 := by unfold LProg.size at hb; omega
  refine wp_seq ?_
  refine rs0 G [0, 1, 2, 3, 11] [dI p.vars, dI p.arrays, dT p.body, .box (pL 0), .box [.v (.slice none 0 0), .v (.slice none 0 0), .v (.slice none 0 0)]] [(1, .ptr 3 0), (2, .ptr 4 0), (3, bA false)] ?_
  clear G; intro ρ a w G
  refine th_n ?_
  refine wp_seq ?_
  refine wp_seq ?_
  refine rs1s G ⟨[(1, _, [0, 1, 2])], [], []⟩ (calls_cons (c_iProgramValid (p)) calls_nil) trivial [(1, .ptr 3 0), (2, .ptr 4 0), (3, bA false), (10, .v (.bool !progB p))] [] trivial ?_
  clear G; intro ρ a w G
  refine th_n ?_
  cases h0 : (!progB p)
  ·
   have q0 : (progB p) = true := (fun hq => (hq)) (Eq.mp (Bool.not_eq_false' _) h0)
   refine rF G (!progB p) (by assumption) ?_
   refine wp_skip ?_
   refine th_n ?_
   refine wp_seq ?_
   refine rs1 (dk := dkP) G ⟨[(1, _, [0, 1, 2])], [], []⟩ (calls_cons (c_own (p) (by assumption)) calls_nil) trivial [0, 1, 2, 4, 13, 14, 15, 21] [dI p.vars, dI p.arrays, dT p.body, .box [.v (.slice none 0 0), .v (.slice none 0 0), .v (.slice none 0 0)], .row 3 (D.ints p.vars), .row 3 (D.ints p.arrays), .tree (D.stmts p.body), .box [.ref 4, .ref 5, .tref 6]] [(2, .ptr 3 0), (3, bA false), (4, .ptr 7 0)] [] trivial ?_
   clear G; intro ρ a w G
   refine th_n ?_
   refine wp_seq ?_
   refine wp_seq ?_
   refine rs0 G [0, 1, 2, 3, 4, 5, 6, 7, 8] [dI p.vars, dI p.arrays, dT p.body, .box [.v (.slice none 0 0), .v (.slice none 0 0), .v (.slice none 0 0)], .row 3 (D.ints p.vars), .row 3 (D.ints p.arrays), .tree (D.stmts p.body), .box [.ref 4, .ref 5, .tref 6], .box [bA true]] [(2, .ptr 3 0), (3, bA false), (4, .ptr 7 0), (5, .ptr 8 0)] ?_
   clear G; intro ρ a w G
   refine th_n ?_
   refine wp_block ?_
   refine rx_for (κ := LabC) (fun y => InfC p y) (fun y => muC y) (fun y => [dI p.vars, dI p.arrays, dT p.body, .box [.v (.slice none 0 0), .v (.slice none 0 0), .v (.slice none 0 0)], .row 3 (.ints y.1.1), .row 3 (.ints y.1.2), .tree (D.stmts p.body), .box [.ref 4, .ref 5, .tref 6], .box [bA y.2]]) (fun y => [(2, .ptr 3 0), (3, bA false), (4, .ptr 7 0), (5, .ptr 8 0)]) (((p.vars, p.arrays), true)) (by exact infC_start (by with_reducible assumption)) (Gam.at G _ _) ?_
   clear G
   intro y ρ a w hp G
   replace G := Gam.at G [dI p.vars, dI p.arrays, dT p.body, .box [.v (.slice none 0 0), .v (.slice none 0 0), .v (.slice none 0 0)], .row 3 (D.ints y.fst.fst), .row 3 (D.ints y.fst.snd), .tree (D.stmts p.body), .box [.ref 4, .ref 5, .tref 6], .box [bA y.snd]] [(2, .ptr 3 0), (3, bA false), (4, .ptr 7 0), (5, .ptr 8 0)]
   refine wp_seq ?_
   refine wp_seq ?_
   refine rs0s G [(2, .ptr 3 0), (3, bA false), (4, .ptr 7 0), (5, .ptr 8 0), (14, bA y.snd)] ?_
   clear G; intro ρ a w G
   refine th_n ?_
   cases h1 : (y.snd)
   ·
    refine rF G (y.snd) (by assumption) ?_
    refine wp_exit ?_
    refine th_e ?_
    refine th_e ?_
    refine bl_hit ?_
    refine th_n ?_
    refine wp_seq ?_
    refine wp_seq ?_
    refine rs1 (dk := dkP) G ⟨[(1, _, [4, 5, 6])], [], []⟩ (calls_cons (Ctr.lend (c_iCheckFlowV (y.fst.fst) (y.fst.snd) (p.body) (by exact hb1.2.2)) [.row 3, .row 3, .tree]) calls_nil) trivial [0, 1, 2, 3, 4, 5, 6, 7] [dI p.vars, dI p.arrays, dT p.body, .box [.v (.slice none 0 0), .v (.slice none 0 0), .v (.slice none 0 0)], .row 3 (D.ints y.fst.fst), .row 3 (D.ints y.fst.snd), .tree (D.stmts p.body), .box [.ref 4, .ref 5, .tref 6]] [(2, .ptr 3 0), (3, bA false), (4, .ptr 7 0), (6, iA (ckR { vars := y.fst.fst, arrays := y.fst.snd, body := p.body } false).fst)] [] trivial ?_
    clear G; intro ρ a w G
    refine th_n ?_
    refine wp_seq ?_
    refine rs0s G [(2, .ptr 3 0), (3, bA false), (4, .ptr 7 0), (27, bA ((ckR { vars := y.fst.fst, arrays := y.fst.snd, body := p.body } false).fst != 0))] ?_
    clear G; intro ρ a w G
    refine th_n ?_
    cases h2 : ((ckR { vars := y.fst.fst, arrays := y.fst.snd, body := p.body } false).fst != (0 : Int))
    ·
     have q2 : (ckR { vars := y.fst.fst, arrays := y.fst.snd, body := p.body } false).fst = 0 := (by simpa using h2)
     refine rF G ((ckR { vars := y.fst.fst, arrays := y.fst.snd, body := p.body } false).fst != (0 : Int)) (by assumption) ?_
     refine wp_skip ?_
     refine th_n ?_
     refine wp_seq ?_
     refine rs0 G [0, 1, 2, 3, 4, 5, 6] [dI p.vars, dI p.arrays, dT p.body, .box [.ref 4, .ref 5, .tref 6], .row 3 (D.ints y.fst.fst), .row 3 (D.ints y.fst.snd), .tree (D.stmts p.body)] [(2, .ptr 3 0), (3, bA true)] ?_
     clear G; intro ρ a w G
     refine th_n ?_
     refine wp_ret ?_
     exact rx_ret (v := .tup [.agg [.ref 4, .ref 5, .tref 6], bA true]) G [0, 1, 2, 4, 5, 6] (by kernel_rfl) (by kernel_rfl) (by show _ = List.map (It.ren (nth [0, 1, 2, 4, 5, 6])) [dI p.vars, dI p.arrays, dT p.body, .row 3 (D.ints (infR p).vars), .row 3 (D.ints (infR p).arrays), .tree (D.stmts (infR p).body)]; have e1 : ((infR p).vars : List Int) = (y.fst.fst) := (by rw [infC_at (by with_reducible assumption) (by with_reducible assumption) (by with_reducible assumption) (by with_reducible assumption)]; done); have e2 : ((infR p).arrays : List Int) = (y.fst.snd) := (by rw [infC_at (by with_reducible assumption) (by with_reducible assumption) (by with_reducible assumption) (by with_reducible assumption)]; done); have e3 : ((infR p).body : List LStmt) = (p.body) := (by rw [infC_at (by with_reducible assumption) (by with_reducible assumption) (by with_reducible assumption) (by with_reducible assumption)]; done); first | (rw [e1, e2, e3]; done) | (rw [e1, e2, e3]; rfl) | (simp only [e1, e2, e3]; done) | (simp only [e1, e2, e3]; rfl)) (by have e1 : (okI p : Bool) = (true) := (by exact okC_t (by with_reducible assumption) (by with_reducible assumption) (by with_reducible assumption) (by with_reducible assumption)); first | (rw [e1]; done) | (rw [e1]; rfl) | (simp only [e1]; done) | (simp only [e1]; rfl))
    ·
     have q2 : ¬ ((ckR { vars := y.fst.fst, arrays := y.fst.snd, body := p.body } false).fst = 0) := bne_iff_ne.1 h2
     refine rT G ((ckR { vars := y.fst.fst, arrays := y.fst.snd, body := p.body } false).fst != (0 : Int)) (by assumption) ?_
     refine wp_seq ?_
     refine rs0s G [(2, .ptr 3 0), (3, bA false), (4, .ptr 7 0)] ?_
     clear G; intro ρ a w G
     refine th_n ?_
     refine wp_ret ?_
     refine th_r ?_
     have Gx := G.nil 8 3 (.ints []) 1 [dI p.vars, dI p.arrays, dT p.body, .box [.ref 8, .v (.slice none 0 0), .v (.slice none 0 0)], .row 3 (D.ints y.fst.fst), .row 3 (D.ints y.fst.snd), .tree (D.stmts p.body), .box [.ref 4, .ref 5, .tref 6]] [(2, .ptr 3 0), (3, bA false), (4, .ptr 7 0)]
     clear G
     obtain ⟨ρ, G⟩ := Gx
     replace G := Gam.at G [dI p.vars, dI p.arrays, dT p.body, .box [.ref 8, .v (.slice none 0 0), .v (.slice none 0 0)], .row 3 (D.ints y.fst.fst), .row 3 (D.ints y.fst.snd), .tree (D.stmts p.body), .box [.ref 4, .ref 5, .tref 6], .row 3 (D.ints [])] [(2, .ptr 3 0), (3, bA false), (4, .ptr 7 0)]
     have Gx := G.nil 9 3 (.ints []) 1 [dI p.vars, dI p.arrays, dT p.body, .box [.ref 8, .ref 9, .v (.slice none 0 0)], .row 3 (D.ints y.fst.fst), .row 3 (D.ints y.fst.snd), .tree (D.stmts p.body), .box [.ref 4, .ref 5, .tref 6], .row 3 (D.ints [])] [(2, .ptr 3 0), (3, bA false), (4, .ptr 7 0)]
     clear G
     obtain ⟨ρ, G⟩ := Gx
     replace G := Gam.at G [dI p.vars, dI p.arrays, dT p.body, .box [.ref 8, .ref 9, .v (.slice none 0 0)], .row 3 (D.ints y.fst.fst), .row 3 (D.ints y.fst.snd), .tree (D.stmts p.body), .box [.ref 4, .ref 5, .tref 6], .row 3 (D.ints []), .row 3 (D.ints [])] [(2, .ptr 3 0), (3, bA false), (4, .ptr 7 0)]
     have Gx := G.nilT 10 (.stmts []) [dI p.vars, dI p.arrays, dT p.body, .box [.ref 8, .ref 9, .tref 10], .row 3 (D.ints y.fst.fst), .row 3 (D.ints y.fst.snd), .tree (D.stmts p.body), .box [.ref 4, .ref 5, .tref 6], .row 3 (D.ints []), .row 3 (D.ints [])] [(2, .ptr 3 0), (3, bA false), (4, .ptr 7 0)]
     clear G
     obtain ⟨ρ, G⟩ := Gx
     replace G := Gam.at G [dI p.vars, dI p.arrays, dT p.body, .box [.ref 8, .ref 9, .tref 10], .row 3 (D.ints y.fst.fst), .row 3 (D.ints y.fst.snd), .tree (D.stmts p.body), .box [.ref 4, .ref 5, .tref 6], .row 3 (D.ints []), .row 3 (D.ints []), .tree (D.stmts [])] [(2, .ptr 3 0), (3, bA false), (4, .ptr 7 0)]
     exact rx_ret (v := .tup [.agg [.ref 8, .ref 9, .tref 10], bA false]) G [0, 1, 2, 8, 9, 10] (by kernel_rfl) (by kernel_rfl) (by show _ = List.map (It.ren (nth [0, 1, 2, 8, 9, 10])) [dI p.vars, dI p.arrays, dT p.body, .row 3 (D.ints (infR p).vars), .row 3 (D.ints (infR p).arrays), .tree (D.stmts (infR p).body)]; have e1 : ((infR p).vars : List Int) = ([]) := (by rw [infR_no (okC_f (by with_reducible assumption) (by with_reducible assumption) (by with_reducible assumption) (by with_reducible assumption))]; done); have e2 : ((infR p).arrays : List Int) = ([]) := (by rw [infR_no (okC_f (by with_reducible assumption) (by with_reducible assumption) (by with_reducible assumption) (by with_reducible assumption))]; done); have e3 : ((infR p).body : List LStmt) = ([]) := (by rw [infR_no (okC_f (by with_reducible assumption) (by with_reducible assumption) (by with_reducible assumption) (by with_reducible assumption))]; done); first | (rw [e1, e2, e3]; done) | (rw [e1, e2, e3]; rfl) | (simp only [e1, e2, e3]; done) | (simp only [e1, e2, e3]; rfl)) (by have e1 : (okI p : Bool) = (false) := (by exact okC_f (by with_reducible assumption) (by with_reducible assumption) (by with_reducible assumption) (by with_reducible assumption)); first | (rw [e1]; done) | (rw [e1]; rfl) | (simp only [e1]; done) | (simp only [e1]; rfl))
   ·
    refine rT G (y.snd) (by assumption) ?_
    refine wp_skip ?_
    refine th_n ?_
    refine wp_seq ?_
    refine wp_block ?_
    refine wp_seq ?_
    refine rs0 G [0, 1, 2, 3, 4, 5, 6, 7, 8] [dI p.vars, dI p.arrays, dT p.body, .box [.v (.slice none 0 0), .v (.slice none 0 0), .v (.slice none 0 0)], .row 3 (D.ints y.fst.fst), .row 3 (D.ints y.fst.snd), .tree (D.stmts p.body), .box [.ref 4, .ref 5, .tref 6], .box [bA false]] [(2, .ptr 3 0), (3, bA false), (4, .ptr 7 0), (5, .ptr 8 0)] ?_
    clear G; intro ρ a w G
    refine th_n ?_
    refine rs1 (dk := dkP) G ⟨[(4, _, [4, 5, 6, 7, 8])], [], []⟩ (calls_cons (Ctr.lend (c_eachIP (y.fst.fst) (y.fst.snd) (p.body) (false) (by exact infC_valid (by with_reducible assumption) (by with_reducible assumption))) [.no, .no, .tree]) calls_nil) trivial [0, 1, 2, 3, 4, 5, 6, 7, 8] [dI p.vars, dI p.arrays, dT p.body, .box [.v (.slice none 0 0), .v (.slice none 0 0), .v (.slice none 0 0)], .row 3 (D.ints (upCB 5 (y.fst, false) 0 p.body).fst.fst), .row 3 (D.ints (upCB 5 (y.fst, false) 0 p.body).fst.snd), .tree (D.stmts p.body), .box [.ref 4, .ref 5, .tref 6], .box [bA (upCB 5 (y.fst, false) 0 p.body).snd]] [(2, .ptr 3 0), (3, bA false), (4, .ptr 7 0), (5, .ptr 8 0)] [] trivial ?_
    clear G; intro ρ a w G
    refine bl_n ?_
    refine th_n ?_
    refine wp_seq ?_
    refine rs0s G [(2, .ptr 3 0), (3, bA false), (4, .ptr 7 0), (5, .ptr 8 0), (20, bA (upCB 5 (y.fst, false) 0 p.body).snd)] ?_
    clear G; intro ρ a w G
    refine th_n ?_
    refine rs0 G [0, 1, 2, 3, 4, 5, 6, 7, 9] [dI p.vars, dI p.arrays, dT p.body, .box [.v (.slice none 0 0), .v (.slice none 0 0), .v (.slice none 0 0)], .row 3 (D.ints (upCB 5 (y.fst, false) 0 p.body).fst.fst), .row 3 (D.ints (upCB 5 (y.fst, false) 0 p.body).fst.snd), .tree (D.stmts p.body), .box [.ref 4, .ref 5, .tref 6], .box [bA (upCB 5 (y.fst, false) 0 p.body).snd]] [(2, .ptr 3 0), (3, bA false), (4, .ptr 7 0), (5, .ptr 8 0)] ?_
    clear G; intro ρ a w G
    refine th_n ?_
    exact rx_next G (upCB 5 (y.1, false) 0 p.body) (by exact infC_step (by with_reducible assumption)) (by exact infC_less (by with_reducible assumption) (by with_reducible assumption) (by with_reducible assumption)) [0, 1, 2, 3, 4, 5, 6, 7, 8] [dI p.vars, dI p.arrays, dT p.body, .box [.v (.slice none 0 0), .v (.slice none 0 0), .v (.slice none 0 0)], .row 3 (D.ints (upCB 5 (y.fst, false) 0 p.body).fst.fst), .row 3 (D.ints (upCB 5 (y.fst, false) 0 p.body).fst.snd), .tree (D.stmts p.body), .box [.ref 4, .ref 5, .tref 6], .box [bA (upCB 5 (y.fst, false) 0 p.body).snd]] [(2, .ptr 3 0), (3, bA false), (4, .ptr 7 0), (5, .ptr 8 0)] (by kernel_rfl) (by kernel_rfl) (by kernel_rfl) (by kernel_rfl) (by kernel_rfl)
  ·
   have q0 : (progB p) = false := (fun hq => (hq)) (Eq.mp (Bool.not_eq_true' _) h0)
   refine rT G (!progB p) (by assumption) ?_
   refine wp_seq ?_
   refine rs0s G [(1, .ptr 3 0), (2, .ptr 4 0), (3, bA false)] ?_
   clear G; intro ρ a w G
   refine th_n ?_
   refine wp_ret ?_
   refine th_r ?_
   have Gx := G.nil 5 3 (.ints []) 1 [dI p.vars, dI p.arrays, dT p.body, .box (pL 0), .box [.ref 5, .v (.slice none 0 0), .v (.slice none 0 0)]] [(1, .ptr 3 0), (2, .ptr 4 0), (3, bA false)]
   clear G
   obtain ⟨ρ, G⟩ := Gx
   replace G := Gam.at G [dI p.vars, dI p.arrays, dT p.body, .box (pL 0), .box [.ref 5, .v (.slice none 0 0), .v (.slice none 0 0)], .row 3 (D.ints [])] [(1, .ptr 3 0), (2, .ptr 4 0), (3, bA false)]
   have Gx := G.nil 6 3 (.ints []) 1 [dI p.vars, dI p.arrays, dT p.body, .box (pL 0), .box [.ref 5, .ref 6, .v (.slice none 0 0)], .row 3 (D.ints [])] [(1, .ptr 3 0), (2, .ptr 4 0), (3, bA false)]
   clear G
   obtain ⟨ρ, G⟩ := Gx
   replace G := Gam.at G [dI p.vars, dI p.arrays, dT p.body, .box (pL 0), .box [.ref 5, .ref 6, .v (.slice none 0 0)], .row 3 (D.ints []), .row 3 (D.ints [])] [(1, .ptr 3 0), (2, .ptr 4 0), (3, bA false)]
   have Gx := G.nilT 7 (.stmts []) [dI p.vars, dI p.arrays, dT p.body, .box (pL 0), .box [.ref 5, .ref 6, .tref 7], .row 3 (D.ints []), .row 3 (D.ints [])] [(1, .ptr 3 0), (2, .ptr 4 0), (3, bA false)]
   clear G
   obtain ⟨ρ, G⟩ := Gx
   replace G := Gam.at G [dI p.vars, dI p.arrays, dT p.body, .box (pL 0), .box [.ref 5, .ref 6, .tref 7], .row 3 (D.ints []), .row 3 (D.ints []), .tree (D.stmts [])] [(1, .ptr 3 0), (2, .ptr 4 0), (3, bA false)]
   exact rx_ret (v := .tup [.agg [.ref 5, .ref 6, .tref 7], bA false]) G [0, 1, 2, 5, 6, 7] (by kernel_rfl) (by kernel_rfl) (by show _ = List.map (It.ren (nth [0, 1, 2, 5, 6, 7])) [dI p.vars, dI p.arrays, dT p.body, .row 3 (D.ints (infR p).vars), .row 3 (D.ints (infR p).arrays), .tree (D.stmts (infR p).body)]; have e1 : ((infR p).vars : List Int) = ([]) := (by rw [infR_no (okI_no (by with_reducible assumption))]; done); have e2 : ((infR p).arrays : List Int) = ([]) := (by rw [infR_no (okI_no (by with_reducible assumption))]; done); have e3 : ((infR p).body : List LStmt) = ([]) := (by rw [infR_no (okI_no (by with_reducible assumption))]; done); first | (rw [e1, e2, e3]; done) | (rw [e1, e2, e3]; rfl) | (simp only [e1, e2, e3]; done) | (simp only [e1, e2, e3]; rfl)) (by have e1 : (okI p : Bool) = (false) := (by exact okI_no (by with_reducible assumption)); first | (rw [e1]; done) | (rw [e1]; rfl) | (simp only [e1]; done) | (simp only [e1]; rfl))

end Go.Proofs.Ytgpkdfefgcpbiaa

namespace Go.Proofs.Ytgpkdfefgcpbiaa.exInferLabels
set_option linter.unusedVariables false
set_option linter.unusedSimpArgs false
open Go Go.RowKit Go.Proofs.Ytgpkdfefgcpbiaa

theorem fits {p : LProg} (h : ¬ (szRes 1048576 p.size < 0)) : p.size ≤ 1048576 := by
  by_cases h1 : (1048576 : Int) < p.size
  · rw [szRes_neg h1] at h; omega
  · omega
theorem same_self (p : LProg) : p.same p = true := LProg.same_eq.2 rfl
theorem inf_size (p : LProg) : (infR p).size ≤ p.size := by
  cases h : okI p
  · rw [infR_no h]; simp [LProg.size, szSs]
  · unfold infR
    rw [if_pos h]
    have hp : progB p = true := by
      unfold okI at h
      simp only [Bool.and_eq_true] at h
      exact h.1
    have h1 := (infL_way hp).1
    unfold LProg.size
    simp only
    rw [h1.1, h1.2]
    exact Nat.le_refl _
theorem mark_fits {p : LProg} {n : Nat} (h : p.size ≤ n) (hn : n ≤ 1048576) : ((1 : Nat) : Int) + mkPN p ≤ 9000000000000000000 := by
  unfold mkPN
  unfold LProg.size at h
  have := (mkN_nonneg p.body).2
  omega
theorem same_no (q : LProg) : ¬ ((!q.same q) = true) := by rw [same_self]; decide
theorem mk_pos (p : LProg) : ¬ (decide ((1 : Int) + mkPN p < (0 : Int)) = true) := by
  have := (mkN_nonneg p.body).1
  unfold mkPN
  simp only [decide_eq_true_eq]; omega
set_option maxRecDepth 100000 in
theorem c_law (p : LProg) : Ctr.ok Try.prog ⟨14, [pA 0], pS p, pS p, bA true⟩ := by
  have hto := t_toProgram p
  refine rx_enter 96 Try.func14 (by rfl) (by kernel_rfl) (by kernel_rfl) ?_
  intro ι φ ψ w0 w F ρ0 ρ a G
  replace G := Gam.at G [dI p.vars, dI p.arrays, dT p.body] [(0, pA 0)]
  have hself : ∀ q : LProg, q.same q = true := same_self
  refine wp_seq ?_
  refine rs0 G [0, 1, 2, 3] [dI p.vars, dI p.arrays, dT p.body, .box (pL 0)] [(1, .ptr 3 0), (2, bA false)] ?_
  clear G; intro ρ a w G
  refine th_n ?_
  refine wp_seq ?_
  refine rs0s G [(1, .ptr 3 0), (2, bA false), (3, iA 1048576)] ?_
  clear G; intro ρ a w G
  refine th_n ?_
  refine wp_seq ?_
  refine rs1s G ⟨[(2, _, [0, 1, 2])], [], []⟩ (calls_cons (c_szProgram (p) (1048576) (by omega) (by omega)) calls_nil) trivial [(1, .ptr 3 0), (2, bA false), (3, iA (szRes 1048576 p.size))] [] trivial ?_
  clear G; intro ρ a w G
  refine th_n ?_
  refine wp_seq ?_
  refine wp_seq ?_
  refine rs0s G [(1, .ptr 3 0), (2, bA false), (18, bA (decide (szRes 1048576 p.size < 0)))] ?_
  clear G; intro ρ a w G
  refine th_n ?_
  cases h0 : (decide (szRes (1048576 : Int) p.size < (0 : Int)))
  ·
   have q0 : ¬ (szRes 1048576 p.size < 0) := of_decide_eq_false h0
   refine rF G (decide (szRes (1048576 : Int) p.size < (0 : Int))) (by assumption) ?_
   refine wp_skip ?_
   refine th_n ?_
   refine wp_seq ?_
   refine rs1 (dk := dkP) G ⟨[(1, _, [0, 1, 2]), (2, _, [12, 13, 14])], [], []⟩ (calls_cons (hto (by exact fits (by assumption))) (calls_cons (Ctr.lend (c_InferLabels (p) (by exact fits (by assumption))) [.row 3, .row 3, .tree]) calls_nil)) trivial [0, 1, 2, 3, 20, 21, 22, 52] [dI p.vars, dI p.arrays, dT p.body, .box (pL 0), .row 3 (D.ints (infR p).vars), .row 3 (D.ints (infR p).arrays), .tree (D.stmts (infR p).body), .box [.ref 4, .ref 5, .tref 6]] [(1, .ptr 3 0), (2, bA false), (4, .ptr 7 0), (5, bA (okI p))] [] trivial ?_
   clear G; intro ρ a w G
   refine th_n ?_
   refine wp_seq ?_
   refine rs1 (dk := dkP) G ⟨[(1, _, [0, 1, 2])], [], []⟩ (calls_cons (hto (by exact fits (by assumption))) calls_nil) trivial [0, 1, 2, 3, 4, 5, 6, 7, 16, 17, 18, 24] [dI p.vars, dI p.arrays, dT p.body, .box (pL 0), .row 3 (D.ints (infR p).vars), .row 3 (D.ints (infR p).arrays), .tree (D.stmts (infR p).body), .box [.ref 4, .ref 5, .tref 6], .row 3 (D.ints p.vars), .row 3 (D.ints p.arrays), .tree (D.stmts p.body), .box [.ref 8, .ref 9, .tref 10]] [(1, .ptr 3 0), (2, bA false), (4, .ptr 7 0), (5, bA (okI p)), (6, .ptr 11 0)] [] trivial ?_
   clear G; intro ρ a w G
   refine th_n ?_
   refine wp_seq ?_
   refine rs1 (dk := dkP) G ⟨[(1, _, [8, 9, 10])], [], []⟩ (calls_cons (Ctr.lend (c_iInferLabels (p) (by exact fits (by assumption))) [.row 3, .row 3, .tree]) calls_nil) trivial [0, 1, 2, 3, 4, 5, 6, 7, 8, 9, 10, 11, 20, 21, 22, 52] [dI p.vars, dI p.arrays, dT p.body, .box (pL 0), .row 3 (D.ints (infR p).vars), .row 3 (D.ints (infR p).arrays), .tree (D.stmts (infR p).body), .box [.ref 4, .ref 5, .tref 6], .row 3 (D.ints p.vars), .row 3 (D.ints p.arrays), .tree (D.stmts p.body), .box [.ref 8, .ref 9, .tref 10], .row 3 (D.ints (infR p).vars), .row 3 (D.ints (infR p).arrays), .tree (D.stmts (infR p).body), .box [.ref 12, .ref 13, .tref 14]] [(1, .ptr 3 0), (2, bA false), (4, .ptr 7 0), (5, bA (okI p)), (6, .ptr 11 0), (7, .ptr 15 0), (8, bA (okI p))] [] trivial ?_
   clear G; intro ρ a w G
   refine th_n ?_
   refine wp_seq ?_
   refine wp_seq ?_
   cases h1 : (!(infR p).same (infR p))
   ·
    have q1 : ((infR p).same (infR p)) = true := (fun hq => (hq)) (Eq.mp (Bool.not_eq_false' _) h1)
    refine rs1s G ⟨[(2, _, [12, 13, 14, 4, 5, 6])], [(!(infR p).same (infR p), false)], [(5, 0), (6, 0), (7, 0), (1008, 0)]⟩ (calls_cons (Ctr.lend (c_eqProgram (infR p) (infR p)) [.row 3, .row 3, .tree, .row 3, .row 3, .tree]) calls_nil) ⟨(by assumption), trivial⟩ [(1, .ptr 3 0), (2, bA false), (4, .ptr 7 0), (5, bA (okI p)), (6, .ptr 11 0), (7, .ptr 15 0), (8, bA (okI p)), (40, .v (.bool !okI p == okI p))] [] trivial ?_
    clear G; intro ρ a w G
    refine th_n ?_
    refine rF G (!okI p == okI p) (by simp [h0, h1, q1]) ?_
    refine wp_skip ?_
    refine th_n ?_
    refine wp_seq ?_
    refine wp_seq ?_
    refine rd1s G ⟨[(2, _, [0, 1, 2]), (3, _, [8, 9, 10, 32, 33, 34])], [], []⟩ (calls_cons (hto (by exact fits (by assumption))) (calls_cons (Ctr.lend (c_eqProgram (p) (p)) [.row 3, .row 3, .tree, .row 3, .row 3, .tree]) calls_nil)) trivial [0, 0, 2, 7, 15] [(1, .ptr 3 0), (2, bA false), (4, .ptr 7 0), (5, bA (okI p)), (6, .ptr 11 0), (7, .ptr 15 0), (8, bA (okI p)), (45, .v (.bool !p.same p))] [] trivial ?_
    clear G; intro ρ a w G
    refine th_n ?_
    cases h2 : (!p.same p)
    ·
     have q2 : (p.same p) = true := (fun hq => (hq)) (Eq.mp (Bool.not_eq_false' _) h2)
     refine rF G (!p.same p) (by assumption) ?_
     refine wp_skip ?_
     refine th_n ?_
     refine wp_seq ?_
     refine rs0s G [(1, .ptr 3 0), (2, bA false), (4, .ptr 7 0), (5, bA (okI p)), (6, .ptr 11 0), (7, .ptr 15 0), (8, bA (okI p)), (9, iA 1)] ?_
     clear G; intro ρ a w G
     refine th_n ?_
     refine wp_seq ?_
     refine rs1 (dk := dkP) G ⟨[(2, _, [8, 9, 10])], [], []⟩ (calls_cons (c_markProgram (p) (1) (by exact mark_fits (fits (by assumption)) (Nat.le_refl _))) calls_nil) trivial [0, 1, 2, 3, 4, 5, 6, 7, 12, 13, 14, 15] [dI p.vars, dI p.arrays, dT p.body, .box (pL 0), .row 3 (D.ints (infR p).vars), .row 3 (D.ints (infR p).arrays), .tree (D.stmts (infR p).body), .box [.ref 4, .ref 5, .tref 6], .row 3 (D.ints (infR p).vars), .row 3 (D.ints (infR p).arrays), .tree (D.stmts (infR p).body), .box [.ref 8, .ref 9, .tref 10]] [(1, .ptr 3 0), (2, bA false), (4, .ptr 7 0), (5, bA (okI p)), (7, .ptr 11 0), (8, bA (okI p)), (9, iA ((↑1 : Int) + mkPN p))] [] trivial ?_
     clear G; intro ρ a w G
     refine th_n ?_
     refine wp_seq ?_
     refine wp_seq ?_
     cases h3 : (decide ((1 : Int) + mkPN p < (0 : Int)))
     ·
      have q3 : ¬ (1 + mkPN p < 0) := of_decide_eq_false h3
      refine rs1s G ⟨[(5, _, [8, 9, 10, 4, 5, 6])], [(decide ((1 : Int) + mkPN p < (0 : Int)), false), (!(infR p).same (infR p), false)], [(3, 0), (4, 0), (5, 0), (6, 0), (1007, 0), (9, 1), (10, 1), (11, 1), (1012, 1)]⟩ (calls_cons (Ctr.lend (c_eqProgram (infR p) (infR p)) [.row 3, .row 3, .tree, .row 3, .row 3, .tree]) calls_nil) ⟨(by assumption), (by assumption), trivial⟩ [(1, .ptr 3 0), (2, bA false), (4, .ptr 7 0), (5, bA (okI p)), (7, .ptr 11 0), (61, .v (.bool !okI p == okI p))] [] trivial ?_
      clear G; intro ρ a w G
      refine th_n ?_
      refine rF G (!okI p == okI p) (by simp [h0, h1, q1, h2, q2, h3]) ?_
      refine wp_skip ?_
      refine th_n ?_
      refine wp_seq ?_
      refine rs0s G [(1, .ptr 3 0), (2, bA false), (4, .ptr 7 0), (5, bA (okI p)), (7, .ptr 11 0), (10, iA 1)] ?_
      clear G; intro ρ a w G
      refine th_n ?_
      refine wp_seq ?_
      refine rs1 (dk := dkP) G ⟨[(2, _, [8, 9, 10])], [], []⟩ (calls_cons (c_markProgram (infR p) (1) (by exact mark_fits (Nat.le_trans (inf_size p) (fits (by assumption))) (Nat.le_refl _))) calls_nil) trivial [0, 1, 2, 3, 4, 5, 6, 7, 8, 9, 10, 11] [dI p.vars, dI p.arrays, dT p.body, .box (pL 0), .row 3 (D.ints (infR p).vars), .row 3 (D.ints (infR p).arrays), .tree (D.stmts (infR p).body), .box [.ref 4, .ref 5, .tref 6], .row 3 (D.ints (mkP (infR p) 1).vars), .row 3 (D.ints (mkP (infR p) 1).arrays), .tree (D.stmts (mkP (infR p) 1).body), .box [.ref 8, .ref 9, .tref 10]] [(1, .ptr 3 0), (2, bA false), (4, .ptr 7 0), (5, bA (okI p)), (7, .ptr 11 0), (10, iA ((↑1 : Int) + mkPN (infR p)))] [] trivial ?_
      clear G; intro ρ a w G
      refine th_n ?_
      refine wp_seq ?_
      refine rs0s G [(1, .ptr 3 0), (2, bA false), (4, .ptr 7 0), (5, bA (okI p)), (7, .ptr 11 0), (10, iA (1 + mkPN (infR p))), (11, iA 1)] ?_
      clear G; intro ρ a w G
      refine th_n ?_
      refine wp_seq ?_
      refine rs1s G ⟨[(2, _, [8, 9, 10])], [], []⟩ (calls_cons (Ctr.lend (c_heldProgram (infR p) (1) (by exact mark_fits (Nat.le_trans (inf_size p) (fits (by assumption))) (Nat.le_refl _))) [.row 3, .row 3, .tree]) calls_nil) trivial [(1, .ptr 3 0), (2, bA false), (4, .ptr 7 0), (5, bA (okI p)), (7, .ptr 11 0), (10, iA (1 + mkPN (infR p))), (11, iA ((↑1 : Int) + mkPN (infR p)))] [] trivial ?_
      clear G; intro ρ a w G
      refine th_n ?_
      refine wp_seq ?_
      refine wp_seq ?_
      refine rs0s G [(1, .ptr 3 0), (2, bA false), (4, .ptr 7 0), (5, bA (okI p)), (7, .ptr 11 0), (10, iA (1 + mkPN (infR p))), (11, iA (1 + mkPN (infR p))), (69, bA (decide (1 + mkPN (infR p) < 0)))] ?_
      clear G; intro ρ a w G
      refine th_n ?_
      cases h4 : (decide ((1 : Int) + mkPN (infR p) < (0 : Int)))
      ·
       have q4 : ¬ (1 + mkPN (infR p) < 0) := of_decide_eq_false h4
       refine rF G (decide ((1 : Int) + mkPN (infR p) < (0 : Int))) (by assumption) ?_
       refine wp_skip ?_
       refine th_n ?_
       refine wp_seq ?_
       refine wp_seq ?_
       refine rs0s G [(1, .ptr 3 0), (2, bA false), (4, .ptr 7 0), (5, bA (okI p)), (7, .ptr 11 0), (10, iA (1 + mkPN (infR p))), (11, iA (1 + mkPN (infR p))), (72, bA (1 + mkPN (infR p) != 1 + mkPN (infR p)))] ?_
       clear G; intro ρ a w G
       refine th_n ?_
       refine rF G ((1 : Int) + mkPN (infR p) != (1 : Int) + mkPN (infR p)) (by simp [h0, h1, q1, h2, q2, h3, h4]) ?_
       refine wp_skip ?_
       refine th_n ?_
       refine wp_seq ?_
       refine rs1 (dk := dkP) G ⟨[(1, _, [0, 1, 2]), (2, _, [20, 21, 22])], [], []⟩ (calls_cons (hto (by exact fits (by assumption))) (calls_cons (Ctr.lend (c_iInferLabels (p) (by exact fits (by assumption))) [.row 3, .row 3, .tree]) calls_nil)) trivial [0, 1, 2, 4, 5, 6, 7, 8, 9, 10, 11, 28, 29, 30, 60] [dI p.vars, dI p.arrays, dT p.body, .row 3 (D.ints (infR p).vars), .row 3 (D.ints (infR p).arrays), .tree (D.stmts (infR p).body), .box [.ref 3, .ref 4, .tref 5], .row 3 (D.ints (mkP (infR p) 1).vars), .row 3 (D.ints (mkP (infR p) 1).arrays), .tree (D.stmts (mkP (infR p) 1).body), .box [.ref 7, .ref 8, .tref 9], .row 3 (D.ints (infR p).vars), .row 3 (D.ints (infR p).arrays), .tree (D.stmts (infR p).body), .box [.ref 11, .ref 12, .tref 13]] [(2, bA false), (4, .ptr 6 0), (5, bA (okI p)), (7, .ptr 10 0), (10, iA (1 + mkPN (infR p))), (11, iA (1 + mkPN (infR p))), (12, .ptr 14 0), (13, bA (okI p))] [] trivial ?_
       clear G; intro ρ a w G
       refine th_n ?_
       refine wp_seq ?_
       refine wp_seq ?_
       refine rs1 (dk := dkP) G ⟨[(2, _, [11, 12, 13, 3, 4, 5])], [(!(infR p).same (infR p), false)], [(5, 0), (6, 0), (7, 0), (1008, 0)]⟩ (calls_cons (Ctr.lend (c_eqProgram (infR p) (infR p)) [.row 3, .row 3, .tree, .row 3, .row 3, .tree]) calls_nil) ⟨(by assumption), trivial⟩ [0, 1, 2, 7, 8, 9, 10] [dI p.vars, dI p.arrays, dT p.body, .row 3 (D.ints (mkP (infR p) 1).vars), .row 3 (D.ints (mkP (infR p) 1).arrays), .tree (D.stmts (mkP (infR p) 1).body), .box [.ref 3, .ref 4, .tref 5]] [(2, bA false), (7, .ptr 6 0), (10, iA (1 + mkPN (infR p))), (11, iA (1 + mkPN (infR p))), (87, .v (.bool !okI p == okI p))] [] trivial ?_
       clear G; intro ρ a w G
       refine th_n ?_
       refine rF G (!okI p == okI p) (by simp [h0, h1, q1, h2, q2, h3, h4]) ?_
       refine wp_skip ?_
       refine th_n ?_
       refine wp_seq ?_
       refine rs0s G [(2, bA false), (7, .ptr 6 0), (10, iA (1 + mkPN (infR p))), (11, iA 1)] ?_
       clear G; intro ρ a w G
       refine th_n ?_
       refine wp_seq ?_
       refine rs1 (dk := dkP) G ⟨[(2, _, [3, 4, 5])], [], []⟩ (calls_cons (Ctr.lend (c_heldProgram (infR p) (1) (by exact mark_fits (Nat.le_trans (inf_size p) (fits (by assumption))) (Nat.le_refl _))) [.row 3, .row 3, .tree]) calls_nil) trivial [0, 1, 2] [dI p.vars, dI p.arrays, dT p.body] [(2, bA false), (10, iA (1 + mkPN (infR p))), (11, iA ((↑1 : Int) + mkPN (infR p)))] [] trivial ?_
       clear G; intro ρ a w G
       refine th_n ?_
       refine wp_seq ?_
       refine wp_seq ?_
       refine rs0s G [(2, bA false), (10, iA (1 + mkPN (infR p))), (11, iA (1 + mkPN (infR p))), (92, bA (decide (1 + mkPN (infR p) < 0)))] ?_
       clear G; intro ρ a w G
       refine th_n ?_
       refine rF G (decide ((1 : Int) + mkPN (infR p) < (0 : Int))) (by assumption) ?_
       refine wp_skip ?_
       refine th_n ?_
       refine wp_seq ?_
       refine wp_seq ?_
       refine rs0s G [(2, bA false), (95, bA (1 + mkPN (infR p) != 1 + mkPN (infR p)))] ?_
       clear G; intro ρ a w G
       refine th_n ?_
       refine rF G ((1 : Int) + mkPN (infR p) != (1 : Int) + mkPN (infR p)) (by simp [h0, h1, q1, h2, q2, h3, h4]) ?_
       refine wp_skip ?_
       refine th_n ?_
       refine wp_seq ?_
       refine rs0s G [(2, bA true)] ?_
       clear G; intro ρ a w G
       refine th_n ?_
       refine wp_ret ?_
       exact rx_ret (v := bA true) G [0, 1, 2] (by kernel_rfl) (by kernel_rfl) (by kernel_rfl) (by kernel_rfl)
      ·
       have q4 : 1 + mkPN (infR p) < 0 := of_decide_eq_true h4
       refine rT G (decide ((1 : Int) + mkPN (infR p) < (0 : Int))) (by assumption) ?_
       refine wp_seq ?_
       refine rs0s G [(1, .ptr 3 0), (2, bA false), (4, .ptr 7 0), (5, bA (okI p)), (7, .ptr 11 0), (10, iA (1 + mkPN (infR p))), (11, iA (1 + mkPN (infR p)))] ?_
       clear G; intro ρ a w G
       refine th_n ?_
       refine wp_ret ?_
       refine th_r ?_
       exact rx_ret (v := bA false) G [0, 1, 2] (by kernel_rfl) (by kernel_rfl) (by kernel_rfl) (by have e1 : (true : Bool) = (false) := (by exact absurd (by with_reducible assumption) (mk_pos (infR p))); first | (rw [e1]; done) | (rw [e1]; rfl) | (simp only [e1]; done) | (simp only [e1]; rfl))
     ·
      have q3 : 1 + mkPN p < 0 := of_decide_eq_true h3
      refine rs1s G ⟨[], [(decide ((1 : Int) + mkPN p < (0 : Int)), true), (true, true)], [(3, 0), (4, 0), (5, 0), (6, 0), (1007, 0), (9, 1), (10, 1), (11, 1), (1012, 1)]⟩ calls_nil ⟨(by assumption), (by kernel_rfl), trivial⟩ [(1, .ptr 3 0), (2, bA false), (4, .ptr 7 0), (5, bA (okI p)), (7, .ptr 11 0), (61, bA true)] [] trivial ?_
      clear G; intro ρ a w G
      refine th_n ?_
      refine rT G (true) (by kernel_rfl) ?_
      refine wp_seq ?_
      refine rs0s G [(1, .ptr 3 0), (2, bA false), (4, .ptr 7 0), (5, bA (okI p)), (7, .ptr 11 0)] ?_
      clear G; intro ρ a w G
      refine th_n ?_
      refine wp_ret ?_
      refine th_r ?_
      exact rx_ret (v := bA false) G [0, 1, 2] (by kernel_rfl) (by kernel_rfl) (by kernel_rfl) (by have e1 : (true : Bool) = (false) := (by exact absurd (by with_reducible assumption) (mk_pos p)); first | (rw [e1]; done) | (rw [e1]; rfl) | (simp only [e1]; done) | (simp only [e1]; rfl))
    ·
     have q2 : (p.same p) = false := (fun hq => (hq)) (Eq.mp (Bool.not_eq_true' _) h2)
     refine rT G (!p.same p) (by assumption) ?_
     refine wp_seq ?_
     refine rs0s G [(1, .ptr 3 0), (2, bA false), (4, .ptr 7 0), (5, bA (okI p)), (6, .ptr 11 0), (7, .ptr 15 0), (8, bA (okI p))] ?_
     clear G; intro ρ a w G
     refine th_n ?_
     refine wp_ret ?_
     refine th_r ?_
     exact rx_ret (v := bA false) G [0, 1, 2] (by kernel_rfl) (by kernel_rfl) (by kernel_rfl) (by have e1 : (true : Bool) = (false) := (by exact absurd (by with_reducible assumption) (same_no p)); first | (rw [e1]; done) | (rw [e1]; rfl) | (simp only [e1]; done) | (simp only [e1]; rfl))
   ·
    have q1 : ((infR p).same (infR p)) = false := (fun hq => (hq)) (Eq.mp (Bool.not_eq_true' _) h1)
    refine rs1s G ⟨[(2, _, [12, 13, 14, 4, 5, 6])], [(!(infR p).same (infR p), true)], [(5, 0), (6, 0), (7, 0), (1008, 0)]⟩ (calls_cons (Ctr.lend (c_eqProgram (infR p) (infR p)) [.row 3, .row 3, .tree, .row 3, .row 3, .tree]) calls_nil) ⟨(by assumption), trivial⟩ [(1, .ptr 3 0), (2, bA false), (4, .ptr 7 0), (5, bA (okI p)), (6, .ptr 11 0), (7, .ptr 15 0), (8, bA (okI p)), (40, bA true)] [] trivial ?_
    clear G; intro ρ a w G
    refine th_n ?_
    refine rT G (true) (by kernel_rfl) ?_
    refine wp_seq ?_
    refine rs0s G [(1, .ptr 3 0), (2, bA false), (4, .ptr 7 0), (5, bA (okI p)), (6, .ptr 11 0), (7, .ptr 15 0), (8, bA (okI p))] ?_
    clear G; intro ρ a w G
    refine th_n ?_
    refine wp_ret ?_
    refine th_r ?_
    exact rx_ret (v := bA false) G [0, 1, 2] (by kernel_rfl) (by kernel_rfl) (by kernel_rfl) (by have e1 : (true : Bool) = (false) := (by exact absurd (by with_reducible assumption) (same_no (infR p))); first | (rw [e1]; done) | (rw [e1]; rfl) | (simp only [e1]; done) | (simp only [e1]; rfl))
  ·
   have q0 : szRes 1048576 p.size < 0 := of_decide_eq_true h0
   refine rT G (decide (szRes (1048576 : Int) p.size < (0 : Int))) (by assumption) ?_
   refine wp_seq ?_
   refine rs0s G [(1, .ptr 3 0), (2, bA true)] ?_
   clear G; intro ρ a w G
   refine th_n ?_
   refine wp_ret ?_
   refine th_r ?_
   exact rx_ret (v := bA true) G [0, 1, 2] (by kernel_rfl) (by kernel_rfl) (by kernel_rfl) (by kernel_rfl)

theorem walk (u : Value) (p : LProg) (w : World) (hp : ProgV w (fun _ => True) u p) : Calls Try.prog 14 #[u] w fun e w' => e = .returned (.bool true) ∧ Below w.heap.size w w' := prog_law (c_law p) u w hp

end Go.Proofs.Ytgpkdfefgcpbiaa.exInferLabels

namespace Go.Proofs.Ytgpkdfefgcpbiaa
set_option linter.unusedVariables false
set_option linter.unusedSimpArgs false
open Go Go.RowKit Go.ChangeShapes Go.WideShapes Go.Deep
section
variable {H : Type} {enc : TypeId × Value → H} {W : World}

/-- A slice that reads as data: its row of cells; each element reads, with less fuel. -/
theorem row_of_trod_lt {t e : TypeId} {fuel : Nat} {v : Value} {x : DataW H × List MemPlace} {sz : Nat} (ht : Try.prog.underlying t = some (.slice e)) (hc : Try.prog.cellsOf e = sz) (hsz : 0 < sz)
    (h : DataW.trod enc Try.prog W 0 (fun _ => true) true fuel t [v] = some x) :
    ∃ (n m : Nat) (C : Nat → List Value), Row W v n sz ((List.range n).flatMap C) ∧ (∀ i, (C i).length = sz) ∧ ∀ i, i < n → m < fuel ∧ ∃ y, DataW.trod enc Try.prog W 0 (fun _ => true) true m e (C i) = some y := by
  rcases DataW.trod_slice ht h with ⟨hcs, _⟩ | ⟨a, len, cap, elems, rest, k, hfu, hcs, _, hb, hl, hm, hlen, hel, _, _⟩
  · cases hcs
    exact ⟨0, 0, fun _ => List.replicate sz undef, Row.nil _ _, by simp, fun i hi => by omega⟩
  · cases hcs
    rw [hc] at hel
    obtain ⟨C, hC⟩ := choose_lt (α := List Value) (n := len) (p := fun i cs => cs.length = sz ∧ (∀ j, j < sz → W.cell? (a.add (i * sz + j)) = cs[j]?) ∧ ∃ y, DataW.trod enc Try.prog W 0 (fun _ => true) true k e cs = some y) (fun i hi => by
      have h0 := hel i hi
      rw [List.getElem?_eq_getElem (by omega)] at h0
      obtain ⟨cs', h1, h2⟩ := Option.bind_eq_some_iff.1 h0
      obtain ⟨_, hlen, hcell⟩ := World.cells?_some h1
      exact ⟨cs', hlen, fun j hj => by rw [← add_add]; exact hcell j hj, _, h2⟩)
    let C' : Nat → List Value := fun i => if i < len then C i else List.replicate sz undef
    have hC' : ∀ i, (C' i).length = sz := fun i => by
      by_cases hi : i < len
      · simp only [C', if_pos hi]; exact (hC i hi).1
      · simp [C', if_neg hi]
    refine ⟨len, k, C', ⟨flat_len hC' len, some a, cap, rfl, hl, hm, fun hn => ?_⟩, hC', fun i hi => ?_⟩
    · obtain ⟨b, off, spot⟩ := a
      have h00 := (hC 0 hn).2.1 0 hsz
      have hlen0 := (hC 0 hn).1
      rw [List.getElem?_eq_getElem (by omega)] at h00
      have hs : spot = none := by
        simpa [Addr.add] using World.cell?_spot h00
      subst hs
      have hb : b < W.heap.size := by simpa [Addr.add] using World.block_lt_of_cell? W _ h00
      refine ⟨b, off, rfl, hb, fun j u hj => ?_⟩
      have hjl : j < len * sz := by have := (List.getElem?_eq_some_iff.1 hj).1; rw [flat_len hC'] at this; exact this
      have hi : j / sz < len := Nat.div_lt_of_lt_mul (by rw [Nat.mul_comm]; exact hjl)
      have hr : j % sz < sz := Nat.mod_lt _ hsz
      have hjj : j / sz * sz + j % sz = j := Nat.div_add_mod' j sz
      have hg := flat_get hC' len (j / sz) (j % sz) hi hr
      rw [hjj, hj] at hg
      have hcc := (hC _ hi).2.1 _ hr
      simp only [C', if_pos hi] at hg
      rw [hjj, ← hg] at hcc
      have hadd : (⟨b, off, none⟩ : Addr).add j = ⟨b, off + j, none⟩ := by unfold Addr.add; split <;> simp_all
      rw [hadd] at hcc
      exact hcc
    · obtain ⟨y, hy⟩ := (hC i hi).2.2
      exact ⟨by omega, y, by simp only [C', if_pos hi]; exact hy⟩

instance : Inhabited LExpr := ⟨⟨0, 0, []⟩⟩
instance : Inhabited LStmt := ⟨⟨0, 0, ⟨0, 0, []⟩, ⟨0, 0, []⟩, 0, [], []⟩⟩
theorem exprsC_range {w : World} {φ : Nat → Prop} (C : Nat → List Value) (g : Nat → LExpr) : ∀ l : List Nat, (∀ i ∈ l, ExprC w φ (g i) (C i)) → ExprsC w φ (l.map g) (l.flatMap C)
  | [], _ => rfl
  | a :: r, h => ⟨C a, r.flatMap C, rfl, h a List.mem_cons_self, exprsC_range C g r fun i hi => h i (List.mem_cons_of_mem _ hi)⟩
theorem stmtsC_range {w : World} {φ : Nat → Prop} (C : Nat → List Value) (g : Nat → LStmt) : ∀ l : List Nat, (∀ i ∈ l, StmtC w φ (g i) (C i)) → StmtsC w φ (l.map g) (l.flatMap C)
  | [], _ => rfl
  | a :: r, h => ⟨C a, r.flatMap C, rfl, h a List.mem_cons_self, stmtsC_range C g r fun i hi => h i (List.mem_cons_of_mem _ hi)⟩

set_option maxRecDepth 100000 in
theorem expr_of_trod : ∀ (fuel : Nat) (cs : List Value) (x : DataW H × List MemPlace), DataW.trod enc Try.prog W 0 (fun _ => true) true fuel 37 cs = some x → ∃ e, ExprC W (fun _ => True) e cs := by
  intro fuel
  induction fuel using Nat.strongRecOn with
  | ind fuel ih =>
    intro cs x h
    obtain ⟨ys, k, hfu, _, hl, hys, hf⟩ := DataW.trod_struct Try.underlying37 h
    rw [show Try.prog.cellsOf 37 = 3 from by kernel_rfl] at hl
    match cs, hl with
    | [c0, c1, c2], _ =>
      have h0 := hf 0 _ rfl
      have h1 := hf 1 _ rfl
      have h2 := hf 2 _ rfl
      rw [List.getElem?_eq_getElem (by rw [hys]; decide)] at h0 h1 h2
      have e0 := DataW.trod_int Try.underlying3 ((show Try.prog.cellsOf 3 = 1 from by kernel_rfl) ▸ h0)
      have e1 := DataW.trod_int Try.underlying3 ((show Try.prog.cellsOf 3 = 1 from by kernel_rfl) ▸ h1)
      have e2 := row_of_trod_lt (v := c2) Try.underlying35 (sz := 3) (by kernel_rfl) (by omega) ((show Try.prog.cellsOf 35 = 1 from by kernel_rfl) ▸ h2)
      obtain ⟨b0, hb0, _⟩ := e0
      obtain ⟨b1, hb1, _⟩ := e1
      obtain ⟨n, m, C, hr, hC, hx⟩ := e2
      simp at hb0 hb1
      obtain ⟨g, hg⟩ := choose_lt (α := LExpr) (n := n) (p := fun i e => ExprC W (fun _ => True) e (C i)) (fun i hi => by
        obtain ⟨hm, y, hy⟩ := hx i hi
        exact ih m (by omega) _ _ hy)
      refine ⟨⟨b0, b1, (List.range n).map g⟩, c2, _, by rw [hb0, hb1], ?_, exprsC_range C g (List.range n) fun i hi => hg i (by simpa using hi)⟩
      rw [List.length_map, List.length_range]
      exact hr.rowF fun _ _ => trivial

set_option maxRecDepth 100000 in
theorem stmt_of_trod : ∀ (fuel : Nat) (cs : List Value) (x : DataW H × List MemPlace), DataW.trod enc Try.prog W 0 (fun _ => true) true fuel 139 cs = some x → ∃ s, StmtC W (fun _ => True) s cs := by
  intro fuel
  induction fuel using Nat.strongRecOn with
  | ind fuel ih =>
    intro cs x h
    obtain ⟨ys, k, hfu, _, hl, hys, hf⟩ := DataW.trod_struct Try.underlying139 h
    rw [show Try.prog.cellsOf 139 = 11 from by kernel_rfl] at hl
    match cs, hl with
    | [c0, c1, c2, c3, c4, c5, c6, c7, c8, c9, c10], _ =>
      have h0 := hf 0 _ rfl
      have h1 := hf 1 _ rfl
      have h2 := hf 2 _ rfl
      have h3 := hf 3 _ rfl
      have h4 := hf 4 _ rfl
      have h5 := hf 5 _ rfl
      have h6 := hf 6 _ rfl
      rw [List.getElem?_eq_getElem (by rw [hys]; decide)] at h0 h1 h2 h3 h4 h5 h6
      obtain ⟨b0, hb0, _⟩ := DataW.trod_int Try.underlying3 ((show Try.prog.cellsOf 3 = 1 from by kernel_rfl) ▸ h0)
      obtain ⟨b1, hb1, _⟩ := DataW.trod_int Try.underlying3 ((show Try.prog.cellsOf 3 = 1 from by kernel_rfl) ▸ h1)
      obtain ⟨b4, hb4, _⟩ := DataW.trod_int Try.underlying3 ((show Try.prog.cellsOf 3 = 1 from by kernel_rfl) ▸ h4)
      obtain ⟨ie, hie⟩ := expr_of_trod k [c2, c3, c4] _ ((show Try.prog.cellsOf 37 = 3 from by kernel_rfl) ▸ h2)
      obtain ⟨ve, hve⟩ := expr_of_trod k [c5, c6, c7] _ ((show Try.prog.cellsOf 37 = 3 from by kernel_rfl) ▸ h3)
      obtain ⟨n, m, C, hr, hC, hx⟩ := row_of_trod_lt (v := c9) Try.underlying23 (sz := 11) (by kernel_rfl) (by omega) ((show Try.prog.cellsOf 23 = 1 from by kernel_rfl) ▸ h5)
      obtain ⟨n', m', C', hr', hC', hx'⟩ := row_of_trod_lt (v := c10) Try.underlying23 (sz := 11) (by kernel_rfl) (by omega) ((show Try.prog.cellsOf 23 = 1 from by kernel_rfl) ▸ h6)
      simp at hb0 hb1 hb4
      obtain ⟨g, hg⟩ := choose_lt (α := LStmt) (n := n) (p := fun i e => StmtC W (fun _ => True) e (C i)) (fun i hi => by
        obtain ⟨hm, y, hy⟩ := hx i hi
        exact ih m (by omega) _ _ hy)
      obtain ⟨g', hg'⟩ := choose_lt (α := LStmt) (n := n') (p := fun i e => StmtC W (fun _ => True) e (C' i)) (fun i hi => by
        obtain ⟨hm, y, hy⟩ := hx' i hi
        exact ih m' (by omega) _ _ hy)
      obtain ⟨iv, hi1, hi2⟩ := (ExprC.iff _ _).1 hie
      obtain ⟨vv, hv1, hv2⟩ := (ExprC.iff _ _).1 hve
      simp at hi1 hv1
      obtain ⟨i1, i2, i3⟩ := hi1
      obtain ⟨v1, v2, v3⟩ := hv1
      refine ⟨⟨b0, b1, ie, ve, b4, (List.range n).map g, (List.range n').map g'⟩, iv, vv, c9, c10, _, _, by rw [hb0, hb1, hb4, i1, i2, i3, v1, v2, v3], hi2, hv2, ?_, stmtsC_range C g (List.range n) fun i hi => hg i (by simpa using hi), ?_, stmtsC_range C' g' (List.range n') fun i hi => hg' i (by simpa using hi)⟩
      · rw [List.length_map, List.length_range]
        exact hr.rowF fun _ _ => trivial
      · rw [List.length_map, List.length_range]
        exact hr'.rowF fun _ _ => trivial

theorem block_of_trod {fuel : Nat} {v : Value} {x : DataW H × List MemPlace} (h : DataW.trod enc Try.prog W 0 (fun _ => true) true fuel 23 [v] = some x) : ∃ ss, BlockV W (fun _ => True) v ss := by
  obtain ⟨n, m, C, hr, hC, hx⟩ := row_of_trod_lt Try.underlying23 (sz := 11) (by kernel_rfl) (by omega) h
  obtain ⟨g, hg⟩ := choose_lt (α := LStmt) (n := n) (p := fun i e => StmtC W (fun _ => True) e (C i)) (fun i hi => by
    obtain ⟨hm, y, hy⟩ := hx i hi
    exact stmt_of_trod m _ _ hy)
  refine ⟨(List.range n).map g, _, ?_, stmtsC_range C g (List.range n) fun i hi => hg i (by simpa using hi)⟩
  rw [List.length_map, List.length_range]
  exact hr.rowF fun _ _ => trivial

set_option maxRecDepth 100000 in
theorem prog_of_trod {r : Reach} {b0 : Nat} {v : Value} {d : DataW H} {p : List MemPlace} (hv : Value.okWide Try.prog W r b0 25 v)
    (h : DataW.Trod enc Try.prog W 0 (fun _ => true) true 25 v d p) : ∃ c : LProg, ProgV W (fun _ => True) v c := by
  obtain ⟨v0, v1, v2, y0, y1, y2, n, rfl, -, -, h0, h1, h2⟩ := Joins.open_agg3 Try.underlying25 (by kernel_rfl) (by kernel_rfl) hv h
  obtain ⟨l0, r0⟩ := ints_of_trod Try.underlying22 h0
  obtain ⟨l1, r1⟩ := ints_of_trod Try.underlying22 h1
  obtain ⟨l2, r2⟩ := block_of_trod h2
  exact ⟨⟨l0, l1, l2⟩, _, _, _, rfl, r0.rowF fun _ _ => trivial, r1.rowF fun _ _ => trivial, r2⟩

end
end Go.Proofs.Ytgpkdfefgcpbiaa
