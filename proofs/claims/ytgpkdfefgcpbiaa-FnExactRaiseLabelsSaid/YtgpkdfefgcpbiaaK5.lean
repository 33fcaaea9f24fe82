/-
  Texts of this claim, part 5: what the functions on the way do, and plain laws. Conditions: as each statement says.
-/
import Derived.Test.YtgpkdfefgcpbiaaK4

namespace Go.Proofs.Ytgpkdfefgcpbiaa
set_option linter.unusedVariables false
set_option linter.unusedSimpArgs false
open Go Go.RowKit

abbrev stmtC (p : LProg) (d c : Nat) (s : LStmt) (n : Int) : Ctr := ⟨181, [pA 0, sA s 4, iA n, .ptr 3 0], pS p ++ [.box [iA c]] ++ sS s, pS p ++ [.box [iA (stmtF p.vars.length p.arrays.length d c s).2]] ++ sS s, bA (stmtF p.vars.length p.arrays.length d c s).1⟩
abbrev stmtsC (p : LProg) (d c : Nat) (ss : List LStmt) (n : Int) : Ctr := ⟨147, [pA 0, .ref 4, iA n, .ptr 3 0], pS p ++ [.box [iA c]] ++ [.dat (.stmts ss)], pS p ++ [.box [iA (stmtsF p.vars.length p.arrays.length d c ss).2]] ++ [.dat (.stmts ss)], bA (stmtsF p.vars.length p.arrays.length d c ss).1⟩

set_option maxRecDepth 100000 in
theorem c_stmtsS (p : LProg) (d : Nat) (hd : d ≤ 5) (ih : ∀ (s : LStmt) (c : Nat) (n : Int), c ≤ 60 → n = 6 - (d : Int) → Ctr.ok Try.prog (stmtC p d c s n))
    (ss : List LStmt) (c : Nat) (n : Int) (hc : c ≤ 60) (hn : n = 6 - (d : Int)) : Ctr.ok Try.prog (stmtsC p d c ss n) := by
  refine rx_enter 24 Try.func147 (by rfl) (by kernel_rfl) (by kernel_rfl) ?_
  intro ι φ ψ w0 w F ρ0 ρ a G
  replace G := Gam.at G [dI p.vars, dI p.arrays, dT p.body, .box [iA (↑c : Int)], dT ss] [(0, pA 0), (1, .ref 4), (2, iA n), (3, .ptr 3 0)]
  refine wp_seq ?_
  refine rs0 G [0, 1, 2, 3, 4, 5] [dI p.vars, dI p.arrays, dT p.body, .box [iA (↑c : Int)], dT ss, .box (pL 0)] [(1, .ref 4), (2, iA n), (3, .ptr 3 0), (4, .ptr 5 0), (8, bA false)] ?_
  clear G; intro ρ a w G
  refine th_n ?_
  refine wp_seq ?_
  refine wp_seq ?_
  refine rs0s G [(2, iA n), (3, .ptr 3 0), (4, .ptr 5 0), (8, bA false), (11, .ref 4), (12, iA (↑ss.length : Int)), (13, iA 0)] ?_
  clear G; intro ρ a w G
  refine th_n ?_
  refine wp_block ?_
  have hlen : ss.length ≤ 9223372036854775807 := G.len 4 (d := .stmts ss) (by kernel_rfl)
  refine rx_for (κ := Nat) (fun k => k ≤ ss.length ∧ (stmtsF p.vars.length p.arrays.length d c (ss.take k)).1 = true) (fun k => ss.length - k) (fun k => [dI p.vars, dI p.arrays, dT p.body, .box [iA (stmtsF p.vars.length p.arrays.length d c (ss.take k)).2], dT ss, .box (pL 0)]) (fun k => [(2, iA n), (3, .ptr 3 0), (4, .ptr 5 0), (8, bA false), (11, .ref 4), (12, iA (↑ss.length : Int)), (13, iA k)]) (0) (by simp [stmtsF, foldF]; done) (Gam.at G _ _) ?_
  clear G
  intro k ρ a w hp G
  replace G := Gam.at G [dI p.vars, dI p.arrays, dT p.body, .box [iA (↑(stmtsF p.vars.length p.arrays.length d c (List.take k ss)).snd : Int)], dT ss, .box (pL 0)] [(2, iA n), (3, .ptr 3 0), (4, .ptr 5 0), (8, bA false), (11, .ref 4), (12, iA (↑ss.length : Int)), (13, iA (↑k : Int))]
  refine wp_seq ?_
  refine rs0s G [(2, iA n), (3, .ptr 3 0), (4, .ptr 5 0), (8, bA false), (11, .ref 4), (12, iA (↑ss.length : Int)), (13, iA (↑k : Int)), (14, bA (decide ((↑k : Int) < (↑ss.length : Int))))] ?_
  clear G; intro ρ a w G
  refine th_n ?_
  refine wp_seq ?_
  cases h0 : (decide ((↑k : Int) < (↑ss.length : Int)))
  ·
   have q0 : ¬ ((↑k : Int) < (↑ss.length : Int)) := of_decide_eq_false h0
   refine rF G (decide ((↑k : Int) < (↑ss.length : Int))) (by assumption) ?_
   refine wp_exit ?_
   refine th_e ?_
   refine th_e ?_
   refine bl_hit ?_
   refine th_n ?_
   refine wp_seq ?_
   refine rs0 G [0, 1, 2, 3, 4] [dI p.vars, dI p.arrays, dT p.body, .box [iA (↑(stmtsF p.vars.length p.arrays.length d c (List.take k ss)).snd : Int)], dT ss] [(8, bA true)] ?_
   clear G; intro ρ a w G
   refine th_n ?_
   refine wp_ret ?_
   exact rx_ret (v := bA true) G [0, 1, 2, 3, 4] (by kernel_rfl) (by kernel_rfl) (by have e1 : ((↑(stmtsF p.vars.length p.arrays.length d c ss).snd : Int) : Int) = ((↑(stmtsF p.vars.length p.arrays.length d c (List.take k ss)).snd : Int)) := (by rw [stmtsF, ← foldF_full (k := k) (by omega)]); first | (rw [e1]; done) | (rw [e1]; rfl) | (simp only [e1]; done) | (simp only [e1]; rfl)) (by have e1 : ((stmtsF p.vars.length p.arrays.length d c ss).fst : Bool) = (true) := (by rw [stmtsF, ← foldF_full (k := k) (by omega)]; exact hp.2); first | (rw [e1]; done) | (rw [e1]; rfl) | (simp only [e1]; done) | (simp only [e1]; rfl))
  ·
   have q0 : (↑k : Int) < (↑ss.length : Int) := of_decide_eq_true h0
   refine rT G (decide ((↑k : Int) < (↑ss.length : Int))) (by assumption) ?_
   refine wp_skip ?_
   refine th_n ?_
   refine wp_seq ?_
   refine wp_block ?_
   refine wp_seq ?_
   refine rs1 (dk := dkP) G ⟨[], [], []⟩ calls_nil trivial [0, 1, 2, 3, 4, 5, 14, 15, 16, 17, 22] [dI p.vars, dI p.arrays, dT p.body, .box [iA (↑(stmtsF p.vars.length p.arrays.length d c (List.take k ss)).snd : Int)], dT ss, .box (pL 0), dE (ss.getD k default).index.kids, dE (ss.getD k default).value.kids, dT (ss.getD k default).body, dT (ss.getD k default).els, .box (sL (ss.getD k default) 6)] [(2, iA n), (3, .ptr 3 0), (4, .ptr 5 0), (8, bA false), (10, .ptr 10 0), (11, .ref 4), (12, iA (↑ss.length : Int)), (13, iA (↑k : Int))] [(0 : Int) ≤ (↑k : Int), (↑k : Int) < (↑ss.length : Int), k < ss.length] ⟨(by simp [h0]), (by assumption), (by have hp := hp; omega), trivial⟩ ?_
   clear G; intro ρ a w G
   refine th_n ?_
   refine wp_seq ?_
   refine rs1 (dk := dkP) G ⟨[(4, _, [0, 1, 2, 3, 6, 7, 8, 9])], [], []⟩ (calls_cons (ih (ss.getD k default) ((stmtsF p.vars.length p.arrays.length d c (List.take k ss)).snd) (n) (by exact stmtsF_le (by omega) hp.2) (by assumption)) calls_nil) trivial [0, 1, 2, 3, 4, 5] [dI p.vars, dI p.arrays, dT p.body, .box [iA (↑(stmtF p.vars.length p.arrays.length d (stmtsF p.vars.length p.arrays.length d c (List.take k ss)).snd (ss.getD k default)).snd : Int)], dT ss, .box (pL 0)] [(2, iA n), (3, .ptr 3 0), (4, .ptr 5 0), (8, bA false), (11, .ref 4), (12, iA (↑ss.length : Int)), (13, iA (↑k : Int)), (22, .v (.bool !(stmtF p.vars.length p.arrays.length d (stmtsF p.vars.length p.arrays.length d c (List.take k ss)).snd (ss.getD k default)).fst))] [] trivial ?_
   clear G; intro ρ a w G
   refine th_n ?_
   cases h1 : (!(stmtF p.vars.length p.arrays.length d (stmtsF p.vars.length p.arrays.length d c (List.take k ss)).snd (ss.getD k default)).fst)
   ·
    have q1 : ((stmtF p.vars.length p.arrays.length d (stmtsF p.vars.length p.arrays.length d c (List.take k ss)).snd (ss.getD k default)).fst) = true := (fun hq => (hq)) (Eq.mp (Bool.not_eq_false' _) h1)
    refine rF G (!(stmtF p.vars.length p.arrays.length d (stmtsF p.vars.length p.arrays.length d c (List.take k ss)).snd (ss.getD k default)).fst) (by assumption) ?_
    refine wp_skip ?_
    refine bl_n ?_
    refine th_n ?_
    refine rs1s G ⟨[], [], []⟩ calls_nil trivial [(2, iA n), (3, .ptr 3 0), (4, .ptr 5 0), (8, bA false), (11, .ref 4), (12, iA (↑ss.length : Int)), (13, iA ((↑k : Int) + 1))] [IntKind.i64.wrap ((↑k : Int) + (1 : Int)) = (↑k : Int) + (1 : Int)] ⟨(by exact w64 (by omega) (by omega)), trivial⟩ ?_
    clear G; intro ρ a w G
    refine th_n ?_
    exact rx_next G (k + 1) (by exact ⟨by omega, by rw [stmtsF, foldF_next hp.2 (by omega)]; assumption⟩) (by have hp := hp; omega) [0, 1, 2, 3, 4, 5] [dI p.vars, dI p.arrays, dT p.body, .box [iA (↑(stmtsF p.vars.length p.arrays.length d c (List.take (k + 1) ss)).snd : Int)], dT ss, .box (pL 0)] [(2, iA n), (3, .ptr 3 0), (4, .ptr 5 0), (8, bA false), (11, .ref 4), (12, iA (↑ss.length : Int)), (13, iA (↑(k + 1) : Int))] (by kernel_rfl) (by kernel_rfl) (by kernel_rfl) (by have e1 : ((↑(stmtsF p.vars.length p.arrays.length d c (List.take (k + 1) ss)).snd : Int) : Int) = ((↑(stmtF p.vars.length p.arrays.length d (stmtsF p.vars.length p.arrays.length d c (List.take k ss)).snd (ss.getD k default)).snd : Int)) := (by rw [stmtsF, foldF_next hp.2 (by omega)]); first | (rw [e1]; done) | (rw [e1]; rfl) | (simp only [e1]; done) | (simp only [e1]; rfl)) (by kernel_rfl)
   ·
    have q1 : ((stmtF p.vars.length p.arrays.length d (stmtsF p.vars.length p.arrays.length d c (List.take k ss)).snd (ss.getD k default)).fst) = false := (fun hq => (hq)) (Eq.mp (Bool.not_eq_true' _) h1)
    refine rT G (!(stmtF p.vars.length p.arrays.length d (stmtsF p.vars.length p.arrays.length d c (List.take k ss)).snd (ss.getD k default)).fst) (by assumption) ?_
    refine wp_seq ?_
    refine rs0s G [(2, iA n), (3, .ptr 3 0), (4, .ptr 5 0), (8, bA false), (11, .ref 4), (12, iA (↑ss.length : Int)), (13, iA (↑k : Int))] ?_
    clear G; intro ρ a w G
    refine th_n ?_
    refine wp_ret ?_
    refine bl_r ?_
    refine th_r ?_
    refine th_r ?_
    refine bl_r ?_
    refine th_r ?_
    exact rx_ret (v := bA false) G [0, 1, 2, 3, 4] (by kernel_rfl) (by kernel_rfl) (by have e1 : ((↑(stmtsF p.vars.length p.arrays.length d c ss).snd : Int) : Int) = ((↑(stmtF p.vars.length p.arrays.length d (stmtsF p.vars.length p.arrays.length d c (List.take k ss)).snd (ss.getD k default)).snd : Int)) := (by rw [stmtsF, foldF_stop hp.2 (by omega) (by assumption)]); first | (rw [e1]; done) | (rw [e1]; rfl) | (simp only [e1]; done) | (simp only [e1]; rfl)) (by have e1 : ((stmtsF p.vars.length p.arrays.length d c ss).fst : Bool) = (false) := (by rw [stmtsF, foldF_stop hp.2 (by omega) (by assumption)]; assumption); first | (rw [e1]; done) | (rw [e1]; rfl) | (simp only [e1]; done) | (simp only [e1]; rfl))

section
variable {nv na : Nat} {s : LStmt}
theorem head1 (k : s.kind = 1 ∨ s.kind = 5) : headB nv na s = (decide (0 ≤ s.target ∧ s.target < nv ∧ s.body.length = 0 ∧ s.els.length = 0 ∧ s.count = 0) && (noneB s.index && rightB nv na s.value)) := by
  rw [headB, partsB, if_pos k, if_neg (by omega), show decide (s.kind = 2) = false from decide_eq_false (by omega), Bool.eq_iff_iff]
  simp only [Bool.and_eq_true, decide_eq_true_eq, Bool.false_or]
  constructor
  · rintro ⟨⟨⟨⟨a, b⟩, c⟩, d⟩, ⟨e, f⟩, g⟩; exact ⟨⟨e, f, a, b, c⟩, d, g⟩
  · rintro ⟨⟨e, f, a, b, c⟩, d, g⟩; exact ⟨⟨⟨⟨a, b⟩, c⟩, d⟩, ⟨e, f⟩, g⟩
theorem head2 (k : s.kind = 2) : headB nv na s = (decide (0 ≤ s.target ∧ s.target < na ∧ s.body.length = 0 ∧ s.els.length = 0 ∧ s.count = 0) && (rightB nv na s.index && (atomB s.index && rightB nv na s.value))) := by
  rw [headB, partsB, if_neg (by omega), if_pos k, if_neg (by omega), show decide (s.kind = 2) = true from decide_eq_true k, Bool.eq_iff_iff]
  simp only [Bool.and_eq_true, decide_eq_true_eq, Bool.true_or]
  constructor
  · rintro ⟨⟨⟨⟨a, b⟩, c⟩, -⟩, ⟨⟨⟨e, f⟩, i⟩, j⟩, g⟩; exact ⟨⟨e, f, a, b, c⟩, i, j, g⟩
  · rintro ⟨⟨e, f, a, b, c⟩, i, j, g⟩; exact ⟨⟨⟨⟨a, b⟩, c⟩, trivial⟩, ⟨⟨⟨e, f⟩, i⟩, j⟩, g⟩
theorem head3 (k : s.kind = 3) : headB nv na s = (decide (s.target = 0 ∧ s.count = 0) && (noneB s.index && rightB nv na s.value)) := by
  rw [headB, partsB, if_pos (show s.kind = 3 ∨ s.kind = 4 from .inl k), if_neg (show ¬ s.kind = 4 by omega), if_neg (by omega), if_neg (by omega), if_pos k, Bool.eq_iff_iff]
  simp only [Bool.and_eq_true, decide_eq_true_eq]
  constructor
  · rintro ⟨⟨a, b, c⟩, d⟩; exact ⟨⟨a, b⟩, c, d⟩
  · rintro ⟨⟨a, b⟩, c, d⟩; exact ⟨⟨a, b, c⟩, d⟩
theorem head4 (k : s.kind = 4) : headB nv na s = (decide (s.target = 0 ∧ s.els.length = 0 ∧ 1 ≤ s.count ∧ s.count ≤ 3) && (noneB s.index && noneB s.value)) := by
  rw [headB, partsB, if_pos (show s.kind = 3 ∨ s.kind = 4 from .inr k), if_pos k, if_neg (by omega), if_neg (by omega), if_neg (by omega), show decide (s.kind = 4) = true from decide_eq_true k, Bool.eq_iff_iff]
  simp only [Bool.and_eq_true, decide_eq_true_eq]
  constructor
  · rintro ⟨⟨a, ⟨⟨⟨b, c⟩, d⟩, e⟩, f⟩, -⟩; exact ⟨⟨a, b, c, d⟩, e, f⟩
  · rintro ⟨⟨a, b, c, d⟩, e, f⟩; exact ⟨⟨a, ⟨⟨⟨b, c⟩, d⟩, e⟩, f⟩, trivial⟩
theorem head0 (k : ¬ s.kind = 1 ∧ ¬ s.kind = 2 ∧ ¬ s.kind = 3 ∧ ¬ s.kind = 4 ∧ ¬ s.kind = 5) : headB nv na s = false := by
  rw [headB, if_neg (by omega), if_neg (by omega), if_neg (by omega), show decide (s.kind = 4) = false from decide_eq_false (by omega), Bool.and_false]
theorem and_t {p : Prop} [Decidable p] {a b : Bool} (hp : p) (ha : a = true) (hb : b = true) : (decide p && (a && b)) = true := by rw [ha, hb, decide_eq_true hp]; rfl
theorem and_t3 {p : Prop} [Decidable p] {a b c : Bool} (hp : p) (ha : a = true) (hb : b = true) (hc : c = true) : (decide p && (a && (b && c))) = true := by rw [ha, hb, hc, decide_eq_true hp]; rfl
end

set_option maxHeartbeats 4000000 in
set_option maxRecDepth 100000 in
theorem c_stmtS (p : LProg) (d : Nat) (hd : d ≤ 4) (ih : ∀ (ss : List LStmt) (c : Nat) (n : Int), c ≤ 60 → n = 6 - (d : Int) → Ctr.ok Try.prog (stmtsC p d c ss n))
    (s : LStmt) (c : Nat) (n : Int) (hc : c ≤ 60) (hn : n = 5 - (d : Int)) : Ctr.ok Try.prog (stmtC p (d + 1) c s n) := by
  have h100 : decide (n > 5) = false := by simp; omega
  refine rx_enter 149 Try.func181 (by rfl) (by kernel_rfl) (by kernel_rfl) ?_
  intro ι φ ψ w0 w F ρ0 ρ a G
  replace G := Gam.at G [dI p.vars, dI p.arrays, dT p.body, .box [iA (↑c : Int)], dE s.index.kids, dE s.value.kids, dT s.body, dT s.els] [(0, pA 0), (1, sA s 4), (2, iA n), (3, .ptr 3 0)]
  have hl0 : p.vars.length ≤ 9223372036854775807 := G.len 0 (d := .ints p.vars) (by kernel_rfl)
  have hl1 : p.arrays.length ≤ 9223372036854775807 := G.len 1 (d := .ints p.arrays) (by kernel_rfl)
  refine wp_seq ?_
  refine rs0 G [0, 1, 2, 3, 4, 5, 6, 7, 8, 16] [dI p.vars, dI p.arrays, dT p.body, .box [iA (↑c : Int)], dE s.index.kids, dE s.value.kids, dT s.body, dT s.els, .box (pL 0), .box (sL s 4)] [(2, iA n), (3, .ptr 3 0), (4, .ptr 8 0), (5, .ptr 9 0), (8, bA false)] ?_
  clear G; intro ρ a w G
  refine th_n ?_
  refine wp_seq ?_
  refine rs1 (dk := dkP) G ⟨[], [], []⟩ calls_nil trivial [0, 1, 2, 3, 4, 5, 6, 7, 8, 9] [dI p.vars, dI p.arrays, dT p.body, .box [iA ((↑c : Int) + 1)], dE s.index.kids, dE s.value.kids, dT s.body, dT s.els, .box (pL 0), .box (sL s 4)] [(2, iA n), (3, .ptr 3 0), (4, .ptr 8 0), (5, .ptr 9 0), (8, bA false)] [IntKind.i64.wrap ((↑c : Int) + (1 : Int)) = (↑c : Int) + (1 : Int)] ⟨(by exact w64 (by omega) (by omega)), trivial⟩ ?_
  clear G; intro ρ a w G
  refine th_n ?_
  refine wp_seq ?_
  refine wp_seq ?_
  cases h0 : (decide ((↑c : Int) + (1 : Int) > (60 : Int)))
  ·
   have q0 : ¬ ((↑c : Int) + 1 > 60) := of_decide_eq_false h0
   refine rs1s G ⟨[], [(decide ((↑c : Int) + (1 : Int) > (60 : Int)), false)], [(5, 0), (6, 0), (1007, 0)]⟩ calls_nil ⟨(by assumption), trivial⟩ [(2, iA n), (3, .ptr 3 0), (4, .ptr 8 0), (5, .ptr 9 0), (8, bA false), (27, bA (decide (n > 5)))] [] trivial ?_
   clear G; intro ρ a w G
   refine th_n ?_
   refine rF G (decide (n > (5 : Int))) (by assumption) ?_
   refine wp_skip ?_
   refine th_n ?_
   refine wp_seq ?_
   refine rs0s G [(2, iA n), (3, .ptr 3 0), (4, .ptr 8 0), (5, .ptr 9 0), (8, bA false), (9, iA 1), (10, bA false), (11, bA true), (12, bA false), (13, bA false), (14, bA false)] ?_
   clear G; intro ρ a w G
   refine th_n ?_
   refine wp_seq ?_
   refine wp_seq ?_
   refine rs0s G [(2, iA n), (3, .ptr 3 0), (4, .ptr 8 0), (5, .ptr 9 0), (8, bA false), (9, iA 1), (10, bA false), (11, bA true), (12, bA false), (13, bA false), (14, bA false), (29, iA s.kind)] ?_
   clear G; intro ρ a w G
   refine th_n ?_
   refine wp_block ?_
   refine wp_seq ?_
   refine wp_seq ?_
   refine rs0s G [(2, iA n), (3, .ptr 3 0), (4, .ptr 8 0), (5, .ptr 9 0), (8, bA false), (9, iA 1), (10, bA false), (11, bA true), (12, bA false), (13, bA false), (14, bA false), (29, iA s.kind), (30, bA (s.kind == 1))] ?_
   clear G; intro ρ a w G
   refine th_n ?_
   cases h1 : (s.kind == (1 : Int))
   ·
    have q1 : ¬ (s.kind = 1) := ne_of_beq_false h1
    refine rF G (s.kind == (1 : Int)) (by assumption) ?_
    refine rs0s G [(2, iA n), (3, .ptr 3 0), (4, .ptr 8 0), (5, .ptr 9 0), (8, bA false), (9, iA 1), (10, bA false), (11, bA true), (12, bA false), (13, bA false), (14, bA false), (29, iA s.kind), (30, bA (s.kind == 5))] ?_
    clear G; intro ρ a w G
    refine th_n ?_
    cases h2 : (s.kind == (5 : Int))
    ·
     have q2 : ¬ (s.kind = 5) := ne_of_beq_false h2
     refine rF G (s.kind == (5 : Int)) (by assumption) ?_
     refine wp_seq ?_
     refine rs0s G [(2, iA n), (3, .ptr 3 0), (4, .ptr 8 0), (5, .ptr 9 0), (8, bA false), (9, iA 1), (10, bA false), (11, bA true), (12, bA false), (13, bA false), (14, bA false), (29, iA s.kind), (36, bA (s.kind == 2))] ?_
     clear G; intro ρ a w G
     refine th_n ?_
     cases h3 : (s.kind == (2 : Int))
     ·
      have q3 : ¬ (s.kind = 2) := ne_of_beq_false h3
      refine rF G (s.kind == (2 : Int)) (by assumption) ?_
      refine wp_seq ?_
      refine rs0s G [(2, iA n), (3, .ptr 3 0), (4, .ptr 8 0), (5, .ptr 9 0), (8, bA false), (9, iA 1), (10, bA false), (11, bA true), (12, bA false), (13, bA false), (14, bA false), (29, iA s.kind), (41, bA (s.kind == 3))] ?_
      clear G; intro ρ a w G
      refine th_n ?_
      cases h4 : (s.kind == (3 : Int))
      ·
       have q4 : ¬ (s.kind = 3) := ne_of_beq_false h4
       refine rF G (s.kind == (3 : Int)) (by assumption) ?_
       refine wp_seq ?_
       refine rs0s G [(2, iA n), (3, .ptr 3 0), (4, .ptr 8 0), (5, .ptr 9 0), (8, bA false), (9, iA 1), (10, bA false), (11, bA true), (12, bA false), (13, bA false), (14, bA false), (43, bA (s.kind == 4))] ?_
       clear G; intro ρ a w G
       refine th_n ?_
       cases h5 : (s.kind == (4 : Int))
       ·
        have q5 : ¬ (s.kind = 4) := ne_of_beq_false h5
        refine rF G (s.kind == (4 : Int)) (by assumption) ?_
        refine wp_seq ?_
        refine rs0s G [(2, iA n), (3, .ptr 3 0), (4, .ptr 8 0), (5, .ptr 9 0), (8, bA false), (9, iA 1), (10, bA false), (11, bA true), (12, bA false), (13, bA false), (14, bA false)] ?_
        clear G; intro ρ a w G
        refine th_n ?_
        refine wp_ret ?_
        refine bl_r ?_
        refine th_r ?_
        exact rx_ret (v := bA false) G [0, 1, 2, 3, 4, 5, 6, 7] (by kernel_rfl) (by kernel_rfl) (by have e1 : ((↑(stmtF p.vars.length p.arrays.length (d + 1) c s).snd : Int) : Int) = ((↑c : Int) + 1) := (by rw [stmtF_bad (by exact head0 (by omega))]; rfl); first | (rw [e1]; done) | (rw [e1]; rfl) | (simp only [e1]; done) | (simp only [e1]; rfl)) (by have e1 : ((stmtF p.vars.length p.arrays.length (d + 1) c s).fst : Bool) = (false) := (by rw [stmtF_bad (by exact head0 (by omega))]; done); first | (rw [e1]; done) | (rw [e1]; rfl) | (simp only [e1]; done) | (simp only [e1]; rfl))
       ·
        have q5 : s.kind = 4 := eq_of_beq h5
        refine rT G (s.kind == (4 : Int)) (by assumption) ?_
        refine rs0s G [(2, iA n), (3, .ptr 3 0), (4, .ptr 8 0), (5, .ptr 9 0), (8, bA false), (9, iA 1), (10, bA false), (11, bA false), (12, bA true), (13, bA true), (14, bA false)] ?_
        clear G; intro ρ a w G
        refine bl_n ?_
        refine th_n ?_
        refine wp_seq ?_
        refine wp_seq ?_
        cases h6 : (!(decide ((0 : Int) ≤ s.target) && decide (s.target ≤ (0 : Int))))
        ·
         have q6 : (0 ≤ s.target) ∧ (s.target ≤ 0) := (fun hq => And.imp (fun hq => of_decide_eq_true (hq)) (fun hq => of_decide_eq_true (hq)) (Bool.and_eq_true_iff.1 (hq))) (Eq.mp (Bool.not_eq_false' _) h6)
         cases h7 : (!(decide ((1 : Int) ≤ s.count) && decide (s.count ≤ (3 : Int))))
         ·
          have q7 : (1 ≤ s.count) ∧ (s.count ≤ 3) := (fun hq => And.imp (fun hq => of_decide_eq_true (hq)) (fun hq => of_decide_eq_true (hq)) (Bool.and_eq_true_iff.1 (hq))) (Eq.mp (Bool.not_eq_false' _) h7)
          refine rs1s G ⟨[(4, _, []), (11, _, [])], [(!(decide ((0 : Int) ≤ s.target) && decide (s.target ≤ (0 : Int))), false), (true, true), (!(decide ((1 : Int) ≤ s.count) && decide (s.count ≤ (3 : Int))), false), (false, false)], [(7, 0), (8, 0), (9, 1), (10, 1), (11, 1), (12, 1), (13, 0), (1013, 1), (1014, 0), (16, 2), (17, 2), (18, 2), (19, 3), (20, 3), (21, 3), (22, 2), (1022, 3), (1023, 2), (25, 3), (26, 3), (27, 3), (28, 3), (29, 3), (30, 3), (31, 3), (32, 3), (1032, 3), (1033, 3), (35, 3), (36, 3), (37, 3), (38, 1), (39, 1), (40, 1), (41, 1), (42, 3), (1042, 1), (1043, 3)]⟩ (calls_cons (c_within (s.target) (0) (0)) (calls_cons (c_within (s.count) (1) (3)) calls_nil)) ⟨(by assumption), (by kernel_rfl), (by assumption), (by kernel_rfl), trivial⟩ [(2, iA n), (3, .ptr 3 0), (4, .ptr 8 0), (5, .ptr 9 0), (8, bA false), (10, bA false), (11, bA false), (88, bA (decide ((↑s.els.length : Int) > 0)))] [IntKind.i64.wrap ((1 : Int) - (1 : Int)) = (1 : Int) - (1 : Int)] ⟨(by kernel_rfl), trivial⟩ ?_
          clear G; intro ρ a w G
          refine th_n ?_
          cases h8 : (decide ((↑s.els.length : Int) > (0 : Int)))
          ·
           have q8 : ¬ ((↑s.els.length : Int) > 0) := of_decide_eq_false h8
           refine rF G (decide ((↑s.els.length : Int) > (0 : Int))) (by assumption) ?_
           refine wp_skip ?_
           refine th_n ?_
           refine wp_seq ?_
           refine wp_seq ?_
           cases h9 : (!noneB s.index)
           ·
            have q9 : (noneB s.index) = true := (fun hq => (hq)) (Eq.mp (Bool.not_eq_false' _) h9)
            refine rs1s G ⟨[(20, _, [4]), (40, _, [5])], [(false, false), (true, true), (!noneB s.index, false)], [(2, 0), (3, 0), (4, 0), (5, 0), (6, 0), (7, 0), (12, 0), (1013, 0), (15, 0), (16, 0), (17, 0), (18, 1), (19, 1), (20, 1), (21, 1), (22, 0), (1022, 1), (1023, 0), (25, 2), (26, 2), (27, 0), (28, 0), (29, 0), (30, 0), (31, 0), (32, 2), (1032, 0), (1033, 2), (35, 0), (36, 0), (37, 0), (38, 1), (39, 1), (40, 1), (41, 1), (42, 0), (1042, 1), (1043, 0)]⟩ (calls_cons (c_isNone (s.index)) (calls_cons (c_isNone (s.value)) calls_nil)) ⟨(by kernel_rfl), (by kernel_rfl), (by assumption), trivial⟩ [(2, iA n), (3, .ptr 3 0), (4, .ptr 8 0), (5, .ptr 9 0), (8, bA false), (132, .v (.bool !noneB s.value))] [] trivial ?_
            clear G; intro ρ a w G
            refine th_n ?_
            cases h10 : (!noneB s.value)
            ·
             have q10 : (noneB s.value) = true := (fun hq => (hq)) (Eq.mp (Bool.not_eq_false' _) h10)
             refine rF G (!noneB s.value) (by assumption) ?_
             refine wp_skip ?_
             refine th_n ?_
             refine wp_seq ?_
             cases h11 : ((stmtsF p.vars.length p.arrays.length d (c + (1 : Nat)) s.body).fst)
             ·
              refine rs1 (dk := dkP) G ⟨[(6, _, [0, 1, 2, 3, 6])], [((stmtsF p.vars.length p.arrays.length d (c + (1 : Nat)) s.body).fst, false)], [(8, 0), (9, 0), (10, 0), (11, 0), (12, 0), (13, 0), (14, 0), (1015, 0)]⟩ (calls_cons (ih (s.body) (c + 1) (n + 1) (by simp; omega) (by omega)) calls_nil) ⟨(by assumption), trivial⟩ [0, 1, 2, 3, 4, 5, 6, 7] [dI p.vars, dI p.arrays, dT p.body, .box [iA (↑(stmtsF p.vars.length p.arrays.length d (c + 1) s.body).snd : Int)], dE s.index.kids, dE s.value.kids, dT s.body, dT s.els] [(8, bA false)] [IntKind.i64.wrap (n + (1 : Int)) = n + (1 : Int)] ⟨(by exact w64 (by omega) (by omega)), trivial⟩ ?_
              clear G; intro ρ a w G
              refine th_n ?_
              refine wp_ret ?_
              exact rx_ret (v := bA false) G [0, 1, 2, 3, 4, 5, 6, 7] (by kernel_rfl) (by kernel_rfl) (by have e1 : ((↑(stmtF p.vars.length p.arrays.length (d + 1) c s).snd : Int) : Int) = ((↑(stmtsF p.vars.length p.arrays.length d (c + 1) s.body).snd : Int)) := (by rw [stmtF_body (by omega) (by (rw [head4 (by omega)]; exact and_t (by omega) (by assumption) (by assumption))) (by assumption)]; done); first | (rw [e1]; done) | (rw [e1]; rfl) | (simp only [e1]; done) | (simp only [e1]; rfl)) (by have e1 : ((stmtF p.vars.length p.arrays.length (d + 1) c s).fst : Bool) = (false) := (by rw [stmtF_body (by omega) (by (rw [head4 (by omega)]; exact and_t (by omega) (by assumption) (by assumption))) (by assumption)]; assumption); first | (rw [e1]; done) | (rw [e1]; rfl) | (simp only [e1]; done) | (simp only [e1]; rfl))
             ·
              refine rs1 (dk := dkP) G ⟨[(6, _, [0, 1, 2, 3, 6]), (14, _, [0, 1, 2, 3, 7])], [((stmtsF p.vars.length p.arrays.length d (c + (1 : Nat)) s.body).fst, true)], [(8, 0), (9, 0), (10, 0), (11, 0), (12, 0), (13, 0), (14, 0), (1015, 0)]⟩ (calls_cons (ih (s.body) (c + 1) (n + 1) (by simp; omega) (by omega)) (calls_cons (ih (s.els) ((stmtsF p.vars.length p.arrays.length d (c + 1) s.body).snd) (n + 1) (by exact stmtsF_le (by omega) (by assumption)) (by omega)) calls_nil)) ⟨(by assumption), trivial⟩ [0, 1, 2, 3, 4, 5, 6, 7] [dI p.vars, dI p.arrays, dT p.body, .box [iA (↑(stmtsF p.vars.length p.arrays.length d (stmtsF p.vars.length p.arrays.length d (c + 1) s.body).snd s.els).snd : Int)], dE s.index.kids, dE s.value.kids, dT s.body, dT s.els] [(8, bA (stmtsF p.vars.length p.arrays.length d (stmtsF p.vars.length p.arrays.length d (c + 1) s.body).snd s.els).fst)] [IntKind.i64.wrap (n + (1 : Int)) = n + (1 : Int), IntKind.i64.wrap (n + (1 : Int)) = n + (1 : Int)] ⟨(by exact w64 (by omega) (by omega)), (by exact w64 (by omega) (by omega)), trivial⟩ ?_
              clear G; intro ρ a w G
              refine th_n ?_
              refine wp_ret ?_
              exact rx_ret (v := bA (stmtsF p.vars.length p.arrays.length d (stmtsF p.vars.length p.arrays.length d (c + 1) s.body).snd s.els).fst) G [0, 1, 2, 3, 4, 5, 6, 7] (by kernel_rfl) (by kernel_rfl) (by have e1 : ((↑(stmtF p.vars.length p.arrays.length (d + 1) c s).snd : Int) : Int) = ((↑(stmtsF p.vars.length p.arrays.length d (stmtsF p.vars.length p.arrays.length d (c + 1) s.body).snd s.els).snd : Int)) := (by rw [stmtF_els (by omega) (by (rw [head4 (by omega)]; exact and_t (by omega) (by assumption) (by assumption))) (by assumption)]; done); first | (rw [e1]; done) | (rw [e1]; rfl) | (simp only [e1]; done) | (simp only [e1]; rfl)) (by have e1 : ((stmtF p.vars.length p.arrays.length (d + 1) c s).fst : Bool) = ((stmtsF p.vars.length p.arrays.length d (stmtsF p.vars.length p.arrays.length d (c + 1) s.body).snd s.els).fst) := (by rw [stmtF_els (by omega) (by (rw [head4 (by omega)]; exact and_t (by omega) (by assumption) (by assumption))) (by assumption)]; done); first | (rw [e1]; done) | (rw [e1]; rfl) | (simp only [e1]; done) | (simp only [e1]; rfl))
            ·
             have q10 : (noneB s.value) = false := (fun hq => (hq)) (Eq.mp (Bool.not_eq_true' _) h10)
             refine rT G (!noneB s.value) (by assumption) ?_
             refine wp_seq ?_
             refine rs0s G [(2, iA n), (3, .ptr 3 0), (4, .ptr 8 0), (5, .ptr 9 0), (8, bA false)] ?_
             clear G; intro ρ a w G
             refine th_n ?_
             refine wp_ret ?_
             refine th_r ?_
             exact rx_ret (v := bA false) G [0, 1, 2, 3, 4, 5, 6, 7] (by kernel_rfl) (by kernel_rfl) (by have e1 : ((↑(stmtF p.vars.length p.arrays.length (d + 1) c s).snd : Int) : Int) = ((↑c : Int) + 1) := (by rw [stmtF_bad (by (rw [head4 (by omega)]; simp [h100, h0, q0, h1, q1, h2, q2, h3, q3, h4, q4, h5, q5, h6, q6, h7, q7, h8, q8, h9, q9, h10, q10]; done))]; rfl); first | (rw [e1]; done) | (rw [e1]; rfl) | (simp only [e1]; done) | (simp only [e1]; rfl)) (by have e1 : ((stmtF p.vars.length p.arrays.length (d + 1) c s).fst : Bool) = (false) := (by rw [stmtF_bad (by (rw [head4 (by omega)]; simp [h100, h0, q0, h1, q1, h2, q2, h3, q3, h4, q4, h5, q5, h6, q6, h7, q7, h8, q8, h9, q9, h10, q10]; done))]; done); first | (rw [e1]; done) | (rw [e1]; rfl) | (simp only [e1]; done) | (simp only [e1]; rfl))
           ·
            have q9 : (noneB s.index) = false := (fun hq => (hq)) (Eq.mp (Bool.not_eq_true' _) h9)
            refine rs1s G ⟨[(20, _, [4])], [(false, false), (true, true), (!noneB s.index, true)], [(2, 0), (3, 0), (4, 0), (5, 0), (6, 0), (7, 0), (12, 0), (1013, 0), (15, 0), (16, 0), (17, 0), (18, 1), (19, 1), (20, 1), (21, 1), (22, 0), (1022, 1), (1023, 0), (25, 2), (26, 2), (32, 2), (1033, 2), (35, 1), (36, 1), (37, 1), (42, 1), (1043, 1)]⟩ (calls_cons (c_isNone (s.index)) calls_nil) ⟨(by kernel_rfl), (by kernel_rfl), (by assumption), trivial⟩ [(2, iA n), (3, .ptr 3 0), (4, .ptr 8 0), (5, .ptr 9 0), (8, bA false), (132, bA true)] [] trivial ?_
            clear G; intro ρ a w G
            refine th_n ?_
            refine rT G (true) (by kernel_rfl) ?_
            refine wp_seq ?_
            refine rs0s G [(2, iA n), (3, .ptr 3 0), (4, .ptr 8 0), (5, .ptr 9 0), (8, bA false)] ?_
            clear G; intro ρ a w G
            refine th_n ?_
            refine wp_ret ?_
            refine th_r ?_
            exact rx_ret (v := bA false) G [0, 1, 2, 3, 4, 5, 6, 7] (by kernel_rfl) (by kernel_rfl) (by have e1 : ((↑(stmtF p.vars.length p.arrays.length (d + 1) c s).snd : Int) : Int) = ((↑c : Int) + 1) := (by rw [stmtF_bad (by (rw [head4 (by omega)]; simp [h100, h0, q0, h1, q1, h2, q2, h3, q3, h4, q4, h5, q5, h6, q6, h7, q7, h8, q8, h9, q9]; done))]; rfl); first | (rw [e1]; done) | (rw [e1]; rfl) | (simp only [e1]; done) | (simp only [e1]; rfl)) (by have e1 : ((stmtF p.vars.length p.arrays.length (d + 1) c s).fst : Bool) = (false) := (by rw [stmtF_bad (by (rw [head4 (by omega)]; simp [h100, h0, q0, h1, q1, h2, q2, h3, q3, h4, q4, h5, q5, h6, q6, h7, q7, h8, q8, h9, q9]; done))]; done); first | (rw [e1]; done) | (rw [e1]; rfl) | (simp only [e1]; done) | (simp only [e1]; rfl))
          ·
           have q8 : (↑s.els.length : Int) > 0 := of_decide_eq_true h8
           refine rT G (decide ((↑s.els.length : Int) > (0 : Int))) (by assumption) ?_
           refine wp_seq ?_
           refine rs0s G [(2, iA n), (3, .ptr 3 0), (4, .ptr 8 0), (5, .ptr 9 0), (8, bA false), (10, bA false), (11, bA false)] ?_
           clear G; intro ρ a w G
           refine th_n ?_
           refine wp_ret ?_
           refine th_r ?_
           exact rx_ret (v := bA false) G [0, 1, 2, 3, 4, 5, 6, 7] (by kernel_rfl) (by kernel_rfl) (by have e1 : ((↑(stmtF p.vars.length p.arrays.length (d + 1) c s).snd : Int) : Int) = ((↑c : Int) + 1) := (by rw [stmtF_bad (by (rw [head4 (by omega), decide_eq_false (by omega)]; rfl))]; rfl); first | (rw [e1]; done) | (rw [e1]; rfl) | (simp only [e1]; done) | (simp only [e1]; rfl)) (by have e1 : ((stmtF p.vars.length p.arrays.length (d + 1) c s).fst : Bool) = (false) := (by rw [stmtF_bad (by (rw [head4 (by omega), decide_eq_false (by omega)]; rfl))]; done); first | (rw [e1]; done) | (rw [e1]; rfl) | (simp only [e1]; done) | (simp only [e1]; rfl))
         ·
          have q7 : (¬ (1 ≤ s.count)) ∨ (¬ (s.count ≤ 3)) := (fun hq => Or.imp (fun hq => of_decide_eq_false (hq)) (fun hq => of_decide_eq_false (hq)) (Bool.and_eq_false_iff.1 (hq))) (Eq.mp (Bool.not_eq_true' _) h7)
          refine rs1s G ⟨[(4, _, []), (11, _, [])], [(!(decide ((0 : Int) ≤ s.target) && decide (s.target ≤ (0 : Int))), false), (true, true), (!(decide ((1 : Int) ≤ s.count) && decide (s.count ≤ (3 : Int))), true)], [(7, 0), (8, 0), (9, 1), (10, 1), (11, 1), (12, 1), (13, 0), (1013, 1), (1014, 0), (16, 2), (17, 2), (18, 2), (22, 2), (1023, 2), (25, 1), (26, 1), (27, 1), (32, 1), (1033, 1), (35, 1), (36, 1), (37, 1), (42, 1), (1043, 1)]⟩ (calls_cons (c_within (s.target) (0) (0)) (calls_cons (c_within (s.count) (1) (3)) calls_nil)) ⟨(by assumption), (by kernel_rfl), (by assumption), trivial⟩ [(2, iA n), (3, .ptr 3 0), (4, .ptr 8 0), (5, .ptr 9 0), (8, bA false), (10, bA false), (11, bA false), (88, bA true)] [IntKind.i64.wrap ((1 : Int) - (1 : Int)) = (1 : Int) - (1 : Int)] ⟨(by kernel_rfl), trivial⟩ ?_
          clear G; intro ρ a w G
          refine th_n ?_
          refine rT G (true) (by kernel_rfl) ?_
          refine wp_seq ?_
          refine rs0s G [(2, iA n), (3, .ptr 3 0), (4, .ptr 8 0), (5, .ptr 9 0), (8, bA false), (10, bA false), (11, bA false)] ?_
          clear G; intro ρ a w G
          refine th_n ?_
          refine wp_ret ?_
          refine th_r ?_
          exact rx_ret (v := bA false) G [0, 1, 2, 3, 4, 5, 6, 7] (by kernel_rfl) (by kernel_rfl) (by have e1 : ((↑(stmtF p.vars.length p.arrays.length (d + 1) c s).snd : Int) : Int) = ((↑c : Int) + 1) := (by rw [stmtF_bad (by (rw [head4 (by omega), decide_eq_false (by omega)]; rfl))]; rfl); first | (rw [e1]; done) | (rw [e1]; rfl) | (simp only [e1]; done) | (simp only [e1]; rfl)) (by have e1 : ((stmtF p.vars.length p.arrays.length (d + 1) c s).fst : Bool) = (false) := (by rw [stmtF_bad (by (rw [head4 (by omega), decide_eq_false (by omega)]; rfl))]; done); first | (rw [e1]; done) | (rw [e1]; rfl) | (simp only [e1]; done) | (simp only [e1]; rfl))
        ·
         have q6 : (¬ (0 ≤ s.target)) ∨ (¬ (s.target ≤ 0)) := (fun hq => Or.imp (fun hq => of_decide_eq_false (hq)) (fun hq => of_decide_eq_false (hq)) (Bool.and_eq_false_iff.1 (hq))) (Eq.mp (Bool.not_eq_true' _) h6)
         refine rs1s G ⟨[(4, _, [])], [(!(decide ((0 : Int) ≤ s.target) && decide (s.target ≤ (0 : Int))), true), (true, true)], [(7, 0), (8, 0), (13, 0), (1014, 0), (16, 1), (17, 1), (18, 1), (22, 1), (1023, 1), (25, 1), (26, 1), (27, 1), (32, 1), (1033, 1), (35, 1), (36, 1), (37, 1), (42, 1), (1043, 1)]⟩ (calls_cons (c_within (s.target) (0) (0)) calls_nil) ⟨(by assumption), (by kernel_rfl), trivial⟩ [(2, iA n), (3, .ptr 3 0), (4, .ptr 8 0), (5, .ptr 9 0), (8, bA false), (10, bA false), (11, bA false), (88, bA true)] [IntKind.i64.wrap ((1 : Int) - (1 : Int)) = (1 : Int) - (1 : Int)] ⟨(by kernel_rfl), trivial⟩ ?_
         clear G; intro ρ a w G
         refine th_n ?_
         refine rT G (true) (by kernel_rfl) ?_
         refine wp_seq ?_
         refine rs0s G [(2, iA n), (3, .ptr 3 0), (4, .ptr 8 0), (5, .ptr 9 0), (8, bA false), (10, bA false), (11, bA false)] ?_
         clear G; intro ρ a w G
         refine th_n ?_
         refine wp_ret ?_
         refine th_r ?_
         exact rx_ret (v := bA false) G [0, 1, 2, 3, 4, 5, 6, 7] (by kernel_rfl) (by kernel_rfl) (by have e1 : ((↑(stmtF p.vars.length p.arrays.length (d + 1) c s).snd : Int) : Int) = ((↑c : Int) + 1) := (by rw [stmtF_bad (by (rw [head4 (by omega), decide_eq_false (by omega)]; rfl))]; rfl); first | (rw [e1]; done) | (rw [e1]; rfl) | (simp only [e1]; done) | (simp only [e1]; rfl)) (by have e1 : ((stmtF p.vars.length p.arrays.length (d + 1) c s).fst : Bool) = (false) := (by rw [stmtF_bad (by (rw [head4 (by omega), decide_eq_false (by omega)]; rfl))]; done); first | (rw [e1]; done) | (rw [e1]; rfl) | (simp only [e1]; done) | (simp only [e1]; rfl))
      ·
       have q4 : s.kind = 3 := eq_of_beq h4
       refine rT G (s.kind == (3 : Int)) (by assumption) ?_
       refine rs0s G [(2, iA n), (3, .ptr 3 0), (4, .ptr 8 0), (5, .ptr 9 0), (8, bA false), (9, iA 1), (10, bA false), (11, bA true), (12, bA false), (13, bA true), (14, bA true)] ?_
       clear G; intro ρ a w G
       refine bl_n ?_
       refine th_n ?_
       refine wp_seq ?_
       refine wp_seq ?_
       cases h12 : (!(decide ((0 : Int) ≤ s.target) && decide (s.target ≤ (0 : Int))))
       ·
        have q12 : (0 ≤ s.target) ∧ (s.target ≤ 0) := (fun hq => And.imp (fun hq => of_decide_eq_true (hq)) (fun hq => of_decide_eq_true (hq)) (Bool.and_eq_true_iff.1 (hq))) (Eq.mp (Bool.not_eq_false' _) h12)
        cases h13 : (s.count != (0 : Int))
        ·
         have q13 : s.count = 0 := (by simpa using h13)
         refine rs1s G ⟨[(4, _, [])], [(!(decide ((0 : Int) ≤ s.target) && decide (s.target ≤ (0 : Int))), false), (false, false), (true, true), (s.count != (0 : Int), false)], [(7, 0), (8, 0), (9, 1), (10, 1), (11, 1), (12, 1), (13, 0), (1013, 1), (1014, 0), (16, 1), (17, 1), (18, 1), (19, 2), (20, 2), (21, 2), (22, 1), (1022, 2), (1023, 1), (25, 3), (26, 3), (27, 3), (28, 1), (29, 1), (30, 1), (31, 1), (32, 3), (1032, 1), (1033, 3), (35, 1), (36, 1), (37, 1), (38, 1), (39, 1), (40, 1), (41, 1), (42, 1), (1042, 1), (1043, 1)]⟩ (calls_cons (c_within (s.target) (0) (0)) calls_nil) ⟨(by assumption), (by kernel_rfl), (by kernel_rfl), (by assumption), trivial⟩ [(2, iA n), (3, .ptr 3 0), (4, .ptr 8 0), (5, .ptr 9 0), (8, bA false), (10, bA false), (11, bA true), (88, bA false)] [IntKind.i64.wrap ((1 : Int) - (1 : Int)) = (1 : Int) - (1 : Int)] ⟨(by kernel_rfl), trivial⟩ ?_
         clear G; intro ρ a w G
         refine th_n ?_
         refine rF G (false) (by kernel_rfl) ?_
         refine wp_skip ?_
         refine th_n ?_
         refine wp_seq ?_
         refine wp_seq ?_
         cases h14 : (!noneB s.index)
         ·
          have q14 : (noneB s.index) = true := (fun hq => (hq)) (Eq.mp (Bool.not_eq_false' _) h14)
          cases h15 : (!rightB p.vars.length p.arrays.length s.value)
          ·
           have q15 : (rightB p.vars.length p.arrays.length s.value) = true := (fun hq => (hq)) (Eq.mp (Bool.not_eq_false' _) h15)
           refine rs1s G ⟨[(20, _, [4]), (30, _, [0, 1, 2, 5])], [(false, false), (true, true), (!noneB s.index, false), (!rightB p.vars.length p.arrays.length s.value, false)], [(2, 0), (3, 0), (4, 0), (5, 0), (6, 0), (7, 0), (12, 0), (1013, 0), (15, 0), (16, 0), (17, 0), (18, 1), (19, 1), (20, 1), (21, 1), (22, 0), (1022, 1), (1023, 0), (25, 2), (26, 2), (27, 1), (28, 1), (29, 1), (30, 1), (31, 1), (32, 2), (1032, 1), (1033, 2), (35, 3), (36, 3), (37, 3), (38, 0), (39, 0), (40, 0), (41, 0), (42, 3), (1042, 0), (1043, 3)]⟩ (calls_cons (c_isNone (s.index)) (calls_cons (c_expr (p) (s.value)) calls_nil)) ⟨(by kernel_rfl), (by kernel_rfl), (by assumption), (by assumption), trivial⟩ [(2, iA n), (3, .ptr 3 0), (4, .ptr 8 0), (5, .ptr 9 0), (8, bA false), (132, bA false)] [] trivial ?_
           clear G; intro ρ a w G
           refine th_n ?_
           refine rF G (false) (by kernel_rfl) ?_
           refine wp_skip ?_
           refine th_n ?_
           refine wp_seq ?_
           cases h16 : ((stmtsF p.vars.length p.arrays.length d (c + (1 : Nat)) s.body).fst)
           ·
            refine rs1 (dk := dkP) G ⟨[(6, _, [0, 1, 2, 3, 6])], [((stmtsF p.vars.length p.arrays.length d (c + (1 : Nat)) s.body).fst, false)], [(8, 0), (9, 0), (10, 0), (11, 0), (12, 0), (13, 0), (14, 0), (1015, 0)]⟩ (calls_cons (ih (s.body) (c + 1) (n + 1) (by simp; omega) (by omega)) calls_nil) ⟨(by assumption), trivial⟩ [0, 1, 2, 3, 4, 5, 6, 7] [dI p.vars, dI p.arrays, dT p.body, .box [iA (↑(stmtsF p.vars.length p.arrays.length d (c + 1) s.body).snd : Int)], dE s.index.kids, dE s.value.kids, dT s.body, dT s.els] [(8, bA false)] [IntKind.i64.wrap (n + (1 : Int)) = n + (1 : Int)] ⟨(by exact w64 (by omega) (by omega)), trivial⟩ ?_
            clear G; intro ρ a w G
            refine th_n ?_
            refine wp_ret ?_
            exact rx_ret (v := bA false) G [0, 1, 2, 3, 4, 5, 6, 7] (by kernel_rfl) (by kernel_rfl) (by have e1 : ((↑(stmtF p.vars.length p.arrays.length (d + 1) c s).snd : Int) : Int) = ((↑(stmtsF p.vars.length p.arrays.length d (c + 1) s.body).snd : Int)) := (by rw [stmtF_body (by omega) (by (rw [head3 (by omega)]; exact and_t (by omega) (by assumption) (by assumption))) (by assumption)]; done); first | (rw [e1]; done) | (rw [e1]; rfl) | (simp only [e1]; done) | (simp only [e1]; rfl)) (by have e1 : ((stmtF p.vars.length p.arrays.length (d + 1) c s).fst : Bool) = (false) := (by rw [stmtF_body (by omega) (by (rw [head3 (by omega)]; exact and_t (by omega) (by assumption) (by assumption))) (by assumption)]; assumption); first | (rw [e1]; done) | (rw [e1]; rfl) | (simp only [e1]; done) | (simp only [e1]; rfl))
           ·
            refine rs1 (dk := dkP) G ⟨[(6, _, [0, 1, 2, 3, 6]), (14, _, [0, 1, 2, 3, 7])], [((stmtsF p.vars.length p.arrays.length d (c + (1 : Nat)) s.body).fst, true)], [(8, 0), (9, 0), (10, 0), (11, 0), (12, 0), (13, 0), (14, 0), (1015, 0)]⟩ (calls_cons (ih (s.body) (c + 1) (n + 1) (by simp; omega) (by omega)) (calls_cons (ih (s.els) ((stmtsF p.vars.length p.arrays.length d (c + 1) s.body).snd) (n + 1) (by exact stmtsF_le (by omega) (by assumption)) (by omega)) calls_nil)) ⟨(by assumption), trivial⟩ [0, 1, 2, 3, 4, 5, 6, 7] [dI p.vars, dI p.arrays, dT p.body, .box [iA (↑(stmtsF p.vars.length p.arrays.length d (stmtsF p.vars.length p.arrays.length d (c + 1) s.body).snd s.els).snd : Int)], dE s.index.kids, dE s.value.kids, dT s.body, dT s.els] [(8, bA (stmtsF p.vars.length p.arrays.length d (stmtsF p.vars.length p.arrays.length d (c + 1) s.body).snd s.els).fst)] [IntKind.i64.wrap (n + (1 : Int)) = n + (1 : Int), IntKind.i64.wrap (n + (1 : Int)) = n + (1 : Int)] ⟨(by exact w64 (by omega) (by omega)), (by exact w64 (by omega) (by omega)), trivial⟩ ?_
            clear G; intro ρ a w G
            refine th_n ?_
            refine wp_ret ?_
            exact rx_ret (v := bA (stmtsF p.vars.length p.arrays.length d (stmtsF p.vars.length p.arrays.length d (c + 1) s.body).snd s.els).fst) G [0, 1, 2, 3, 4, 5, 6, 7] (by kernel_rfl) (by kernel_rfl) (by have e1 : ((↑(stmtF p.vars.length p.arrays.length (d + 1) c s).snd : Int) : Int) = ((↑(stmtsF p.vars.length p.arrays.length d (stmtsF p.vars.length p.arrays.length d (c + 1) s.body).snd s.els).snd : Int)) := (by rw [stmtF_els (by omega) (by (rw [head3 (by omega)]; exact and_t (by omega) (by assumption) (by assumption))) (by assumption)]; done); first | (rw [e1]; done) | (rw [e1]; rfl) | (simp only [e1]; done) | (simp only [e1]; rfl)) (by have e1 : ((stmtF p.vars.length p.arrays.length (d + 1) c s).fst : Bool) = ((stmtsF p.vars.length p.arrays.length d (stmtsF p.vars.length p.arrays.length d (c + 1) s.body).snd s.els).fst) := (by rw [stmtF_els (by omega) (by (rw [head3 (by omega)]; exact and_t (by omega) (by assumption) (by assumption))) (by assumption)]; done); first | (rw [e1]; done) | (rw [e1]; rfl) | (simp only [e1]; done) | (simp only [e1]; rfl))
          ·
           have q15 : (rightB p.vars.length p.arrays.length s.value) = false := (fun hq => (hq)) (Eq.mp (Bool.not_eq_true' _) h15)
           refine rs1s G ⟨[(20, _, [4]), (30, _, [0, 1, 2, 5])], [(false, false), (true, true), (!noneB s.index, false), (!rightB p.vars.length p.arrays.length s.value, true)], [(2, 0), (3, 0), (4, 0), (5, 0), (6, 0), (7, 0), (12, 0), (1013, 0), (15, 0), (16, 0), (17, 0), (18, 1), (19, 1), (20, 1), (21, 1), (22, 0), (1022, 1), (1023, 0), (25, 2), (26, 2), (27, 1), (28, 1), (29, 1), (30, 1), (31, 1), (32, 2), (1032, 1), (1033, 2), (35, 3), (36, 3), (37, 3), (42, 3), (1043, 3)]⟩ (calls_cons (c_isNone (s.index)) (calls_cons (c_expr (p) (s.value)) calls_nil)) ⟨(by kernel_rfl), (by kernel_rfl), (by assumption), (by assumption), trivial⟩ [(2, iA n), (3, .ptr 3 0), (4, .ptr 8 0), (5, .ptr 9 0), (8, bA false), (132, bA true)] [] trivial ?_
           clear G; intro ρ a w G
           refine th_n ?_
           refine rT G (true) (by kernel_rfl) ?_
           refine wp_seq ?_
           refine rs0s G [(2, iA n), (3, .ptr 3 0), (4, .ptr 8 0), (5, .ptr 9 0), (8, bA false)] ?_
           clear G; intro ρ a w G
           refine th_n ?_
           refine wp_ret ?_
           refine th_r ?_
           exact rx_ret (v := bA false) G [0, 1, 2, 3, 4, 5, 6, 7] (by kernel_rfl) (by kernel_rfl) (by have e1 : ((↑(stmtF p.vars.length p.arrays.length (d + 1) c s).snd : Int) : Int) = ((↑c : Int) + 1) := (by rw [stmtF_bad (by (rw [head3 (by omega)]; simp [h100, h0, q0, h1, q1, h2, q2, h3, q3, h4, q4, h12, q12, h13, q13, h14, q14, h15, q15]; done))]; rfl); first | (rw [e1]; done) | (rw [e1]; rfl) | (simp only [e1]; done) | (simp only [e1]; rfl)) (by have e1 : ((stmtF p.vars.length p.arrays.length (d + 1) c s).fst : Bool) = (false) := (by rw [stmtF_bad (by (rw [head3 (by omega)]; simp [h100, h0, q0, h1, q1, h2, q2, h3, q3, h4, q4, h12, q12, h13, q13, h14, q14, h15, q15]; done))]; done); first | (rw [e1]; done) | (rw [e1]; rfl) | (simp only [e1]; done) | (simp only [e1]; rfl))
         ·
          have q14 : (noneB s.index) = false := (fun hq => (hq)) (Eq.mp (Bool.not_eq_true' _) h14)
          refine rs1s G ⟨[(20, _, [4])], [(false, false), (true, true), (!noneB s.index, true)], [(2, 0), (3, 0), (4, 0), (5, 0), (6, 0), (7, 0), (12, 0), (1013, 0), (15, 0), (16, 0), (17, 0), (18, 1), (19, 1), (20, 1), (21, 1), (22, 0), (1022, 1), (1023, 0), (25, 2), (26, 2), (32, 2), (1033, 2), (35, 1), (36, 1), (37, 1), (42, 1), (1043, 1)]⟩ (calls_cons (c_isNone (s.index)) calls_nil) ⟨(by kernel_rfl), (by kernel_rfl), (by assumption), trivial⟩ [(2, iA n), (3, .ptr 3 0), (4, .ptr 8 0), (5, .ptr 9 0), (8, bA false), (132, bA true)] [] trivial ?_
          clear G; intro ρ a w G
          refine th_n ?_
          refine rT G (true) (by kernel_rfl) ?_
          refine wp_seq ?_
          refine rs0s G [(2, iA n), (3, .ptr 3 0), (4, .ptr 8 0), (5, .ptr 9 0), (8, bA false)] ?_
          clear G; intro ρ a w G
          refine th_n ?_
          refine wp_ret ?_
          refine th_r ?_
          exact rx_ret (v := bA false) G [0, 1, 2, 3, 4, 5, 6, 7] (by kernel_rfl) (by kernel_rfl) (by have e1 : ((↑(stmtF p.vars.length p.arrays.length (d + 1) c s).snd : Int) : Int) = ((↑c : Int) + 1) := (by rw [stmtF_bad (by (rw [head3 (by omega)]; simp [h100, h0, q0, h1, q1, h2, q2, h3, q3, h4, q4, h12, q12, h13, q13, h14, q14]; done))]; rfl); first | (rw [e1]; done) | (rw [e1]; rfl) | (simp only [e1]; done) | (simp only [e1]; rfl)) (by have e1 : ((stmtF p.vars.length p.arrays.length (d + 1) c s).fst : Bool) = (false) := (by rw [stmtF_bad (by (rw [head3 (by omega)]; simp [h100, h0, q0, h1, q1, h2, q2, h3, q3, h4, q4, h12, q12, h13, q13, h14, q14]; done))]; done); first | (rw [e1]; done) | (rw [e1]; rfl) | (simp only [e1]; done) | (simp only [e1]; rfl))
        ·
         have q13 : ¬ (s.count = 0) := bne_iff_ne.1 h13
         refine rs1s G ⟨[(4, _, [])], [(!(decide ((0 : Int) ≤ s.target) && decide (s.target ≤ (0 : Int))), false), (false, false), (true, true), (s.count != (0 : Int), true)], [(7, 0), (8, 0), (9, 1), (10, 1), (11, 1), (12, 1), (13, 0), (1013, 1), (1014, 0), (16, 1), (17, 1), (18, 1), (19, 2), (20, 2), (21, 2), (22, 1), (1022, 2), (1023, 1), (25, 3), (26, 3), (27, 3), (32, 3), (1033, 3), (35, 2), (36, 2), (37, 2), (42, 2), (1043, 2)]⟩ (calls_cons (c_within (s.target) (0) (0)) calls_nil) ⟨(by assumption), (by kernel_rfl), (by kernel_rfl), (by assumption), trivial⟩ [(2, iA n), (3, .ptr 3 0), (4, .ptr 8 0), (5, .ptr 9 0), (8, bA false), (10, bA false), (11, bA true), (88, bA true)] [IntKind.i64.wrap ((1 : Int) - (1 : Int)) = (1 : Int) - (1 : Int)] ⟨(by kernel_rfl), trivial⟩ ?_
         clear G; intro ρ a w G
         refine th_n ?_
         refine rT G (true) (by kernel_rfl) ?_
         refine wp_seq ?_
         refine rs0s G [(2, iA n), (3, .ptr 3 0), (4, .ptr 8 0), (5, .ptr 9 0), (8, bA false), (10, bA false), (11, bA true)] ?_
         clear G; intro ρ a w G
         refine th_n ?_
         refine wp_ret ?_
         refine th_r ?_
         exact rx_ret (v := bA false) G [0, 1, 2, 3, 4, 5, 6, 7] (by kernel_rfl) (by kernel_rfl) (by have e1 : ((↑(stmtF p.vars.length p.arrays.length (d + 1) c s).snd : Int) : Int) = ((↑c : Int) + 1) := (by rw [stmtF_bad (by (rw [head3 (by omega), decide_eq_false (by omega)]; rfl))]; rfl); first | (rw [e1]; done) | (rw [e1]; rfl) | (simp only [e1]; done) | (simp only [e1]; rfl)) (by have e1 : ((stmtF p.vars.length p.arrays.length (d + 1) c s).fst : Bool) = (false) := (by rw [stmtF_bad (by (rw [head3 (by omega), decide_eq_false (by omega)]; rfl))]; done); first | (rw [e1]; done) | (rw [e1]; rfl) | (simp only [e1]; done) | (simp only [e1]; rfl))
       ·
        have q12 : (¬ (0 ≤ s.target)) ∨ (¬ (s.target ≤ 0)) := (fun hq => Or.imp (fun hq => of_decide_eq_false (hq)) (fun hq => of_decide_eq_false (hq)) (Bool.and_eq_false_iff.1 (hq))) (Eq.mp (Bool.not_eq_true' _) h12)
        refine rs1s G ⟨[(4, _, [])], [(!(decide ((0 : Int) ≤ s.target) && decide (s.target ≤ (0 : Int))), true), (true, true)], [(7, 0), (8, 0), (13, 0), (1014, 0), (16, 1), (17, 1), (18, 1), (22, 1), (1023, 1), (25, 1), (26, 1), (27, 1), (32, 1), (1033, 1), (35, 1), (36, 1), (37, 1), (42, 1), (1043, 1)]⟩ (calls_cons (c_within (s.target) (0) (0)) calls_nil) ⟨(by assumption), (by kernel_rfl), trivial⟩ [(2, iA n), (3, .ptr 3 0), (4, .ptr 8 0), (5, .ptr 9 0), (8, bA false), (10, bA false), (11, bA true), (88, bA true)] [IntKind.i64.wrap ((1 : Int) - (1 : Int)) = (1 : Int) - (1 : Int)] ⟨(by kernel_rfl), trivial⟩ ?_
        clear G; intro ρ a w G
        refine th_n ?_
        refine rT G (true) (by kernel_rfl) ?_
        refine wp_seq ?_
        refine rs0s G [(2, iA n), (3, .ptr 3 0), (4, .ptr 8 0), (5, .ptr 9 0), (8, bA false), (10, bA false), (11, bA true)] ?_
        clear G; intro ρ a w G
        refine th_n ?_
        refine wp_ret ?_
        refine th_r ?_
        exact rx_ret (v := bA false) G [0, 1, 2, 3, 4, 5, 6, 7] (by kernel_rfl) (by kernel_rfl) (by have e1 : ((↑(stmtF p.vars.length p.arrays.length (d + 1) c s).snd : Int) : Int) = ((↑c : Int) + 1) := (by rw [stmtF_bad (by (rw [head3 (by omega), decide_eq_false (by omega)]; rfl))]; rfl); first | (rw [e1]; done) | (rw [e1]; rfl) | (simp only [e1]; done) | (simp only [e1]; rfl)) (by have e1 : ((stmtF p.vars.length p.arrays.length (d + 1) c s).fst : Bool) = (false) := (by rw [stmtF_bad (by (rw [head3 (by omega), decide_eq_false (by omega)]; rfl))]; done); first | (rw [e1]; done) | (rw [e1]; rfl) | (simp only [e1]; done) | (simp only [e1]; rfl))
     ·
      have q3 : s.kind = 2 := eq_of_beq h3
      refine rT G (s.kind == (2 : Int)) (by assumption) ?_
      refine rs0s G [(2, iA n), (3, .ptr 3 0), (4, .ptr 8 0), (5, .ptr 9 0), (8, bA false), (9, iA (↑p.arrays.length : Int)), (10, bA true), (11, bA true), (12, bA false), (13, bA false), (14, bA false)] ?_
      clear G; intro ρ a w G
      refine bl_n ?_
      refine th_n ?_
      refine wp_seq ?_
      refine wp_seq ?_
      cases h17 : (!(decide ((0 : Int) ≤ s.target) && decide (s.target ≤ (↑p.arrays.length : Int) - (1 : Int))))
      ·
       have q17 : (0 ≤ s.target) ∧ (s.target ≤ (↑p.arrays.length : Int) - 1) := (fun hq => And.imp (fun hq => of_decide_eq_true (hq)) (fun hq => of_decide_eq_true (hq)) (Bool.and_eq_true_iff.1 (hq))) (Eq.mp (Bool.not_eq_false' _) h17)
       cases h18 : (s.count != (0 : Int))
       ·
        have q18 : s.count = 0 := (by simpa using h18)
        cases h19 : (decide ((↑s.body.length : Int) > (0 : Int)))
        ·
         have q19 : ¬ ((↑s.body.length : Int) > 0) := of_decide_eq_false h19
         refine rs1s G ⟨[(4, _, [])], [(!(decide ((0 : Int) ≤ s.target) && decide (s.target ≤ (↑p.arrays.length : Int) - (1 : Int))), false), (false, false), (true, true), (s.count != (0 : Int), false), (decide ((↑s.body.length : Int) > (0 : Int)), false)], [(7, 0), (8, 0), (9, 1), (10, 1), (11, 1), (12, 1), (13, 0), (1013, 1), (1014, 0), (16, 1), (17, 1), (18, 1), (19, 2), (20, 2), (21, 2), (22, 1), (1022, 2), (1023, 1), (25, 3), (26, 3), (27, 3), (28, 2), (29, 2), (30, 2), (31, 2), (32, 3), (1032, 2), (1033, 3), (35, 4), (36, 4), (37, 4), (38, 2), (39, 2), (40, 2), (41, 2), (42, 4), (1042, 2), (1043, 4)]⟩ (calls_cons (c_within (s.target) (0) ((↑p.arrays.length : Int) - 1)) calls_nil) ⟨(by assumption), (by kernel_rfl), (by kernel_rfl), (by assumption), (by assumption), trivial⟩ [(2, iA n), (3, .ptr 3 0), (4, .ptr 8 0), (5, .ptr 9 0), (8, bA false), (10, bA true), (11, bA true), (88, bA (decide ((↑s.els.length : Int) > 0)))] [IntKind.i64.wrap ((↑p.arrays.length : Int) - (1 : Int)) = (↑p.arrays.length : Int) - (1 : Int)] ⟨(by exact w64 (by omega) (by omega)), trivial⟩ ?_
         clear G; intro ρ a w G
         refine th_n ?_
         cases h20 : (decide ((↑s.els.length : Int) > (0 : Int)))
         ·
          have q20 : ¬ ((↑s.els.length : Int) > 0) := of_decide_eq_false h20
          refine rF G (decide ((↑s.els.length : Int) > (0 : Int))) (by assumption) ?_
          refine wp_skip ?_
          refine th_n ?_
          refine wp_seq ?_
          refine wp_seq ?_
          cases h21 : (!rightB p.vars.length p.arrays.length s.index)
          ·
           have q21 : (rightB p.vars.length p.arrays.length s.index) = true := (fun hq => (hq)) (Eq.mp (Bool.not_eq_false' _) h21)
           cases h22 : (!atomB s.index)
           ·
            have q22 : (atomB s.index) = true := (fun hq => (hq)) (Eq.mp (Bool.not_eq_false' _) h22)
            cases h23 : (!rightB p.vars.length p.arrays.length s.value)
            ·
             have q23 : (rightB p.vars.length p.arrays.length s.value) = true := (fun hq => (hq)) (Eq.mp (Bool.not_eq_false' _) h23)
             refine rs1s G ⟨[(5, _, [0, 1, 2, 4]), (10, _, [4]), (30, _, [0, 1, 2, 5])], [(true, true), (!rightB p.vars.length p.arrays.length s.index, false), (!atomB s.index, false), (false, false), (!rightB p.vars.length p.arrays.length s.value, false)], [(2, 0), (3, 0), (4, 0), (5, 0), (6, 0), (7, 0), (8, 1), (9, 1), (10, 1), (11, 1), (12, 0), (1012, 1), (1013, 0), (15, 2), (16, 2), (17, 2), (18, 3), (19, 3), (20, 3), (21, 3), (22, 2), (1022, 3), (1023, 2), (25, 3), (26, 3), (27, 0), (28, 0), (29, 0), (30, 0), (31, 0), (32, 3), (1032, 0), (1033, 3), (35, 4), (36, 4), (37, 4), (38, 3), (39, 3), (40, 3), (41, 3), (42, 4), (1042, 3), (1043, 4)]⟩ (calls_cons (c_expr (p) (s.index)) (calls_cons (c_isPlain (s.index)) (calls_cons (c_expr (p) (s.value)) calls_nil))) ⟨(by kernel_rfl), (by assumption), (by assumption), (by kernel_rfl), (by assumption), trivial⟩ [(2, iA n), (3, .ptr 3 0), (4, .ptr 8 0), (5, .ptr 9 0), (8, bA false), (132, bA false)] [] trivial ?_
             clear G; intro ρ a w G
             refine th_n ?_
             refine rF G (false) (by kernel_rfl) ?_
             refine wp_skip ?_
             refine th_n ?_
             refine wp_seq ?_
             cases h24 : ((stmtsF p.vars.length p.arrays.length d (c + (1 : Nat)) s.body).fst)
             ·
              refine rs1 (dk := dkP) G ⟨[(6, _, [0, 1, 2, 3, 6])], [((stmtsF p.vars.length p.arrays.length d (c + (1 : Nat)) s.body).fst, false)], [(8, 0), (9, 0), (10, 0), (11, 0), (12, 0), (13, 0), (14, 0), (1015, 0)]⟩ (calls_cons (ih (s.body) (c + 1) (n + 1) (by simp; omega) (by omega)) calls_nil) ⟨(by assumption), trivial⟩ [0, 1, 2, 3, 4, 5, 6, 7] [dI p.vars, dI p.arrays, dT p.body, .box [iA (↑(stmtsF p.vars.length p.arrays.length d (c + 1) s.body).snd : Int)], dE s.index.kids, dE s.value.kids, dT s.body, dT s.els] [(8, bA false)] [IntKind.i64.wrap (n + (1 : Int)) = n + (1 : Int)] ⟨(by exact w64 (by omega) (by omega)), trivial⟩ ?_
              clear G; intro ρ a w G
              refine th_n ?_
              refine wp_ret ?_
              exact rx_ret (v := bA false) G [0, 1, 2, 3, 4, 5, 6, 7] (by kernel_rfl) (by kernel_rfl) (by have e1 : ((↑(stmtF p.vars.length p.arrays.length (d + 1) c s).snd : Int) : Int) = ((↑(stmtsF p.vars.length p.arrays.length d (c + 1) s.body).snd : Int)) := (by rw [stmtF_body (by omega) (by (rw [head2 (by omega)]; exact and_t3 (by omega) (by assumption) (by assumption) (by assumption))) (by assumption)]; done); first | (rw [e1]; done) | (rw [e1]; rfl) | (simp only [e1]; done) | (simp only [e1]; rfl)) (by have e1 : ((stmtF p.vars.length p.arrays.length (d + 1) c s).fst : Bool) = (false) := (by rw [stmtF_body (by omega) (by (rw [head2 (by omega)]; exact and_t3 (by omega) (by assumption) (by assumption) (by assumption))) (by assumption)]; assumption); first | (rw [e1]; done) | (rw [e1]; rfl) | (simp only [e1]; done) | (simp only [e1]; rfl))
             ·
              refine rs1 (dk := dkP) G ⟨[(6, _, [0, 1, 2, 3, 6]), (14, _, [0, 1, 2, 3, 7])], [((stmtsF p.vars.length p.arrays.length d (c + (1 : Nat)) s.body).fst, true)], [(8, 0), (9, 0), (10, 0), (11, 0), (12, 0), (13, 0), (14, 0), (1015, 0)]⟩ (calls_cons (ih (s.body) (c + 1) (n + 1) (by simp; omega) (by omega)) (calls_cons (ih (s.els) ((stmtsF p.vars.length p.arrays.length d (c + 1) s.body).snd) (n + 1) (by exact stmtsF_le (by omega) (by assumption)) (by omega)) calls_nil)) ⟨(by assumption), trivial⟩ [0, 1, 2, 3, 4, 5, 6, 7] [dI p.vars, dI p.arrays, dT p.body, .box [iA (↑(stmtsF p.vars.length p.arrays.length d (stmtsF p.vars.length p.arrays.length d (c + 1) s.body).snd s.els).snd : Int)], dE s.index.kids, dE s.value.kids, dT s.body, dT s.els] [(8, bA (stmtsF p.vars.length p.arrays.length d (stmtsF p.vars.length p.arrays.length d (c + 1) s.body).snd s.els).fst)] [IntKind.i64.wrap (n + (1 : Int)) = n + (1 : Int), IntKind.i64.wrap (n + (1 : Int)) = n + (1 : Int)] ⟨(by exact w64 (by omega) (by omega)), (by exact w64 (by omega) (by omega)), trivial⟩ ?_
              clear G; intro ρ a w G
              refine th_n ?_
              refine wp_ret ?_
              exact rx_ret (v := bA (stmtsF p.vars.length p.arrays.length d (stmtsF p.vars.length p.arrays.length d (c + 1) s.body).snd s.els).fst) G [0, 1, 2, 3, 4, 5, 6, 7] (by kernel_rfl) (by kernel_rfl) (by have e1 : ((↑(stmtF p.vars.length p.arrays.length (d + 1) c s).snd : Int) : Int) = ((↑(stmtsF p.vars.length p.arrays.length d (stmtsF p.vars.length p.arrays.length d (c + 1) s.body).snd s.els).snd : Int)) := (by rw [stmtF_els (by omega) (by (rw [head2 (by omega)]; exact and_t3 (by omega) (by assumption) (by assumption) (by assumption))) (by assumption)]; done); first | (rw [e1]; done) | (rw [e1]; rfl) | (simp only [e1]; done) | (simp only [e1]; rfl)) (by have e1 : ((stmtF p.vars.length p.arrays.length (d + 1) c s).fst : Bool) = ((stmtsF p.vars.length p.arrays.length d (stmtsF p.vars.length p.arrays.length d (c + 1) s.body).snd s.els).fst) := (by rw [stmtF_els (by omega) (by (rw [head2 (by omega)]; exact and_t3 (by omega) (by assumption) (by assumption) (by assumption))) (by assumption)]; done); first | (rw [e1]; done) | (rw [e1]; rfl) | (simp only [e1]; done) | (simp only [e1]; rfl))
            ·
             have q23 : (rightB p.vars.length p.arrays.length s.value) = false := (fun hq => (hq)) (Eq.mp (Bool.not_eq_true' _) h23)
             refine rs1s G ⟨[(5, _, [0, 1, 2, 4]), (10, _, [4]), (30, _, [0, 1, 2, 5])], [(true, true), (!rightB p.vars.length p.arrays.length s.index, false), (!atomB s.index, false), (false, false), (!rightB p.vars.length p.arrays.length s.value, true)], [(2, 0), (3, 0), (4, 0), (5, 0), (6, 0), (7, 0), (8, 1), (9, 1), (10, 1), (11, 1), (12, 0), (1012, 1), (1013, 0), (15, 2), (16, 2), (17, 2), (18, 3), (19, 3), (20, 3), (21, 3), (22, 2), (1022, 3), (1023, 2), (25, 3), (26, 3), (27, 0), (28, 0), (29, 0), (30, 0), (31, 0), (32, 3), (1032, 0), (1033, 3), (35, 4), (36, 4), (37, 4), (42, 4), (1043, 4)]⟩ (calls_cons (c_expr (p) (s.index)) (calls_cons (c_isPlain (s.index)) (calls_cons (c_expr (p) (s.value)) calls_nil))) ⟨(by kernel_rfl), (by assumption), (by assumption), (by kernel_rfl), (by assumption), trivial⟩ [(2, iA n), (3, .ptr 3 0), (4, .ptr 8 0), (5, .ptr 9 0), (8, bA false), (132, bA true)] [] trivial ?_
             clear G; intro ρ a w G
             refine th_n ?_
             refine rT G (true) (by kernel_rfl) ?_
             refine wp_seq ?_
             refine rs0s G [(2, iA n), (3, .ptr 3 0), (4, .ptr 8 0), (5, .ptr 9 0), (8, bA false)] ?_
             clear G; intro ρ a w G
             refine th_n ?_
             refine wp_ret ?_
             refine th_r ?_
             exact rx_ret (v := bA false) G [0, 1, 2, 3, 4, 5, 6, 7] (by kernel_rfl) (by kernel_rfl) (by have e1 : ((↑(stmtF p.vars.length p.arrays.length (d + 1) c s).snd : Int) : Int) = ((↑c : Int) + 1) := (by rw [stmtF_bad (by (rw [head2 (by omega)]; simp [h100, h0, q0, h1, q1, h2, q2, h3, q3, h17, q17, h18, q18, h19, q19, h20, q20, h21, q21, h22, q22, h23, q23]; done))]; rfl); first | (rw [e1]; done) | (rw [e1]; rfl) | (simp only [e1]; done) | (simp only [e1]; rfl)) (by have e1 : ((stmtF p.vars.length p.arrays.length (d + 1) c s).fst : Bool) = (false) := (by rw [stmtF_bad (by (rw [head2 (by omega)]; simp [h100, h0, q0, h1, q1, h2, q2, h3, q3, h17, q17, h18, q18, h19, q19, h20, q20, h21, q21, h22, q22, h23, q23]; done))]; done); first | (rw [e1]; done) | (rw [e1]; rfl) | (simp only [e1]; done) | (simp only [e1]; rfl))
           ·
            have q22 : (atomB s.index) = false := (fun hq => (hq)) (Eq.mp (Bool.not_eq_true' _) h22)
            refine rs1s G ⟨[(5, _, [0, 1, 2, 4]), (10, _, [4])], [(true, true), (!rightB p.vars.length p.arrays.length s.index, false), (!atomB s.index, true)], [(2, 0), (3, 0), (4, 0), (5, 0), (6, 0), (7, 0), (8, 1), (9, 1), (10, 1), (11, 1), (12, 0), (1012, 1), (1013, 0), (15, 2), (16, 2), (17, 2), (22, 2), (1023, 2), (25, 0), (26, 0), (32, 0), (1033, 0), (35, 0), (36, 0), (37, 0), (42, 0), (1043, 0)]⟩ (calls_cons (c_expr (p) (s.index)) (calls_cons (c_isPlain (s.index)) calls_nil)) ⟨(by kernel_rfl), (by assumption), (by assumption), trivial⟩ [(2, iA n), (3, .ptr 3 0), (4, .ptr 8 0), (5, .ptr 9 0), (8, bA false), (132, bA true)] [] trivial ?_
            clear G; intro ρ a w G
            refine th_n ?_
            refine rT G (true) (by kernel_rfl) ?_
            refine wp_seq ?_
            refine rs0s G [(2, iA n), (3, .ptr 3 0), (4, .ptr 8 0), (5, .ptr 9 0), (8, bA false)] ?_
            clear G; intro ρ a w G
            refine th_n ?_
            refine wp_ret ?_
            refine th_r ?_
            exact rx_ret (v := bA false) G [0, 1, 2, 3, 4, 5, 6, 7] (by kernel_rfl) (by kernel_rfl) (by have e1 : ((↑(stmtF p.vars.length p.arrays.length (d + 1) c s).snd : Int) : Int) = ((↑c : Int) + 1) := (by rw [stmtF_bad (by (rw [head2 (by omega)]; simp [h100, h0, q0, h1, q1, h2, q2, h3, q3, h17, q17, h18, q18, h19, q19, h20, q20, h21, q21, h22, q22]; done))]; rfl); first | (rw [e1]; done) | (rw [e1]; rfl) | (simp only [e1]; done) | (simp only [e1]; rfl)) (by have e1 : ((stmtF p.vars.length p.arrays.length (d + 1) c s).fst : Bool) = (false) := (by rw [stmtF_bad (by (rw [head2 (by omega)]; simp [h100, h0, q0, h1, q1, h2, q2, h3, q3, h17, q17, h18, q18, h19, q19, h20, q20, h21, q21, h22, q22]; done))]; done); first | (rw [e1]; done) | (rw [e1]; rfl) | (simp only [e1]; done) | (simp only [e1]; rfl))
          ·
           have q21 : (rightB p.vars.length p.arrays.length s.index) = false := (fun hq => (hq)) (Eq.mp (Bool.not_eq_true' _) h21)
           refine rs1s G ⟨[(5, _, [0, 1, 2, 4])], [(true, true), (!rightB p.vars.length p.arrays.length s.index, true)], [(2, 0), (3, 0), (4, 0), (5, 0), (6, 0), (7, 0), (8, 1), (9, 1), (10, 1), (11, 1), (12, 0), (1012, 1), (1013, 0), (15, 0), (16, 0), (17, 0), (22, 0), (1023, 0), (25, 0), (26, 0), (32, 0), (1033, 0), (35, 0), (36, 0), (37, 0), (42, 0), (1043, 0)]⟩ (calls_cons (c_expr (p) (s.index)) calls_nil) ⟨(by kernel_rfl), (by assumption), trivial⟩ [(2, iA n), (3, .ptr 3 0), (4, .ptr 8 0), (5, .ptr 9 0), (8, bA false), (132, bA true)] [] trivial ?_
           clear G; intro ρ a w G
           refine th_n ?_
           refine rT G (true) (by kernel_rfl) ?_
           refine wp_seq ?_
           refine rs0s G [(2, iA n), (3, .ptr 3 0), (4, .ptr 8 0), (5, .ptr 9 0), (8, bA false)] ?_
           clear G; intro ρ a w G
           refine th_n ?_
           refine wp_ret ?_
           refine th_r ?_
           exact rx_ret (v := bA false) G [0, 1, 2, 3, 4, 5, 6, 7] (by kernel_rfl) (by kernel_rfl) (by have e1 : ((↑(stmtF p.vars.length p.arrays.length (d + 1) c s).snd : Int) : Int) = ((↑c : Int) + 1) := (by rw [stmtF_bad (by (rw [head2 (by omega)]; simp [h100, h0, q0, h1, q1, h2, q2, h3, q3, h17, q17, h18, q18, h19, q19, h20, q20, h21, q21]; done))]; rfl); first | (rw [e1]; done) | (rw [e1]; rfl) | (simp only [e1]; done) | (simp only [e1]; rfl)) (by have e1 : ((stmtF p.vars.length p.arrays.length (d + 1) c s).fst : Bool) = (false) := (by rw [stmtF_bad (by (rw [head2 (by omega)]; simp [h100, h0, q0, h1, q1, h2, q2, h3, q3, h17, q17, h18, q18, h19, q19, h20, q20, h21, q21]; done))]; done); first | (rw [e1]; done) | (rw [e1]; rfl) | (simp only [e1]; done) | (simp only [e1]; rfl))
         ·
          have q20 : (↑s.els.length : Int) > 0 := of_decide_eq_true h20
          refine rT G (decide ((↑s.els.length : Int) > (0 : Int))) (by assumption) ?_
          refine wp_seq ?_
          refine rs0s G [(2, iA n), (3, .ptr 3 0), (4, .ptr 8 0), (5, .ptr 9 0), (8, bA false), (10, bA true), (11, bA true)] ?_
          clear G; intro ρ a w G
          refine th_n ?_
          refine wp_ret ?_
          refine th_r ?_
          exact rx_ret (v := bA false) G [0, 1, 2, 3, 4, 5, 6, 7] (by kernel_rfl) (by kernel_rfl) (by have e1 : ((↑(stmtF p.vars.length p.arrays.length (d + 1) c s).snd : Int) : Int) = ((↑c : Int) + 1) := (by rw [stmtF_bad (by (rw [head2 (by omega), decide_eq_false (by omega)]; rfl))]; rfl); first | (rw [e1]; done) | (rw [e1]; rfl) | (simp only [e1]; done) | (simp only [e1]; rfl)) (by have e1 : ((stmtF p.vars.length p.arrays.length (d + 1) c s).fst : Bool) = (false) := (by rw [stmtF_bad (by (rw [head2 (by omega), decide_eq_false (by omega)]; rfl))]; done); first | (rw [e1]; done) | (rw [e1]; rfl) | (simp only [e1]; done) | (simp only [e1]; rfl))
        ·
         have q19 : (↑s.body.length : Int) > 0 := of_decide_eq_true h19
         refine rs1s G ⟨[(4, _, [])], [(!(decide ((0 : Int) ≤ s.target) && decide (s.target ≤ (↑p.arrays.length : Int) - (1 : Int))), false), (false, false), (true, true), (s.count != (0 : Int), false), (decide ((↑s.body.length : Int) > (0 : Int)), true)], [(7, 0), (8, 0), (9, 1), (10, 1), (11, 1), (12, 1), (13, 0), (1013, 1), (1014, 0), (16, 1), (17, 1), (18, 1), (19, 2), (20, 2), (21, 2), (22, 1), (1022, 2), (1023, 1), (25, 3), (26, 3), (27, 3), (28, 2), (29, 2), (30, 2), (31, 2), (32, 3), (1032, 2), (1033, 3), (35, 4), (36, 4), (37, 4), (42, 4), (1043, 4)]⟩ (calls_cons (c_within (s.target) (0) ((↑p.arrays.length : Int) - 1)) calls_nil) ⟨(by assumption), (by kernel_rfl), (by kernel_rfl), (by assumption), (by assumption), trivial⟩ [(2, iA n), (3, .ptr 3 0), (4, .ptr 8 0), (5, .ptr 9 0), (8, bA false), (10, bA true), (11, bA true), (88, bA true)] [IntKind.i64.wrap ((↑p.arrays.length : Int) - (1 : Int)) = (↑p.arrays.length : Int) - (1 : Int)] ⟨(by exact w64 (by omega) (by omega)), trivial⟩ ?_
         clear G; intro ρ a w G
         refine th_n ?_
         refine rT G (true) (by kernel_rfl) ?_
         refine wp_seq ?_
         refine rs0s G [(2, iA n), (3, .ptr 3 0), (4, .ptr 8 0), (5, .ptr 9 0), (8, bA false), (10, bA true), (11, bA true)] ?_
         clear G; intro ρ a w G
         refine th_n ?_
         refine wp_ret ?_
         refine th_r ?_
         exact rx_ret (v := bA false) G [0, 1, 2, 3, 4, 5, 6, 7] (by kernel_rfl) (by kernel_rfl) (by have e1 : ((↑(stmtF p.vars.length p.arrays.length (d + 1) c s).snd : Int) : Int) = ((↑c : Int) + 1) := (by rw [stmtF_bad (by (rw [head2 (by omega), decide_eq_false (by omega)]; rfl))]; rfl); first | (rw [e1]; done) | (rw [e1]; rfl) | (simp only [e1]; done) | (simp only [e1]; rfl)) (by have e1 : ((stmtF p.vars.length p.arrays.length (d + 1) c s).fst : Bool) = (false) := (by rw [stmtF_bad (by (rw [head2 (by omega), decide_eq_false (by omega)]; rfl))]; done); first | (rw [e1]; done) | (rw [e1]; rfl) | (simp only [e1]; done) | (simp only [e1]; rfl))
       ·
        have q18 : ¬ (s.count = 0) := bne_iff_ne.1 h18
        refine rs1s G ⟨[(4, _, [])], [(!(decide ((0 : Int) ≤ s.target) && decide (s.target ≤ (↑p.arrays.length : Int) - (1 : Int))), false), (false, false), (true, true), (s.count != (0 : Int), true)], [(7, 0), (8, 0), (9, 1), (10, 1), (11, 1), (12, 1), (13, 0), (1013, 1), (1014, 0), (16, 1), (17, 1), (18, 1), (19, 2), (20, 2), (21, 2), (22, 1), (1022, 2), (1023, 1), (25, 3), (26, 3), (27, 3), (32, 3), (1033, 3), (35, 2), (36, 2), (37, 2), (42, 2), (1043, 2)]⟩ (calls_cons (c_within (s.target) (0) ((↑p.arrays.length : Int) - 1)) calls_nil) ⟨(by assumption), (by kernel_rfl), (by kernel_rfl), (by assumption), trivial⟩ [(2, iA n), (3, .ptr 3 0), (4, .ptr 8 0), (5, .ptr 9 0), (8, bA false), (10, bA true), (11, bA true), (88, bA true)] [IntKind.i64.wrap ((↑p.arrays.length : Int) - (1 : Int)) = (↑p.arrays.length : Int) - (1 : Int)] ⟨(by exact w64 (by omega) (by omega)), trivial⟩ ?_
        clear G; intro ρ a w G
        refine th_n ?_
        refine rT G (true) (by kernel_rfl) ?_
        refine wp_seq ?_
        refine rs0s G [(2, iA n), (3, .ptr 3 0), (4, .ptr 8 0), (5, .ptr 9 0), (8, bA false), (10, bA true), (11, bA true)] ?_
        clear G; intro ρ a w G
        refine th_n ?_
        refine wp_ret ?_
        refine th_r ?_
        exact rx_ret (v := bA false) G [0, 1, 2, 3, 4, 5, 6, 7] (by kernel_rfl) (by kernel_rfl) (by have e1 : ((↑(stmtF p.vars.length p.arrays.length (d + 1) c s).snd : Int) : Int) = ((↑c : Int) + 1) := (by rw [stmtF_bad (by (rw [head2 (by omega), decide_eq_false (by omega)]; rfl))]; rfl); first | (rw [e1]; done) | (rw [e1]; rfl) | (simp only [e1]; done) | (simp only [e1]; rfl)) (by have e1 : ((stmtF p.vars.length p.arrays.length (d + 1) c s).fst : Bool) = (false) := (by rw [stmtF_bad (by (rw [head2 (by omega), decide_eq_false (by omega)]; rfl))]; done); first | (rw [e1]; done) | (rw [e1]; rfl) | (simp only [e1]; done) | (simp only [e1]; rfl))
      ·
       have q17 : (¬ (0 ≤ s.target)) ∨ (¬ (s.target ≤ (↑p.arrays.length : Int) - 1)) := (fun hq => Or.imp (fun hq => of_decide_eq_false (hq)) (fun hq => of_decide_eq_false (hq)) (Bool.and_eq_false_iff.1 (hq))) (Eq.mp (Bool.not_eq_true' _) h17)
       refine rs1s G ⟨[(4, _, [])], [(!(decide ((0 : Int) ≤ s.target) && decide (s.target ≤ (↑p.arrays.length : Int) - (1 : Int))), true), (true, true)], [(7, 0), (8, 0), (13, 0), (1014, 0), (16, 1), (17, 1), (18, 1), (22, 1), (1023, 1), (25, 1), (26, 1), (27, 1), (32, 1), (1033, 1), (35, 1), (36, 1), (37, 1), (42, 1), (1043, 1)]⟩ (calls_cons (c_within (s.target) (0) ((↑p.arrays.length : Int) - 1)) calls_nil) ⟨(by assumption), (by kernel_rfl), trivial⟩ [(2, iA n), (3, .ptr 3 0), (4, .ptr 8 0), (5, .ptr 9 0), (8, bA false), (10, bA true), (11, bA true), (88, bA true)] [IntKind.i64.wrap ((↑p.arrays.length : Int) - (1 : Int)) = (↑p.arrays.length : Int) - (1 : Int)] ⟨(by exact w64 (by omega) (by omega)), trivial⟩ ?_
       clear G; intro ρ a w G
       refine th_n ?_
       refine rT G (true) (by kernel_rfl) ?_
       refine wp_seq ?_
       refine rs0s G [(2, iA n), (3, .ptr 3 0), (4, .ptr 8 0), (5, .ptr 9 0), (8, bA false), (10, bA true), (11, bA true)] ?_
       clear G; intro ρ a w G
       refine th_n ?_
       refine wp_ret ?_
       refine th_r ?_
       exact rx_ret (v := bA false) G [0, 1, 2, 3, 4, 5, 6, 7] (by kernel_rfl) (by kernel_rfl) (by have e1 : ((↑(stmtF p.vars.length p.arrays.length (d + 1) c s).snd : Int) : Int) = ((↑c : Int) + 1) := (by rw [stmtF_bad (by (rw [head2 (by omega), decide_eq_false (by omega)]; rfl))]; rfl); first | (rw [e1]; done) | (rw [e1]; rfl) | (simp only [e1]; done) | (simp only [e1]; rfl)) (by have e1 : ((stmtF p.vars.length p.arrays.length (d + 1) c s).fst : Bool) = (false) := (by rw [stmtF_bad (by (rw [head2 (by omega), decide_eq_false (by omega)]; rfl))]; done); first | (rw [e1]; done) | (rw [e1]; rfl) | (simp only [e1]; done) | (simp only [e1]; rfl))
    ·
     have q2 : s.kind = 5 := eq_of_beq h2
     refine rT G (s.kind == (5 : Int)) (by assumption) ?_
     refine rs0s G [(2, iA n), (3, .ptr 3 0), (4, .ptr 8 0), (5, .ptr 9 0), (8, bA false), (9, iA (↑p.vars.length : Int)), (10, bA false), (11, bA true), (12, bA false), (13, bA false), (14, bA false)] ?_
     clear G; intro ρ a w G
     refine bl_n ?_
     refine th_n ?_
     refine wp_seq ?_
     refine wp_seq ?_
     cases h25 : (!(decide ((0 : Int) ≤ s.target) && decide (s.target ≤ (↑p.vars.length : Int) - (1 : Int))))
     ·
      have q25 : (0 ≤ s.target) ∧ (s.target ≤ (↑p.vars.length : Int) - 1) := (fun hq => And.imp (fun hq => of_decide_eq_true (hq)) (fun hq => of_decide_eq_true (hq)) (Bool.and_eq_true_iff.1 (hq))) (Eq.mp (Bool.not_eq_false' _) h25)
      cases h26 : (s.count != (0 : Int))
      ·
       have q26 : s.count = 0 := (by simpa using h26)
       cases h27 : (decide ((↑s.body.length : Int) > (0 : Int)))
       ·
        have q27 : ¬ ((↑s.body.length : Int) > 0) := of_decide_eq_false h27
        refine rs1s G ⟨[(4, _, [])], [(!(decide ((0 : Int) ≤ s.target) && decide (s.target ≤ (↑p.vars.length : Int) - (1 : Int))), false), (false, false), (true, true), (s.count != (0 : Int), false), (decide ((↑s.body.length : Int) > (0 : Int)), false)], [(7, 0), (8, 0), (9, 1), (10, 1), (11, 1), (12, 1), (13, 0), (1013, 1), (1014, 0), (16, 1), (17, 1), (18, 1), (19, 2), (20, 2), (21, 2), (22, 1), (1022, 2), (1023, 1), (25, 3), (26, 3), (27, 3), (28, 2), (29, 2), (30, 2), (31, 2), (32, 3), (1032, 2), (1033, 3), (35, 4), (36, 4), (37, 4), (38, 2), (39, 2), (40, 2), (41, 2), (42, 4), (1042, 2), (1043, 4)]⟩ (calls_cons (c_within (s.target) (0) ((↑p.vars.length : Int) - 1)) calls_nil) ⟨(by assumption), (by kernel_rfl), (by kernel_rfl), (by assumption), (by assumption), trivial⟩ [(2, iA n), (3, .ptr 3 0), (4, .ptr 8 0), (5, .ptr 9 0), (8, bA false), (10, bA false), (11, bA true), (88, bA (decide ((↑s.els.length : Int) > 0)))] [IntKind.i64.wrap ((↑p.vars.length : Int) - (1 : Int)) = (↑p.vars.length : Int) - (1 : Int)] ⟨(by exact w64 (by omega) (by omega)), trivial⟩ ?_
        clear G; intro ρ a w G
        refine th_n ?_
        cases h28 : (decide ((↑s.els.length : Int) > (0 : Int)))
        ·
         have q28 : ¬ ((↑s.els.length : Int) > 0) := of_decide_eq_false h28
         refine rF G (decide ((↑s.els.length : Int) > (0 : Int))) (by assumption) ?_
         refine wp_skip ?_
         refine th_n ?_
         refine wp_seq ?_
         refine wp_seq ?_
         cases h29 : (!noneB s.index)
         ·
          have q29 : (noneB s.index) = true := (fun hq => (hq)) (Eq.mp (Bool.not_eq_false' _) h29)
          cases h30 : (!rightB p.vars.length p.arrays.length s.value)
          ·
           have q30 : (rightB p.vars.length p.arrays.length s.value) = true := (fun hq => (hq)) (Eq.mp (Bool.not_eq_false' _) h30)
           refine rs1s G ⟨[(20, _, [4]), (30, _, [0, 1, 2, 5])], [(false, false), (true, true), (!noneB s.index, false), (!rightB p.vars.length p.arrays.length s.value, false)], [(2, 0), (3, 0), (4, 0), (5, 0), (6, 0), (7, 0), (12, 0), (1013, 0), (15, 0), (16, 0), (17, 0), (18, 1), (19, 1), (20, 1), (21, 1), (22, 0), (1022, 1), (1023, 0), (25, 2), (26, 2), (27, 1), (28, 1), (29, 1), (30, 1), (31, 1), (32, 2), (1032, 1), (1033, 2), (35, 3), (36, 3), (37, 3), (38, 0), (39, 0), (40, 0), (41, 0), (42, 3), (1042, 0), (1043, 3)]⟩ (calls_cons (c_isNone (s.index)) (calls_cons (c_expr (p) (s.value)) calls_nil)) ⟨(by kernel_rfl), (by kernel_rfl), (by assumption), (by assumption), trivial⟩ [(2, iA n), (3, .ptr 3 0), (4, .ptr 8 0), (5, .ptr 9 0), (8, bA false), (132, bA false)] [] trivial ?_
           clear G; intro ρ a w G
           refine th_n ?_
           refine rF G (false) (by kernel_rfl) ?_
           refine wp_skip ?_
           refine th_n ?_
           refine wp_seq ?_
           cases h31 : ((stmtsF p.vars.length p.arrays.length d (c + (1 : Nat)) s.body).fst)
           ·
            refine rs1 (dk := dkP) G ⟨[(6, _, [0, 1, 2, 3, 6])], [((stmtsF p.vars.length p.arrays.length d (c + (1 : Nat)) s.body).fst, false)], [(8, 0), (9, 0), (10, 0), (11, 0), (12, 0), (13, 0), (14, 0), (1015, 0)]⟩ (calls_cons (ih (s.body) (c + 1) (n + 1) (by simp; omega) (by omega)) calls_nil) ⟨(by assumption), trivial⟩ [0, 1, 2, 3, 4, 5, 6, 7] [dI p.vars, dI p.arrays, dT p.body, .box [iA (↑(stmtsF p.vars.length p.arrays.length d (c + 1) s.body).snd : Int)], dE s.index.kids, dE s.value.kids, dT s.body, dT s.els] [(8, bA false)] [IntKind.i64.wrap (n + (1 : Int)) = n + (1 : Int)] ⟨(by exact w64 (by omega) (by omega)), trivial⟩ ?_
            clear G; intro ρ a w G
            refine th_n ?_
            refine wp_ret ?_
            exact rx_ret (v := bA false) G [0, 1, 2, 3, 4, 5, 6, 7] (by kernel_rfl) (by kernel_rfl) (by have e1 : ((↑(stmtF p.vars.length p.arrays.length (d + 1) c s).snd : Int) : Int) = ((↑(stmtsF p.vars.length p.arrays.length d (c + 1) s.body).snd : Int)) := (by rw [stmtF_body (by omega) (by (rw [head1 (by omega)]; exact and_t (by omega) (by assumption) (by assumption))) (by assumption)]; done); first | (rw [e1]; done) | (rw [e1]; rfl) | (simp only [e1]; done) | (simp only [e1]; rfl)) (by have e1 : ((stmtF p.vars.length p.arrays.length (d + 1) c s).fst : Bool) = (false) := (by rw [stmtF_body (by omega) (by (rw [head1 (by omega)]; exact and_t (by omega) (by assumption) (by assumption))) (by assumption)]; assumption); first | (rw [e1]; done) | (rw [e1]; rfl) | (simp only [e1]; done) | (simp only [e1]; rfl))
           ·
            refine rs1 (dk := dkP) G ⟨[(6, _, [0, 1, 2, 3, 6]), (14, _, [0, 1, 2, 3, 7])], [((stmtsF p.vars.length p.arrays.length d (c + (1 : Nat)) s.body).fst, true)], [(8, 0), (9, 0), (10, 0), (11, 0), (12, 0), (13, 0), (14, 0), (1015, 0)]⟩ (calls_cons (ih (s.body) (c + 1) (n + 1) (by simp; omega) (by omega)) (calls_cons (ih (s.els) ((stmtsF p.vars.length p.arrays.length d (c + 1) s.body).snd) (n + 1) (by exact stmtsF_le (by omega) (by assumption)) (by omega)) calls_nil)) ⟨(by assumption), trivial⟩ [0, 1, 2, 3, 4, 5, 6, 7] [dI p.vars, dI p.arrays, dT p.body, .box [iA (↑(stmtsF p.vars.length p.arrays.length d (stmtsF p.vars.length p.arrays.length d (c + 1) s.body).snd s.els).snd : Int)], dE s.index.kids, dE s.value.kids, dT s.body, dT s.els] [(8, bA (stmtsF p.vars.length p.arrays.length d (stmtsF p.vars.length p.arrays.length d (c + 1) s.body).snd s.els).fst)] [IntKind.i64.wrap (n + (1 : Int)) = n + (1 : Int), IntKind.i64.wrap (n + (1 : Int)) = n + (1 : Int)] ⟨(by exact w64 (by omega) (by omega)), (by exact w64 (by omega) (by omega)), trivial⟩ ?_
            clear G; intro ρ a w G
            refine th_n ?_
            refine wp_ret ?_
            exact rx_ret (v := bA (stmtsF p.vars.length p.arrays.length d (stmtsF p.vars.length p.arrays.length d (c + 1) s.body).snd s.els).fst) G [0, 1, 2, 3, 4, 5, 6, 7] (by kernel_rfl) (by kernel_rfl) (by have e1 : ((↑(stmtF p.vars.length p.arrays.length (d + 1) c s).snd : Int) : Int) = ((↑(stmtsF p.vars.length p.arrays.length d (stmtsF p.vars.length p.arrays.length d (c + 1) s.body).snd s.els).snd : Int)) := (by rw [stmtF_els (by omega) (by (rw [head1 (by omega)]; exact and_t (by omega) (by assumption) (by assumption))) (by assumption)]; done); first | (rw [e1]; done) | (rw [e1]; rfl) | (simp only [e1]; done) | (simp only [e1]; rfl)) (by have e1 : ((stmtF p.vars.length p.arrays.length (d + 1) c s).fst : Bool) = ((stmtsF p.vars.length p.arrays.length d (stmtsF p.vars.length p.arrays.length d (c + 1) s.body).snd s.els).fst) := (by rw [stmtF_els (by omega) (by (rw [head1 (by omega)]; exact and_t (by omega) (by assumption) (by assumption))) (by assumption)]; done); first | (rw [e1]; done) | (rw [e1]; rfl) | (simp only [e1]; done) | (simp only [e1]; rfl))
          ·
           have q30 : (rightB p.vars.length p.arrays.length s.value) = false := (fun hq => (hq)) (Eq.mp (Bool.not_eq_true' _) h30)
           refine rs1s G ⟨[(20, _, [4]), (30, _, [0, 1, 2, 5])], [(false, false), (true, true), (!noneB s.index, false), (!rightB p.vars.length p.arrays.length s.value, true)], [(2, 0), (3, 0), (4, 0), (5, 0), (6, 0), (7, 0), (12, 0), (1013, 0), (15, 0), (16, 0), (17, 0), (18, 1), (19, 1), (20, 1), (21, 1), (22, 0), (1022, 1), (1023, 0), (25, 2), (26, 2), (27, 1), (28, 1), (29, 1), (30, 1), (31, 1), (32, 2), (1032, 1), (1033, 2), (35, 3), (36, 3), (37, 3), (42, 3), (1043, 3)]⟩ (calls_cons (c_isNone (s.index)) (calls_cons (c_expr (p) (s.value)) calls_nil)) ⟨(by kernel_rfl), (by kernel_rfl), (by assumption), (by assumption), trivial⟩ [(2, iA n), (3, .ptr 3 0), (4, .ptr 8 0), (5, .ptr 9 0), (8, bA false), (132, bA true)] [] trivial ?_
           clear G; intro ρ a w G
           refine th_n ?_
           refine rT G (true) (by kernel_rfl) ?_
           refine wp_seq ?_
           refine rs0s G [(2, iA n), (3, .ptr 3 0), (4, .ptr 8 0), (5, .ptr 9 0), (8, bA false)] ?_
           clear G; intro ρ a w G
           refine th_n ?_
           refine wp_ret ?_
           refine th_r ?_
           exact rx_ret (v := bA false) G [0, 1, 2, 3, 4, 5, 6, 7] (by kernel_rfl) (by kernel_rfl) (by have e1 : ((↑(stmtF p.vars.length p.arrays.length (d + 1) c s).snd : Int) : Int) = ((↑c : Int) + 1) := (by rw [stmtF_bad (by (rw [head1 (by omega)]; simp [h100, h0, q0, h1, q1, h2, q2, h25, q25, h26, q26, h27, q27, h28, q28, h29, q29, h30, q30]; done))]; rfl); first | (rw [e1]; done) | (rw [e1]; rfl) | (simp only [e1]; done) | (simp only [e1]; rfl)) (by have e1 : ((stmtF p.vars.length p.arrays.length (d + 1) c s).fst : Bool) = (false) := (by rw [stmtF_bad (by (rw [head1 (by omega)]; simp [h100, h0, q0, h1, q1, h2, q2, h25, q25, h26, q26, h27, q27, h28, q28, h29, q29, h30, q30]; done))]; done); first | (rw [e1]; done) | (rw [e1]; rfl) | (simp only [e1]; done) | (simp only [e1]; rfl))
         ·
          have q29 : (noneB s.index) = false := (fun hq => (hq)) (Eq.mp (Bool.not_eq_true' _) h29)
          refine rs1s G ⟨[(20, _, [4])], [(false, false), (true, true), (!noneB s.index, true)], [(2, 0), (3, 0), (4, 0), (5, 0), (6, 0), (7, 0), (12, 0), (1013, 0), (15, 0), (16, 0), (17, 0), (18, 1), (19, 1), (20, 1), (21, 1), (22, 0), (1022, 1), (1023, 0), (25, 2), (26, 2), (32, 2), (1033, 2), (35, 1), (36, 1), (37, 1), (42, 1), (1043, 1)]⟩ (calls_cons (c_isNone (s.index)) calls_nil) ⟨(by kernel_rfl), (by kernel_rfl), (by assumption), trivial⟩ [(2, iA n), (3, .ptr 3 0), (4, .ptr 8 0), (5, .ptr 9 0), (8, bA false), (132, bA true)] [] trivial ?_
          clear G; intro ρ a w G
          refine th_n ?_
          refine rT G (true) (by kernel_rfl) ?_
          refine wp_seq ?_
          refine rs0s G [(2, iA n), (3, .ptr 3 0), (4, .ptr 8 0), (5, .ptr 9 0), (8, bA false)] ?_
          clear G; intro ρ a w G
          refine th_n ?_
          refine wp_ret ?_
          refine th_r ?_
          exact rx_ret (v := bA false) G [0, 1, 2, 3, 4, 5, 6, 7] (by kernel_rfl) (by kernel_rfl) (by have e1 : ((↑(stmtF p.vars.length p.arrays.length (d + 1) c s).snd : Int) : Int) = ((↑c : Int) + 1) := (by rw [stmtF_bad (by (rw [head1 (by omega)]; simp [h100, h0, q0, h1, q1, h2, q2, h25, q25, h26, q26, h27, q27, h28, q28, h29, q29]; done))]; rfl); first | (rw [e1]; done) | (rw [e1]; rfl) | (simp only [e1]; done) | (simp only [e1]; rfl)) (by have e1 : ((stmtF p.vars.length p.arrays.length (d + 1) c s).fst : Bool) = (false) := (by rw [stmtF_bad (by (rw [head1 (by omega)]; simp [h100, h0, q0, h1, q1, h2, q2, h25, q25, h26, q26, h27, q27, h28, q28, h29, q29]; done))]; done); first | (rw [e1]; done) | (rw [e1]; rfl) | (simp only [e1]; done) | (simp only [e1]; rfl))
        ·
         have q28 : (↑s.els.length : Int) > 0 := of_decide_eq_true h28
         refine rT G (decide ((↑s.els.length : Int) > (0 : Int))) (by assumption) ?_
         refine wp_seq ?_
         refine rs0s G [(2, iA n), (3, .ptr 3 0), (4, .ptr 8 0), (5, .ptr 9 0), (8, bA false), (10, bA false), (11, bA true)] ?_
         clear G; intro ρ a w G
         refine th_n ?_
         refine wp_ret ?_
         refine th_r ?_
         exact rx_ret (v := bA false) G [0, 1, 2, 3, 4, 5, 6, 7] (by kernel_rfl) (by kernel_rfl) (by have e1 : ((↑(stmtF p.vars.length p.arrays.length (d + 1) c s).snd : Int) : Int) = ((↑c : Int) + 1) := (by rw [stmtF_bad (by (rw [head1 (by omega), decide_eq_false (by omega)]; rfl))]; rfl); first | (rw [e1]; done) | (rw [e1]; rfl) | (simp only [e1]; done) | (simp only [e1]; rfl)) (by have e1 : ((stmtF p.vars.length p.arrays.length (d + 1) c s).fst : Bool) = (false) := (by rw [stmtF_bad (by (rw [head1 (by omega), decide_eq_false (by omega)]; rfl))]; done); first | (rw [e1]; done) | (rw [e1]; rfl) | (simp only [e1]; done) | (simp only [e1]; rfl))
       ·
        have q27 : (↑s.body.length : Int) > 0 := of_decide_eq_true h27
        refine rs1s G ⟨[(4, _, [])], [(!(decide ((0 : Int) ≤ s.target) && decide (s.target ≤ (↑p.vars.length : Int) - (1 : Int))), false), (false, false), (true, true), (s.count != (0 : Int), false), (decide ((↑s.body.length : Int) > (0 : Int)), true)], [(7, 0), (8, 0), (9, 1), (10, 1), (11, 1), (12, 1), (13, 0), (1013, 1), (1014, 0), (16, 1), (17, 1), (18, 1), (19, 2), (20, 2), (21, 2), (22, 1), (1022, 2), (1023, 1), (25, 3), (26, 3), (27, 3), (28, 2), (29, 2), (30, 2), (31, 2), (32, 3), (1032, 2), (1033, 3), (35, 4), (36, 4), (37, 4), (42, 4), (1043, 4)]⟩ (calls_cons (c_within (s.target) (0) ((↑p.vars.length : Int) - 1)) calls_nil) ⟨(by assumption), (by kernel_rfl), (by kernel_rfl), (by assumption), (by assumption), trivial⟩ [(2, iA n), (3, .ptr 3 0), (4, .ptr 8 0), (5, .ptr 9 0), (8, bA false), (10, bA false), (11, bA true), (88, bA true)] [IntKind.i64.wrap ((↑p.vars.length : Int) - (1 : Int)) = (↑p.vars.length : Int) - (1 : Int)] ⟨(by exact w64 (by omega) (by omega)), trivial⟩ ?_
        clear G; intro ρ a w G
        refine th_n ?_
        refine rT G (true) (by kernel_rfl) ?_
        refine wp_seq ?_
        refine rs0s G [(2, iA n), (3, .ptr 3 0), (4, .ptr 8 0), (5, .ptr 9 0), (8, bA false), (10, bA false), (11, bA true)] ?_
        clear G; intro ρ a w G
        refine th_n ?_
        refine wp_ret ?_
        refine th_r ?_
        exact rx_ret (v := bA false) G [0, 1, 2, 3, 4, 5, 6, 7] (by kernel_rfl) (by kernel_rfl) (by have e1 : ((↑(stmtF p.vars.length p.arrays.length (d + 1) c s).snd : Int) : Int) = ((↑c : Int) + 1) := (by rw [stmtF_bad (by (rw [head1 (by omega), decide_eq_false (by omega)]; rfl))]; rfl); first | (rw [e1]; done) | (rw [e1]; rfl) | (simp only [e1]; done) | (simp only [e1]; rfl)) (by have e1 : ((stmtF p.vars.length p.arrays.length (d + 1) c s).fst : Bool) = (false) := (by rw [stmtF_bad (by (rw [head1 (by omega), decide_eq_false (by omega)]; rfl))]; done); first | (rw [e1]; done) | (rw [e1]; rfl) | (simp only [e1]; done) | (simp only [e1]; rfl))
      ·
       have q26 : ¬ (s.count = 0) := bne_iff_ne.1 h26
       refine rs1s G ⟨[(4, _, [])], [(!(decide ((0 : Int) ≤ s.target) && decide (s.target ≤ (↑p.vars.length : Int) - (1 : Int))), false), (false, false), (true, true), (s.count != (0 : Int), true)], [(7, 0), (8, 0), (9, 1), (10, 1), (11, 1), (12, 1), (13, 0), (1013, 1), (1014, 0), (16, 1), (17, 1), (18, 1), (19, 2), (20, 2), (21, 2), (22, 1), (1022, 2), (1023, 1), (25, 3), (26, 3), (27, 3), (32, 3), (1033, 3), (35, 2), (36, 2), (37, 2), (42, 2), (1043, 2)]⟩ (calls_cons (c_within (s.target) (0) ((↑p.vars.length : Int) - 1)) calls_nil) ⟨(by assumption), (by kernel_rfl), (by kernel_rfl), (by assumption), trivial⟩ [(2, iA n), (3, .ptr 3 0), (4, .ptr 8 0), (5, .ptr 9 0), (8, bA false), (10, bA false), (11, bA true), (88, bA true)] [IntKind.i64.wrap ((↑p.vars.length : Int) - (1 : Int)) = (↑p.vars.length : Int) - (1 : Int)] ⟨(by exact w64 (by omega) (by omega)), trivial⟩ ?_
       clear G; intro ρ a w G
       refine th_n ?_
       refine rT G (true) (by kernel_rfl) ?_
       refine wp_seq ?_
       refine rs0s G [(2, iA n), (3, .ptr 3 0), (4, .ptr 8 0), (5, .ptr 9 0), (8, bA false), (10, bA false), (11, bA true)] ?_
       clear G; intro ρ a w G
       refine th_n ?_
       refine wp_ret ?_
       refine th_r ?_
       exact rx_ret (v := bA false) G [0, 1, 2, 3, 4, 5, 6, 7] (by kernel_rfl) (by kernel_rfl) (by have e1 : ((↑(stmtF p.vars.length p.arrays.length (d + 1) c s).snd : Int) : Int) = ((↑c : Int) + 1) := (by rw [stmtF_bad (by (rw [head1 (by omega), decide_eq_false (by omega)]; rfl))]; rfl); first | (rw [e1]; done) | (rw [e1]; rfl) | (simp only [e1]; done) | (simp only [e1]; rfl)) (by have e1 : ((stmtF p.vars.length p.arrays.length (d + 1) c s).fst : Bool) = (false) := (by rw [stmtF_bad (by (rw [head1 (by omega), decide_eq_false (by omega)]; rfl))]; done); first | (rw [e1]; done) | (rw [e1]; rfl) | (simp only [e1]; done) | (simp only [e1]; rfl))
     ·
      have q25 : (¬ (0 ≤ s.target)) ∨ (¬ (s.target ≤ (↑p.vars.length : Int) - 1)) := (fun hq => Or.imp (fun hq => of_decide_eq_false (hq)) (fun hq => of_decide_eq_false (hq)) (Bool.and_eq_false_iff.1 (hq))) (Eq.mp (Bool.not_eq_true' _) h25)
      refine rs1s G ⟨[(4, _, [])], [(!(decide ((0 : Int) ≤ s.target) && decide (s.target ≤ (↑p.vars.length : Int) - (1 : Int))), true), (true, true)], [(7, 0), (8, 0), (13, 0), (1014, 0), (16, 1), (17, 1), (18, 1), (22, 1), (1023, 1), (25, 1), (26, 1), (27, 1), (32, 1), (1033, 1), (35, 1), (36, 1), (37, 1), (42, 1), (1043, 1)]⟩ (calls_cons (c_within (s.target) (0) ((↑p.vars.length : Int) - 1)) calls_nil) ⟨(by assumption), (by kernel_rfl), trivial⟩ [(2, iA n), (3, .ptr 3 0), (4, .ptr 8 0), (5, .ptr 9 0), (8, bA false), (10, bA false), (11, bA true), (88, bA true)] [IntKind.i64.wrap ((↑p.vars.length : Int) - (1 : Int)) = (↑p.vars.length : Int) - (1 : Int)] ⟨(by exact w64 (by omega) (by omega)), trivial⟩ ?_
      clear G; intro ρ a w G
      refine th_n ?_
      refine rT G (true) (by kernel_rfl) ?_
      refine wp_seq ?_
      refine rs0s G [(2, iA n), (3, .ptr 3 0), (4, .ptr 8 0), (5, .ptr 9 0), (8, bA false), (10, bA false), (11, bA true)] ?_
      clear G; intro ρ a w G
      refine th_n ?_
      refine wp_ret ?_
      refine th_r ?_
      exact rx_ret (v := bA false) G [0, 1, 2, 3, 4, 5, 6, 7] (by kernel_rfl) (by kernel_rfl) (by have e1 : ((↑(stmtF p.vars.length p.arrays.length (d + 1) c s).snd : Int) : Int) = ((↑c : Int) + 1) := (by rw [stmtF_bad (by (rw [head1 (by omega), decide_eq_false (by omega)]; rfl))]; rfl); first | (rw [e1]; done) | (rw [e1]; rfl) | (simp only [e1]; done) | (simp only [e1]; rfl)) (by have e1 : ((stmtF p.vars.length p.arrays.length (d + 1) c s).fst : Bool) = (false) := (by rw [stmtF_bad (by (rw [head1 (by omega), decide_eq_false (by omega)]; rfl))]; done); first | (rw [e1]; done) | (rw [e1]; rfl) | (simp only [e1]; done) | (simp only [e1]; rfl))
   ·
    have q1 : s.kind = 1 := eq_of_beq h1
    refine rT G (s.kind == (1 : Int)) (by assumption) ?_
    refine wp_skip ?_
    refine th_n ?_
    refine rT G (s.kind == (1 : Int)) (by assumption) ?_
    refine rs0s G [(2, iA n), (3, .ptr 3 0), (4, .ptr 8 0), (5, .ptr 9 0), (8, bA false), (9, iA (↑p.vars.length : Int)), (10, bA false), (11, bA true), (12, bA false), (13, bA false), (14, bA false)] ?_
    clear G; intro ρ a w G
    refine bl_n ?_
    refine th_n ?_
    refine wp_seq ?_
    refine wp_seq ?_
    cases h32 : (!(decide ((0 : Int) ≤ s.target) && decide (s.target ≤ (↑p.vars.length : Int) - (1 : Int))))
    ·
     have q32 : (0 ≤ s.target) ∧ (s.target ≤ (↑p.vars.length : Int) - 1) := (fun hq => And.imp (fun hq => of_decide_eq_true (hq)) (fun hq => of_decide_eq_true (hq)) (Bool.and_eq_true_iff.1 (hq))) (Eq.mp (Bool.not_eq_false' _) h32)
     cases h33 : (s.count != (0 : Int))
     ·
      have q33 : s.count = 0 := (by simpa using h33)
      cases h34 : (decide ((↑s.body.length : Int) > (0 : Int)))
      ·
       have q34 : ¬ ((↑s.body.length : Int) > 0) := of_decide_eq_false h34
       refine rs1s G ⟨[(4, _, [])], [(!(decide ((0 : Int) ≤ s.target) && decide (s.target ≤ (↑p.vars.length : Int) - (1 : Int))), false), (false, false), (true, true), (s.count != (0 : Int), false), (decide ((↑s.body.length : Int) > (0 : Int)), false)], [(7, 0), (8, 0), (9, 1), (10, 1), (11, 1), (12, 1), (13, 0), (1013, 1), (1014, 0), (16, 1), (17, 1), (18, 1), (19, 2), (20, 2), (21, 2), (22, 1), (1022, 2), (1023, 1), (25, 3), (26, 3), (27, 3), (28, 2), (29, 2), (30, 2), (31, 2), (32, 3), (1032, 2), (1033, 3), (35, 4), (36, 4), (37, 4), (38, 2), (39, 2), (40, 2), (41, 2), (42, 4), (1042, 2), (1043, 4)]⟩ (calls_cons (c_within (s.target) (0) ((↑p.vars.length : Int) - 1)) calls_nil) ⟨(by assumption), (by kernel_rfl), (by kernel_rfl), (by assumption), (by assumption), trivial⟩ [(2, iA n), (3, .ptr 3 0), (4, .ptr 8 0), (5, .ptr 9 0), (8, bA false), (10, bA false), (11, bA true), (88, bA (decide ((↑s.els.length : Int) > 0)))] [IntKind.i64.wrap ((↑p.vars.length : Int) - (1 : Int)) = (↑p.vars.length : Int) - (1 : Int)] ⟨(by exact w64 (by omega) (by omega)), trivial⟩ ?_
       clear G; intro ρ a w G
       refine th_n ?_
       cases h35 : (decide ((↑s.els.length : Int) > (0 : Int)))
       ·
        have q35 : ¬ ((↑s.els.length : Int) > 0) := of_decide_eq_false h35
        refine rF G (decide ((↑s.els.length : Int) > (0 : Int))) (by assumption) ?_
        refine wp_skip ?_
        refine th_n ?_
        refine wp_seq ?_
        refine wp_seq ?_
        cases h36 : (!noneB s.index)
        ·
         have q36 : (noneB s.index) = true := (fun hq => (hq)) (Eq.mp (Bool.not_eq_false' _) h36)
         cases h37 : (!rightB p.vars.length p.arrays.length s.value)
         ·
          have q37 : (rightB p.vars.length p.arrays.length s.value) = true := (fun hq => (hq)) (Eq.mp (Bool.not_eq_false' _) h37)
          refine rs1s G ⟨[(20, _, [4]), (30, _, [0, 1, 2, 5])], [(false, false), (true, true), (!noneB s.index, false), (!rightB p.vars.length p.arrays.length s.value, false)], [(2, 0), (3, 0), (4, 0), (5, 0), (6, 0), (7, 0), (12, 0), (1013, 0), (15, 0), (16, 0), (17, 0), (18, 1), (19, 1), (20, 1), (21, 1), (22, 0), (1022, 1), (1023, 0), (25, 2), (26, 2), (27, 1), (28, 1), (29, 1), (30, 1), (31, 1), (32, 2), (1032, 1), (1033, 2), (35, 3), (36, 3), (37, 3), (38, 0), (39, 0), (40, 0), (41, 0), (42, 3), (1042, 0), (1043, 3)]⟩ (calls_cons (c_isNone (s.index)) (calls_cons (c_expr (p) (s.value)) calls_nil)) ⟨(by kernel_rfl), (by kernel_rfl), (by assumption), (by assumption), trivial⟩ [(2, iA n), (3, .ptr 3 0), (4, .ptr 8 0), (5, .ptr 9 0), (8, bA false), (132, bA false)] [] trivial ?_
          clear G; intro ρ a w G
          refine th_n ?_
          refine rF G (false) (by kernel_rfl) ?_
          refine wp_skip ?_
          refine th_n ?_
          refine wp_seq ?_
          cases h38 : ((stmtsF p.vars.length p.arrays.length d (c + (1 : Nat)) s.body).fst)
          ·
           refine rs1 (dk := dkP) G ⟨[(6, _, [0, 1, 2, 3, 6])], [((stmtsF p.vars.length p.arrays.length d (c + (1 : Nat)) s.body).fst, false)], [(8, 0), (9, 0), (10, 0), (11, 0), (12, 0), (13, 0), (14, 0), (1015, 0)]⟩ (calls_cons (ih (s.body) (c + 1) (n + 1) (by simp; omega) (by omega)) calls_nil) ⟨(by assumption), trivial⟩ [0, 1, 2, 3, 4, 5, 6, 7] [dI p.vars, dI p.arrays, dT p.body, .box [iA (↑(stmtsF p.vars.length p.arrays.length d (c + 1) s.body).snd : Int)], dE s.index.kids, dE s.value.kids, dT s.body, dT s.els] [(8, bA false)] [IntKind.i64.wrap (n + (1 : Int)) = n + (1 : Int)] ⟨(by exact w64 (by omega) (by omega)), trivial⟩ ?_
           clear G; intro ρ a w G
           refine th_n ?_
           refine wp_ret ?_
           exact rx_ret (v := bA false) G [0, 1, 2, 3, 4, 5, 6, 7] (by kernel_rfl) (by kernel_rfl) (by have e1 : ((↑(stmtF p.vars.length p.arrays.length (d + 1) c s).snd : Int) : Int) = ((↑(stmtsF p.vars.length p.arrays.length d (c + 1) s.body).snd : Int)) := (by rw [stmtF_body (by omega) (by (rw [head1 (by omega)]; exact and_t (by omega) (by assumption) (by assumption))) (by assumption)]; done); first | (rw [e1]; done) | (rw [e1]; rfl) | (simp only [e1]; done) | (simp only [e1]; rfl)) (by have e1 : ((stmtF p.vars.length p.arrays.length (d + 1) c s).fst : Bool) = (false) := (by rw [stmtF_body (by omega) (by (rw [head1 (by omega)]; exact and_t (by omega) (by assumption) (by assumption))) (by assumption)]; assumption); first | (rw [e1]; done) | (rw [e1]; rfl) | (simp only [e1]; done) | (simp only [e1]; rfl))
          ·
           refine rs1 (dk := dkP) G ⟨[(6, _, [0, 1, 2, 3, 6]), (14, _, [0, 1, 2, 3, 7])], [((stmtsF p.vars.length p.arrays.length d (c + (1 : Nat)) s.body).fst, true)], [(8, 0), (9, 0), (10, 0), (11, 0), (12, 0), (13, 0), (14, 0), (1015, 0)]⟩ (calls_cons (ih (s.body) (c + 1) (n + 1) (by simp; omega) (by omega)) (calls_cons (ih (s.els) ((stmtsF p.vars.length p.arrays.length d (c + 1) s.body).snd) (n + 1) (by exact stmtsF_le (by omega) (by assumption)) (by omega)) calls_nil)) ⟨(by assumption), trivial⟩ [0, 1, 2, 3, 4, 5, 6, 7] [dI p.vars, dI p.arrays, dT p.body, .box [iA (↑(stmtsF p.vars.length p.arrays.length d (stmtsF p.vars.length p.arrays.length d (c + 1) s.body).snd s.els).snd : Int)], dE s.index.kids, dE s.value.kids, dT s.body, dT s.els] [(8, bA (stmtsF p.vars.length p.arrays.length d (stmtsF p.vars.length p.arrays.length d (c + 1) s.body).snd s.els).fst)] [IntKind.i64.wrap (n + (1 : Int)) = n + (1 : Int), IntKind.i64.wrap (n + (1 : Int)) = n + (1 : Int)] ⟨(by exact w64 (by omega) (by omega)), (by exact w64 (by omega) (by omega)), trivial⟩ ?_
           clear G; intro ρ a w G
           refine th_n ?_
           refine wp_ret ?_
           exact rx_ret (v := bA (stmtsF p.vars.length p.arrays.length d (stmtsF p.vars.length p.arrays.length d (c + 1) s.body).snd s.els).fst) G [0, 1, 2, 3, 4, 5, 6, 7] (by kernel_rfl) (by kernel_rfl) (by have e1 : ((↑(stmtF p.vars.length p.arrays.length (d + 1) c s).snd : Int) : Int) = ((↑(stmtsF p.vars.length p.arrays.length d (stmtsF p.vars.length p.arrays.length d (c + 1) s.body).snd s.els).snd : Int)) := (by rw [stmtF_els (by omega) (by (rw [head1 (by omega)]; exact and_t (by omega) (by assumption) (by assumption))) (by assumption)]; done); first | (rw [e1]; done) | (rw [e1]; rfl) | (simp only [e1]; done) | (simp only [e1]; rfl)) (by have e1 : ((stmtF p.vars.length p.arrays.length (d + 1) c s).fst : Bool) = ((stmtsF p.vars.length p.arrays.length d (stmtsF p.vars.length p.arrays.length d (c + 1) s.body).snd s.els).fst) := (by rw [stmtF_els (by omega) (by (rw [head1 (by omega)]; exact and_t (by omega) (by assumption) (by assumption))) (by assumption)]; done); first | (rw [e1]; done) | (rw [e1]; rfl) | (simp only [e1]; done) | (simp only [e1]; rfl))
         ·
          have q37 : (rightB p.vars.length p.arrays.length s.value) = false := (fun hq => (hq)) (Eq.mp (Bool.not_eq_true' _) h37)
          refine rs1s G ⟨[(20, _, [4]), (30, _, [0, 1, 2, 5])], [(false, false), (true, true), (!noneB s.index, false), (!rightB p.vars.length p.arrays.length s.value, true)], [(2, 0), (3, 0), (4, 0), (5, 0), (6, 0), (7, 0), (12, 0), (1013, 0), (15, 0), (16, 0), (17, 0), (18, 1), (19, 1), (20, 1), (21, 1), (22, 0), (1022, 1), (1023, 0), (25, 2), (26, 2), (27, 1), (28, 1), (29, 1), (30, 1), (31, 1), (32, 2), (1032, 1), (1033, 2), (35, 3), (36, 3), (37, 3), (42, 3), (1043, 3)]⟩ (calls_cons (c_isNone (s.index)) (calls_cons (c_expr (p) (s.value)) calls_nil)) ⟨(by kernel_rfl), (by kernel_rfl), (by assumption), (by assumption), trivial⟩ [(2, iA n), (3, .ptr 3 0), (4, .ptr 8 0), (5, .ptr 9 0), (8, bA false), (132, bA true)] [] trivial ?_
          clear G; intro ρ a w G
          refine th_n ?_
          refine rT G (true) (by kernel_rfl) ?_
          refine wp_seq ?_
          refine rs0s G [(2, iA n), (3, .ptr 3 0), (4, .ptr 8 0), (5, .ptr 9 0), (8, bA false)] ?_
          clear G; intro ρ a w G
          refine th_n ?_
          refine wp_ret ?_
          refine th_r ?_
          exact rx_ret (v := bA false) G [0, 1, 2, 3, 4, 5, 6, 7] (by kernel_rfl) (by kernel_rfl) (by have e1 : ((↑(stmtF p.vars.length p.arrays.length (d + 1) c s).snd : Int) : Int) = ((↑c : Int) + 1) := (by rw [stmtF_bad (by (rw [head1 (by omega)]; simp [h100, h0, q0, h1, q1, h32, q32, h33, q33, h34, q34, h35, q35, h36, q36, h37, q37]; done))]; rfl); first | (rw [e1]; done) | (rw [e1]; rfl) | (simp only [e1]; done) | (simp only [e1]; rfl)) (by have e1 : ((stmtF p.vars.length p.arrays.length (d + 1) c s).fst : Bool) = (false) := (by rw [stmtF_bad (by (rw [head1 (by omega)]; simp [h100, h0, q0, h1, q1, h32, q32, h33, q33, h34, q34, h35, q35, h36, q36, h37, q37]; done))]; done); first | (rw [e1]; done) | (rw [e1]; rfl) | (simp only [e1]; done) | (simp only [e1]; rfl))
        ·
         have q36 : (noneB s.index) = false := (fun hq => (hq)) (Eq.mp (Bool.not_eq_true' _) h36)
         refine rs1s G ⟨[(20, _, [4])], [(false, false), (true, true), (!noneB s.index, true)], [(2, 0), (3, 0), (4, 0), (5, 0), (6, 0), (7, 0), (12, 0), (1013, 0), (15, 0), (16, 0), (17, 0), (18, 1), (19, 1), (20, 1), (21, 1), (22, 0), (1022, 1), (1023, 0), (25, 2), (26, 2), (32, 2), (1033, 2), (35, 1), (36, 1), (37, 1), (42, 1), (1043, 1)]⟩ (calls_cons (c_isNone (s.index)) calls_nil) ⟨(by kernel_rfl), (by kernel_rfl), (by assumption), trivial⟩ [(2, iA n), (3, .ptr 3 0), (4, .ptr 8 0), (5, .ptr 9 0), (8, bA false), (132, bA true)] [] trivial ?_
         clear G; intro ρ a w G
         refine th_n ?_
         refine rT G (true) (by kernel_rfl) ?_
         refine wp_seq ?_
         refine rs0s G [(2, iA n), (3, .ptr 3 0), (4, .ptr 8 0), (5, .ptr 9 0), (8, bA false)] ?_
         clear G; intro ρ a w G
         refine th_n ?_
         refine wp_ret ?_
         refine th_r ?_
         exact rx_ret (v := bA false) G [0, 1, 2, 3, 4, 5, 6, 7] (by kernel_rfl) (by kernel_rfl) (by have e1 : ((↑(stmtF p.vars.length p.arrays.length (d + 1) c s).snd : Int) : Int) = ((↑c : Int) + 1) := (by rw [stmtF_bad (by (rw [head1 (by omega)]; simp [h100, h0, q0, h1, q1, h32, q32, h33, q33, h34, q34, h35, q35, h36, q36]; done))]; rfl); first | (rw [e1]; done) | (rw [e1]; rfl) | (simp only [e1]; done) | (simp only [e1]; rfl)) (by have e1 : ((stmtF p.vars.length p.arrays.length (d + 1) c s).fst : Bool) = (false) := (by rw [stmtF_bad (by (rw [head1 (by omega)]; simp [h100, h0, q0, h1, q1, h32, q32, h33, q33, h34, q34, h35, q35, h36, q36]; done))]; done); first | (rw [e1]; done) | (rw [e1]; rfl) | (simp only [e1]; done) | (simp only [e1]; rfl))
       ·
        have q35 : (↑s.els.length : Int) > 0 := of_decide_eq_true h35
        refine rT G (decide ((↑s.els.length : Int) > (0 : Int))) (by assumption) ?_
        refine wp_seq ?_
        refine rs0s G [(2, iA n), (3, .ptr 3 0), (4, .ptr 8 0), (5, .ptr 9 0), (8, bA false), (10, bA false), (11, bA true)] ?_
        clear G; intro ρ a w G
        refine th_n ?_
        refine wp_ret ?_
        refine th_r ?_
        exact rx_ret (v := bA false) G [0, 1, 2, 3, 4, 5, 6, 7] (by kernel_rfl) (by kernel_rfl) (by have e1 : ((↑(stmtF p.vars.length p.arrays.length (d + 1) c s).snd : Int) : Int) = ((↑c : Int) + 1) := (by rw [stmtF_bad (by (rw [head1 (by omega), decide_eq_false (by omega)]; rfl))]; rfl); first | (rw [e1]; done) | (rw [e1]; rfl) | (simp only [e1]; done) | (simp only [e1]; rfl)) (by have e1 : ((stmtF p.vars.length p.arrays.length (d + 1) c s).fst : Bool) = (false) := (by rw [stmtF_bad (by (rw [head1 (by omega), decide_eq_false (by omega)]; rfl))]; done); first | (rw [e1]; done) | (rw [e1]; rfl) | (simp only [e1]; done) | (simp only [e1]; rfl))
      ·
       have q34 : (↑s.body.length : Int) > 0 := of_decide_eq_true h34
       refine rs1s G ⟨[(4, _, [])], [(!(decide ((0 : Int) ≤ s.target) && decide (s.target ≤ (↑p.vars.length : Int) - (1 : Int))), false), (false, false), (true, true), (s.count != (0 : Int), false), (decide ((↑s.body.length : Int) > (0 : Int)), true)], [(7, 0), (8, 0), (9, 1), (10, 1), (11, 1), (12, 1), (13, 0), (1013, 1), (1014, 0), (16, 1), (17, 1), (18, 1), (19, 2), (20, 2), (21, 2), (22, 1), (1022, 2), (1023, 1), (25, 3), (26, 3), (27, 3), (28, 2), (29, 2), (30, 2), (31, 2), (32, 3), (1032, 2), (1033, 3), (35, 4), (36, 4), (37, 4), (42, 4), (1043, 4)]⟩ (calls_cons (c_within (s.target) (0) ((↑p.vars.length : Int) - 1)) calls_nil) ⟨(by assumption), (by kernel_rfl), (by kernel_rfl), (by assumption), (by assumption), trivial⟩ [(2, iA n), (3, .ptr 3 0), (4, .ptr 8 0), (5, .ptr 9 0), (8, bA false), (10, bA false), (11, bA true), (88, bA true)] [IntKind.i64.wrap ((↑p.vars.length : Int) - (1 : Int)) = (↑p.vars.length : Int) - (1 : Int)] ⟨(by exact w64 (by omega) (by omega)), trivial⟩ ?_
       clear G; intro ρ a w G
       refine th_n ?_
       refine rT G (true) (by kernel_rfl) ?_
       refine wp_seq ?_
       refine rs0s G [(2, iA n), (3, .ptr 3 0), (4, .ptr 8 0), (5, .ptr 9 0), (8, bA false), (10, bA false), (11, bA true)] ?_
       clear G; intro ρ a w G
       refine th_n ?_
       refine wp_ret ?_
       refine th_r ?_
       exact rx_ret (v := bA false) G [0, 1, 2, 3, 4, 5, 6, 7] (by kernel_rfl) (by kernel_rfl) (by have e1 : ((↑(stmtF p.vars.length p.arrays.length (d + 1) c s).snd : Int) : Int) = ((↑c : Int) + 1) := (by rw [stmtF_bad (by (rw [head1 (by omega), decide_eq_false (by omega)]; rfl))]; rfl); first | (rw [e1]; done) | (rw [e1]; rfl) | (simp only [e1]; done) | (simp only [e1]; rfl)) (by have e1 : ((stmtF p.vars.length p.arrays.length (d + 1) c s).fst : Bool) = (false) := (by rw [stmtF_bad (by (rw [head1 (by omega), decide_eq_false (by omega)]; rfl))]; done); first | (rw [e1]; done) | (rw [e1]; rfl) | (simp only [e1]; done) | (simp only [e1]; rfl))
     ·
      have q33 : ¬ (s.count = 0) := bne_iff_ne.1 h33
      refine rs1s G ⟨[(4, _, [])], [(!(decide ((0 : Int) ≤ s.target) && decide (s.target ≤ (↑p.vars.length : Int) - (1 : Int))), false), (false, false), (true, true), (s.count != (0 : Int), true)], [(7, 0), (8, 0), (9, 1), (10, 1), (11, 1), (12, 1), (13, 0), (1013, 1), (1014, 0), (16, 1), (17, 1), (18, 1), (19, 2), (20, 2), (21, 2), (22, 1), (1022, 2), (1023, 1), (25, 3), (26, 3), (27, 3), (32, 3), (1033, 3), (35, 2), (36, 2), (37, 2), (42, 2), (1043, 2)]⟩ (calls_cons (c_within (s.target) (0) ((↑p.vars.length : Int) - 1)) calls_nil) ⟨(by assumption), (by kernel_rfl), (by kernel_rfl), (by assumption), trivial⟩ [(2, iA n), (3, .ptr 3 0), (4, .ptr 8 0), (5, .ptr 9 0), (8, bA false), (10, bA false), (11, bA true), (88, bA true)] [IntKind.i64.wrap ((↑p.vars.length : Int) - (1 : Int)) = (↑p.vars.length : Int) - (1 : Int)] ⟨(by exact w64 (by omega) (by omega)), trivial⟩ ?_
      clear G; intro ρ a w G
      refine th_n ?_
      refine rT G (true) (by kernel_rfl) ?_
      refine wp_seq ?_
      refine rs0s G [(2, iA n), (3, .ptr 3 0), (4, .ptr 8 0), (5, .ptr 9 0), (8, bA false), (10, bA false), (11, bA true)] ?_
      clear G; intro ρ a w G
      refine th_n ?_
      refine wp_ret ?_
      refine th_r ?_
      exact rx_ret (v := bA false) G [0, 1, 2, 3, 4, 5, 6, 7] (by kernel_rfl) (by kernel_rfl) (by have e1 : ((↑(stmtF p.vars.length p.arrays.length (d + 1) c s).snd : Int) : Int) = ((↑c : Int) + 1) := (by rw [stmtF_bad (by (rw [head1 (by omega), decide_eq_false (by omega)]; rfl))]; rfl); first | (rw [e1]; done) | (rw [e1]; rfl) | (simp only [e1]; done) | (simp only [e1]; rfl)) (by have e1 : ((stmtF p.vars.length p.arrays.length (d + 1) c s).fst : Bool) = (false) := (by rw [stmtF_bad (by (rw [head1 (by omega), decide_eq_false (by omega)]; rfl))]; done); first | (rw [e1]; done) | (rw [e1]; rfl) | (simp only [e1]; done) | (simp only [e1]; rfl))
    ·
     have q32 : (¬ (0 ≤ s.target)) ∨ (¬ (s.target ≤ (↑p.vars.length : Int) - 1)) := (fun hq => Or.imp (fun hq => of_decide_eq_false (hq)) (fun hq => of_decide_eq_false (hq)) (Bool.and_eq_false_iff.1 (hq))) (Eq.mp (Bool.not_eq_true' _) h32)
     refine rs1s G ⟨[(4, _, [])], [(!(decide ((0 : Int) ≤ s.target) && decide (s.target ≤ (↑p.vars.length : Int) - (1 : Int))), true), (true, true)], [(7, 0), (8, 0), (13, 0), (1014, 0), (16, 1), (17, 1), (18, 1), (22, 1), (1023, 1), (25, 1), (26, 1), (27, 1), (32, 1), (1033, 1), (35, 1), (36, 1), (37, 1), (42, 1), (1043, 1)]⟩ (calls_cons (c_within (s.target) (0) ((↑p.vars.length : Int) - 1)) calls_nil) ⟨(by assumption), (by kernel_rfl), trivial⟩ [(2, iA n), (3, .ptr 3 0), (4, .ptr 8 0), (5, .ptr 9 0), (8, bA false), (10, bA false), (11, bA true), (88, bA true)] [IntKind.i64.wrap ((↑p.vars.length : Int) - (1 : Int)) = (↑p.vars.length : Int) - (1 : Int)] ⟨(by exact w64 (by omega) (by omega)), trivial⟩ ?_
     clear G; intro ρ a w G
     refine th_n ?_
     refine rT G (true) (by kernel_rfl) ?_
     refine wp_seq ?_
     refine rs0s G [(2, iA n), (3, .ptr 3 0), (4, .ptr 8 0), (5, .ptr 9 0), (8, bA false), (10, bA false), (11, bA true)] ?_
     clear G; intro ρ a w G
     refine th_n ?_
     refine wp_ret ?_
     refine th_r ?_
     exact rx_ret (v := bA false) G [0, 1, 2, 3, 4, 5, 6, 7] (by kernel_rfl) (by kernel_rfl) (by have e1 : ((↑(stmtF p.vars.length p.arrays.length (d + 1) c s).snd : Int) : Int) = ((↑c : Int) + 1) := (by rw [stmtF_bad (by (rw [head1 (by omega), decide_eq_false (by omega)]; rfl))]; rfl); first | (rw [e1]; done) | (rw [e1]; rfl) | (simp only [e1]; done) | (simp only [e1]; rfl)) (by have e1 : ((stmtF p.vars.length p.arrays.length (d + 1) c s).fst : Bool) = (false) := (by rw [stmtF_bad (by (rw [head1 (by omega), decide_eq_false (by omega)]; rfl))]; done); first | (rw [e1]; done) | (rw [e1]; rfl) | (simp only [e1]; done) | (simp only [e1]; rfl))
  ·
   have q0 : (↑c : Int) + 1 > 60 := of_decide_eq_true h0
   refine rs1s G ⟨[], [(decide ((↑c : Int) + (1 : Int) > (60 : Int)), true)], [(5, 0), (6, 0), (1007, 0)]⟩ calls_nil ⟨(by assumption), trivial⟩ [(2, iA n), (3, .ptr 3 0), (4, .ptr 8 0), (5, .ptr 9 0), (8, bA false), (27, bA true)] [] trivial ?_
   clear G; intro ρ a w G
   refine th_n ?_
   refine rT G (true) (by kernel_rfl) ?_
   refine wp_seq ?_
   refine rs0s G [(2, iA n), (3, .ptr 3 0), (4, .ptr 8 0), (5, .ptr 9 0), (8, bA false)] ?_
   clear G; intro ρ a w G
   refine th_n ?_
   refine wp_ret ?_
   refine th_r ?_
   exact rx_ret (v := bA false) G [0, 1, 2, 3, 4, 5, 6, 7] (by kernel_rfl) (by kernel_rfl) (by have e1 : ((↑(stmtF p.vars.length p.arrays.length (d + 1) c s).snd : Int) : Int) = ((↑c : Int) + 1) := (by simp [stmtF_over (d := d + 1) (s := s) (show 60 < c + 1 by omega)]; done); first | (rw [e1]; done) | (rw [e1]; rfl) | (simp only [e1]; done) | (simp only [e1]; rfl)) (by have e1 : ((stmtF p.vars.length p.arrays.length (d + 1) c s).fst : Bool) = (false) := (by simp [stmtF_over (d := d + 1) (s := s) (show 60 < c + 1 by omega)]; done); first | (rw [e1]; done) | (rw [e1]; rfl) | (simp only [e1]; done) | (simp only [e1]; rfl))

end Go.Proofs.Ytgpkdfefgcpbiaa

namespace Go.Proofs.Ytgpkdfefgcpbiaa
set_option linter.unusedVariables false
set_option linter.unusedSimpArgs false
open Go Go.RowKit

theorem c_stmtsD (p : LProg) : ∀ (d : Nat), d ≤ 5 → ∀ (ss : List LStmt) (c : Nat) (n : Int), c ≤ 60 → n = 6 - (d : Int) → Ctr.ok Try.prog (stmtsC p d c ss n) := by
  intro d
  induction d with
  | zero => intro hd ss c n hc hn; exact c_stmtsS p 0 hd (fun s c n hc hn => c_stmt0 p s c hc n (by omega)) ss c n hc hn
  | succ d ih => intro hd ss c n hc hn; exact c_stmtsS p (d + 1) hd (fun s c n hc hn => c_stmtS p d (by omega) (ih (by omega)) s c n hc (by omega)) ss c n hc hn
theorem c_stmtsBody (p : LProg) (n : Int) (hn : n = 1) : Ctr.ok Try.prog ⟨147, [pA 0, .ref 2, iA n, .ptr 3 0], pS p ++ [.box [iA 0]], pS p ++ [.box [iA (stmtsF p.vars.length p.arrays.length 5 0 p.body).2]], bA (stmtsF p.vars.length p.arrays.length 5 0 p.body).1⟩ :=
  Ctr.dup (S := pS p ++ [.box [iA 0]]) (S' := pS p ++ [.box [iA (stmtsF p.vars.length p.arrays.length 5 0 p.body).2]]) (d := .stmts p.body) (i := 2) (c_stmtsD p 5 (by omega) p.body 0 n (by omega) (by omega)) rfl rfl rfl (fun ρ h => by simp only [AV.vals, AV.val]; rw [show ρ 4 = ρ 2 from h]) rfl

set_option maxRecDepth 100000 in
theorem c_iProgramValid (p : LProg) : Ctr.ok Try.prog (fnC 85 [pA 0] (pS p) (bA (progB p))) := by
  refine rx_enter 15 Try.func85 (by rfl) (by kernel_rfl) (by kernel_rfl) ?_
  intro ι φ ψ w0 w F ρ0 ρ a G
  replace G := Gam.at G [dI p.vars, dI p.arrays, dT p.body] [(0, pA 0)]
  refine wp_seq ?_
  refine rs0 G [0, 1, 2, 3] [dI p.vars, dI p.arrays, dT p.body, .box (pL 0)] [(1, .ptr 3 0), (2, bA false)] ?_
  clear G; intro ρ a w G
  refine th_n ?_
  refine wp_seq ?_
  refine rs0 G [0, 1, 2, 3, 4] [dI p.vars, dI p.arrays, dT p.body, .box (pL 0), .box [iA 0]] [(1, .ptr 3 0), (2, bA false), (3, .ptr 4 0)] ?_
  clear G; intro ρ a w G
  refine th_n ?_
  refine wp_seq ?_
  cases h0 : (headsB p.vars p.arrays)
  ·
   refine rs1 (dk := dkP) G ⟨[(4, _, [0, 1])], [(headsB p.vars p.arrays, false)], [(6, 0), (7, 0), (8, 0), (9, 0), (1010, 0)]⟩ (calls_cons (c_declared (p.vars) (p.arrays)) calls_nil) ⟨(by assumption), trivial⟩ [0, 1, 2] [dI p.vars, dI p.arrays, dT p.body] [(2, bA false)] [] trivial ?_
   clear G; intro ρ a w G
   refine th_n ?_
   refine wp_ret ?_
   exact rx_ret (v := bA false) G [0, 1, 2] (by kernel_rfl) (by kernel_rfl) (by kernel_rfl) (by have e1 : (progB p : Bool) = (false) := (by exact progB_heads (by assumption)); first | (rw [e1]; done) | (rw [e1]; rfl) | (simp only [e1]; done) | (simp only [e1]; rfl))
  ·
   refine rs1 (dk := dkP) G ⟨[(4, _, [0, 1]), (9, _, [0, 1, 2, 4])], [(headsB p.vars p.arrays, true)], [(6, 0), (7, 0), (8, 0), (9, 0), (1010, 0)]⟩ (calls_cons (c_declared (p.vars) (p.arrays)) (calls_cons (c_stmtsBody (p) (1) (by kernel_rfl)) calls_nil)) ⟨(by assumption), trivial⟩ [0, 1, 2] [dI p.vars, dI p.arrays, dT p.body] [(2, bA (stmtsF p.vars.length p.arrays.length 5 0 p.body).fst)] [] trivial ?_
   clear G; intro ρ a w G
   refine th_n ?_
   refine wp_ret ?_
   exact rx_ret (v := bA (stmtsF p.vars.length p.arrays.length 5 0 p.body).fst) G [0, 1, 2] (by kernel_rfl) (by kernel_rfl) (by kernel_rfl) (by have e1 : (progB p : Bool) = ((stmtsF p.vars.length p.arrays.length 5 0 p.body).fst) := (by rw [← stmtsF_prog (p := p) (by assumption)]); first | (rw [e1]; done) | (rw [e1]; rfl) | (simp only [e1]; done) | (simp only [e1]; rfl))

end Go.Proofs.Ytgpkdfefgcpbiaa

namespace Go.Proofs.Ytgpkdfefgcpbiaa
set_option linter.unusedVariables false
set_option linter.unusedSimpArgs false
open Go Go.RowKit

theorem takeE {l : List LExpr} {k : Nat} (hk : k < l.length) : l.take k ++ [⟨(l.getD k default).kind, (l.getD k default).value, (l.getD k default).kids⟩] = l.take (k + 1) := by
  rw [LExpr.eta, take_succ_get _ _ hk, getD_lt hk]
theorem takeS {l : List LStmt} {k : Nat} (hk : k < l.length) : l.take k ++ [⟨(l.getD k default).kind, (l.getD k default).target, ⟨(l.getD k default).index.kind, (l.getD k default).index.value, (l.getD k default).index.kids⟩, ⟨(l.getD k default).value.kind, (l.getD k default).value.value, (l.getD k default).value.kids⟩, (l.getD k default).count, (l.getD k default).body, (l.getD k default).els⟩] = l.take (k + 1) := by
  rw [LExpr.eta, LExpr.eta, LStmt.eta, take_succ_get _ _ hk, getD_lt hk]
theorem take_is {α : Type} {l : List α} {k : Nat} (h1 : k ≤ l.length) (h2 : ¬ (k : Int) < l.length) : l.take k = l := by rw [List.take_of_length_le (by omega)]
theorem len_take {α : Type} {l : List α} {k n : Nat} (h1 : k ≤ l.length) (h : l.length ≤ n) : (l.take k).length ≤ n := by rw [List.length_take]; omega
theorem kids_fit {e : LExpr} (h : szE e ≤ 1048576) : e.kids.length ≤ 1048576 := by
  have h1 := szEs_len e.kids
  have h2 : szE e = szEs e.kids := by cases e; rfl
  omega
theorem block_fit {l : List LStmt} (h : szSs l ≤ 1048576) : l.length ≤ 1048576 := Nat.le_trans (szSs_len l) h
theorem len1 {α : Type} {l : List α} {x : α} {k : Nat} (h1 : k ≤ l.length) (h : l.length ≤ 1048576) : (l.take k).length + [x].length ≤ 1048577 := by
  have := len_take (k := k) h1 h
  simp only [List.length_cons, List.length_nil]; omega
theorem fitB {a b : Nat} (ha : a ≤ 1048577) (hb : Nat.ble b 1000 = true) : a * b ≤ 140737488355328 := by
  have h1 := Nat.le_of_ble_eq_true hb
  have h2 := Nat.mul_le_mul ha h1
  omega
theorem getE_mem {l : List LExpr} {k : Nat} (h : (k : Int) < l.length) : l.getD k default ∈ l := by rw [getD_lt (by omega)]; exact List.getElem_mem (by omega)
theorem getS_mem {l : List LStmt} {k : Nat} (h : (k : Int) < l.length) : l.getD k default ∈ l := by rw [getD_lt (by omega)]; exact List.getElem_mem (by omega)

abbrev cpC (e : LExpr) : Ctr := ⟨168, [eA e 0], eS e, eS e ++ [.tree (.exprs e.kids)], .agg [iA e.kind, iA e.value, .tref 1]⟩
set_option maxRecDepth 100000 in
theorem s_copyES (e : LExpr) (hb : szE e ≤ 1048576) (ih : ∀ (x : LExpr), x ∈ e.kids → Ctr.ok Try.prog (cpC x)) : Ctr.ok Try.prog (cpC e) := by
  refine rx_enter 29 Try.func168 (by rfl) (by kernel_rfl) (by kernel_rfl) ?_
  intro ι φ ψ w0 w F ρ0 ρ a G
  replace G := Gam.at G [dE e.kids] [(0, eA e 0)]
  have hl := kids_fit hb
  refine wp_seq ?_
  refine rs0 G [0, 1, 9] [dE e.kids, .box (eL e 0), .box [iA 0, iA 0, .v (.slice none 0 0)]] [(1, .ptr 1 0), (2, .ptr 2 0)] ?_
  clear G; intro ρ a w G
  refine th_n ?_
  refine wp_seq ?_
  refine rs0 G [0, 1, 2, 43] [dE e.kids, .box (eL e 0), .box [iA 0, iA 0, .v (.slice none 0 0)], .box [iA e.kind, iA e.value, .v (.slice none 0 0)]] [(1, .ptr 1 0), (2, .ptr 2 0), (3, .ptr 3 0)] ?_
  clear G; intro ρ a w G
  refine th_n ?_
  refine wp_seq ?_
  refine wp_seq ?_
  refine rs0s G [(1, .ptr 1 0), (2, .ptr 2 0), (3, .ptr 3 0), (4, iA 0)] ?_
  clear G; intro ρ a w G
  refine th_n ?_
  refine wp_block ?_
  have Gx := G.nilT 4 (.exprs []) [dE e.kids, .box (eL e 0), .box [iA 0, iA 0, .v (.slice none 0 0)], .box [iA e.kind, iA e.value, .tref 4]] [(1, .ptr 1 0), (2, .ptr 2 0), (3, .ptr 3 0), (4, iA 0)]
  clear G
  obtain ⟨ρ, G⟩ := Gx
  replace G := Gam.at G [dE e.kids, .box (eL e 0), .box [iA 0, iA 0, .v (.slice none 0 0)], .box [iA e.kind, iA e.value, .tref 4], .tree (D.exprs [])] [(1, .ptr 1 0), (2, .ptr 2 0), (3, .ptr 3 0), (4, iA 0)]
  refine rx_for (κ := Nat) (fun k => k ≤ e.kids.length) (fun k => e.kids.length - k) (fun k => [dE e.kids, .box (eL e 0), .box [iA 0, iA 0, .v (.slice none 0 0)], .box [iA e.kind, iA e.value, .tref 4], .tree (.exprs (e.kids.take k))]) (fun k => [(1, .ptr 1 0), (2, .ptr 2 0), (3, .ptr 3 0), (4, iA k)]) (0) (by omega) (Gam.at G _ _) ?_
  clear G
  intro k ρ a w hp G
  replace G := Gam.at G [dE e.kids, .box (eL e 0), .box [iA 0, iA 0, .v (.slice none 0 0)], .box [iA e.kind, iA e.value, .tref 4], .tree (D.exprs (List.take k e.kids))] [(1, .ptr 1 0), (2, .ptr 2 0), (3, .ptr 3 0), (4, iA (↑k : Int))]
  refine wp_seq ?_
  refine wp_seq ?_
  refine rs0s G [(1, .ptr 1 0), (2, .ptr 2 0), (3, .ptr 3 0), (4, iA (↑k : Int)), (14, bA (decide ((↑k : Int) < (↑e.kids.length : Int))))] ?_
  clear G; intro ρ a w G
  refine th_n ?_
  cases h0 : (decide ((↑k : Int) < (↑e.kids.length : Int)))
  ·
   have q0 : ¬ ((↑k : Int) < (↑e.kids.length : Int)) := of_decide_eq_false h0
   refine rF G (decide ((↑k : Int) < (↑e.kids.length : Int))) (by assumption) ?_
   refine wp_exit ?_
   refine th_e ?_
   refine th_e ?_
   refine bl_hit ?_
   refine th_n ?_
   refine wp_seq ?_
   refine rs0 G [0, 2, 4] [dE e.kids, .box [iA e.kind, iA e.value, .tref 2], .tree (D.exprs (List.take k e.kids))] [(2, .ptr 1 0)] ?_
   clear G; intro ρ a w G
   refine th_n ?_
   refine wp_ret ?_
   exact rx_ret (v := .agg [iA e.kind, iA e.value, .tref 2]) G [0, 2] (by kernel_rfl) (by kernel_rfl) (by show _ = List.map (It.ren (nth [0, 2])) [dE e.kids, .tree (D.exprs e.kids)]; have e1 : (List.take k e.kids : List LExpr) = (e.kids) := (by exact take_is hp (by assumption)); first | (rw [e1]; done) | (rw [e1]; rfl) | (simp only [e1]; done) | (simp only [e1]; rfl)) (by kernel_rfl)
  ·
   have q0 : (↑k : Int) < (↑e.kids.length : Int) := of_decide_eq_true h0
   refine rT G (decide ((↑k : Int) < (↑e.kids.length : Int))) (by assumption) ?_
   refine wp_skip ?_
   refine th_n ?_
   refine wp_seq ?_
   refine wp_block ?_
   refine rd1 (dk := dkP) G ⟨[(7, _, [53])], [], []⟩ (calls_cons (ih (e.kids.getD k default) (by exact getE_mem (by assumption))) calls_nil) trivial [0, 1, 0, 4, 0, 28, 60, 124, 252, 511, 1023, 2047] [0, 1, 2, 3, 77] [dE e.kids, .box (eL e 0), .box [iA 0, iA 0, .v (.slice none 0 0)], .box [iA e.kind, iA e.value, .tref 4], .tree (D.exprs (List.take k e.kids ++ [LExpr.mk (e.kids.getD k default).kind (e.kids.getD k default).value (e.kids.getD k default).kids]))] [(1, .ptr 1 0), (2, .ptr 2 0), (3, .ptr 3 0), (4, iA (↑k : Int))] [(0 : Int) ≤ (↑k : Int), (↑k : Int) < (↑e.kids.length : Int), k < e.kids.length, (List.take k e.kids).length + [LExpr.mk (e.kids.getD k default).kind (e.kids.getD k default).value (e.kids.getD k default).kids].length ≤ (9223372036854775807 : Nat), ((List.take k e.kids).length + [LExpr.mk (e.kids.getD k default).kind (e.kids.getD k default).value (e.kids.getD k default).kids].length) * (40 : Nat) ≤ (140737488355328 : Nat)] ⟨(by simp [h0]), (by assumption), (by have := len1 (x := (default : LExpr)) hp hl; simp only [List.length_cons, List.length_nil] at this ⊢; omega), (by have := len1 (x := (default : LExpr)) hp hl; simp only [List.length_cons, List.length_nil] at this ⊢; omega), (by exact fitB (len1 hp hl) (by kernel_rfl)), trivial⟩ ?_
   clear G; intro ρ a w G
   refine bl_n ?_
   refine th_n ?_
   refine rs1s G ⟨[], [], []⟩ calls_nil trivial [(1, .ptr 1 0), (2, .ptr 2 0), (3, .ptr 3 0), (4, iA ((↑k : Int) + 1))] [IntKind.i64.wrap ((↑k : Int) + (1 : Int)) = (↑k : Int) + (1 : Int)] ⟨(by exact w64 (by omega) (by omega)), trivial⟩ ?_
   clear G; intro ρ a w G
   refine th_n ?_
   exact rx_next G (k + 1) (by have := len1 (x := (default : LExpr)) hp hl; simp only [List.length_cons, List.length_nil] at this ⊢; omega) (by have := len1 (x := (default : LExpr)) hp hl; simp only [List.length_cons, List.length_nil] at this ⊢; omega) [0, 1, 2, 3, 4] [dE e.kids, .box (eL e 0), .box [iA 0, iA 0, .v (.slice none 0 0)], .box [iA e.kind, iA e.value, .tref 4], .tree (D.exprs (List.take (k + 1) e.kids))] [(1, .ptr 1 0), (2, .ptr 2 0), (3, .ptr 3 0), (4, iA (↑(k + 1) : Int))] (by kernel_rfl) (by kernel_rfl) (by kernel_rfl) (by have e1 : (List.take (k + 1) e.kids : List LExpr) = (List.take k e.kids ++ [LExpr.mk (e.kids.getD k default).kind (e.kids.getD k default).value (e.kids.getD k default).kids]) := (by exact (takeE (by omega)).symm); first | (rw [e1]; done) | (rw [e1]; rfl) | (simp only [e1]; done) | (simp only [e1]; rfl)) (by kernel_rfl)

theorem c_copyE (e : LExpr) : szE e ≤ 1048576 → Ctr.ok Try.prog (cpC e) :=
  LExpr.ind (P := fun e => szE e ≤ 1048576 → Ctr.ok Try.prog (cpC e)) (fun k n ks ih hb => s_copyES ⟨k, n, ks⟩ hb fun x hx => ih x hx (by
    have h1 := szE_mem (show x ∈ ks from hx)
    have h2 : szE ⟨k, n, ks⟩ = szEs ks := rfl
    omega)) e

abbrev cpsC (l : List LStmt) : Ctr := ⟨146, [.ref 0], [dT l], [dT l, .tree (.stmts l)], .tref 1⟩
theorem fit_sub {l : List LStmt} {k : Nat} (hb : szSs l ≤ 1048576) (h : (k : Int) < l.length) : szE (l.getD k default).index ≤ 1048576 ∧ szE (l.getD k default).value ≤ 1048576 ∧ szSs (l.getD k default).body ≤ 1048576 ∧ szSs (l.getD k default).els ≤ 1048576 := by
  have h1 := szS_mem (getS_mem h)
  generalize l.getD k default = s at *
  rcases s with ⟨_, _, i, v, _, b, e⟩
  simp only [szS] at h1
  simp only [LStmt.index, LStmt.value, LStmt.body, LStmt.els]
  omega
set_option maxRecDepth 100000 in
theorem s_copySS (l : List LStmt) (hb : szSs l ≤ 1048576) (ih1 : ∀ (s : LStmt), s ∈ l → Ctr.ok Try.prog (cpsC s.body)) (ih2 : ∀ (s : LStmt), s ∈ l → Ctr.ok Try.prog (cpsC s.els)) : Ctr.ok Try.prog (cpsC l) := by
  refine rx_enter 38 Try.func146 (by rfl) (by kernel_rfl) (by kernel_rfl) ?_
  intro ι φ ψ w0 w F ρ0 ρ a G
  replace G := Gam.at G [dT l] [(0, .ref 0)]
  have hl := block_fit hb
  refine wp_seq ?_
  refine rs0s G [(0, .ref 0), (2, .v (.slice none 0 0))] ?_
  clear G; intro ρ a w G
  refine th_n ?_
  refine wp_seq ?_
  refine rs0 G [0, 1] [dT l, .tree (D.stmts [])] [(0, .ref 0), (2, .v (.slice none 0 0)), (3, .tref 1)] ?_
  clear G; intro ρ a w G
  refine th_n ?_
  refine wp_seq ?_
  refine wp_seq ?_
  refine rs0s G [(0, .ref 0), (2, .v (.slice none 0 0)), (3, .tref 1), (4, iA 0)] ?_
  clear G; intro ρ a w G
  refine th_n ?_
  refine wp_block ?_
  refine rx_for (κ := Nat) (fun k => k ≤ l.length) (fun k => l.length - k) (fun k => [dT l, .tree (.stmts (l.take k))]) (fun k => [(0, .ref 0), (2, .v (.slice none 0 0)), (3, .tref 1), (4, iA k)]) (0) (by omega) (Gam.at G _ _) ?_
  clear G
  intro k ρ a w hp G
  replace G := Gam.at G [dT l, .tree (D.stmts (List.take k l))] [(0, .ref 0), (2, .v (.slice none 0 0)), (3, .tref 1), (4, iA (↑k : Int))]
  refine wp_seq ?_
  refine wp_seq ?_
  refine rs0s G [(0, .ref 0), (2, .v (.slice none 0 0)), (3, .tref 1), (4, iA (↑k : Int)), (10, bA (decide ((↑k : Int) < (↑l.length : Int))))] ?_
  clear G; intro ρ a w G
  refine th_n ?_
  cases h0 : (decide ((↑k : Int) < (↑l.length : Int)))
  ·
   have q0 : ¬ ((↑k : Int) < (↑l.length : Int)) := of_decide_eq_false h0
   refine rF G (decide ((↑k : Int) < (↑l.length : Int))) (by assumption) ?_
   refine wp_exit ?_
   refine th_e ?_
   refine th_e ?_
   refine bl_hit ?_
   refine th_n ?_
   refine wp_seq ?_
   refine rs0s G [(2, .tref 1)] ?_
   clear G; intro ρ a w G
   refine th_n ?_
   refine wp_ret ?_
   exact rx_ret (v := .tref 1) G [0, 1] (by kernel_rfl) (by kernel_rfl) (by show _ = List.map (It.ren (nth [0, 1])) [dT l, .tree (D.stmts l)]; have e1 : (List.take k l : List LStmt) = (l) := (by exact take_is hp (by assumption)); first | (rw [e1]; done) | (rw [e1]; rfl) | (simp only [e1]; done) | (simp only [e1]; rfl)) (by kernel_rfl)
  ·
   have q0 : (↑k : Int) < (↑l.length : Int) := of_decide_eq_true h0
   refine rT G (decide ((↑k : Int) < (↑l.length : Int))) (by assumption) ?_
   refine wp_skip ?_
   refine th_n ?_
   refine wp_seq ?_
   refine wp_block ?_
   refine wp_seq ?_
   refine rs1 (dk := dkP) G ⟨[], [], []⟩ calls_nil trivial [0, 1, 26, 27, 28, 29, 34] [dT l, .tree (D.stmts (List.take k l)), dE (l.getD k default).index.kids, dE (l.getD k default).value.kids, dT (l.getD k default).body, dT (l.getD k default).els, .box (sL (l.getD k default) 2)] [(0, .ref 0), (2, .v (.slice none 0 0)), (3, .tref 1), (4, iA (↑k : Int)), (5, .ptr 6 0)] [(0 : Int) ≤ (↑k : Int), (↑k : Int) < (↑l.length : Int), k < l.length] ⟨(by simp [h0]), (by assumption), (by have := len1 (x := (default : LStmt)) hp hl; simp only [List.length_cons, List.length_nil] at this ⊢; omega), trivial⟩ ?_
   clear G; intro ρ a w G
   refine th_n ?_
   refine wp_seq ?_
   refine rs1 (dk := dkP) G ⟨[(2, _, [2])], [], []⟩ (calls_cons (c_copyE ((l.getD k default).index) (by exact (fit_sub hb (by assumption)).1)) calls_nil) trivial [0, 1, 3, 4, 5, 6, 23] [dT l, .tree (D.stmts (List.take k l)), dE (l.getD k default).value.kids, dT (l.getD k default).body, dT (l.getD k default).els, .box [iA (l.getD k default).kind, iA (l.getD k default).target, iA (l.getD k default).index.kind, iA (l.getD k default).index.value, .tref 6, iA (l.getD k default).value.kind, iA (l.getD k default).value.value, .ref 2, iA (l.getD k default).count, .ref 3, .ref 4], .tree (D.exprs (l.getD k default).index.kids)] [(0, .ref 0), (2, .v (.slice none 0 0)), (3, .tref 1), (4, iA (↑k : Int)), (5, .ptr 5 0)] [] trivial ?_
   clear G; intro ρ a w G
   refine th_n ?_
   refine wp_seq ?_
   refine rs1 (dk := dkP) G ⟨[(2, _, [2])], [], []⟩ (calls_cons (c_copyE ((l.getD k default).value) (by exact (fit_sub hb (by assumption)).2.1)) calls_nil) trivial [0, 1, 3, 4, 5, 6, 23] [dT l, .tree (D.stmts (List.take k l)), dT (l.getD k default).body, dT (l.getD k default).els, .box [iA (l.getD k default).kind, iA (l.getD k default).target, iA (l.getD k default).index.kind, iA (l.getD k default).index.value, .tref 5, iA (l.getD k default).value.kind, iA (l.getD k default).value.value, .tref 6, iA (l.getD k default).count, .ref 2, .ref 3], .tree (D.exprs (l.getD k default).index.kids), .tree (D.exprs (l.getD k default).value.kids)] [(0, .ref 0), (2, .v (.slice none 0 0)), (3, .tref 1), (4, iA (↑k : Int)), (5, .ptr 4 0)] [] trivial ?_
   clear G; intro ρ a w G
   refine th_n ?_
   refine wp_seq ?_
   refine rs1 (dk := dkP) G ⟨[(2, _, [2])], [], []⟩ (calls_cons (ih1 (l.getD k default) (by exact getS_mem (by assumption))) calls_nil) trivial [0, 1, 3, 4, 5, 6, 23] [dT l, .tree (D.stmts (List.take k l)), dT (l.getD k default).els, .box [iA (l.getD k default).kind, iA (l.getD k default).target, iA (l.getD k default).index.kind, iA (l.getD k default).index.value, .tref 4, iA (l.getD k default).value.kind, iA (l.getD k default).value.value, .tref 5, iA (l.getD k default).count, .tref 6, .ref 2], .tree (D.exprs (l.getD k default).index.kids), .tree (D.exprs (l.getD k default).value.kids), .tree (D.stmts (l.getD k default).body)] [(0, .ref 0), (2, .v (.slice none 0 0)), (3, .tref 1), (4, iA (↑k : Int)), (5, .ptr 3 0)] [] trivial ?_
   clear G; intro ρ a w G
   refine th_n ?_
   refine wp_seq ?_
   refine rs1 (dk := dkP) G ⟨[(2, _, [2])], [], []⟩ (calls_cons (ih2 (l.getD k default) (by exact getS_mem (by assumption))) calls_nil) trivial [0, 1, 3, 4, 5, 6, 23] [dT l, .tree (D.stmts (List.take k l)), .box [iA (l.getD k default).kind, iA (l.getD k default).target, iA (l.getD k default).index.kind, iA (l.getD k default).index.value, .tref 3, iA (l.getD k default).value.kind, iA (l.getD k default).value.value, .tref 4, iA (l.getD k default).count, .tref 5, .tref 6], .tree (D.exprs (l.getD k default).index.kids), .tree (D.exprs (l.getD k default).value.kids), .tree (D.stmts (l.getD k default).body), .tree (D.stmts (l.getD k default).els)] [(0, .ref 0), (2, .v (.slice none 0 0)), (3, .tref 1), (4, iA (↑k : Int)), (5, .ptr 2 0)] [] trivial ?_
   clear G; intro ρ a w G
   refine th_n ?_
   refine rs1 (dk := dkP) G ⟨[], [], []⟩ calls_nil trivial [0, 31] [dT l, .tree (D.stmts (List.take k l ++ [LStmt.mk (l.getD k default).kind (l.getD k default).target (LExpr.mk (l.getD k default).index.kind (l.getD k default).index.value (l.getD k default).index.kids) (LExpr.mk (l.getD k default).value.kind (l.getD k default).value.value (l.getD k default).value.kids) (l.getD k default).count (l.getD k default).body (l.getD k default).els]))] [(0, .ref 0), (2, .v (.slice none 0 0)), (3, .tref 1), (4, iA (↑k : Int))] [(List.take k l).length + [LStmt.mk (l.getD k default).kind (l.getD k default).target (LExpr.mk (l.getD k default).index.kind (l.getD k default).index.value (l.getD k default).index.kids) (LExpr.mk (l.getD k default).value.kind (l.getD k default).value.value (l.getD k default).value.kids) (l.getD k default).count (l.getD k default).body (l.getD k default).els].length ≤ (9223372036854775807 : Nat), ((List.take k l).length + [LStmt.mk (l.getD k default).kind (l.getD k default).target (LExpr.mk (l.getD k default).index.kind (l.getD k default).index.value (l.getD k default).index.kids) (LExpr.mk (l.getD k default).value.kind (l.getD k default).value.value (l.getD k default).value.kids) (l.getD k default).count (l.getD k default).body (l.getD k default).els].length) * (152 : Nat) ≤ (140737488355328 : Nat)] ⟨(by have := len1 (x := (default : LStmt)) hp hl; simp only [List.length_cons, List.length_nil] at this ⊢; omega), (by exact fitB (len1 hp hl) (by kernel_rfl)), trivial⟩ ?_
   clear G; intro ρ a w G
   refine bl_n ?_
   refine th_n ?_
   refine rs1s G ⟨[], [], []⟩ calls_nil trivial [(0, .ref 0), (2, .v (.slice none 0 0)), (3, .tref 1), (4, iA ((↑k : Int) + 1))] [IntKind.i64.wrap ((↑k : Int) + (1 : Int)) = (↑k : Int) + (1 : Int)] ⟨(by exact w64 (by omega) (by omega)), trivial⟩ ?_
   clear G; intro ρ a w G
   refine th_n ?_
   exact rx_next G (k + 1) (by have := len1 (x := (default : LStmt)) hp hl; simp only [List.length_cons, List.length_nil] at this ⊢; omega) (by have := len1 (x := (default : LStmt)) hp hl; simp only [List.length_cons, List.length_nil] at this ⊢; omega) [0, 1] [dT l, .tree (D.stmts (List.take (k + 1) l))] [(0, .ref 0), (2, .v (.slice none 0 0)), (3, .tref 1), (4, iA (↑(k + 1) : Int))] (by kernel_rfl) (by kernel_rfl) (by kernel_rfl) (by have e1 : (List.take (k + 1) l : List LStmt) = (List.take k l ++ [LStmt.mk (l.getD k default).kind (l.getD k default).target (LExpr.mk (l.getD k default).index.kind (l.getD k default).index.value (l.getD k default).index.kids) (LExpr.mk (l.getD k default).value.kind (l.getD k default).value.value (l.getD k default).value.kids) (l.getD k default).count (l.getD k default).body (l.getD k default).els]) := (by exact (takeS (by omega)).symm); first | (rw [e1]; done) | (rw [e1]; rfl) | (simp only [e1]; done) | (simp only [e1]; rfl)) (by kernel_rfl)

theorem c_copyS (l : List LStmt) : szSs l ≤ 1048576 → Ctr.ok Try.prog (cpsC l) := fun hb => s_copySS l hb
  (fun s hs => (c_copyS2 s).1 (Nat.le_trans (Nat.le_of_lt (szS_mem hs)) hb)) fun s hs => (c_copyS2 s).2 (Nat.le_trans (Nat.le_of_lt (szS_mem hs)) hb)
where
  c_copyS2 (s : LStmt) : (szS s ≤ 1048576 → Ctr.ok Try.prog (cpsC s.body)) ∧ (szS s ≤ 1048576 → Ctr.ok Try.prog (cpsC s.els)) :=
    LStmt.ind (P := fun s => (szS s ≤ 1048576 → Ctr.ok Try.prog (cpsC s.body)) ∧ (szS s ≤ 1048576 → Ctr.ok Try.prog (cpsC s.els))) (fun k t i v c b e h1 h2 => by
      have hz : szS ⟨k, t, i, v, c, b, e⟩ = szE i + szE v + szSs b + szSs e := rfl
      constructor
      · intro hb
        refine s_copySS b (by omega) (fun s hs => (h1 s hs).1 ?_) fun s hs => (h1 s hs).2 ?_
        · have := szS_mem hs; omega
        · have := szS_mem hs; omega
      · intro hb
        refine s_copySS e (by omega) (fun s hs => (h2 s hs).1 ?_) fun s hs => (h2 s hs).2 ?_
        · have := szS_mem hs; omega
        · have := szS_mem hs; omega) s

set_option maxRecDepth 100000 in
theorem c_l2Copy (p : LProg) (hb : p.size ≤ 1048576) : Ctr.ok Try.prog ⟨84, [pA 0], pS p, pS p ++ oP p, oA 3⟩ := by
  refine rx_enter 15 Try.func84 (by rfl) (by kernel_rfl) (by kernel_rfl) ?_
  intro ι φ ψ w0 w F ρ0 ρ a G
  replace G := Gam.at G [dI p.vars, dI p.arrays, dT p.body] [(0, pA 0)]
  have hb1 : p.vars.length ≤ 1048576 ∧ p.arrays.length ≤ 1048576 ∧ szSs p.body ≤ 1048576 := by unfold LProg.size at hb; omega
  refine wp_seq ?_
  refine rs0 G [0, 1, 2, 3, 11] [dI p.vars, dI p.arrays, dT p.body, .box (pL 0), .box [.v (.slice none 0 0), .v (.slice none 0 0), .v (.slice none 0 0)]] [(1, .ptr 3 0), (2, .ptr 4 0)] ?_
  clear G; intro ρ a w G
  refine th_n ?_
  refine wp_seq ?_
  refine rd1 (dk := dkP) G ⟨[(10, _, [2])], [], []⟩ (calls_cons (c_copyS (p.body) (by exact hb1.2.2)) calls_nil) trivial [0, 0, 2, 7, 0, 0, 32, 127, 0, 256, 1023, 2047, 4095] [0, 1, 2, 4, 29, 61, 85] [dI p.vars, dI p.arrays, dT p.body, .box [.ref 4, .ref 5, .tref 6], .row 3 (D.ints ([] ++ p.vars)), .row 3 (D.ints ([] ++ p.arrays)), .tree (D.stmts p.body)] [(2, .ptr 3 0)] [(0 : Nat) + p.vars.length ≤ (9223372036854775807 : Nat), ((0 : Nat) + p.vars.length) * (8 : Nat) ≤ (140737488355328 : Nat), (0 : Nat) + p.arrays.length ≤ (9223372036854775807 : Nat), ((0 : Nat) + p.arrays.length) * (8 : Nat) ≤ (140737488355328 : Nat)] ⟨(by omega), (by omega), (by omega), (by omega), trivial⟩ ?_
  clear G; intro ρ a w G
  refine th_n ?_
  refine wp_ret ?_
  exact rx_ret (v := .agg [.ref 4, .ref 5, .tref 6]) G [0, 1, 2, 4, 5, 6] (by kernel_rfl) (by kernel_rfl) (by kernel_rfl) (by kernel_rfl)

end Go.Proofs.Ytgpkdfefgcpbiaa

namespace Go.Proofs.Ytgpkdfefgcpbiaa
set_option linter.unusedVariables false
set_option linter.unusedSimpArgs false
open Go Go.RowKit

abbrev owC (e : LExpr) : Ctr := ⟨169, [eA e 0], eS e, eS e ++ [.tree (.exprs e.kids)], .agg [iA e.kind, iA e.value, .tref 1]⟩
set_option maxRecDepth 100000 in
theorem s_ownE (e : LExpr) (hb : szE e ≤ 1048576) (ih : ∀ (x : LExpr), x ∈ e.kids → Ctr.ok Try.prog (owC x)) : Ctr.ok Try.prog (owC e) := by
  refine rx_enter 27 Try.func169 (by rfl) (by kernel_rfl) (by kernel_rfl) ?_
  intro ι φ ψ w0 w F ρ0 ρ a G
  replace G := Gam.at G [dE e.kids] [(0, eA e 0)]
  have hl := kids_fit hb
  refine wp_seq ?_
  refine rs0 G [0, 1, 9] [dE e.kids, .box (eL e 0), .box [iA 0, iA 0, .v (.slice none 0 0)]] [(1, .ptr 1 0), (2, .ptr 2 0)] ?_
  clear G; intro ρ a w G
  refine th_n ?_
  refine wp_seq ?_
  refine rs0 G [0, 1, 2, 43] [dE e.kids, .box (eL e 0), .box [iA 0, iA 0, .v (.slice none 0 0)], .box [iA e.kind, iA e.value, .v (.slice none 0 0)]] [(1, .ptr 1 0), (2, .ptr 2 0), (3, .ptr 3 0)] ?_
  clear G; intro ρ a w G
  refine th_n ?_
  refine wp_seq ?_
  refine wp_seq ?_
  refine rs0 G [0, 2, 3] [dE e.kids, .box [iA 0, iA 0, .v (.slice none 0 0)], .box [iA e.kind, iA e.value, .v (.slice none 0 0)]] [(2, .ptr 1 0), (3, .ptr 2 0), (12, .ref 0), (13, iA (↑e.kids.length : Int)), (14, iA 0)] ?_
  clear G; intro ρ a w G
  refine th_n ?_
  refine wp_block ?_
  have Gx := G.nilT 3 (.exprs []) [dE e.kids, .box [iA 0, iA 0, .v (.slice none 0 0)], .box [iA e.kind, iA e.value, .tref 3]] [(2, .ptr 1 0), (3, .ptr 2 0), (12, .ref 0), (13, iA (↑e.kids.length : Int)), (14, iA 0)]
  clear G
  obtain ⟨ρ, G⟩ := Gx
  replace G := Gam.at G [dE e.kids, .box [iA 0, iA 0, .v (.slice none 0 0)], .box [iA e.kind, iA e.value, .tref 3], .tree (D.exprs [])] [(2, .ptr 1 0), (3, .ptr 2 0), (12, .ref 0), (13, iA (↑e.kids.length : Int)), (14, iA 0)]
  refine rx_for (κ := Nat) (fun k => k ≤ e.kids.length) (fun k => e.kids.length - k) (fun k => [dE e.kids, .box [iA 0, iA 0, .v (.slice none 0 0)], .box [iA e.kind, iA e.value, .tref 3], .tree (.exprs (e.kids.take k))]) (fun k => [(2, .ptr 1 0), (3, .ptr 2 0), (12, .ref 0), (13, iA (↑e.kids.length : Int)), (14, iA k)]) (0) (by omega) (Gam.at G _ _) ?_
  clear G
  intro k ρ a w hp G
  replace G := Gam.at G [dE e.kids, .box [iA 0, iA 0, .v (.slice none 0 0)], .box [iA e.kind, iA e.value, .tref 3], .tree (D.exprs (List.take k e.kids))] [(2, .ptr 1 0), (3, .ptr 2 0), (12, .ref 0), (13, iA (↑e.kids.length : Int)), (14, iA (↑k : Int))]
  refine wp_seq ?_
  refine rs0s G [(2, .ptr 1 0), (3, .ptr 2 0), (12, .ref 0), (13, iA (↑e.kids.length : Int)), (14, iA (↑k : Int)), (15, bA (decide ((↑k : Int) < (↑e.kids.length : Int))))] ?_
  clear G; intro ρ a w G
  refine th_n ?_
  refine wp_seq ?_
  cases h0 : (decide ((↑k : Int) < (↑e.kids.length : Int)))
  ·
   have q0 : ¬ ((↑k : Int) < (↑e.kids.length : Int)) := of_decide_eq_false h0
   refine rF G (decide ((↑k : Int) < (↑e.kids.length : Int))) (by assumption) ?_
   refine wp_exit ?_
   refine th_e ?_
   refine th_e ?_
   refine bl_hit ?_
   refine th_n ?_
   refine wp_seq ?_
   refine rs0 G [0, 1, 3] [dE e.kids, .box [iA e.kind, iA e.value, .tref 2], .tree (D.exprs (List.take k e.kids))] [(2, .ptr 1 0)] ?_
   clear G; intro ρ a w G
   refine th_n ?_
   refine wp_ret ?_
   exact rx_ret (v := .agg [iA e.kind, iA e.value, .tref 2]) G [0, 2] (by kernel_rfl) (by kernel_rfl) (by show _ = List.map (It.ren (nth [0, 2])) [dE e.kids, .tree (D.exprs e.kids)]; have e1 : (List.take k e.kids : List LExpr) = (e.kids) := (by exact take_is hp (by assumption)); first | (rw [e1]; done) | (rw [e1]; rfl) | (simp only [e1]; done) | (simp only [e1]; rfl)) (by kernel_rfl)
  ·
   have q0 : (↑k : Int) < (↑e.kids.length : Int) := of_decide_eq_true h0
   refine rT G (decide ((↑k : Int) < (↑e.kids.length : Int))) (by assumption) ?_
   refine wp_skip ?_
   refine th_n ?_
   refine wp_seq ?_
   refine wp_block ?_
   refine wp_seq ?_
   refine rs1 (dk := dkP) G ⟨[], [], []⟩ calls_nil trivial [0, 1, 2, 3, 12, 20] [dE e.kids, .box [iA 0, iA 0, .v (.slice none 0 0)], .box [iA e.kind, iA e.value, .tref 3], .tree (D.exprs (List.take k e.kids)), dE (e.kids.getD k default).kids, .box (eL (e.kids.getD k default) 4)] [(2, .ptr 1 0), (3, .ptr 2 0), (5, .ptr 5 0), (12, .ref 0), (13, iA (↑e.kids.length : Int)), (14, iA (↑k : Int))] [(0 : Int) ≤ (↑k : Int), (↑k : Int) < (↑e.kids.length : Int), k < e.kids.length] ⟨(by simp [h0]), (by assumption), (by have := len1 (x := (default : LExpr)) hp hl; simp only [List.length_cons, List.length_nil] at this ⊢; omega), trivial⟩ ?_
   clear G; intro ρ a w G
   refine th_n ?_
   refine rd1 (dk := dkP) G ⟨[(3, _, [4])], [], []⟩ (calls_cons (ih (e.kids.getD k default) (by exact getE_mem (by assumption))) calls_nil) trivial [0, 1, 0, 4, 12, 31, 63, 127] [0, 1, 2, 46] [dE e.kids, .box [iA 0, iA 0, .v (.slice none 0 0)], .box [iA e.kind, iA e.value, .tref 3], .tree (D.exprs (List.take k e.kids ++ [LExpr.mk (e.kids.getD k default).kind (e.kids.getD k default).value (e.kids.getD k default).kids]))] [(2, .ptr 1 0), (3, .ptr 2 0), (12, .ref 0), (13, iA (↑e.kids.length : Int)), (14, iA (↑k : Int))] [(List.take k e.kids).length + [LExpr.mk (e.kids.getD k default).kind (e.kids.getD k default).value (e.kids.getD k default).kids].length ≤ (9223372036854775807 : Nat), ((List.take k e.kids).length + [LExpr.mk (e.kids.getD k default).kind (e.kids.getD k default).value (e.kids.getD k default).kids].length) * (40 : Nat) ≤ (140737488355328 : Nat)] ⟨(by have := len1 (x := (default : LExpr)) hp hl; simp only [List.length_cons, List.length_nil] at this ⊢; omega), (by exact fitB (len1 hp hl) (by kernel_rfl)), trivial⟩ ?_
   clear G; intro ρ a w G
   refine bl_n ?_
   refine th_n ?_
   refine rs1s G ⟨[], [], []⟩ calls_nil trivial [(2, .ptr 1 0), (3, .ptr 2 0), (12, .ref 0), (13, iA (↑e.kids.length : Int)), (14, iA ((↑k : Int) + 1))] [IntKind.i64.wrap ((↑k : Int) + (1 : Int)) = (↑k : Int) + (1 : Int)] ⟨(by exact w64 (by omega) (by omega)), trivial⟩ ?_
   clear G; intro ρ a w G
   refine th_n ?_
   exact rx_next G (k + 1) (by have := len1 (x := (default : LExpr)) hp hl; simp only [List.length_cons, List.length_nil] at this ⊢; omega) (by have := len1 (x := (default : LExpr)) hp hl; simp only [List.length_cons, List.length_nil] at this ⊢; omega) [0, 1, 2, 3] [dE e.kids, .box [iA 0, iA 0, .v (.slice none 0 0)], .box [iA e.kind, iA e.value, .tref 3], .tree (D.exprs (List.take (k + 1) e.kids))] [(2, .ptr 1 0), (3, .ptr 2 0), (12, .ref 0), (13, iA (↑e.kids.length : Int)), (14, iA (↑(k + 1) : Int))] (by kernel_rfl) (by kernel_rfl) (by kernel_rfl) (by have e1 : (List.take (k + 1) e.kids : List LExpr) = (List.take k e.kids ++ [LExpr.mk (e.kids.getD k default).kind (e.kids.getD k default).value (e.kids.getD k default).kids]) := (by exact (takeE (by omega)).symm); first | (rw [e1]; done) | (rw [e1]; rfl) | (simp only [e1]; done) | (simp only [e1]; rfl)) (by kernel_rfl)

theorem c_ownE (e : LExpr) : szE e ≤ 1048576 → Ctr.ok Try.prog (owC e) :=
  LExpr.ind (P := fun e => szE e ≤ 1048576 → Ctr.ok Try.prog (owC e)) (fun k n ks ih hb => s_ownE ⟨k, n, ks⟩ hb fun x hx => ih x hx (by
    have h1 := szE_mem (show x ∈ ks from hx)
    have h2 : szE ⟨k, n, ks⟩ = szEs ks := rfl
    omega)) e

abbrev owsC (l : List LStmt) : Ctr := ⟨120, [.ref 0], [dT l], [dT l, .tree (.stmts l)], .tref 1⟩
set_option maxRecDepth 100000 in
theorem s_ownS (l : List LStmt) (hb : szSs l ≤ 1048576) (ih1 : ∀ (s : LStmt), s ∈ l → Ctr.ok Try.prog (owsC s.body)) (ih2 : ∀ (s : LStmt), s ∈ l → Ctr.ok Try.prog (owsC s.els)) : Ctr.ok Try.prog (owsC l) := by
  refine rx_enter 36 Try.func120 (by rfl) (by kernel_rfl) (by kernel_rfl) ?_
  intro ι φ ψ w0 w F ρ0 ρ a G
  replace G := Gam.at G [dT l] [(0, .ref 0)]
  have hl := block_fit hb
  refine wp_seq ?_
  refine rs0s G [(0, .ref 0), (2, .v (.slice none 0 0))] ?_
  clear G; intro ρ a w G
  refine th_n ?_
  refine wp_seq ?_
  refine rs0s G [(0, .ref 0), (2, .v (.slice none 0 0)), (3, .v (.slice none 0 0))] ?_
  clear G; intro ρ a w G
  refine th_n ?_
  refine wp_seq ?_
  refine wp_seq ?_
  refine rs0s G [(2, .v (.slice none 0 0)), (3, .v (.slice none 0 0)), (6, .ref 0), (7, iA (↑l.length : Int)), (8, iA 0)] ?_
  clear G; intro ρ a w G
  refine th_n ?_
  refine wp_block ?_
  have Gx := G.nilT 1 (.stmts []) [dT l] [(2, .v (.slice none 0 0)), (3, .tref 1), (6, .ref 0), (7, iA (↑l.length : Int)), (8, iA 0)]
  clear G
  obtain ⟨ρ, G⟩ := Gx
  replace G := Gam.at G [dT l, .tree (D.stmts [])] [(2, .v (.slice none 0 0)), (3, .tref 1), (6, .ref 0), (7, iA (↑l.length : Int)), (8, iA 0)]
  refine rx_for (κ := Nat) (fun k => k ≤ l.length) (fun k => l.length - k) (fun k => [dT l, .tree (.stmts (l.take k))]) (fun k => [(2, .v (.slice none 0 0)), (3, .tref 1), (6, .ref 0), (7, iA (↑l.length : Int)), (8, iA k)]) (0) (by omega) (Gam.at G _ _) ?_
  clear G
  intro k ρ a w hp G
  replace G := Gam.at G [dT l, .tree (D.stmts (List.take k l))] [(2, .v (.slice none 0 0)), (3, .tref 1), (6, .ref 0), (7, iA (↑l.length : Int)), (8, iA (↑k : Int))]
  refine wp_seq ?_
  refine rs0s G [(2, .v (.slice none 0 0)), (3, .tref 1), (6, .ref 0), (7, iA (↑l.length : Int)), (8, iA (↑k : Int)), (9, bA (decide ((↑k : Int) < (↑l.length : Int))))] ?_
  clear G; intro ρ a w G
  refine th_n ?_
  refine wp_seq ?_
  cases h0 : (decide ((↑k : Int) < (↑l.length : Int)))
  ·
   have q0 : ¬ ((↑k : Int) < (↑l.length : Int)) := of_decide_eq_false h0
   refine rF G (decide ((↑k : Int) < (↑l.length : Int))) (by assumption) ?_
   refine wp_exit ?_
   refine th_e ?_
   refine th_e ?_
   refine bl_hit ?_
   refine th_n ?_
   refine wp_seq ?_
   refine rs0s G [(2, .tref 1)] ?_
   clear G; intro ρ a w G
   refine th_n ?_
   refine wp_ret ?_
   exact rx_ret (v := .tref 1) G [0, 1] (by kernel_rfl) (by kernel_rfl) (by show _ = List.map (It.ren (nth [0, 1])) [dT l, .tree (D.stmts l)]; have e1 : (List.take k l : List LStmt) = (l) := (by exact take_is hp (by assumption)); first | (rw [e1]; done) | (rw [e1]; rfl) | (simp only [e1]; done) | (simp only [e1]; rfl)) (by kernel_rfl)
  ·
   have q0 : (↑k : Int) < (↑l.length : Int) := of_decide_eq_true h0
   refine rT G (decide ((↑k : Int) < (↑l.length : Int))) (by assumption) ?_
   refine wp_skip ?_
   refine th_n ?_
   refine wp_seq ?_
   refine wp_block ?_
   refine wp_seq ?_
   refine rs1 (dk := dkP) G ⟨[], [], []⟩ calls_nil trivial [0, 1, 10, 11, 12, 13, 18] [dT l, .tree (D.stmts (List.take k l)), dE (l.getD k default).index.kids, dE (l.getD k default).value.kids, dT (l.getD k default).body, dT (l.getD k default).els, .box (sL (l.getD k default) 2)] [(2, .v (.slice none 0 0)), (3, .tref 1), (5, .ptr 6 0), (6, .ref 0), (7, iA (↑l.length : Int)), (8, iA (↑k : Int))] [(0 : Int) ≤ (↑k : Int), (↑k : Int) < (↑l.length : Int), k < l.length] ⟨(by simp [h0]), (by assumption), (by have := len1 (x := (default : LStmt)) hp hl; simp only [List.length_cons, List.length_nil] at this ⊢; omega), trivial⟩ ?_
   clear G; intro ρ a w G
   refine th_n ?_
   refine rd1 (dk := dkP) G ⟨[(7, _, [2]), (10, _, [3]), (15, _, [4]), (18, _, [5])], [], []⟩ (calls_cons (c_ownE ((l.getD k default).index) (by exact (fit_sub hb (by assumption)).1)) (calls_cons (c_ownE ((l.getD k default).value) (by exact (fit_sub hb (by assumption)).2.1)) (calls_cons (ih1 (l.getD k default) (by exact getS_mem (by assumption))) (calls_cons (ih2 (l.getD k default) (by exact getS_mem (by assumption))) calls_nil)))) trivial [0, 0, 2, 0, 8, 0, 32, 96, 0, 256, 992, 0, 2048, 0, 8192, 26592, 0, 65536, 255968, 524286, 1048574, 2097151, 4194303] [0, 175] [dT l, .tree (D.stmts (List.take k l ++ [LStmt.mk (l.getD k default).kind (l.getD k default).target (LExpr.mk (l.getD k default).index.kind (l.getD k default).index.value (l.getD k default).index.kids) (LExpr.mk (l.getD k default).value.kind (l.getD k default).value.value (l.getD k default).value.kids) (l.getD k default).count (l.getD k default).body (l.getD k default).els]))] [(2, .v (.slice none 0 0)), (3, .tref 1), (6, .ref 0), (7, iA (↑l.length : Int)), (8, iA (↑k : Int))] [(List.take k l).length + [LStmt.mk (l.getD k default).kind (l.getD k default).target (LExpr.mk (l.getD k default).index.kind (l.getD k default).index.value (l.getD k default).index.kids) (LExpr.mk (l.getD k default).value.kind (l.getD k default).value.value (l.getD k default).value.kids) (l.getD k default).count (l.getD k default).body (l.getD k default).els].length ≤ (9223372036854775807 : Nat), ((List.take k l).length + [LStmt.mk (l.getD k default).kind (l.getD k default).target (LExpr.mk (l.getD k default).index.kind (l.getD k default).index.value (l.getD k default).index.kids) (LExpr.mk (l.getD k default).value.kind (l.getD k default).value.value (l.getD k default).value.kids) (l.getD k default).count (l.getD k default).body (l.getD k default).els].length) * (152 : Nat) ≤ (140737488355328 : Nat)] ⟨(by have := len1 (x := (default : LStmt)) hp hl; simp only [List.length_cons, List.length_nil] at this ⊢; omega), (by exact fitB (len1 hp hl) (by kernel_rfl)), trivial⟩ ?_
   clear G; intro ρ a w G
   refine bl_n ?_
   refine th_n ?_
   refine rs1s G ⟨[], [], []⟩ calls_nil trivial [(2, .v (.slice none 0 0)), (3, .tref 1), (6, .ref 0), (7, iA (↑l.length : Int)), (8, iA ((↑k : Int) + 1))] [IntKind.i64.wrap ((↑k : Int) + (1 : Int)) = (↑k : Int) + (1 : Int)] ⟨(by exact w64 (by omega) (by omega)), trivial⟩ ?_
   clear G; intro ρ a w G
   refine th_n ?_
   exact rx_next G (k + 1) (by have := len1 (x := (default : LStmt)) hp hl; simp only [List.length_cons, List.length_nil] at this ⊢; omega) (by have := len1 (x := (default : LStmt)) hp hl; simp only [List.length_cons, List.length_nil] at this ⊢; omega) [0, 1] [dT l, .tree (D.stmts (List.take (k + 1) l))] [(2, .v (.slice none 0 0)), (3, .tref 1), (6, .ref 0), (7, iA (↑l.length : Int)), (8, iA (↑(k + 1) : Int))] (by kernel_rfl) (by kernel_rfl) (by kernel_rfl) (by have e1 : (List.take (k + 1) l : List LStmt) = (List.take k l ++ [LStmt.mk (l.getD k default).kind (l.getD k default).target (LExpr.mk (l.getD k default).index.kind (l.getD k default).index.value (l.getD k default).index.kids) (LExpr.mk (l.getD k default).value.kind (l.getD k default).value.value (l.getD k default).value.kids) (l.getD k default).count (l.getD k default).body (l.getD k default).els]) := (by exact (takeS (by omega)).symm); first | (rw [e1]; done) | (rw [e1]; rfl) | (simp only [e1]; done) | (simp only [e1]; rfl)) (by kernel_rfl)

theorem c_ownS (l : List LStmt) : szSs l ≤ 1048576 → Ctr.ok Try.prog (owsC l) := fun hb => s_ownS l hb
  (fun s hs => (own2 s).1 (Nat.le_trans (Nat.le_of_lt (szS_mem hs)) hb)) fun s hs => (own2 s).2 (Nat.le_trans (Nat.le_of_lt (szS_mem hs)) hb)
where
  own2 (s : LStmt) : (szS s ≤ 1048576 → Ctr.ok Try.prog (owsC s.body)) ∧ (szS s ≤ 1048576 → Ctr.ok Try.prog (owsC s.els)) :=
    LStmt.ind (P := fun s => (szS s ≤ 1048576 → Ctr.ok Try.prog (owsC s.body)) ∧ (szS s ≤ 1048576 → Ctr.ok Try.prog (owsC s.els))) (fun k t i v c b e h1 h2 => by
      have hz : szS ⟨k, t, i, v, c, b, e⟩ = szE i + szE v + szSs b + szSs e := rfl
      constructor
      · intro hb
        refine s_ownS b (by omega) (fun s hs => (h1 s hs).1 ?_) fun s hs => (h1 s hs).2 ?_
        · have := szS_mem hs; omega
        · have := szS_mem hs; omega
      · intro hb
        refine s_ownS e (by omega) (fun s hs => (h2 s hs).1 ?_) fun s hs => (h2 s hs).2 ?_
        · have := szS_mem hs; omega
        · have := szS_mem hs; omega) s

set_option maxRecDepth 100000 in
theorem c_own (p : LProg) (hb : p.size ≤ 1048576) : Ctr.ok Try.prog ⟨87, [pA 0], pS p, pS p ++ oP p, oA 3⟩ := by
  refine rx_enter 13 Try.func87 (by rfl) (by kernel_rfl) (by kernel_rfl) ?_
  intro ι φ ψ w0 w F ρ0 ρ a G
  replace G := Gam.at G [dI p.vars, dI p.arrays, dT p.body] [(0, pA 0)]
  have hb1 : p.vars.length ≤ 1048576 ∧ p.arrays.length ≤ 1048576 ∧ szSs p.body ≤ 1048576 := by unfold LProg.size at hb; omega
  refine wp_seq ?_
  refine rs0 G [0, 1, 2, 3, 11] [dI p.vars, dI p.arrays, dT p.body, .box (pL 0), .box [.v (.slice none 0 0), .v (.slice none 0 0), .v (.slice none 0 0)]] [(1, .ptr 3 0), (2, .ptr 4 0)] ?_
  clear G; intro ρ a w G
  refine th_n ?_
  refine wp_seq ?_
  refine rd1 (dk := dkP) G ⟨[(2, _, [0]), (5, _, [1]), (8, _, [2])], [], []⟩ (calls_cons (c_cloneInts (p.vars) (by omega)) (calls_cons (c_cloneInts (p.arrays) (by omega)) (calls_cons (c_ownS (p.body) (by exact hb1.2.2)) calls_nil))) trivial [0, 1, 3, 0, 8, 31, 0, 64, 255, 511, 1023] [0, 1, 2, 4, 21, 45, 69] [dI p.vars, dI p.arrays, dT p.body, .box [.ref 4, .ref 5, .tref 6], .row 3 (D.ints p.vars), .row 3 (D.ints p.arrays), .tree (D.stmts p.body)] [(2, .ptr 3 0)] [] trivial ?_
  clear G; intro ρ a w G
  refine th_n ?_
  refine wp_ret ?_
  exact rx_ret (v := .agg [.ref 4, .ref 5, .tref 6]) G [0, 1, 2, 4, 5, 6] (by kernel_rfl) (by kernel_rfl) (by kernel_rfl) (by kernel_rfl)

end Go.Proofs.Ytgpkdfefgcpbiaa

namespace Go.Proofs.Ytgpkdfefgcpbiaa
set_option linter.unusedVariables false
set_option linter.unusedSimpArgs false
open Go Go.RowKit

def raiseP (p : LProg) (l : Int) : LProg := if (progB p && labOk l) = true then ⟨p.vars.map fun x => orI x l, p.arrays.map fun x => orI x l, p.body⟩ else ⟨[], [], []⟩
/-- The first k are raised. -/
def rsL (l : Int) (xs : List Int) (k : Nat) : List Int := (xs.take k).map (fun x => orI x l) ++ xs.drop k
theorem rsL_len (l : Int) (xs : List Int) (k : Nat) : (rsL l xs k).length = xs.length := by simp [rsL]; omega
theorem rsL_zero (l : Int) (xs : List Int) : xs = rsL l xs 0 := by simp [rsL]
theorem rsL_all {l : Int} {xs : List Int} {k : Nat} (h : xs.length ≤ k) : rsL l xs k = xs.map fun x => orI x l := by
  unfold rsL
  rw [List.take_of_length_le (by omega), List.drop_eq_nil_of_le (by omega), List.append_nil]
theorem rsL_at {l : Int} {xs : List Int} {k : Nat} (h : k < xs.length) : (rsL l xs k).getD k 0 = xs.getD k 0 := by
  unfold rsL
  simp only [List.getD_eq_getElem?_getD]
  rw [List.getElem?_append_right (by simp; omega)]
  simp [List.length_take, Nat.min_eq_left (Nat.le_of_lt h)]
theorem rsL_set {l : Int} {xs : List Int} {k : Nat} (h : k < xs.length) : (rsL l xs k).set k (orI ((rsL l xs k).getD k 0) l) = rsL l xs (k + 1) := by
  rw [rsL_at h]
  unfold rsL
  apply List.ext_getElem?
  intro j
  rw [List.getElem?_set]
  by_cases e : k = j
  · subst e
    rw [if_pos rfl, if_pos (by simp; omega)]
    rw [List.getElem?_append_left (by simp; omega)]
    simp [List.getElem?_take, h, List.getD_eq_getElem?_getD]
  · rw [if_neg e]
    rcases Nat.lt_or_ge j k with h1 | h1
    · rw [List.getElem?_append_left (by simp; omega), List.getElem?_append_left (by simp; omega)]
      simp [List.getElem?_take, h1, show j < k + 1 by omega]
    · rw [List.getElem?_append_right (by simp; omega), List.getElem?_append_right (by simp; omega)]
      simp only [List.length_map, List.length_take, List.getElem?_drop]
      congr 1
      omega
theorem raise_no {p : LProg} {l : Int} (h : progB p = false ∨ labOk l = false) : raiseP p l = ⟨[], [], []⟩ := by
  unfold raiseP
  rw [if_neg]
  rcases h with h | h <;> simp [h]
theorem raise_yes {p : LProg} {l : Int} (h1 : progB p = true) (h2 : labOk l = true) : raiseP p l = ⟨p.vars.map fun x => orI x l, p.arrays.map fun x => orI x l, p.body⟩ := by
  unfold raiseP
  rw [if_pos (by simp [h1, h2])]
abbrev rsC (f : FuncId) (p : LProg) (l : Int) : Ctr := ⟨f, [pA 0, iA l], pS p, pS p ++ oP (raiseP p l), .tup [oA 3, bA (progB p && labOk l)]⟩
set_option maxRecDepth 100000 in
theorem c_RaiseLabels (p : LProg) (l : Int) (hb : p.size ≤ 1048576) : Ctr.ok Try.prog (rsC 28 p l) := by
  refine rx_enter 57 Try.func28 (by rfl) (by kernel_rfl) (by kernel_rfl) ?_
  intro ι φ ψ w0 w F ρ0 ρ a G
  replace G := Gam.at G [dI p.vars, dI p.arrays, dT p.body] [(0, pA 0), (1, iA l)]
  have hb1 : p.vars.length ≤ 1048576 ∧ p.arrays.length ≤ 1048576 ∧ szSs p.body ≤ 1048576 := by unfold LProg.size at hb; omega
  refine wp_seq ?_
  refine rs0 G [0, 1, 2, 3, 11] [dI p.vars, dI p.arrays, dT p.body, .box (pL 0), .box [.v (.slice none 0 0), .v (.slice none 0 0), .v (.slice none 0 0)]] [(1, iA l), (2, .ptr 3 0), (4, .ptr 4 0), (5, bA false)] ?_
  clear G; intro ρ a w G
  refine th_n ?_
  refine wp_seq ?_
  refine wp_seq ?_
  cases h0 : (!progB p)
  ·
   have q0 : (progB p) = true := (fun hq => (hq)) (Eq.mp (Bool.not_eq_false' _) h0)
   refine rs1s G ⟨[(1, _, [0, 1, 2]), (5, _, [])], [(!progB p, false)], [(4, 0), (5, 0), (6, 0), (1007, 0)]⟩ (calls_cons (c_ProgramValid (p) (by exact hb1.2.2)) (calls_cons (c_LabelValid (l)) calls_nil)) ⟨(by assumption), trivial⟩ [(1, iA l), (2, .ptr 3 0), (4, .ptr 4 0), (5, bA false), (16, .v (.bool !labOk l))] [] trivial ?_
   clear G; intro ρ a w G
   refine th_n ?_
   cases h1 : (!labOk l)
   ·
    have q1 : (labOk l) = true := (fun hq => (hq)) (Eq.mp (Bool.not_eq_false' _) h1)
    refine rF G (!labOk l) (by assumption) ?_
    refine wp_skip ?_
    refine th_n ?_
    refine wp_seq ?_
    refine rs1 (dk := dkP) G ⟨[(1, _, [0, 1, 2])], [], []⟩ (calls_cons (c_l2Copy (p) (by assumption)) calls_nil) trivial [0, 1, 2, 4, 13, 14, 15, 21] [dI p.vars, dI p.arrays, dT p.body, .box [.v (.slice none 0 0), .v (.slice none 0 0), .v (.slice none 0 0)], .row 3 (D.ints p.vars), .row 3 (D.ints p.arrays), .tree (D.stmts p.body), .box [.ref 4, .ref 5, .tref 6]] [(1, iA l), (4, .ptr 3 0), (5, bA false), (6, .ptr 7 0)] [] trivial ?_
    clear G; intro ρ a w G
    refine th_n ?_
    refine wp_seq ?_
    refine wp_seq ?_
    refine rs0s G [(1, iA l), (4, .ptr 3 0), (5, bA false), (6, .ptr 7 0), (7, iA 0)] ?_
    clear G; intro ρ a w G
    refine th_n ?_
    refine wp_block ?_
    refine rx_for (κ := Nat) (fun k => k ≤ p.vars.length) (fun k => p.vars.length - k) (fun k => [dI p.vars, dI p.arrays, dT p.body, .box [.v (.slice none 0 0), .v (.slice none 0 0), .v (.slice none 0 0)], .row 3 (.ints (rsL l p.vars k)), .row 3 (D.ints p.arrays), .tree (D.stmts p.body), .box [.ref 4, .ref 5, .tref 6]]) (fun k => [(1, iA l), (4, .ptr 3 0), (5, bA false), (6, .ptr 7 0), (7, iA k)]) (0) (by simp [h0, q0, h1, q1]) (Gam.at G _ _) ?_
    clear G
    intro k ρ a w hp G
    replace G := Gam.at G [dI p.vars, dI p.arrays, dT p.body, .box [.v (.slice none 0 0), .v (.slice none 0 0), .v (.slice none 0 0)], .row 3 (D.ints (rsL l p.vars k)), .row 3 (D.ints p.arrays), .tree (D.stmts p.body), .box [.ref 4, .ref 5, .tref 6]] [(1, iA l), (4, .ptr 3 0), (5, bA false), (6, .ptr 7 0), (7, iA (↑k : Int))]
    have hln := rsL_len l p.vars k
    refine wp_seq ?_
    refine wp_seq ?_
    refine rs0s G [(1, iA l), (4, .ptr 3 0), (5, bA false), (6, .ptr 7 0), (7, iA (↑k : Int)), (24, bA (decide ((↑k : Int) < (↑(rsL l p.vars k).length : Int))))] ?_
    clear G; intro ρ a w G
    refine th_n ?_
    cases h2 : (decide ((↑k : Int) < (↑(rsL l p.vars k).length : Int)))
    ·
     have q2 : ¬ ((↑k : Int) < (↑(rsL l p.vars k).length : Int)) := of_decide_eq_false h2
     refine rF G (decide ((↑k : Int) < (↑(rsL l p.vars k).length : Int))) (by assumption) ?_
     refine wp_exit ?_
     refine th_e ?_
     refine th_e ?_
     refine bl_hit ?_
     refine th_n ?_
     refine wp_seq ?_
     refine wp_seq ?_
     refine rs0s G [(1, iA l), (4, .ptr 3 0), (5, bA false), (6, .ptr 7 0), (8, iA 0)] ?_
     clear G; intro ρ a w G
     refine th_n ?_
     refine wp_block ?_
     refine rx_for (κ := Nat) (fun j => j ≤ p.arrays.length) (fun j => p.arrays.length - j) (fun j => [dI p.vars, dI p.arrays, dT p.body, .box [.v (.slice none 0 0), .v (.slice none 0 0), .v (.slice none 0 0)], .row 3 (D.ints (rsL l p.vars k)), .row 3 (.ints (rsL l p.arrays j)), .tree (D.stmts p.body), .box [.ref 4, .ref 5, .tref 6]]) (fun j => [(1, iA l), (4, .ptr 3 0), (5, bA false), (6, .ptr 7 0), (8, iA j)]) (0) (by simp [h0, q0, h1, q1, h2]) (Gam.at G _ _) ?_
     clear G
     intro j ρ a w hp G
     replace G := Gam.at G [dI p.vars, dI p.arrays, dT p.body, .box [.v (.slice none 0 0), .v (.slice none 0 0), .v (.slice none 0 0)], .row 3 (D.ints (rsL l p.vars k)), .row 3 (D.ints (rsL l p.arrays j)), .tree (D.stmts p.body), .box [.ref 4, .ref 5, .tref 6]] [(1, iA l), (4, .ptr 3 0), (5, bA false), (6, .ptr 7 0), (8, iA (↑j : Int))]
     have hlm := rsL_len l p.arrays j
     refine wp_seq ?_
     refine wp_seq ?_
     refine rs0s G [(1, iA l), (4, .ptr 3 0), (5, bA false), (6, .ptr 7 0), (8, iA (↑j : Int)), (42, bA (decide ((↑j : Int) < (↑(rsL l p.arrays j).length : Int))))] ?_
     clear G; intro ρ a w G
     refine th_n ?_
     cases h3 : (decide ((↑j : Int) < (↑(rsL l p.arrays j).length : Int)))
     ·
      have q3 : ¬ ((↑j : Int) < (↑(rsL l p.arrays j).length : Int)) := of_decide_eq_false h3
      refine rF G (decide ((↑j : Int) < (↑(rsL l p.arrays j).length : Int))) (by assumption) ?_
      refine wp_exit ?_
      refine th_e ?_
      refine th_e ?_
      refine bl_hit ?_
      refine th_n ?_
      refine wp_seq ?_
      refine rs0 G [0, 1, 2, 3, 4, 5, 6] [dI p.vars, dI p.arrays, dT p.body, .box [.ref 4, .ref 5, .tref 6], .row 3 (D.ints (rsL l p.vars k)), .row 3 (D.ints (rsL l p.arrays j)), .tree (D.stmts p.body)] [(4, .ptr 3 0), (5, bA true)] ?_
      clear G; intro ρ a w G
      refine th_n ?_
      refine wp_ret ?_
      exact rx_ret (v := .tup [.agg [.ref 4, .ref 5, .tref 6], bA true]) G [0, 1, 2, 4, 5, 6] (by kernel_rfl) (by kernel_rfl) (by show _ = List.map (It.ren (nth [0, 1, 2, 4, 5, 6])) [dI p.vars, dI p.arrays, dT p.body, .row 3 (D.ints (raiseP p l).vars), .row 3 (D.ints (raiseP p l).arrays), .tree (D.stmts (raiseP p l).body)]; have e1 : ((raiseP p l).vars : List Int) = (rsL l p.vars k) := (by rw [raise_yes (by with_reducible assumption) (by with_reducible assumption), rsL_all (by omega)]; done); have e2 : ((raiseP p l).arrays : List Int) = (rsL l p.arrays j) := (by rw [raise_yes (by with_reducible assumption) (by with_reducible assumption), rsL_all (by omega)]; done); have e3 : ((raiseP p l).body : List LStmt) = (p.body) := (by rw [raise_yes (by with_reducible assumption) (by with_reducible assumption)]; done); first | (rw [e1, e2, e3]; done) | (rw [e1, e2, e3]; rfl) | (simp only [e1, e2, e3]; done) | (simp only [e1, e2, e3]; rfl)) (by have e1 : (progB p && labOk l : Bool) = (true) := (by simp [h0, q0, h1, q1, h2, h3]); first | (rw [e1]; done) | (rw [e1]; rfl) | (simp only [e1]; done) | (simp only [e1]; rfl))
     ·
      have q3 : (↑j : Int) < (↑(rsL l p.arrays j).length : Int) := of_decide_eq_true h3
      refine rT G (decide ((↑j : Int) < (↑(rsL l p.arrays j).length : Int))) (by assumption) ?_
      refine wp_skip ?_
      refine th_n ?_
      refine wp_seq ?_
      refine wp_block ?_
      refine rd1 (dk := dkP) G ⟨[], [], []⟩ calls_nil trivial [0, 1, 0, 0, 8, 0, 56, 120, 0, 504, 1023, 2047] [0, 1, 2, 3, 4, 5, 6, 7] [dI p.vars, dI p.arrays, dT p.body, .box [.v (.slice none 0 0), .v (.slice none 0 0), .v (.slice none 0 0)], .row 3 (D.ints (rsL l p.vars k)), .row 3 (D.ints ((rsL l p.arrays j).set j (orI ((rsL l p.arrays j).getD j 0) l))), .tree (D.stmts p.body), .box [.ref 4, .ref 5, .tref 6]] [(1, iA l), (4, .ptr 3 0), (5, bA false), (6, .ptr 7 0), (8, iA (↑j : Int))] [(0 : Int) ≤ (↑j : Int), (↑j : Int) < (↑(rsL l p.arrays j).length : Int), j < (rsL l p.arrays j).length, (0 : Int) ≤ (↑j : Int), (↑j : Int) < (↑(rsL l p.arrays j).length : Int), j < (rsL l p.arrays j).length] ⟨(by simp [h0, q0, h1, q1, h2, h3]), (by assumption), (by omega), (by simp [h0, q0, h1, q1, h2, h3]), (by assumption), (by omega), trivial⟩ ?_
      clear G; intro ρ a w G
      refine bl_n ?_
      refine th_n ?_
      refine rs1s G ⟨[], [], []⟩ calls_nil trivial [(1, iA l), (4, .ptr 3 0), (5, bA false), (6, .ptr 7 0), (8, iA ((↑j : Int) + 1))] [IntKind.i64.wrap ((↑j : Int) + (1 : Int)) = (↑j : Int) + (1 : Int)] ⟨(by exact w64 (by omega) (by omega)), trivial⟩ ?_
      clear G; intro ρ a w G
      refine th_n ?_
      exact rx_next G (j + 1) (by omega) (by omega) [0, 1, 2, 3, 4, 5, 6, 7] [dI p.vars, dI p.arrays, dT p.body, .box [.v (.slice none 0 0), .v (.slice none 0 0), .v (.slice none 0 0)], .row 3 (D.ints (rsL l p.vars k)), .row 3 (D.ints (rsL l p.arrays (j + 1))), .tree (D.stmts p.body), .box [.ref 4, .ref 5, .tref 6]] [(1, iA l), (4, .ptr 3 0), (5, bA false), (6, .ptr 7 0), (8, iA (↑(j + 1) : Int))] (by kernel_rfl) (by kernel_rfl) (by kernel_rfl) (by have e1 : (rsL l p.arrays (j + 1) : List Int) = ((rsL l p.arrays j).set j (orI ((rsL l p.arrays j).getD j 0) l)) := (by exact (rsL_set (by omega)).symm); first | (rw [e1]; done) | (rw [e1]; rfl) | (simp only [e1]; done) | (simp only [e1]; rfl)) (by kernel_rfl)
    ·
     have q2 : (↑k : Int) < (↑(rsL l p.vars k).length : Int) := of_decide_eq_true h2
     refine rT G (decide ((↑k : Int) < (↑(rsL l p.vars k).length : Int))) (by assumption) ?_
     refine wp_skip ?_
     refine th_n ?_
     refine wp_seq ?_
     refine wp_block ?_
     refine rd1 (dk := dkP) G ⟨[], [], []⟩ calls_nil trivial [0, 1, 0, 0, 8, 0, 56, 120, 0, 504, 1023, 2047] [0, 1, 2, 3, 4, 5, 6, 7] [dI p.vars, dI p.arrays, dT p.body, .box [.v (.slice none 0 0), .v (.slice none 0 0), .v (.slice none 0 0)], .row 3 (D.ints ((rsL l p.vars k).set k (orI ((rsL l p.vars k).getD k 0) l))), .row 3 (D.ints p.arrays), .tree (D.stmts p.body), .box [.ref 4, .ref 5, .tref 6]] [(1, iA l), (4, .ptr 3 0), (5, bA false), (6, .ptr 7 0), (7, iA (↑k : Int))] [(0 : Int) ≤ (↑k : Int), (↑k : Int) < (↑(rsL l p.vars k).length : Int), k < (rsL l p.vars k).length, (0 : Int) ≤ (↑k : Int), (↑k : Int) < (↑(rsL l p.vars k).length : Int), k < (rsL l p.vars k).length] ⟨(by simp [h0, q0, h1, q1, h2]), (by assumption), (by omega), (by simp [h0, q0, h1, q1, h2]), (by assumption), (by omega), trivial⟩ ?_
     clear G; intro ρ a w G
     refine bl_n ?_
     refine th_n ?_
     refine rs1s G ⟨[], [], []⟩ calls_nil trivial [(1, iA l), (4, .ptr 3 0), (5, bA false), (6, .ptr 7 0), (7, iA ((↑k : Int) + 1))] [IntKind.i64.wrap ((↑k : Int) + (1 : Int)) = (↑k : Int) + (1 : Int)] ⟨(by exact w64 (by omega) (by omega)), trivial⟩ ?_
     clear G; intro ρ a w G
     refine th_n ?_
     exact rx_next G (k + 1) (by omega) (by omega) [0, 1, 2, 3, 4, 5, 6, 7] [dI p.vars, dI p.arrays, dT p.body, .box [.v (.slice none 0 0), .v (.slice none 0 0), .v (.slice none 0 0)], .row 3 (D.ints (rsL l p.vars (k + 1))), .row 3 (D.ints p.arrays), .tree (D.stmts p.body), .box [.ref 4, .ref 5, .tref 6]] [(1, iA l), (4, .ptr 3 0), (5, bA false), (6, .ptr 7 0), (7, iA (↑(k + 1) : Int))] (by kernel_rfl) (by kernel_rfl) (by kernel_rfl) (by have e1 : (rsL l p.vars (k + 1) : List Int) = ((rsL l p.vars k).set k (orI ((rsL l p.vars k).getD k 0) l)) := (by exact (rsL_set (by omega)).symm); first | (rw [e1]; done) | (rw [e1]; rfl) | (simp only [e1]; done) | (simp only [e1]; rfl)) (by kernel_rfl)
   ·
    have q1 : (labOk l) = false := (fun hq => (hq)) (Eq.mp (Bool.not_eq_true' _) h1)
    refine rT G (!labOk l) (by assumption) ?_
    refine wp_seq ?_
    refine rs0s G [(1, iA l), (2, .ptr 3 0), (4, .ptr 4 0), (5, bA false)] ?_
    clear G; intro ρ a w G
    refine th_n ?_
    refine wp_ret ?_
    refine th_r ?_
    have Gx := G.nil 5 3 (.ints []) 1 [dI p.vars, dI p.arrays, dT p.body, .box (pL 0), .box [.ref 5, .v (.slice none 0 0), .v (.slice none 0 0)]] [(1, iA l), (2, .ptr 3 0), (4, .ptr 4 0), (5, bA false)]
    clear G
    obtain ⟨ρ, G⟩ := Gx
    replace G := Gam.at G [dI p.vars, dI p.arrays, dT p.body, .box (pL 0), .box [.ref 5, .v (.slice none 0 0), .v (.slice none 0 0)], .row 3 (D.ints [])] [(1, iA l), (2, .ptr 3 0), (4, .ptr 4 0), (5, bA false)]
    have Gx := G.nil 6 3 (.ints []) 1 [dI p.vars, dI p.arrays, dT p.body, .box (pL 0), .box [.ref 5, .ref 6, .v (.slice none 0 0)], .row 3 (D.ints [])] [(1, iA l), (2, .ptr 3 0), (4, .ptr 4 0), (5, bA false)]
    clear G
    obtain ⟨ρ, G⟩ := Gx
    replace G := Gam.at G [dI p.vars, dI p.arrays, dT p.body, .box (pL 0), .box [.ref 5, .ref 6, .v (.slice none 0 0)], .row 3 (D.ints []), .row 3 (D.ints [])] [(1, iA l), (2, .ptr 3 0), (4, .ptr 4 0), (5, bA false)]
    have Gx := G.nilT 7 (.stmts []) [dI p.vars, dI p.arrays, dT p.body, .box (pL 0), .box [.ref 5, .ref 6, .tref 7], .row 3 (D.ints []), .row 3 (D.ints [])] [(1, iA l), (2, .ptr 3 0), (4, .ptr 4 0), (5, bA false)]
    clear G
    obtain ⟨ρ, G⟩ := Gx
    replace G := Gam.at G [dI p.vars, dI p.arrays, dT p.body, .box (pL 0), .box [.ref 5, .ref 6, .tref 7], .row 3 (D.ints []), .row 3 (D.ints []), .tree (D.stmts [])] [(1, iA l), (2, .ptr 3 0), (4, .ptr 4 0), (5, bA false)]
    exact rx_ret (v := .tup [.agg [.ref 5, .ref 6, .tref 7], bA false]) G [0, 1, 2, 5, 6, 7] (by kernel_rfl) (by kernel_rfl) (by show _ = List.map (It.ren (nth [0, 1, 2, 5, 6, 7])) [dI p.vars, dI p.arrays, dT p.body, .row 3 (D.ints (raiseP p l).vars), .row 3 (D.ints (raiseP p l).arrays), .tree (D.stmts (raiseP p l).body)]; have e1 : ((raiseP p l).vars : List Int) = ([]) := (by rw [raise_no (.inr (by with_reducible assumption))]; done); have e2 : ((raiseP p l).arrays : List Int) = ([]) := (by rw [raise_no (.inr (by with_reducible assumption))]; done); have e3 : ((raiseP p l).body : List LStmt) = ([]) := (by rw [raise_no (.inr (by with_reducible assumption))]; done); first | (rw [e1, e2, e3]; done) | (rw [e1, e2, e3]; rfl) | (simp only [e1, e2, e3]; done) | (simp only [e1, e2, e3]; rfl)) (by have e1 : (progB p && labOk l : Bool) = (false) := (by simp [h0, q0, h1, q1]); first | (rw [e1]; done) | (rw [e1]; rfl) | (simp only [e1]; done) | (simp only [e1]; rfl))
  ·
   have q0 : (progB p) = false := (fun hq => (hq)) (Eq.mp (Bool.not_eq_true' _) h0)
   refine rs1s G ⟨[(1, _, [0, 1, 2])], [(!progB p, true)], [(4, 0), (5, 0), (6, 0), (1007, 0)]⟩ (calls_cons (c_ProgramValid (p) (by exact hb1.2.2)) calls_nil) ⟨(by assumption), trivial⟩ [(1, iA l), (2, .ptr 3 0), (4, .ptr 4 0), (5, bA false), (16, bA true)] [] trivial ?_
   clear G; intro ρ a w G
   refine th_n ?_
   refine rT G (true) (by kernel_rfl) ?_
   refine wp_seq ?_
   refine rs0s G [(1, iA l), (2, .ptr 3 0), (4, .ptr 4 0), (5, bA false)] ?_
   clear G; intro ρ a w G
   refine th_n ?_
   refine wp_ret ?_
   refine th_r ?_
   have Gx := G.nil 5 3 (.ints []) 1 [dI p.vars, dI p.arrays, dT p.body, .box (pL 0), .box [.ref 5, .v (.slice none 0 0), .v (.slice none 0 0)]] [(1, iA l), (2, .ptr 3 0), (4, .ptr 4 0), (5, bA false)]
   clear G
   obtain ⟨ρ, G⟩ := Gx
   replace G := Gam.at G [dI p.vars, dI p.arrays, dT p.body, .box (pL 0), .box [.ref 5, .v (.slice none 0 0), .v (.slice none 0 0)], .row 3 (D.ints [])] [(1, iA l), (2, .ptr 3 0), (4, .ptr 4 0), (5, bA false)]
   have Gx := G.nil 6 3 (.ints []) 1 [dI p.vars, dI p.arrays, dT p.body, .box (pL 0), .box [.ref 5, .ref 6, .v (.slice none 0 0)], .row 3 (D.ints [])] [(1, iA l), (2, .ptr 3 0), (4, .ptr 4 0), (5, bA false)]
   clear G
   obtain ⟨ρ, G⟩ := Gx
   replace G := Gam.at G [dI p.vars, dI p.arrays, dT p.body, .box (pL 0), .box [.ref 5, .ref 6, .v (.slice none 0 0)], .row 3 (D.ints []), .row 3 (D.ints [])] [(1, iA l), (2, .ptr 3 0), (4, .ptr 4 0), (5, bA false)]
   have Gx := G.nilT 7 (.stmts []) [dI p.vars, dI p.arrays, dT p.body, .box (pL 0), .box [.ref 5, .ref 6, .tref 7], .row 3 (D.ints []), .row 3 (D.ints [])] [(1, iA l), (2, .ptr 3 0), (4, .ptr 4 0), (5, bA false)]
   clear G
   obtain ⟨ρ, G⟩ := Gx
   replace G := Gam.at G [dI p.vars, dI p.arrays, dT p.body, .box (pL 0), .box [.ref 5, .ref 6, .tref 7], .row 3 (D.ints []), .row 3 (D.ints []), .tree (D.stmts [])] [(1, iA l), (2, .ptr 3 0), (4, .ptr 4 0), (5, bA false)]
   exact rx_ret (v := .tup [.agg [.ref 5, .ref 6, .tref 7], bA false]) G [0, 1, 2, 5, 6, 7] (by kernel_rfl) (by kernel_rfl) (by show _ = List.map (It.ren (nth [0, 1, 2, 5, 6, 7])) [dI p.vars, dI p.arrays, dT p.body, .row 3 (D.ints (raiseP p l).vars), .row 3 (D.ints (raiseP p l).arrays), .tree (D.stmts (raiseP p l).body)]; have e1 : ((raiseP p l).vars : List Int) = ([]) := (by rw [raise_no (.inl (by with_reducible assumption))]; done); have e2 : ((raiseP p l).arrays : List Int) = ([]) := (by rw [raise_no (.inl (by with_reducible assumption))]; done); have e3 : ((raiseP p l).body : List LStmt) = ([]) := (by rw [raise_no (.inl (by with_reducible assumption))]; done); first | (rw [e1, e2, e3]; done) | (rw [e1, e2, e3]; rfl) | (simp only [e1, e2, e3]; done) | (simp only [e1, e2, e3]; rfl)) (by have e1 : (progB p && labOk l : Bool) = (false) := (by rw [q0]; rfl); first | (rw [e1]; done) | (rw [e1]; rfl) | (simp only [e1]; done) | (simp only [e1]; rfl))

set_option maxRecDepth 100000 in
theorem c_iRaiseLabels (p : LProg) (l : Int) (hb : p.size ≤ 1048576) : Ctr.ok Try.prog (rsC 29 p l) := by
  refine rx_enter 51 Try.func29 (by rfl) (by kernel_rfl) (by kernel_rfl) ?_
  intro ι φ ψ w0 w F ρ0 ρ a G
  replace G := Gam.at G [dI p.vars, dI p.arrays, dT p.body] [(0, pA 0), (1, iA l)]
  have hb1 : p.vars.length ≤ 1048576 ∧ p.arrays.length ≤ 1048576 ∧ szSs p.body ≤ 1048576 := by unfold LProg.size at hb; omega
  refine wp_seq ?_
  refine rs0 G [0, 1, 2, 3, 11] [dI p.vars, dI p.arrays, dT p.body, .box (pL 0), .box [.v (.slice none 0 0), .v (.slice none 0 0), .v (.slice none 0 0)]] [(1, iA l), (2, .ptr 3 0), (4, .ptr 4 0), (5, bA false)] ?_
  clear G; intro ρ a w G
  refine th_n ?_
  refine wp_seq ?_
  refine wp_seq ?_
  cases h0 : (!progB p)
  ·
   have q0 : (progB p) = true := (fun hq => (hq)) (Eq.mp (Bool.not_eq_false' _) h0)
   refine rs1s G ⟨[(1, _, [0, 1, 2]), (5, _, [])], [(!progB p, false)], [(4, 0), (5, 0), (6, 0), (1007, 0)]⟩ (calls_cons (c_iProgramValid (p)) (calls_cons (c_iLabelValid (l)) calls_nil)) ⟨(by assumption), trivial⟩ [(1, iA l), (2, .ptr 3 0), (4, .ptr 4 0), (5, bA false), (16, .v (.bool !labOk l))] [] trivial ?_
   clear G; intro ρ a w G
   refine th_n ?_
   cases h1 : (!labOk l)
   ·
    have q1 : (labOk l) = true := (fun hq => (hq)) (Eq.mp (Bool.not_eq_false' _) h1)
    refine rF G (!labOk l) (by assumption) ?_
    refine wp_skip ?_
    refine th_n ?_
    refine wp_seq ?_
    refine rs1 (dk := dkP) G ⟨[(1, _, [0, 1, 2])], [], []⟩ (calls_cons (c_own (p) (by assumption)) calls_nil) trivial [0, 1, 2, 4, 13, 14, 15, 21] [dI p.vars, dI p.arrays, dT p.body, .box [.v (.slice none 0 0), .v (.slice none 0 0), .v (.slice none 0 0)], .row 3 (D.ints p.vars), .row 3 (D.ints p.arrays), .tree (D.stmts p.body), .box [.ref 4, .ref 5, .tref 6]] [(1, iA l), (4, .ptr 3 0), (5, bA false), (6, .ptr 7 0)] [] trivial ?_
    clear G; intro ρ a w G
    refine th_n ?_
    refine wp_seq ?_
    refine wp_seq ?_
    refine rs0s G [(1, iA l), (4, .ptr 3 0), (5, bA false), (6, .ptr 7 0), (22, iA (↑p.vars.length : Int)), (23, iA 0)] ?_
    clear G; intro ρ a w G
    refine th_n ?_
    refine wp_block ?_
    refine rx_for (κ := Nat) (fun k => k ≤ p.vars.length) (fun k => p.vars.length - k) (fun k => [dI p.vars, dI p.arrays, dT p.body, .box [.v (.slice none 0 0), .v (.slice none 0 0), .v (.slice none 0 0)], .row 3 (.ints (rsL l p.vars k)), .row 3 (D.ints p.arrays), .tree (D.stmts p.body), .box [.ref 4, .ref 5, .tref 6]]) (fun k => [(1, iA l), (4, .ptr 3 0), (5, bA false), (6, .ptr 7 0), (22, iA (↑p.vars.length : Int)), (23, iA k)]) (0) (by simp [h0, q0, h1, q1]) (Gam.at G _ _) ?_
    clear G
    intro k ρ a w hp G
    replace G := Gam.at G [dI p.vars, dI p.arrays, dT p.body, .box [.v (.slice none 0 0), .v (.slice none 0 0), .v (.slice none 0 0)], .row 3 (D.ints (rsL l p.vars k)), .row 3 (D.ints p.arrays), .tree (D.stmts p.body), .box [.ref 4, .ref 5, .tref 6]] [(1, iA l), (4, .ptr 3 0), (5, bA false), (6, .ptr 7 0), (22, iA (↑p.vars.length : Int)), (23, iA (↑k : Int))]
    have hln := rsL_len l p.vars k
    refine wp_seq ?_
    refine rs0s G [(1, iA l), (4, .ptr 3 0), (5, bA false), (6, .ptr 7 0), (22, iA (↑p.vars.length : Int)), (23, iA (↑k : Int)), (24, bA (decide ((↑k : Int) < (↑p.vars.length : Int))))] ?_
    clear G; intro ρ a w G
    refine th_n ?_
    refine wp_seq ?_
    cases h2 : (decide ((↑k : Int) < (↑p.vars.length : Int)))
    ·
     have q2 : ¬ ((↑k : Int) < (↑p.vars.length : Int)) := of_decide_eq_false h2
     refine rF G (decide ((↑k : Int) < (↑p.vars.length : Int))) (by assumption) ?_
     refine wp_exit ?_
     refine th_e ?_
     refine th_e ?_
     refine bl_hit ?_
     refine th_n ?_
     refine wp_seq ?_
     refine wp_seq ?_
     refine rs0s G [(1, iA l), (4, .ptr 3 0), (5, bA false), (6, .ptr 7 0), (37, iA (↑p.arrays.length : Int)), (38, iA 0)] ?_
     clear G; intro ρ a w G
     refine th_n ?_
     refine wp_block ?_
     refine rx_for (κ := Nat) (fun j => j ≤ p.arrays.length) (fun j => p.arrays.length - j) (fun j => [dI p.vars, dI p.arrays, dT p.body, .box [.v (.slice none 0 0), .v (.slice none 0 0), .v (.slice none 0 0)], .row 3 (D.ints (rsL l p.vars k)), .row 3 (.ints (rsL l p.arrays j)), .tree (D.stmts p.body), .box [.ref 4, .ref 5, .tref 6]]) (fun j => [(1, iA l), (4, .ptr 3 0), (5, bA false), (6, .ptr 7 0), (37, iA (↑p.arrays.length : Int)), (38, iA j)]) (0) (by simp [h0, q0, h1, q1, h2]) (Gam.at G _ _) ?_
     clear G
     intro j ρ a w hp G
     replace G := Gam.at G [dI p.vars, dI p.arrays, dT p.body, .box [.v (.slice none 0 0), .v (.slice none 0 0), .v (.slice none 0 0)], .row 3 (D.ints (rsL l p.vars k)), .row 3 (D.ints (rsL l p.arrays j)), .tree (D.stmts p.body), .box [.ref 4, .ref 5, .tref 6]] [(1, iA l), (4, .ptr 3 0), (5, bA false), (6, .ptr 7 0), (37, iA (↑p.arrays.length : Int)), (38, iA (↑j : Int))]
     have hlm := rsL_len l p.arrays j
     refine wp_seq ?_
     refine rs0s G [(1, iA l), (4, .ptr 3 0), (5, bA false), (6, .ptr 7 0), (37, iA (↑p.arrays.length : Int)), (38, iA (↑j : Int)), (39, bA (decide ((↑j : Int) < (↑p.arrays.length : Int))))] ?_
     clear G; intro ρ a w G
     refine th_n ?_
     refine wp_seq ?_
     cases h3 : (decide ((↑j : Int) < (↑p.arrays.length : Int)))
     ·
      have q3 : ¬ ((↑j : Int) < (↑p.arrays.length : Int)) := of_decide_eq_false h3
      refine rF G (decide ((↑j : Int) < (↑p.arrays.length : Int))) (by assumption) ?_
      refine wp_exit ?_
      refine th_e ?_
      refine th_e ?_
      refine bl_hit ?_
      refine th_n ?_
      refine wp_seq ?_
      refine rs0 G [0, 1, 2, 3, 4, 5, 6] [dI p.vars, dI p.arrays, dT p.body, .box [.ref 4, .ref 5, .tref 6], .row 3 (D.ints (rsL l p.vars k)), .row 3 (D.ints (rsL l p.arrays j)), .tree (D.stmts p.body)] [(4, .ptr 3 0), (5, bA true)] ?_
      clear G; intro ρ a w G
      refine th_n ?_
      refine wp_ret ?_
      exact rx_ret (v := .tup [.agg [.ref 4, .ref 5, .tref 6], bA true]) G [0, 1, 2, 4, 5, 6] (by kernel_rfl) (by kernel_rfl) (by show _ = List.map (It.ren (nth [0, 1, 2, 4, 5, 6])) [dI p.vars, dI p.arrays, dT p.body, .row 3 (D.ints (raiseP p l).vars), .row 3 (D.ints (raiseP p l).arrays), .tree (D.stmts (raiseP p l).body)]; have e1 : ((raiseP p l).vars : List Int) = (rsL l p.vars k) := (by rw [raise_yes (by with_reducible assumption) (by with_reducible assumption), rsL_all (by omega)]; done); have e2 : ((raiseP p l).arrays : List Int) = (rsL l p.arrays j) := (by rw [raise_yes (by with_reducible assumption) (by with_reducible assumption), rsL_all (by omega)]; done); have e3 : ((raiseP p l).body : List LStmt) = (p.body) := (by rw [raise_yes (by with_reducible assumption) (by with_reducible assumption)]; done); first | (rw [e1, e2, e3]; done) | (rw [e1, e2, e3]; rfl) | (simp only [e1, e2, e3]; done) | (simp only [e1, e2, e3]; rfl)) (by have e1 : (progB p && labOk l : Bool) = (true) := (by simp [h0, q0, h1, q1, h2, h3]); first | (rw [e1]; done) | (rw [e1]; rfl) | (simp only [e1]; done) | (simp only [e1]; rfl))
     ·
      have q3 : (↑j : Int) < (↑p.arrays.length : Int) := of_decide_eq_true h3
      refine rT G (decide ((↑j : Int) < (↑p.arrays.length : Int))) (by assumption) ?_
      refine wp_skip ?_
      refine th_n ?_
      refine wp_seq ?_
      refine wp_block ?_
      refine wp_seq ?_
      refine rs0s G [(1, iA l), (4, .ptr 3 0), (5, bA false), (6, .ptr 7 0), (8, iA (↑j : Int)), (37, iA (↑p.arrays.length : Int)), (38, iA (↑j : Int))] ?_
      clear G; intro ρ a w G
      refine th_n ?_
      refine rs1 (dk := dkP) G ⟨[], [], []⟩ calls_nil trivial [0, 1, 2, 3, 4, 5, 6, 7] [dI p.vars, dI p.arrays, dT p.body, .box [.v (.slice none 0 0), .v (.slice none 0 0), .v (.slice none 0 0)], .row 3 (D.ints (rsL l p.vars k)), .row 3 (D.ints ((rsL l p.arrays j).set j (orI ((rsL l p.arrays j).getD j 0) l))), .tree (D.stmts p.body), .box [.ref 4, .ref 5, .tref 6]] [(1, iA l), (4, .ptr 3 0), (5, bA false), (6, .ptr 7 0), (37, iA (↑p.arrays.length : Int)), (38, iA (↑j : Int))] [(0 : Int) ≤ (↑j : Int), (↑j : Int) < (↑(rsL l p.arrays j).length : Int), j < (rsL l p.arrays j).length, (0 : Int) ≤ (↑j : Int), (↑j : Int) < (↑(rsL l p.arrays j).length : Int), j < (rsL l p.arrays j).length] ⟨(by simp [h0, q0, h1, q1, h2, h3]), (by omega), (by omega), (by simp [h0, q0, h1, q1, h2, h3]), (by omega), (by omega), trivial⟩ ?_
      clear G; intro ρ a w G
      refine bl_n ?_
      refine th_n ?_
      refine rs1s G ⟨[], [], []⟩ calls_nil trivial [(1, iA l), (4, .ptr 3 0), (5, bA false), (6, .ptr 7 0), (37, iA (↑p.arrays.length : Int)), (38, iA ((↑j : Int) + 1))] [IntKind.i64.wrap ((↑j : Int) + (1 : Int)) = (↑j : Int) + (1 : Int)] ⟨(by exact w64 (by omega) (by omega)), trivial⟩ ?_
      clear G; intro ρ a w G
      refine th_n ?_
      exact rx_next G (j + 1) (by omega) (by omega) [0, 1, 2, 3, 4, 5, 6, 7] [dI p.vars, dI p.arrays, dT p.body, .box [.v (.slice none 0 0), .v (.slice none 0 0), .v (.slice none 0 0)], .row 3 (D.ints (rsL l p.vars k)), .row 3 (D.ints (rsL l p.arrays (j + 1))), .tree (D.stmts p.body), .box [.ref 4, .ref 5, .tref 6]] [(1, iA l), (4, .ptr 3 0), (5, bA false), (6, .ptr 7 0), (37, iA (↑p.arrays.length : Int)), (38, iA (↑(j + 1) : Int))] (by kernel_rfl) (by kernel_rfl) (by kernel_rfl) (by have e1 : (rsL l p.arrays (j + 1) : List Int) = ((rsL l p.arrays j).set j (orI ((rsL l p.arrays j).getD j 0) l)) := (by exact (rsL_set (by omega)).symm); first | (rw [e1]; done) | (rw [e1]; rfl) | (simp only [e1]; done) | (simp only [e1]; rfl)) (by kernel_rfl)
    ·
     have q2 : (↑k : Int) < (↑p.vars.length : Int) := of_decide_eq_true h2
     refine rT G (decide ((↑k : Int) < (↑p.vars.length : Int))) (by assumption) ?_
     refine wp_skip ?_
     refine th_n ?_
     refine wp_seq ?_
     refine wp_block ?_
     refine wp_seq ?_
     refine rs0s G [(1, iA l), (4, .ptr 3 0), (5, bA false), (6, .ptr 7 0), (7, iA (↑k : Int)), (22, iA (↑p.vars.length : Int)), (23, iA (↑k : Int))] ?_
     clear G; intro ρ a w G
     refine th_n ?_
     refine rs1 (dk := dkP) G ⟨[], [], []⟩ calls_nil trivial [0, 1, 2, 3, 4, 5, 6, 7] [dI p.vars, dI p.arrays, dT p.body, .box [.v (.slice none 0 0), .v (.slice none 0 0), .v (.slice none 0 0)], .row 3 (D.ints ((rsL l p.vars k).set k (orI ((rsL l p.vars k).getD k 0) l))), .row 3 (D.ints p.arrays), .tree (D.stmts p.body), .box [.ref 4, .ref 5, .tref 6]] [(1, iA l), (4, .ptr 3 0), (5, bA false), (6, .ptr 7 0), (22, iA (↑p.vars.length : Int)), (23, iA (↑k : Int))] [(0 : Int) ≤ (↑k : Int), (↑k : Int) < (↑(rsL l p.vars k).length : Int), k < (rsL l p.vars k).length, (0 : Int) ≤ (↑k : Int), (↑k : Int) < (↑(rsL l p.vars k).length : Int), k < (rsL l p.vars k).length] ⟨(by simp [h0, q0, h1, q1, h2]), (by omega), (by omega), (by simp [h0, q0, h1, q1, h2]), (by omega), (by omega), trivial⟩ ?_
     clear G; intro ρ a w G
     refine bl_n ?_
     refine th_n ?_
     refine rs1s G ⟨[], [], []⟩ calls_nil trivial [(1, iA l), (4, .ptr 3 0), (5, bA false), (6, .ptr 7 0), (22, iA (↑p.vars.length : Int)), (23, iA ((↑k : Int) + 1))] [IntKind.i64.wrap ((↑k : Int) + (1 : Int)) = (↑k : Int) + (1 : Int)] ⟨(by exact w64 (by omega) (by omega)), trivial⟩ ?_
     clear G; intro ρ a w G
     refine th_n ?_
     exact rx_next G (k + 1) (by omega) (by omega) [0, 1, 2, 3, 4, 5, 6, 7] [dI p.vars, dI p.arrays, dT p.body, .box [.v (.slice none 0 0), .v (.slice none 0 0), .v (.slice none 0 0)], .row 3 (D.ints (rsL l p.vars (k + 1))), .row 3 (D.ints p.arrays), .tree (D.stmts p.body), .box [.ref 4, .ref 5, .tref 6]] [(1, iA l), (4, .ptr 3 0), (5, bA false), (6, .ptr 7 0), (22, iA (↑p.vars.length : Int)), (23, iA (↑(k + 1) : Int))] (by kernel_rfl) (by kernel_rfl) (by kernel_rfl) (by have e1 : (rsL l p.vars (k + 1) : List Int) = ((rsL l p.vars k).set k (orI ((rsL l p.vars k).getD k 0) l)) := (by exact (rsL_set (by omega)).symm); first | (rw [e1]; done) | (rw [e1]; rfl) | (simp only [e1]; done) | (simp only [e1]; rfl)) (by kernel_rfl)
   ·
    have q1 : (labOk l) = false := (fun hq => (hq)) (Eq.mp (Bool.not_eq_true' _) h1)
    refine rT G (!labOk l) (by assumption) ?_
    refine wp_seq ?_
    refine rs0s G [(1, iA l), (2, .ptr 3 0), (4, .ptr 4 0), (5, bA false)] ?_
    clear G; intro ρ a w G
    refine th_n ?_
    refine wp_ret ?_
    refine th_r ?_
    have Gx := G.nil 5 3 (.ints []) 1 [dI p.vars, dI p.arrays, dT p.body, .box (pL 0), .box [.ref 5, .v (.slice none 0 0), .v (.slice none 0 0)]] [(1, iA l), (2, .ptr 3 0), (4, .ptr 4 0), (5, bA false)]
    clear G
    obtain ⟨ρ, G⟩ := Gx
    replace G := Gam.at G [dI p.vars, dI p.arrays, dT p.body, .box (pL 0), .box [.ref 5, .v (.slice none 0 0), .v (.slice none 0 0)], .row 3 (D.ints [])] [(1, iA l), (2, .ptr 3 0), (4, .ptr 4 0), (5, bA false)]
    have Gx := G.nil 6 3 (.ints []) 1 [dI p.vars, dI p.arrays, dT p.body, .box (pL 0), .box [.ref 5, .ref 6, .v (.slice none 0 0)], .row 3 (D.ints [])] [(1, iA l), (2, .ptr 3 0), (4, .ptr 4 0), (5, bA false)]
    clear G
    obtain ⟨ρ, G⟩ := Gx
    replace G := Gam.at G [dI p.vars, dI p.arrays, dT p.body, .box (pL 0), .box [.ref 5, .ref 6, .v (.slice none 0 0)], .row 3 (D.ints []), .row 3 (D.ints [])] [(1, iA l), (2, .ptr 3 0), (4, .ptr 4 0), (5, bA false)]
    have Gx := G.nilT 7 (.stmts []) [dI p.vars, dI p.arrays, dT p.body, .box (pL 0), .box [.ref 5, .ref 6, .tref 7], .row 3 (D.ints []), .row 3 (D.ints [])] [(1, iA l), (2, .ptr 3 0), (4, .ptr 4 0), (5, bA false)]
    clear G
    obtain ⟨ρ, G⟩ := Gx
    replace G := Gam.at G [dI p.vars, dI p.arrays, dT p.body, .box (pL 0), .box [.ref 5, .ref 6, .tref 7], .row 3 (D.ints []), .row 3 (D.ints []), .tree (D.stmts [])] [(1, iA l), (2, .ptr 3 0), (4, .ptr 4 0), (5, bA false)]
    exact rx_ret (v := .tup [.agg [.ref 5, .ref 6, .tref 7], bA false]) G [0, 1, 2, 5, 6, 7] (by kernel_rfl) (by kernel_rfl) (by show _ = List.map (It.ren (nth [0, 1, 2, 5, 6, 7])) [dI p.vars, dI p.arrays, dT p.body, .row 3 (D.ints (raiseP p l).vars), .row 3 (D.ints (raiseP p l).arrays), .tree (D.stmts (raiseP p l).body)]; have e1 : ((raiseP p l).vars : List Int) = ([]) := (by rw [raise_no (.inr (by with_reducible assumption))]; done); have e2 : ((raiseP p l).arrays : List Int) = ([]) := (by rw [raise_no (.inr (by with_reducible assumption))]; done); have e3 : ((raiseP p l).body : List LStmt) = ([]) := (by rw [raise_no (.inr (by with_reducible assumption))]; done); first | (rw [e1, e2, e3]; done) | (rw [e1, e2, e3]; rfl) | (simp only [e1, e2, e3]; done) | (simp only [e1, e2, e3]; rfl)) (by have e1 : (progB p && labOk l : Bool) = (false) := (by simp [h0, q0, h1, q1]); first | (rw [e1]; done) | (rw [e1]; rfl) | (simp only [e1]; done) | (simp only [e1]; rfl))
  ·
   have q0 : (progB p) = false := (fun hq => (hq)) (Eq.mp (Bool.not_eq_true' _) h0)
   refine rs1s G ⟨[(1, _, [0, 1, 2])], [(!progB p, true)], [(4, 0), (5, 0), (6, 0), (1007, 0)]⟩ (calls_cons (c_iProgramValid (p)) calls_nil) ⟨(by assumption), trivial⟩ [(1, iA l), (2, .ptr 3 0), (4, .ptr 4 0), (5, bA false), (16, bA true)] [] trivial ?_
   clear G; intro ρ a w G
   refine th_n ?_
   refine rT G (true) (by kernel_rfl) ?_
   refine wp_seq ?_
   refine rs0s G [(1, iA l), (2, .ptr 3 0), (4, .ptr 4 0), (5, bA false)] ?_
   clear G; intro ρ a w G
   refine th_n ?_
   refine wp_ret ?_
   refine th_r ?_
   have Gx := G.nil 5 3 (.ints []) 1 [dI p.vars, dI p.arrays, dT p.body, .box (pL 0), .box [.ref 5, .v (.slice none 0 0), .v (.slice none 0 0)]] [(1, iA l), (2, .ptr 3 0), (4, .ptr 4 0), (5, bA false)]
   clear G
   obtain ⟨ρ, G⟩ := Gx
   replace G := Gam.at G [dI p.vars, dI p.arrays, dT p.body, .box (pL 0), .box [.ref 5, .v (.slice none 0 0), .v (.slice none 0 0)], .row 3 (D.ints [])] [(1, iA l), (2, .ptr 3 0), (4, .ptr 4 0), (5, bA false)]
   have Gx := G.nil 6 3 (.ints []) 1 [dI p.vars, dI p.arrays, dT p.body, .box (pL 0), .box [.ref 5, .ref 6, .v (.slice none 0 0)], .row 3 (D.ints [])] [(1, iA l), (2, .ptr 3 0), (4, .ptr 4 0), (5, bA false)]
   clear G
   obtain ⟨ρ, G⟩ := Gx
   replace G := Gam.at G [dI p.vars, dI p.arrays, dT p.body, .box (pL 0), .box [.ref 5, .ref 6, .v (.slice none 0 0)], .row 3 (D.ints []), .row 3 (D.ints [])] [(1, iA l), (2, .ptr 3 0), (4, .ptr 4 0), (5, bA false)]
   have Gx := G.nilT 7 (.stmts []) [dI p.vars, dI p.arrays, dT p.body, .box (pL 0), .box [.ref 5, .ref 6, .tref 7], .row 3 (D.ints []), .row 3 (D.ints [])] [(1, iA l), (2, .ptr 3 0), (4, .ptr 4 0), (5, bA false)]
   clear G
   obtain ⟨ρ, G⟩ := Gx
   replace G := Gam.at G [dI p.vars, dI p.arrays, dT p.body, .box (pL 0), .box [.ref 5, .ref 6, .tref 7], .row 3 (D.ints []), .row 3 (D.ints []), .tree (D.stmts [])] [(1, iA l), (2, .ptr 3 0), (4, .ptr 4 0), (5, bA false)]
   exact rx_ret (v := .tup [.agg [.ref 5, .ref 6, .tref 7], bA false]) G [0, 1, 2, 5, 6, 7] (by kernel_rfl) (by kernel_rfl) (by show _ = List.map (It.ren (nth [0, 1, 2, 5, 6, 7])) [dI p.vars, dI p.arrays, dT p.body, .row 3 (D.ints (raiseP p l).vars), .row 3 (D.ints (raiseP p l).arrays), .tree (D.stmts (raiseP p l).body)]; have e1 : ((raiseP p l).vars : List Int) = ([]) := (by rw [raise_no (.inl (by with_reducible assumption))]; done); have e2 : ((raiseP p l).arrays : List Int) = ([]) := (by rw [raise_no (.inl (by with_reducible assumption))]; done); have e3 : ((raiseP p l).body : List LStmt) = ([]) := (by rw [raise_no (.inl (by with_reducible assumption))]; done); first | (rw [e1, e2, e3]; done) | (rw [e1, e2, e3]; rfl) | (simp only [e1, e2, e3]; done) | (simp only [e1, e2, e3]; rfl)) (by have e1 : (progB p && labOk l : Bool) = (false) := (by rw [q0]; rfl); first | (rw [e1]; done) | (rw [e1]; rfl) | (simp only [e1]; done) | (simp only [e1]; rfl))

end Go.Proofs.Ytgpkdfefgcpbiaa

namespace Go.Proofs.Ytgpkdfefgcpbiaa.exRaiseLabels
set_option linter.unusedVariables false
set_option linter.unusedSimpArgs false
open Go Go.RowKit Go.Proofs.Ytgpkdfefgcpbiaa

theorem fits {p : LProg} (h : ¬ (szRes 1048576 p.size < 0)) : p.size ≤ 1048576 := by
  by_cases h1 : (1048576 : Int) < p.size
  · rw [szRes_neg h1] at h; omega
  · omega
theorem same_self (p : LProg) : p.same p = true := LProg.same_eq.2 rfl
theorem raise_size (p : LProg) (l : Int) : (raiseP p l).size ≤ p.size := by
  unfold raiseP
  split
  · simp [LProg.size]
  · simp [LProg.size, szSs]
theorem mark_fits {p : LProg} {n : Nat} (h : p.size ≤ n) (hn : n ≤ 1048576) : ((1 : Nat) : Int) + mkPN p ≤ 9000000000000000000 := by
  unfold mkPN
  unfold LProg.size at h
  have := (mkN_nonneg p.body).2
  omega
theorem same_no (q : LProg) : ¬ ((!q.same q) = true) := by rw [same_self]; decide
theorem mk_pos (p : LProg) : ¬ (decide ((1 : Int) + mkPN p < (0 : Int)) = true) := by
  have := (mkN_nonneg p.body).1
  unfold mkPN
  simp only [decide_eq_true_eq]; omega
set_option maxRecDepth 100000 in
theorem c_law (p : LProg) (l : Int) : Ctr.ok Try.prog ⟨5, [pA 0, iA l], pS p, pS p, bA true⟩ := by
  have hto := t_toProgram p
  refine rx_enter 101 Try.func5 (by rfl) (by kernel_rfl) (by kernel_rfl) ?_
  intro ι φ ψ w0 w F ρ0 ρ a G
  replace G := Gam.at G [dI p.vars, dI p.arrays, dT p.body] [(0, pA 0), (1, iA l)]
  have hself : ∀ q : LProg, q.same q = true := same_self
  refine wp_seq ?_
  refine rs0 G [0, 1, 2, 3] [dI p.vars, dI p.arrays, dT p.body, .box (pL 0)] [(1, iA l), (2, .ptr 3 0), (4, bA false)] ?_
  clear G; intro ρ a w G
  refine th_n ?_
  refine wp_seq ?_
  refine rs0s G [(1, iA l), (2, .ptr 3 0), (4, bA false), (5, iA 1048576)] ?_
  clear G; intro ρ a w G
  refine th_n ?_
  refine wp_seq ?_
  refine rs1s G ⟨[(2, _, [0, 1, 2])], [], []⟩ (calls_cons (c_szProgram (p) (1048576) (by omega) (by omega)) calls_nil) trivial [(1, iA l), (2, .ptr 3 0), (4, bA false), (5, iA (szRes 1048576 p.size))] [] trivial ?_
  clear G; intro ρ a w G
  refine th_n ?_
  refine wp_seq ?_
  refine wp_seq ?_
  refine rs0s G [(1, iA l), (2, .ptr 3 0), (4, bA false), (20, bA (decide (szRes 1048576 p.size < 0)))] ?_
  clear G; intro ρ a w G
  refine th_n ?_
  cases h0 : (decide (szRes (1048576 : Int) p.size < (0 : Int)))
  ·
   have q0 : ¬ (szRes 1048576 p.size < 0) := of_decide_eq_false h0
   refine rF G (decide (szRes (1048576 : Int) p.size < (0 : Int))) (by assumption) ?_
   refine wp_skip ?_
   refine th_n ?_
   refine wp_seq ?_
   refine rs1 (dk := dkP) G ⟨[(1, _, [0, 1, 2]), (3, _, [12, 13, 14])], [], []⟩ (calls_cons (hto (by exact fits (by assumption))) (calls_cons (Ctr.lend (c_RaiseLabels (p) (l) (by exact fits (by assumption))) [.row 3, .row 3, .tree]) calls_nil)) trivial [0, 1, 2, 3, 28, 29, 30, 60] [dI p.vars, dI p.arrays, dT p.body, .box (pL 0), .row 3 (D.ints (raiseP p l).vars), .row 3 (D.ints (raiseP p l).arrays), .tree (D.stmts (raiseP p l).body), .box [.ref 4, .ref 5, .tref 6]] [(1, iA l), (2, .ptr 3 0), (4, bA false), (6, .ptr 7 0), (7, bA (progB p && labOk l))] [] trivial ?_
   clear G; intro ρ a w G
   refine th_n ?_
   refine wp_seq ?_
   refine rs1 (dk := dkP) G ⟨[(1, _, [0, 1, 2])], [], []⟩ (calls_cons (hto (by exact fits (by assumption))) calls_nil) trivial [0, 1, 2, 3, 4, 5, 6, 7, 16, 17, 18, 24] [dI p.vars, dI p.arrays, dT p.body, .box (pL 0), .row 3 (D.ints (raiseP p l).vars), .row 3 (D.ints (raiseP p l).arrays), .tree (D.stmts (raiseP p l).body), .box [.ref 4, .ref 5, .tref 6], .row 3 (D.ints p.vars), .row 3 (D.ints p.arrays), .tree (D.stmts p.body), .box [.ref 8, .ref 9, .tref 10]] [(1, iA l), (2, .ptr 3 0), (4, bA false), (6, .ptr 7 0), (7, bA (progB p && labOk l)), (8, .ptr 11 0)] [] trivial ?_
   clear G; intro ρ a w G
   refine th_n ?_
   refine wp_seq ?_
   refine rs1 (dk := dkP) G ⟨[(2, _, [8, 9, 10])], [], []⟩ (calls_cons (Ctr.lend (c_iRaiseLabels (p) (l) (by exact fits (by assumption))) [.row 3, .row 3, .tree]) calls_nil) trivial [0, 1, 2, 3, 4, 5, 6, 7, 8, 9, 10, 11, 28, 29, 30, 60] [dI p.vars, dI p.arrays, dT p.body, .box (pL 0), .row 3 (D.ints (raiseP p l).vars), .row 3 (D.ints (raiseP p l).arrays), .tree (D.stmts (raiseP p l).body), .box [.ref 4, .ref 5, .tref 6], .row 3 (D.ints p.vars), .row 3 (D.ints p.arrays), .tree (D.stmts p.body), .box [.ref 8, .ref 9, .tref 10], .row 3 (D.ints (raiseP p l).vars), .row 3 (D.ints (raiseP p l).arrays), .tree (D.stmts (raiseP p l).body), .box [.ref 12, .ref 13, .tref 14]] [(1, iA l), (2, .ptr 3 0), (4, bA false), (6, .ptr 7 0), (7, bA (progB p && labOk l)), (8, .ptr 11 0), (9, .ptr 15 0), (10, bA (progB p && labOk l))] [] trivial ?_
   clear G; intro ρ a w G
   refine th_n ?_
   refine wp_seq ?_
   refine wp_seq ?_
   cases h1 : (!(raiseP p l).same (raiseP p l))
   ·
    have q1 : ((raiseP p l).same (raiseP p l)) = true := (fun hq => (hq)) (Eq.mp (Bool.not_eq_false' _) h1)
    refine rs1s G ⟨[(2, _, [12, 13, 14, 4, 5, 6])], [(!(raiseP p l).same (raiseP p l), false)], [(5, 0), (6, 0), (7, 0), (1008, 0)]⟩ (calls_cons (Ctr.lend (c_eqProgram (raiseP p l) (raiseP p l)) [.row 3, .row 3, .tree, .row 3, .row 3, .tree]) calls_nil) ⟨(by assumption), trivial⟩ [(1, iA l), (2, .ptr 3 0), (4, bA false), (6, .ptr 7 0), (7, bA (progB p && labOk l)), (8, .ptr 11 0), (9, .ptr 15 0), (10, bA (progB p && labOk l)), (44, .v (.bool !(progB p && labOk l) == (progB p && labOk l)))] [] trivial ?_
    clear G; intro ρ a w G
    refine th_n ?_
    refine rF G (!(progB p && labOk l) == (progB p && labOk l)) (by simp [h0, h1, q1]) ?_
    refine wp_skip ?_
    refine th_n ?_
    refine wp_seq ?_
    refine wp_seq ?_
    refine rd1s G ⟨[(2, _, [0, 1, 2]), (3, _, [8, 9, 10, 32, 33, 34])], [], []⟩ (calls_cons (hto (by exact fits (by assumption))) (calls_cons (Ctr.lend (c_eqProgram (p) (p)) [.row 3, .row 3, .tree, .row 3, .row 3, .tree]) calls_nil)) trivial [0, 0, 2, 7, 15] [(1, iA l), (2, .ptr 3 0), (4, bA false), (6, .ptr 7 0), (7, bA (progB p && labOk l)), (8, .ptr 11 0), (9, .ptr 15 0), (10, bA (progB p && labOk l)), (49, .v (.bool !p.same p))] [] trivial ?_
    clear G; intro ρ a w G
    refine th_n ?_
    cases h2 : (!p.same p)
    ·
     have q2 : (p.same p) = true := (fun hq => (hq)) (Eq.mp (Bool.not_eq_false' _) h2)
     refine rF G (!p.same p) (by assumption) ?_
     refine wp_skip ?_
     refine th_n ?_
     refine wp_seq ?_
     refine rs0s G [(1, iA l), (2, .ptr 3 0), (4, bA false), (6, .ptr 7 0), (7, bA (progB p && labOk l)), (8, .ptr 11 0), (9, .ptr 15 0), (10, bA (progB p && labOk l)), (11, iA 1)] ?_
     clear G; intro ρ a w G
     refine th_n ?_
     refine wp_seq ?_
     refine rs1 (dk := dkP) G ⟨[(2, _, [8, 9, 10])], [], []⟩ (calls_cons (c_markProgram (p) (1) (by exact mark_fits (fits (by assumption)) (Nat.le_refl _))) calls_nil) trivial [0, 1, 2, 3, 4, 5, 6, 7, 12, 13, 14, 15] [dI p.vars, dI p.arrays, dT p.body, .box (pL 0), .row 3 (D.ints (raiseP p l).vars), .row 3 (D.ints (raiseP p l).arrays), .tree (D.stmts (raiseP p l).body), .box [.ref 4, .ref 5, .tref 6], .row 3 (D.ints (raiseP p l).vars), .row 3 (D.ints (raiseP p l).arrays), .tree (D.stmts (raiseP p l).body), .box [.ref 8, .ref 9, .tref 10]] [(1, iA l), (2, .ptr 3 0), (4, bA false), (6, .ptr 7 0), (7, bA (progB p && labOk l)), (9, .ptr 11 0), (10, bA (progB p && labOk l)), (11, iA ((↑1 : Int) + mkPN p))] [] trivial ?_
     clear G; intro ρ a w G
     refine th_n ?_
     refine wp_seq ?_
     refine wp_seq ?_
     cases h3 : (decide ((1 : Int) + mkPN p < (0 : Int)))
     ·
      have q3 : ¬ (1 + mkPN p < 0) := of_decide_eq_false h3
      refine rs1s G ⟨[(5, _, [8, 9, 10, 4, 5, 6])], [(decide ((1 : Int) + mkPN p < (0 : Int)), false), (!(raiseP p l).same (raiseP p l), false)], [(3, 0), (4, 0), (5, 0), (6, 0), (1007, 0), (9, 1), (10, 1), (11, 1), (1012, 1)]⟩ (calls_cons (Ctr.lend (c_eqProgram (raiseP p l) (raiseP p l)) [.row 3, .row 3, .tree, .row 3, .row 3, .tree]) calls_nil) ⟨(by assumption), (by assumption), trivial⟩ [(1, iA l), (2, .ptr 3 0), (4, bA false), (6, .ptr 7 0), (7, bA (progB p && labOk l)), (9, .ptr 11 0), (65, .v (.bool !(progB p && labOk l) == (progB p && labOk l)))] [] trivial ?_
      clear G; intro ρ a w G
      refine th_n ?_
      refine rF G (!(progB p && labOk l) == (progB p && labOk l)) (by simp [h0, h1, q1, h2, q2, h3]) ?_
      refine wp_skip ?_
      refine th_n ?_
      refine wp_seq ?_
      refine rs0s G [(1, iA l), (2, .ptr 3 0), (4, bA false), (6, .ptr 7 0), (7, bA (progB p && labOk l)), (9, .ptr 11 0), (12, iA 1)] ?_
      clear G; intro ρ a w G
      refine th_n ?_
      refine wp_seq ?_
      refine rs1 (dk := dkP) G ⟨[(2, _, [8, 9, 10])], [], []⟩ (calls_cons (c_markProgram (raiseP p l) (1) (by exact mark_fits (Nat.le_trans (raise_size p l) (fits (by assumption))) (Nat.le_refl _))) calls_nil) trivial [0, 1, 2, 3, 4, 5, 6, 7, 8, 9, 10, 11] [dI p.vars, dI p.arrays, dT p.body, .box (pL 0), .row 3 (D.ints (raiseP p l).vars), .row 3 (D.ints (raiseP p l).arrays), .tree (D.stmts (raiseP p l).body), .box [.ref 4, .ref 5, .tref 6], .row 3 (D.ints (mkP (raiseP p l) 1).vars), .row 3 (D.ints (mkP (raiseP p l) 1).arrays), .tree (D.stmts (mkP (raiseP p l) 1).body), .box [.ref 8, .ref 9, .tref 10]] [(1, iA l), (2, .ptr 3 0), (4, bA false), (6, .ptr 7 0), (7, bA (progB p && labOk l)), (9, .ptr 11 0), (12, iA ((↑1 : Int) + mkPN (raiseP p l)))] [] trivial ?_
      clear G; intro ρ a w G
      refine th_n ?_
      refine wp_seq ?_
      refine rs0s G [(1, iA l), (2, .ptr 3 0), (4, bA false), (6, .ptr 7 0), (7, bA (progB p && labOk l)), (9, .ptr 11 0), (12, iA (1 + mkPN (raiseP p l))), (13, iA 1)] ?_
      clear G; intro ρ a w G
      refine th_n ?_
      refine wp_seq ?_
      refine rs1s G ⟨[(2, _, [8, 9, 10])], [], []⟩ (calls_cons (Ctr.lend (c_heldProgram (raiseP p l) (1) (by exact mark_fits (Nat.le_trans (raise_size p l) (fits (by assumption))) (Nat.le_refl _))) [.row 3, .row 3, .tree]) calls_nil) trivial [(1, iA l), (2, .ptr 3 0), (4, bA false), (6, .ptr 7 0), (7, bA (progB p && labOk l)), (9, .ptr 11 0), (12, iA (1 + mkPN (raiseP p l))), (13, iA ((↑1 : Int) + mkPN (raiseP p l)))] [] trivial ?_
      clear G; intro ρ a w G
      refine th_n ?_
      refine wp_seq ?_
      refine wp_seq ?_
      refine rs0s G [(1, iA l), (2, .ptr 3 0), (4, bA false), (6, .ptr 7 0), (7, bA (progB p && labOk l)), (9, .ptr 11 0), (12, iA (1 + mkPN (raiseP p l))), (13, iA (1 + mkPN (raiseP p l))), (73, bA (decide (1 + mkPN (raiseP p l) < 0)))] ?_
      clear G; intro ρ a w G
      refine th_n ?_
      cases h4 : (decide ((1 : Int) + mkPN (raiseP p l) < (0 : Int)))
      ·
       have q4 : ¬ (1 + mkPN (raiseP p l) < 0) := of_decide_eq_false h4
       refine rF G (decide ((1 : Int) + mkPN (raiseP p l) < (0 : Int))) (by assumption) ?_
       refine wp_skip ?_
       refine th_n ?_
       refine wp_seq ?_
       refine wp_seq ?_
       refine rs0s G [(1, iA l), (2, .ptr 3 0), (4, bA false), (6, .ptr 7 0), (7, bA (progB p && labOk l)), (9, .ptr 11 0), (12, iA (1 + mkPN (raiseP p l))), (13, iA (1 + mkPN (raiseP p l))), (76, bA (1 + mkPN (raiseP p l) != 1 + mkPN (raiseP p l)))] ?_
       clear G; intro ρ a w G
       refine th_n ?_
       refine rF G ((1 : Int) + mkPN (raiseP p l) != (1 : Int) + mkPN (raiseP p l)) (by simp [h0, h1, q1, h2, q2, h3, h4]) ?_
       refine wp_skip ?_
       refine th_n ?_
       refine wp_seq ?_
       refine rs1 (dk := dkP) G ⟨[(1, _, [0, 1, 2]), (3, _, [20, 21, 22])], [], []⟩ (calls_cons (hto (by exact fits (by assumption))) (calls_cons (Ctr.lend (c_iRaiseLabels (p) (l) (by exact fits (by assumption))) [.row 3, .row 3, .tree]) calls_nil)) trivial [0, 1, 2, 4, 5, 6, 7, 8, 9, 10, 11, 36, 37, 38, 68] [dI p.vars, dI p.arrays, dT p.body, .row 3 (D.ints (raiseP p l).vars), .row 3 (D.ints (raiseP p l).arrays), .tree (D.stmts (raiseP p l).body), .box [.ref 3, .ref 4, .tref 5], .row 3 (D.ints (mkP (raiseP p l) 1).vars), .row 3 (D.ints (mkP (raiseP p l) 1).arrays), .tree (D.stmts (mkP (raiseP p l) 1).body), .box [.ref 7, .ref 8, .tref 9], .row 3 (D.ints (raiseP p l).vars), .row 3 (D.ints (raiseP p l).arrays), .tree (D.stmts (raiseP p l).body), .box [.ref 11, .ref 12, .tref 13]] [(4, bA false), (6, .ptr 6 0), (7, bA (progB p && labOk l)), (9, .ptr 10 0), (12, iA (1 + mkPN (raiseP p l))), (13, iA (1 + mkPN (raiseP p l))), (14, .ptr 14 0), (15, bA (progB p && labOk l))] [] trivial ?_
       clear G; intro ρ a w G
       refine th_n ?_
       refine wp_seq ?_
       refine wp_seq ?_
       refine rs1 (dk := dkP) G ⟨[(2, _, [11, 12, 13, 3, 4, 5])], [(!(raiseP p l).same (raiseP p l), false)], [(5, 0), (6, 0), (7, 0), (1008, 0)]⟩ (calls_cons (Ctr.lend (c_eqProgram (raiseP p l) (raiseP p l)) [.row 3, .row 3, .tree, .row 3, .row 3, .tree]) calls_nil) ⟨(by assumption), trivial⟩ [0, 1, 2, 7, 8, 9, 10] [dI p.vars, dI p.arrays, dT p.body, .row 3 (D.ints (mkP (raiseP p l) 1).vars), .row 3 (D.ints (mkP (raiseP p l) 1).arrays), .tree (D.stmts (mkP (raiseP p l) 1).body), .box [.ref 3, .ref 4, .tref 5]] [(4, bA false), (9, .ptr 6 0), (12, iA (1 + mkPN (raiseP p l))), (13, iA (1 + mkPN (raiseP p l))), (92, .v (.bool !(progB p && labOk l) == (progB p && labOk l)))] [] trivial ?_
       clear G; intro ρ a w G
       refine th_n ?_
       refine rF G (!(progB p && labOk l) == (progB p && labOk l)) (by simp [h0, h1, q1, h2, q2, h3, h4]) ?_
       refine wp_skip ?_
       refine th_n ?_
       refine wp_seq ?_
       refine rs0s G [(4, bA false), (9, .ptr 6 0), (12, iA (1 + mkPN (raiseP p l))), (13, iA 1)] ?_
       clear G; intro ρ a w G
       refine th_n ?_
       refine wp_seq ?_
       refine rs1 (dk := dkP) G ⟨[(2, _, [3, 4, 5])], [], []⟩ (calls_cons (Ctr.lend (c_heldProgram (raiseP p l) (1) (by exact mark_fits (Nat.le_trans (raise_size p l) (fits (by assumption))) (Nat.le_refl _))) [.row 3, .row 3, .tree]) calls_nil) trivial [0, 1, 2] [dI p.vars, dI p.arrays, dT p.body] [(4, bA false), (12, iA (1 + mkPN (raiseP p l))), (13, iA ((↑1 : Int) + mkPN (raiseP p l)))] [] trivial ?_
       clear G; intro ρ a w G
       refine th_n ?_
       refine wp_seq ?_
       refine wp_seq ?_
       refine rs0s G [(4, bA false), (12, iA (1 + mkPN (raiseP p l))), (13, iA (1 + mkPN (raiseP p l))), (97, bA (decide (1 + mkPN (raiseP p l) < 0)))] ?_
       clear G; intro ρ a w G
       refine th_n ?_
       refine rF G (decide ((1 : Int) + mkPN (raiseP p l) < (0 : Int))) (by assumption) ?_
       refine wp_skip ?_
       refine th_n ?_
       refine wp_seq ?_
       refine wp_seq ?_
       refine rs0s G [(4, bA false), (100, bA (1 + mkPN (raiseP p l) != 1 + mkPN (raiseP p l)))] ?_
       clear G; intro ρ a w G
       refine th_n ?_
       refine rF G ((1 : Int) + mkPN (raiseP p l) != (1 : Int) + mkPN (raiseP p l)) (by simp [h0, h1, q1, h2, q2, h3, h4]) ?_
       refine wp_skip ?_
       refine th_n ?_
       refine wp_seq ?_
       refine rs0s G [(4, bA true)] ?_
       clear G; intro ρ a w G
       refine th_n ?_
       refine wp_ret ?_
       exact rx_ret (v := bA true) G [0, 1, 2] (by kernel_rfl) (by kernel_rfl) (by kernel_rfl) (by kernel_rfl)
      ·
       have q4 : 1 + mkPN (raiseP p l) < 0 := of_decide_eq_true h4
       refine rT G (decide ((1 : Int) + mkPN (raiseP p l) < (0 : Int))) (by assumption) ?_
       refine wp_seq ?_
       refine rs0s G [(1, iA l), (2, .ptr 3 0), (4, bA false), (6, .ptr 7 0), (7, bA (progB p && labOk l)), (9, .ptr 11 0), (12, iA (1 + mkPN (raiseP p l))), (13, iA (1 + mkPN (raiseP p l)))] ?_
       clear G; intro ρ a w G
       refine th_n ?_
       refine wp_ret ?_
       refine th_r ?_
       exact rx_ret (v := bA false) G [0, 1, 2] (by kernel_rfl) (by kernel_rfl) (by kernel_rfl) (by have e1 : (true : Bool) = (false) := (by exact absurd (by with_reducible assumption) (mk_pos (raiseP p l))); first | (rw [e1]; done) | (rw [e1]; rfl) | (simp only [e1]; done) | (simp only [e1]; rfl))
     ·
      have q3 : 1 + mkPN p < 0 := of_decide_eq_true h3
      refine rs1s G ⟨[], [(decide ((1 : Int) + mkPN p < (0 : Int)), true), (true, true)], [(3, 0), (4, 0), (5, 0), (6, 0), (1007, 0), (9, 1), (10, 1), (11, 1), (1012, 1)]⟩ calls_nil ⟨(by assumption), (by kernel_rfl), trivial⟩ [(1, iA l), (2, .ptr 3 0), (4, bA false), (6, .ptr 7 0), (7, bA (progB p && labOk l)), (9, .ptr 11 0), (65, bA true)] [] trivial ?_
      clear G; intro ρ a w G
      refine th_n ?_
      refine rT G (true) (by kernel_rfl) ?_
      refine wp_seq ?_
      refine rs0s G [(1, iA l), (2, .ptr 3 0), (4, bA false), (6, .ptr 7 0), (7, bA (progB p && labOk l)), (9, .ptr 11 0)] ?_
      clear G; intro ρ a w G
      refine th_n ?_
      refine wp_ret ?_
      refine th_r ?_
      exact rx_ret (v := bA false) G [0, 1, 2] (by kernel_rfl) (by kernel_rfl) (by kernel_rfl) (by have e1 : (true : Bool) = (false) := (by exact absurd (by with_reducible assumption) (mk_pos p)); first | (rw [e1]; done) | (rw [e1]; rfl) | (simp only [e1]; done) | (simp only [e1]; rfl))
    ·
     have q2 : (p.same p) = false := (fun hq => (hq)) (Eq.mp (Bool.not_eq_true' _) h2)
     refine rT G (!p.same p) (by assumption) ?_
     refine wp_seq ?_
     refine rs0s G [(1, iA l), (2, .ptr 3 0), (4, bA false), (6, .ptr 7 0), (7, bA (progB p && labOk l)), (8, .ptr 11 0), (9, .ptr 15 0), (10, bA (progB p && labOk l))] ?_
     clear G; intro ρ a w G
     refine th_n ?_
     refine wp_ret ?_
     refine th_r ?_
     exact rx_ret (v := bA false) G [0, 1, 2] (by kernel_rfl) (by kernel_rfl) (by kernel_rfl) (by have e1 : (true : Bool) = (false) := (by exact absurd (by with_reducible assumption) (same_no p)); first | (rw [e1]; done) | (rw [e1]; rfl) | (simp only [e1]; done) | (simp only [e1]; rfl))
   ·
    have q1 : ((raiseP p l).same (raiseP p l)) = false := (fun hq => (hq)) (Eq.mp (Bool.not_eq_true' _) h1)
    refine rs1s G ⟨[(2, _, [12, 13, 14, 4, 5, 6])], [(!(raiseP p l).same (raiseP p l), true)], [(5, 0), (6, 0), (7, 0), (1008, 0)]⟩ (calls_cons (Ctr.lend (c_eqProgram (raiseP p l) (raiseP p l)) [.row 3, .row 3, .tree, .row 3, .row 3, .tree]) calls_nil) ⟨(by assumption), trivial⟩ [(1, iA l), (2, .ptr 3 0), (4, bA false), (6, .ptr 7 0), (7, bA (progB p && labOk l)), (8, .ptr 11 0), (9, .ptr 15 0), (10, bA (progB p && labOk l)), (44, bA true)] [] trivial ?_
    clear G; intro ρ a w G
    refine th_n ?_
    refine rT G (true) (by kernel_rfl) ?_
    refine wp_seq ?_
    refine rs0s G [(1, iA l), (2, .ptr 3 0), (4, bA false), (6, .ptr 7 0), (7, bA (progB p && labOk l)), (8, .ptr 11 0), (9, .ptr 15 0), (10, bA (progB p && labOk l))] ?_
    clear G; intro ρ a w G
    refine th_n ?_
    refine wp_ret ?_
    refine th_r ?_
    exact rx_ret (v := bA false) G [0, 1, 2] (by kernel_rfl) (by kernel_rfl) (by kernel_rfl) (by have e1 : (true : Bool) = (false) := (by exact absurd (by with_reducible assumption) (same_no (raiseP p l))); first | (rw [e1]; done) | (rw [e1]; rfl) | (simp only [e1]; done) | (simp only [e1]; rfl))
  ·
   have q0 : szRes 1048576 p.size < 0 := of_decide_eq_true h0
   refine rT G (decide (szRes (1048576 : Int) p.size < (0 : Int))) (by assumption) ?_
   refine wp_seq ?_
   refine rs0s G [(1, iA l), (2, .ptr 3 0), (4, bA true)] ?_
   clear G; intro ρ a w G
   refine th_n ?_
   refine wp_ret ?_
   refine th_r ?_
   exact rx_ret (v := bA true) G [0, 1, 2] (by kernel_rfl) (by kernel_rfl) (by kernel_rfl) (by kernel_rfl)

theorem walk (u : Value) (p : LProg) (v : Value) (l : Int) (w : World) (hp : ProgV w (fun _ => True) u p) (hv : v = .int .i64 l) : Calls Try.prog 5 #[u, v] w fun e w' => e = .returned (.bool true) ∧ Below w.heap.size w w' := by
  subst hv
  exact prog_lawI l (c_law p l) u w hp

end Go.Proofs.Ytgpkdfefgcpbiaa.exRaiseLabels

namespace Go.Proofs.Ytgpkdfefgcpbiaa
set_option linter.unusedVariables false
set_option linter.unusedSimpArgs false
open Go Go.RowKit Go.ChangeShapes Go.WideShapes Go.Deep
section
variable {H : Type} {enc : TypeId × Value → H} {W : World}

/-- A slice that reads as data: its row of cells; each element reads, with less fuel. -/
theorem row_of_trod_lt {t e : TypeId} {fuel : Nat} {v : Value} {x : DataW H × List MemPlace} {sz : Nat} (ht : Try.prog.underlying t = some (.slice e)) (hc : Try.prog.cellsOf e = sz) (hsz : 0 < sz)
    (h : DataW.trod enc Try.prog W 0 (fun _ => true) true fuel t [v] = some x) :
    ∃ (n m : Nat) (C : Nat → List Value), Row W v n sz ((List.range n).flatMap C) ∧ (∀ i, (C i).length = sz) ∧ ∀ i, i < n → m < fuel ∧ ∃ y, DataW.trod enc Try.prog W 0 (fun _ => true) true m e (C i) = some y := by
  rcases DataW.trod_slice ht h with ⟨hcs, _⟩ | ⟨a, len, cap, elems, rest, k, hfu, hcs, _, hb, hl, hm, hlen, hel, _, _⟩
  · cases hcs
    exact ⟨0, 0, fun _ => List.replicate sz undef, Row.nil _ _, by simp, fun i hi => by omega⟩
  · cases hcs
    rw [hc] at hel
    obtain ⟨C, hC⟩ := choose_lt (α := List Value) (n := len) (p := fun i cs => cs.length = sz ∧ (∀ j, j < sz → W.cell? (a.add (i * sz + j)) = cs[j]?) ∧ ∃ y, DataW.trod enc Try.prog W 0 (fun _ => true) true k e cs = some y) (fun i hi => by
      have h0 := hel i hi
      rw [List.getElem?_eq_getElem (by omega)] at h0
      obtain ⟨cs', h1, h2⟩ := Option.bind_eq_some_iff.1 h0
      obtain ⟨_, hlen, hcell⟩ := World.cells?_some h1
      exact ⟨cs', hlen, fun j hj => by rw [← add_add]; exact hcell j hj, _, h2⟩)
    let C' : Nat → List Value := fun i => if i < len then C i else List.replicate sz undef
    have hC' : ∀ i, (C' i).length = sz := fun i => by
      by_cases hi : i < len
      · simp only [C', if_pos hi]; exact (hC i hi).1
      · simp [C', if_neg hi]
    refine ⟨len, k, C', ⟨flat_len hC' len, some a, cap, rfl, hl, hm, fun hn => ?_⟩, hC', fun i hi => ?_⟩
    · obtain ⟨b, off, spot⟩ := a
      have h00 := (hC 0 hn).2.1 0 hsz
      have hlen0 := (hC 0 hn).1
      rw [List.getElem?_eq_getElem (by omega)] at h00
      have hs : spot = none := by
        simpa [Addr.add] using World.cell?_spot h00
      subst hs
      have hb : b < W.heap.size := by simpa [Addr.add] using World.block_lt_of_cell? W _ h00
      refine ⟨b, off, rfl, hb, fun j u hj => ?_⟩
      have hjl : j < len * sz := by have := (List.getElem?_eq_some_iff.1 hj).1; rw [flat_len hC'] at this; exact this
      have hi : j / sz < len := Nat.div_lt_of_lt_mul (by rw [Nat.mul_comm]; exact hjl)
      have hr : j % sz < sz := Nat.mod_lt _ hsz
      have hjj : j / sz * sz + j % sz = j := Nat.div_add_mod' j sz
      have hg := flat_get hC' len (j / sz) (j % sz) hi hr
      rw [hjj, hj] at hg
      have hcc := (hC _ hi).2.1 _ hr
      simp only [C', if_pos hi] at hg
      rw [hjj, ← hg] at hcc
      have hadd : (⟨b, off, none⟩ : Addr).add j = ⟨b, off + j, none⟩ := by unfold Addr.add; split <;> simp_all
      rw [hadd] at hcc
      exact hcc
    · obtain ⟨y, hy⟩ := (hC i hi).2.2
      exact ⟨by omega, y, by simp only [C', if_pos hi]; exact hy⟩

instance : Inhabited LExpr := ⟨⟨0, 0, []⟩⟩
instance : Inhabited LStmt := ⟨⟨0, 0, ⟨0, 0, []⟩, ⟨0, 0, []⟩, 0, [], []⟩⟩
theorem exprsC_range {w : World} {φ : Nat → Prop} (C : Nat → List Value) (g : Nat → LExpr) : ∀ l : List Nat, (∀ i ∈ l, ExprC w φ (g i) (C i)) → ExprsC w φ (l.map g) (l.flatMap C)
  | [], _ => rfl
  | a :: r, h => ⟨C a, r.flatMap C, rfl, h a List.mem_cons_self, exprsC_range C g r fun i hi => h i (List.mem_cons_of_mem _ hi)⟩
theorem stmtsC_range {w : World} {φ : Nat → Prop} (C : Nat → List Value) (g : Nat → LStmt) : ∀ l : List Nat, (∀ i ∈ l, StmtC w φ (g i) (C i)) → StmtsC w φ (l.map g) (l.flatMap C)
  | [], _ => rfl
  | a :: r, h => ⟨C a, r.flatMap C, rfl, h a List.mem_cons_self, stmtsC_range C g r fun i hi => h i (List.mem_cons_of_mem _ hi)⟩

set_option maxRecDepth 100000 in
theorem expr_of_trod : ∀ (fuel : Nat) (cs : List Value) (x : DataW H × List MemPlace), DataW.trod enc Try.prog W 0 (fun _ => true) true fuel 37 cs = some x → ∃ e, ExprC W (fun _ => True) e cs := by
  intro fuel
  induction fuel using Nat.strongRecOn with
  | ind fuel ih =>
    intro cs x h
    obtain ⟨ys, k, hfu, _, hl, hys, hf⟩ := DataW.trod_struct Try.underlying37 h
    rw [show Try.prog.cellsOf 37 = 3 from by kernel_rfl] at hl
    match cs, hl with
    | [c0, c1, c2], _ =>
      have h0 := hf 0 _ rfl
      have h1 := hf 1 _ rfl
      have h2 := hf 2 _ rfl
      rw [List.getElem?_eq_getElem (by rw [hys]; decide)] at h0 h1 h2
      have e0 := DataW.trod_int Try.underlying3 ((show Try.prog.cellsOf 3 = 1 from by kernel_rfl) ▸ h0)
      have e1 := DataW.trod_int Try.underlying3 ((show Try.prog.cellsOf 3 = 1 from by kernel_rfl) ▸ h1)
      have e2 := row_of_trod_lt (v := c2) Try.underlying35 (sz := 3) (by kernel_rfl) (by omega) ((show Try.prog.cellsOf 35 = 1 from by kernel_rfl) ▸ h2)
      obtain ⟨b0, hb0, _⟩ := e0
      obtain ⟨b1, hb1, _⟩ := e1
      obtain ⟨n, m, C, hr, hC, hx⟩ := e2
      simp at hb0 hb1
      obtain ⟨g, hg⟩ := choose_lt (α := LExpr) (n := n) (p := fun i e => ExprC W (fun _ => True) e (C i)) (fun i hi => by
        obtain ⟨hm, y, hy⟩ := hx i hi
        exact ih m (by omega) _ _ hy)
      refine ⟨⟨b0, b1, (List.range n).map g⟩, c2, _, by rw [hb0, hb1], ?_, exprsC_range C g (List.range n) fun i hi => hg i (by simpa using hi)⟩
      rw [List.length_map, List.length_range]
      exact hr.rowF fun _ _ => trivial

theorem kids_of_trod {fuel : Nat} {v : Value} {x : DataW H × List MemPlace} (h : DataW.trod enc Try.prog W 0 (fun _ => true) true fuel 35 [v] = some x) : ∃ ks, KidsV W (fun _ => True) v ks := by
  obtain ⟨n, m, C, hr, hC, hx⟩ := row_of_trod_lt Try.underlying35 (sz := 3) (by kernel_rfl) (by omega) h
  obtain ⟨g, hg⟩ := choose_lt (α := LExpr) (n := n) (p := fun i e => ExprC W (fun _ => True) e (C i)) (fun i hi => by
    obtain ⟨hm, y, hy⟩ := hx i hi
    exact expr_of_trod m _ _ hy)
  refine ⟨(List.range n).map g, _, ?_, exprsC_range C g (List.range n) fun i hi => hg i (by simpa using hi)⟩
  rw [List.length_map, List.length_range]
  exact hr.rowF fun _ _ => trivial
set_option maxRecDepth 100000 in
theorem stmt_of_trod : ∀ (fuel : Nat) (cs : List Value) (x : DataW H × List MemPlace), DataW.trod enc Try.prog W 0 (fun _ => true) true fuel 139 cs = some x → ∃ s, StmtC W (fun _ => True) s cs := by
  intro fuel
  induction fuel using Nat.strongRecOn with
  | ind fuel ih =>
    intro cs x h
    obtain ⟨ys, k, hfu, _, hl, hys, hf⟩ := DataW.trod_struct Try.underlying139 h
    rw [show Try.prog.cellsOf 139 = 11 from by kernel_rfl] at hl
    match cs, hl with
    | [c0, c1, c2, c3, c4, c5, c6, c7, c8, c9, c10], _ =>
      have h0 := hf 0 _ rfl
      have h1 := hf 1 _ rfl
      have h2 := hf 2 _ rfl
      have h3 := hf 3 _ rfl
      have h4 := hf 4 _ rfl
      have h5 := hf 5 _ rfl
      have h6 := hf 6 _ rfl
      rw [List.getElem?_eq_getElem (by rw [hys]; decide)] at h0 h1 h2 h3 h4 h5 h6
      obtain ⟨b0, hb0, _⟩ := DataW.trod_int Try.underlying3 ((show Try.prog.cellsOf 3 = 1 from by kernel_rfl) ▸ h0)
      obtain ⟨b1, hb1, _⟩ := DataW.trod_int Try.underlying3 ((show Try.prog.cellsOf 3 = 1 from by kernel_rfl) ▸ h1)
      obtain ⟨b4, hb4, _⟩ := DataW.trod_int Try.underlying3 ((show Try.prog.cellsOf 3 = 1 from by kernel_rfl) ▸ h4)
      obtain ⟨ie, hie⟩ := expr_of_trod k [c2, c3, c4] _ ((show Try.prog.cellsOf 37 = 3 from by kernel_rfl) ▸ h2)
      obtain ⟨ve, hve⟩ := expr_of_trod k [c5, c6, c7] _ ((show Try.prog.cellsOf 37 = 3 from by kernel_rfl) ▸ h3)
      obtain ⟨n, m, C, hr, hC, hx⟩ := row_of_trod_lt (v := c9) Try.underlying23 (sz := 11) (by kernel_rfl) (by omega) ((show Try.prog.cellsOf 23 = 1 from by kernel_rfl) ▸ h5)
      obtain ⟨n', m', C', hr', hC', hx'⟩ := row_of_trod_lt (v := c10) Try.underlying23 (sz := 11) (by kernel_rfl) (by omega) ((show Try.prog.cellsOf 23 = 1 from by kernel_rfl) ▸ h6)
      simp at hb0 hb1 hb4
      obtain ⟨g, hg⟩ := choose_lt (α := LStmt) (n := n) (p := fun i e => StmtC W (fun _ => True) e (C i)) (fun i hi => by
        obtain ⟨hm, y, hy⟩ := hx i hi
        exact ih m (by omega) _ _ hy)
      obtain ⟨g', hg'⟩ := choose_lt (α := LStmt) (n := n') (p := fun i e => StmtC W (fun _ => True) e (C' i)) (fun i hi => by
        obtain ⟨hm, y, hy⟩ := hx' i hi
        exact ih m' (by omega) _ _ hy)
      obtain ⟨iv, hi1, hi2⟩ := (ExprC.iff _ _).1 hie
      obtain ⟨vv, hv1, hv2⟩ := (ExprC.iff _ _).1 hve
      simp at hi1 hv1
      obtain ⟨i1, i2, i3⟩ := hi1
      obtain ⟨v1, v2, v3⟩ := hv1
      refine ⟨⟨b0, b1, ie, ve, b4, (List.range n).map g, (List.range n').map g'⟩, iv, vv, c9, c10, _, _, by rw [hb0, hb1, hb4, i1, i2, i3, v1, v2, v3], hi2, hv2, ?_, stmtsC_range C g (List.range n) fun i hi => hg i (by simpa using hi), ?_, stmtsC_range C' g' (List.range n') fun i hi => hg' i (by simpa using hi)⟩
      · rw [List.length_map, List.length_range]
        exact hr.rowF fun _ _ => trivial
      · rw [List.length_map, List.length_range]
        exact hr'.rowF fun _ _ => trivial

theorem block_of_trod {fuel : Nat} {v : Value} {x : DataW H × List MemPlace} (h : DataW.trod enc Try.prog W 0 (fun _ => true) true fuel 23 [v] = some x) : ∃ ss, BlockV W (fun _ => True) v ss := by
  obtain ⟨n, m, C, hr, hC, hx⟩ := row_of_trod_lt Try.underlying23 (sz := 11) (by kernel_rfl) (by omega) h
  obtain ⟨g, hg⟩ := choose_lt (α := LStmt) (n := n) (p := fun i e => StmtC W (fun _ => True) e (C i)) (fun i hi => by
    obtain ⟨hm, y, hy⟩ := hx i hi
    exact stmt_of_trod m _ _ hy)
  refine ⟨(List.range n).map g, _, ?_, stmtsC_range C g (List.range n) fun i hi => hg i (by simpa using hi)⟩
  rw [List.length_map, List.length_range]
  exact hr.rowF fun _ _ => trivial

set_option maxRecDepth 100000 in
theorem prog_of_trod {r : Reach} {b0 : Nat} {v : Value} {d : DataW H} {p : List MemPlace} (hv : Value.okWide Try.prog W r b0 25 v)
    (h : DataW.Trod enc Try.prog W 0 (fun _ => true) true 25 v d p) : ∃ c : LProg, ProgV W (fun _ => True) v c := by
  obtain ⟨v0, v1, v2, y0, y1, y2, n, rfl, -, -, h0, h1, h2⟩ := Joins.open_agg3 Try.underlying25 (by kernel_rfl) (by kernel_rfl) hv h
  obtain ⟨l0, r0⟩ := ints_of_trod Try.underlying22 h0
  obtain ⟨l1, r1⟩ := ints_of_trod Try.underlying22 h1
  obtain ⟨l2, r2⟩ := block_of_trod h2
  exact ⟨⟨l0, l1, l2⟩, _, _, _, rfl, r0.rowF fun _ _ => trivial, r1.rowF fun _ _ => trivial, r2⟩

set_option maxRecDepth 100000 in
theorem exprV_of_trod {r : Reach} {b0 : Nat} {v : Value} {d : DataW H} {p : List MemPlace} (hv : Value.okWide Try.prog W r b0 37 v)
    (h : DataW.Trod enc Try.prog W 0 (fun _ => true) true 37 v d p) : ∃ c : LExpr, ExprV W (fun _ => True) v c := by
  obtain ⟨v0, v1, v2, y0, y1, y2, n, rfl, -, -, h0, h1, h2⟩ := Joins.open_agg3 Try.underlying37 (by kernel_rfl) (by kernel_rfl) hv h
  obtain ⟨n0, e0, _⟩ := DataW.trod_int Try.underlying3 h0
  obtain ⟨n1, e1, _⟩ := DataW.trod_int Try.underlying3 h1
  obtain ⟨ks, r2⟩ := kids_of_trod h2
  simp at e0 e1
  exact ⟨⟨n0, n1, ks⟩, v2, by rw [e0, e1]; rfl, r2⟩
end
end Go.Proofs.Ytgpkdfefgcpbiaa
