/-
  Texts of this claim, part 5: what the functions on the way do, and plain laws. Conditions: as each statement says.
-/
import Derived.Test.YtgpkdfefgcpbiaaK4

namespace Go.Proofs.Ytgpkdfefgcpbiaa
set_option linter.unusedVariables false
set_option linter.unusedSimpArgs false
open Go Go.RowKit

theorem c_l4LabelD (p : LProg) : ∀ (d : Nat) (e : LExpr), shapeB p.vars.length p.arrays.length d e = true → Ctr.ok Try.prog (fnC 170 [pA 0, eA e 3] (pS p ++ eS e) (iA (labE p.vars p.arrays d e))) := by
  intro d
  induction d with
  | zero => intro e h; simp [shapeB] at h
  | succ d ih => intro e h; exact c_l4LabelS p d ih e h
theorem c_labelD (p : LProg) : ∀ (d : Nat) (e : LExpr), shapeB p.vars.length p.arrays.length d e = true → Ctr.ok Try.prog (fnC 133 [pA 0, eA e 3] (pS p ++ eS e) (iA (labE p.vars p.arrays d e))) := by
  intro d
  induction d with
  | zero => intro e h; simp [shapeB] at h
  | succ d ih => intro e h; exact c_labelS p d ih e h

/-- Whether an expression reads at a secret place. -/
def secE (vs ars : List Int) : Nat → LExpr → Bool
  | 0, _ => false
  | d + 1, e => (decide (e.kind = 3) && (labOk (labE vs ars d (e.kids.getD 0 default)) && decide (labE vs ars d (e.kids.getD 0 default) % 2 = 1))) || e.kids.any (secE vs ars d)
section
variable {vs ars : List Int} {d : Nat} {e : LExpr}
theorem secE_t (k : e.kind = 3) (h : (labOk (labE vs ars d (e.kids.getD 0 default)) && decide (labE vs ars d (e.kids.getD 0 default) % 2 = 1)) = true) : secE vs ars (d + 1) e = true := by rw [secE, h]; simp [k]
theorem secE_f (h : e.kids.any (secE vs ars d) = false) (k : ¬ e.kind = 3) : secE vs ars (d + 1) e = false := by rw [secE, h]; simp [k]
theorem secE_f3 (h : e.kids.any (secE vs ars d) = false) (k : (labOk (labE vs ars d (e.kids.getD 0 default)) && decide (labE vs ars d (e.kids.getD 0 default) % 2 = 1)) = false) : secE vs ars (d + 1) e = false := by rw [secE, h, k]; simp
end
theorem any_next {α : Type} {l : List α} {k : Nat} {p : α → Bool} {z : α} (h : (l.take k).any p = false) (hk : k < l.length) (hp : p (l.getD k z) = false) : (l.take (k + 1)).any p = false := by
  rw [p_take_succ l k hk, List.any_append, h, ← getD_lt (d := z) hk, List.any_cons, hp]; rfl
theorem any_full {α : Type} {l : List α} {k : Nat} {p : α → Bool} (h : (l.take k).any p = false) (hk : l.length ≤ k) : l.any p = false := by
  rw [List.take_of_length_le hk] at h; exact h
theorem any_hit {α : Type} {l : List α} {k : Nat} {p : α → Bool} {z : α} (hk : k < l.length) (hp : p (l.getD k z) = true) : l.any p = true := by
  rw [getD_lt hk] at hp
  exact List.any_eq_true.2 ⟨_, List.getElem_mem hk, hp⟩

set_option maxRecDepth 100000 in
theorem c_l4SecretS (p : LProg) (d : Nat) (ih : ∀ (e : LExpr), shapeB p.vars.length p.arrays.length d e = true → Ctr.ok Try.prog (fnC 199 [pA 0, eA e 3] (pS p ++ eS e) (bA (secE p.vars p.arrays d e))))
    (ihl : ∀ (e : LExpr), shapeB p.vars.length p.arrays.length d e = true → Ctr.ok Try.prog (fnC 170 [pA 0, eA e 3] (pS p ++ eS e) (iA (labE p.vars p.arrays d e))))
    (e : LExpr) (he : shapeB p.vars.length p.arrays.length (d + 1) e = true) : Ctr.ok Try.prog (fnC 199 [pA 0, eA e 3] (pS p ++ eS e) (bA (secE p.vars p.arrays (d + 1) e))) := by
  refine rx_enter 32 Try.func199 (by rfl) (by kernel_rfl) (by kernel_rfl) ?_
  intro ι φ ψ w0 w F ρ0 ρ a G
  replace G := Gam.at G [dI p.vars, dI p.arrays, dT p.body, dE e.kids] [(0, pA 0), (1, eA e 3)]
  have hlen : e.kids.length ≤ 9223372036854775807 := G.len 3 (d := .exprs e.kids) (by kernel_rfl)
  refine wp_seq ?_
  refine rs0 G [0, 1, 2, 3, 4, 12] [dI p.vars, dI p.arrays, dT p.body, dE e.kids, .box (pL 0), .box (eL e 3)] [(2, .ptr 4 0), (3, .ptr 5 0), (4, bA false)] ?_
  clear G; intro ρ a w G
  refine th_n ?_
  refine wp_seq ?_
  refine wp_seq ?_
  cases h0 : (e.kind == (3 : Int))
  ·
   have q0 : ¬ (e.kind = 3) := ne_of_beq_false h0
   refine rd1s G ⟨[], [(e.kind == (3 : Int), false)], [(4, 0), (5, 0), (6, 0), (7, 0), (8, 0), (9, 0), (10, 0), (1011, 0)]⟩ calls_nil ⟨(by assumption), trivial⟩ [0, 1, 3, 7, 15, 15, 47, 111, 239, 511, 1023, 2047] [(2, .ptr 4 0), (3, .ptr 5 0), (4, bA false), (17, bA false)] [] trivial ?_
   clear G; intro ρ a w G
   refine th_n ?_
   refine rF G (false) (by kernel_rfl) ?_
   refine wp_skip ?_
   refine th_n ?_
   refine wp_seq ?_
   refine wp_seq ?_
   refine rs0s G [(2, .ptr 4 0), (3, .ptr 5 0), (4, bA false), (5, iA 0)] ?_
   clear G; intro ρ a w G
   refine th_n ?_
   refine wp_block ?_
   refine rx_for (κ := Nat) (fun k => k ≤ e.kids.length ∧ (e.kids.take k).any (secE p.vars p.arrays d) = false) (fun k => e.kids.length - k) (fun k => [dI p.vars, dI p.arrays, dT p.body, dE e.kids, .box (pL 0), .box (eL e 3)]) (fun k => [(2, .ptr 4 0), (3, .ptr 5 0), (4, bA false), (5, iA k)]) (0) (by simp [he, h0]) (Gam.at G _ _) ?_
   clear G
   intro k ρ a w hp G
   replace G := Gam.at G [dI p.vars, dI p.arrays, dT p.body, dE e.kids, .box (pL 0), .box (eL e 3)] [(2, .ptr 4 0), (3, .ptr 5 0), (4, bA false), (5, iA (↑k : Int))]
   refine wp_seq ?_
   refine wp_seq ?_
   refine rs0s G [(2, .ptr 4 0), (3, .ptr 5 0), (4, bA false), (5, iA (↑k : Int)), (22, bA (decide ((↑k : Int) < (↑e.kids.length : Int))))] ?_
   clear G; intro ρ a w G
   refine th_n ?_
   cases h2 : (decide ((↑k : Int) < (↑e.kids.length : Int)))
   ·
    have q2 : ¬ ((↑k : Int) < (↑e.kids.length : Int)) := of_decide_eq_false h2
    refine rF G (decide ((↑k : Int) < (↑e.kids.length : Int))) (by assumption) ?_
    refine wp_exit ?_
    refine th_e ?_
    refine th_e ?_
    refine bl_hit ?_
    refine th_n ?_
    refine wp_seq ?_
    refine rs0 G [0, 1, 2, 3] [dI p.vars, dI p.arrays, dT p.body, dE e.kids] [(4, bA false)] ?_
    clear G; intro ρ a w G
    refine th_n ?_
    refine wp_ret ?_
    exact rx_ret (v := bA false) G [0, 1, 2, 3] (by kernel_rfl) (by kernel_rfl) (by kernel_rfl) (by have e1 : (secE p.vars p.arrays (d + 1) e : Bool) = (false) := (by exact secE_f (any_full hp.2 (by omega)) (by assumption)); first | (rw [e1]; done) | (rw [e1]; rfl) | (simp only [e1]; done) | (simp only [e1]; rfl))
   ·
    have q2 : (↑k : Int) < (↑e.kids.length : Int) := of_decide_eq_true h2
    refine rT G (decide ((↑k : Int) < (↑e.kids.length : Int))) (by assumption) ?_
    refine wp_skip ?_
    refine th_n ?_
    refine wp_seq ?_
    refine wp_block ?_
    refine wp_seq ?_
    refine rd1s G ⟨[(6, _, [0, 1, 2, 46])], [], []⟩ (calls_cons (ih (e.kids.getD k default) (by exact sh_kid he (by omega))) calls_nil) trivial [0, 0, 2, 0, 14, 30, 63] [(2, .ptr 4 0), (3, .ptr 5 0), (4, bA false), (5, iA (↑k : Int)), (31, bA (secE p.vars p.arrays d (e.kids.getD k default)))] [(0 : Int) ≤ (↑k : Int), (↑k : Int) < (↑e.kids.length : Int), k < e.kids.length] ⟨(by simp [he, h0, h2]), (by assumption), (by have hp := hp; omega), trivial⟩ ?_
    clear G; intro ρ a w G
    refine th_n ?_
    cases h3 : (secE p.vars p.arrays d (e.kids.getD k default))
    ·
     refine rF G (secE p.vars p.arrays d (e.kids.getD k default)) (by assumption) ?_
     refine wp_skip ?_
     refine bl_n ?_
     refine th_n ?_
     refine rs1s G ⟨[], [], []⟩ calls_nil trivial [(2, .ptr 4 0), (3, .ptr 5 0), (4, bA false), (5, iA ((↑k : Int) + 1))] [IntKind.i64.wrap ((↑k : Int) + (1 : Int)) = (↑k : Int) + (1 : Int)] ⟨(by exact w64 (by omega) (by omega)), trivial⟩ ?_
     clear G; intro ρ a w G
     refine th_n ?_
     exact rx_next G (k + 1) (by exact ⟨by omega, any_next hp.2 (by omega) (by assumption)⟩) (by have hp := hp; omega) [0, 1, 2, 3, 4, 5] [dI p.vars, dI p.arrays, dT p.body, dE e.kids, .box (pL 0), .box (eL e 3)] [(2, .ptr 4 0), (3, .ptr 5 0), (4, bA false), (5, iA (↑(k + 1) : Int))] (by kernel_rfl) (by kernel_rfl) (by kernel_rfl) (by kernel_rfl) (by kernel_rfl)
    ·
     refine rT G (secE p.vars p.arrays d (e.kids.getD k default)) (by assumption) ?_
     refine wp_seq ?_
     refine rs0s G [(2, .ptr 4 0), (3, .ptr 5 0), (4, bA true), (5, iA (↑k : Int))] ?_
     clear G; intro ρ a w G
     refine th_n ?_
     refine wp_ret ?_
     refine bl_r ?_
     refine th_r ?_
     refine th_r ?_
     refine bl_r ?_
     refine th_r ?_
     exact rx_ret (v := bA true) G [0, 1, 2, 3] (by kernel_rfl) (by kernel_rfl) (by kernel_rfl) (by have e1 : (secE p.vars p.arrays (d + 1) e : Bool) = (true) := (by rw [secE, any_hit (k := k) (by omega) (by assumption), Bool.or_true]); first | (rw [e1]; done) | (rw [e1]; rfl) | (simp only [e1]; done) | (simp only [e1]; rfl))
  ·
   have q0 : e.kind = 3 := eq_of_beq h0
   refine rd1s G ⟨[(9, _, [0, 1, 2, 70]), (10, _, [])], [(e.kind == (3 : Int), true)], [(4, 0), (5, 0), (6, 0), (7, 0), (8, 0), (9, 0), (10, 0), (1011, 0)]⟩ (calls_cons (ihl (e.kids.getD 0 default) (by exact sh_kid he (sh_len he (by assumption)))) (calls_cons (c_LabelSecret (labE p.vars p.arrays d (e.kids.getD 0 default))) calls_nil)) ⟨(by assumption), trivial⟩ [0, 1, 3, 7, 15, 15, 47, 111, 239, 511, 1023, 2047] [(2, .ptr 4 0), (3, .ptr 5 0), (4, bA false), (17, bA (labOk (labE p.vars p.arrays d (e.kids.getD 0 default)) && decide (labE p.vars p.arrays d (e.kids.getD 0 default) % 2 = 1)))] [(0 : Int) ≤ (0 : Int), (0 : Int) < (↑e.kids.length : Int), (0 : Nat) < e.kids.length] ⟨(by simp [he, h0]), (by have := sh_len he (by assumption); omega), (by have := sh_len he (by assumption); omega), trivial⟩ ?_
   clear G; intro ρ a w G
   refine th_n ?_
   cases h1 : (labOk (labE p.vars p.arrays d (e.kids.getD (0 : Nat) default)) && decide (labE p.vars p.arrays d (e.kids.getD (0 : Nat) default) % (2 : Int) = (1 : Int)))
   ·
    have q1 : ((labOk (labE p.vars p.arrays d (e.kids.getD 0 default))) = false) ∨ (¬ (labE p.vars p.arrays d (e.kids.getD 0 default) % 2 = 1)) := Or.imp (fun hq => (hq)) (fun hq => of_decide_eq_false (hq)) (Bool.and_eq_false_iff.1 h1)
    refine rF G (labOk (labE p.vars p.arrays d (e.kids.getD (0 : Nat) default)) && decide (labE p.vars p.arrays d (e.kids.getD (0 : Nat) default) % (2 : Int) = (1 : Int))) (by assumption) ?_
    refine wp_skip ?_
    refine th_n ?_
    refine wp_seq ?_
    refine wp_seq ?_
    refine rs0s G [(2, .ptr 4 0), (3, .ptr 5 0), (4, bA false), (5, iA 0)] ?_
    clear G; intro ρ a w G
    refine th_n ?_
    refine wp_block ?_
    refine rx_for (κ := Nat) (fun k => k ≤ e.kids.length ∧ (e.kids.take k).any (secE p.vars p.arrays d) = false) (fun k => e.kids.length - k) (fun k => [dI p.vars, dI p.arrays, dT p.body, dE e.kids, .box (pL 0), .box (eL e 3)]) (fun k => [(2, .ptr 4 0), (3, .ptr 5 0), (4, bA false), (5, iA k)]) (0) (by simp [he, h0, h1]) (Gam.at G _ _) ?_
    clear G
    intro k ρ a w hp G
    replace G := Gam.at G [dI p.vars, dI p.arrays, dT p.body, dE e.kids, .box (pL 0), .box (eL e 3)] [(2, .ptr 4 0), (3, .ptr 5 0), (4, bA false), (5, iA (↑k : Int))]
    refine wp_seq ?_
    refine wp_seq ?_
    refine rs0s G [(2, .ptr 4 0), (3, .ptr 5 0), (4, bA false), (5, iA (↑k : Int)), (22, bA (decide ((↑k : Int) < (↑e.kids.length : Int))))] ?_
    clear G; intro ρ a w G
    refine th_n ?_
    cases h4 : (decide ((↑k : Int) < (↑e.kids.length : Int)))
    ·
     have q4 : ¬ ((↑k : Int) < (↑e.kids.length : Int)) := of_decide_eq_false h4
     refine rF G (decide ((↑k : Int) < (↑e.kids.length : Int))) (by assumption) ?_
     refine wp_exit ?_
     refine th_e ?_
     refine th_e ?_
     refine bl_hit ?_
     refine th_n ?_
     refine wp_seq ?_
     refine rs0 G [0, 1, 2, 3] [dI p.vars, dI p.arrays, dT p.body, dE e.kids] [(4, bA false)] ?_
     clear G; intro ρ a w G
     refine th_n ?_
     refine wp_ret ?_
     exact rx_ret (v := bA false) G [0, 1, 2, 3] (by kernel_rfl) (by kernel_rfl) (by kernel_rfl) (by have e1 : (secE p.vars p.arrays (d + 1) e : Bool) = (false) := (by exact secE_f3 (any_full hp.2 (by omega)) (by assumption)); first | (rw [e1]; done) | (rw [e1]; rfl) | (simp only [e1]; done) | (simp only [e1]; rfl))
    ·
     have q4 : (↑k : Int) < (↑e.kids.length : Int) := of_decide_eq_true h4
     refine rT G (decide ((↑k : Int) < (↑e.kids.length : Int))) (by assumption) ?_
     refine wp_skip ?_
     refine th_n ?_
     refine wp_seq ?_
     refine wp_block ?_
     refine wp_seq ?_
     refine rd1s G ⟨[(6, _, [0, 1, 2, 46])], [], []⟩ (calls_cons (ih (e.kids.getD k default) (by exact sh_kid he (by omega))) calls_nil) trivial [0, 0, 2, 0, 14, 30, 63] [(2, .ptr 4 0), (3, .ptr 5 0), (4, bA false), (5, iA (↑k : Int)), (31, bA (secE p.vars p.arrays d (e.kids.getD k default)))] [(0 : Int) ≤ (↑k : Int), (↑k : Int) < (↑e.kids.length : Int), k < e.kids.length] ⟨(by simp [he, h0, h1, h4]), (by assumption), (by have hp := hp; omega), trivial⟩ ?_
     clear G; intro ρ a w G
     refine th_n ?_
     cases h5 : (secE p.vars p.arrays d (e.kids.getD k default))
     ·
      refine rF G (secE p.vars p.arrays d (e.kids.getD k default)) (by assumption) ?_
      refine wp_skip ?_
      refine bl_n ?_
      refine th_n ?_
      refine rs1s G ⟨[], [], []⟩ calls_nil trivial [(2, .ptr 4 0), (3, .ptr 5 0), (4, bA false), (5, iA ((↑k : Int) + 1))] [IntKind.i64.wrap ((↑k : Int) + (1 : Int)) = (↑k : Int) + (1 : Int)] ⟨(by exact w64 (by omega) (by omega)), trivial⟩ ?_
      clear G; intro ρ a w G
      refine th_n ?_
      exact rx_next G (k + 1) (by exact ⟨by omega, any_next hp.2 (by omega) (by assumption)⟩) (by have hp := hp; omega) [0, 1, 2, 3, 4, 5] [dI p.vars, dI p.arrays, dT p.body, dE e.kids, .box (pL 0), .box (eL e 3)] [(2, .ptr 4 0), (3, .ptr 5 0), (4, bA false), (5, iA (↑(k + 1) : Int))] (by kernel_rfl) (by kernel_rfl) (by kernel_rfl) (by kernel_rfl) (by kernel_rfl)
     ·
      refine rT G (secE p.vars p.arrays d (e.kids.getD k default)) (by assumption) ?_
      refine wp_seq ?_
      refine rs0s G [(2, .ptr 4 0), (3, .ptr 5 0), (4, bA true), (5, iA (↑k : Int))] ?_
      clear G; intro ρ a w G
      refine th_n ?_
      refine wp_ret ?_
      refine bl_r ?_
      refine th_r ?_
      refine th_r ?_
      refine bl_r ?_
      refine th_r ?_
      exact rx_ret (v := bA true) G [0, 1, 2, 3] (by kernel_rfl) (by kernel_rfl) (by kernel_rfl) (by have e1 : (secE p.vars p.arrays (d + 1) e : Bool) = (true) := (by rw [secE, any_hit (k := k) (by omega) (by assumption), Bool.or_true]); first | (rw [e1]; done) | (rw [e1]; rfl) | (simp only [e1]; done) | (simp only [e1]; rfl))
   ·
    have q1 : ((labOk (labE p.vars p.arrays d (e.kids.getD 0 default))) = true) ∧ (labE p.vars p.arrays d (e.kids.getD 0 default) % 2 = 1) := And.imp (fun hq => (hq)) (fun hq => of_decide_eq_true (hq)) (Bool.and_eq_true_iff.1 h1)
    refine rT G (labOk (labE p.vars p.arrays d (e.kids.getD (0 : Nat) default)) && decide (labE p.vars p.arrays d (e.kids.getD (0 : Nat) default) % (2 : Int) = (1 : Int))) (by assumption) ?_
    refine wp_seq ?_
    refine rs0s G [(2, .ptr 4 0), (3, .ptr 5 0), (4, bA true)] ?_
    clear G; intro ρ a w G
    refine th_n ?_
    refine wp_ret ?_
    refine th_r ?_
    exact rx_ret (v := bA true) G [0, 1, 2, 3] (by kernel_rfl) (by kernel_rfl) (by kernel_rfl) (by have e1 : (secE p.vars p.arrays (d + 1) e : Bool) = (true) := (by exact secE_t (by assumption) (by assumption)); first | (rw [e1]; done) | (rw [e1]; rfl) | (simp only [e1]; done) | (simp only [e1]; rfl))

/-- May flow. -/
def flB (x y : Int) : Bool := labOk x && labOk y && (orI x y == y)
abbrev labV (p : LProg) (e : LExpr) : Int := labE p.vars p.arrays 5 e
def secB (x : Int) : Bool := labOk x && decide (x % 2 = 1)
def flowR (p : LProg) (s : LStmt) (pc : Int) : Int :=
  if s.kind = 1 then if flB (orI (labV p s.value) pc) (p.vars.getD s.target.toNat 0) then 0 else 1
  else if s.kind = 2 then if flB (orI (orI (labV p s.value) (labV p s.index)) pc) (p.arrays.getD s.target.toNat 0) then 0 else 1
  else if s.kind = 5 then if (labOk (labV p s.value) && decide (labV p s.value ≤ 1)) && decide (pc = 0) then 0 else 2
  else 0
def leakR (p : LProg) (s : LStmt) : Int :=
  if s.kind = 3 ∧ secB (labV p s.value) = true then 3
  else if (s.kind ≠ 4 ∧ secE p.vars p.arrays 5 s.value = true) ∨ (s.kind = 2 ∧ secB (labV p s.index) = true) then 4 else 0
def ownR (p : LProg) (s : LStmt) (pc : Int) (strict : Bool) : Int := if flowR p s pc = 0 then (if strict then leakR p s else 0) else flowR p s pc
theorem c_l4Label (p : LProg) (e : LExpr) (he : shapeB p.vars.length p.arrays.length 5 e = true) : Ctr.ok Try.prog (fnC 170 [pA 0, eA e 3] (pS p ++ eS e) (iA (labV p e))) := c_l4LabelD p 5 e he
theorem c_l4SecretD (p : LProg) : ∀ (d : Nat) (e : LExpr), shapeB p.vars.length p.arrays.length d e = true → Ctr.ok Try.prog (fnC 199 [pA 0, eA e 3] (pS p ++ eS e) (bA (secE p.vars p.arrays d e))) := by
  intro d
  induction d with
  | zero => intro e h; simp [shapeB] at h
  | succ d ih => intro e h; exact c_l4SecretS p d ih (c_l4LabelD p d) e h
theorem c_l4Secret (p : LProg) (e : LExpr) (he : shapeB p.vars.length p.arrays.length 5 e = true) : Ctr.ok Try.prog (fnC 199 [pA 0, eA e 3] (pS p ++ eS e) (bA (secE p.vars p.arrays 5 e))) := c_l4SecretD p 5 e he
section
variable {nv na : Nat} {s : LStmt}
theorem right_shape {e : LExpr} (h : rightB nv na e = true) : shapeB nv na 5 e = true := by unfold rightB at h; simp only [Bool.and_eq_true] at h; exact h.1
variable (h : headB nv na s = true)
include h
theorem hd_value (k : ¬ s.kind = 4) : shapeB nv na 5 s.value = true := by
  apply right_shape
  by_cases k1 : s.kind = 1 ∨ s.kind = 5
  · rw [head1 k1] at h; simp only [Bool.and_eq_true] at h; exact h.2.2
  by_cases k2 : s.kind = 2
  · rw [head2 k2] at h; simp only [Bool.and_eq_true] at h; exact h.2.2.2
  by_cases k3 : s.kind = 3
  · rw [head3 k3] at h; simp only [Bool.and_eq_true] at h; exact h.2.2
  · rw [head0 (by omega)] at h; cases h
theorem hd_index (k : s.kind = 2) : shapeB nv na 5 s.index = true := by
  rw [head2 k] at h; simp only [Bool.and_eq_true] at h; exact right_shape h.2.1
theorem hd_var (k : s.kind = 1 ∨ s.kind = 5) : 0 ≤ s.target ∧ s.target < nv ∧ s.target.toNat < nv := by
  rw [head1 k] at h; simp only [Bool.and_eq_true, decide_eq_true_eq] at h; omega
theorem hd_arr (k : s.kind = 2) : 0 ≤ s.target ∧ s.target < na ∧ s.target.toNat < na := by
  rw [head2 k] at h; simp only [Bool.and_eq_true, decide_eq_true_eq] at h; omega
end

section
variable {p : LProg} {s : LStmt} {pc : Int} {strict : Bool} {x : Int}
theorem ownR_bad (h : flowR p s pc = x) (hx : x ≠ 0) : ownR p s pc strict = x := by rw [ownR, h, if_neg hx]
theorem ownR_lax (h : flowR p s pc = 0) : ownR p s pc false = 0 := by rw [ownR, h]; rfl
theorem ownR_strict (h : flowR p s pc = 0) (hl : leakR p s = x) : ownR p s pc true = x := by rw [ownR, h, hl]; rfl
theorem fl1t (k : s.kind = 1) (h : (!(labOk (orI (labV p s.value) pc) && labOk (p.vars.getD s.target.toNat 0) && (orI (orI (labV p s.value) pc) (p.vars.getD s.target.toNat 0) == (p.vars.getD s.target.toNat 0)))) = false) : flowR p s pc = 0 := by rw [flowR, if_pos k, if_pos (by unfold flB; first | (rw [Bool.not_eq_false'] at h; exact h) | (rw [Bool.not_eq_true'] at h; rw [h]; simp))]
theorem fl1f (k : s.kind = 1) (h : (!(labOk (orI (labV p s.value) pc) && labOk (p.vars.getD s.target.toNat 0) && (orI (orI (labV p s.value) pc) (p.vars.getD s.target.toNat 0) == (p.vars.getD s.target.toNat 0)))) = true) : flowR p s pc = 1 := by rw [flowR, if_pos k, if_neg (by unfold flB; first | (rw [Bool.not_eq_false'] at h; exact h) | (rw [Bool.not_eq_true'] at h; rw [h]; simp))]
theorem fl2t (k : s.kind = 2) (h : (!(labOk (orI (orI (labV p s.value) (labV p s.index)) pc) && labOk (p.arrays.getD s.target.toNat 0) && (orI (orI (orI (labV p s.value) (labV p s.index)) pc) (p.arrays.getD s.target.toNat 0) == (p.arrays.getD s.target.toNat 0)))) = false) : flowR p s pc = 0 := by rw [flowR, if_neg (by omega), if_pos k, if_pos (by unfold flB; first | (rw [Bool.not_eq_false'] at h; exact h) | (rw [Bool.not_eq_true'] at h; rw [h]; simp))]
theorem fl2f (k : s.kind = 2) (h : (!(labOk (orI (orI (labV p s.value) (labV p s.index)) pc) && labOk (p.arrays.getD s.target.toNat 0) && (orI (orI (orI (labV p s.value) (labV p s.index)) pc) (p.arrays.getD s.target.toNat 0) == (p.arrays.getD s.target.toNat 0)))) = true) : flowR p s pc = 1 := by rw [flowR, if_neg (by omega), if_pos k, if_neg (by unfold flB; first | (rw [Bool.not_eq_false'] at h; exact h) | (rw [Bool.not_eq_true'] at h; rw [h]; simp))]
theorem fl5t (k : s.kind = 5) (h : (!(labOk (labV p s.value) && decide (labV p s.value ≤ 1))) = false) (h2 : pc = 0) : flowR p s pc = 0 := by
  rw [Bool.not_eq_false'] at h
  rw [flowR, if_neg (by omega), if_neg (by omega), if_pos k, h, decide_eq_true h2]; rfl
theorem fl5f (k : s.kind = 5) (h : (!(labOk (labV p s.value) && decide (labV p s.value ≤ 1))) = true ∨ ¬ pc = 0) : flowR p s pc = 2 := by
  rw [flowR, if_neg (by omega), if_neg (by omega), if_pos k]
  rcases h with h | h
  · rw [Bool.not_eq_true'] at h
    rw [h]; rfl
  · rw [decide_eq_false h, Bool.and_false]; rfl
theorem fl0 (k : ¬ s.kind = 1 ∧ ¬ s.kind = 2 ∧ ¬ s.kind = 5) : flowR p s pc = 0 := by rw [flowR, if_neg k.1, if_neg k.2.1, if_neg k.2.2]
theorem lk3 (k : s.kind = 3) (h : (labOk (labV p s.value) && decide (labV p s.value % 2 = 1)) = true) : leakR p s = 3 := by rw [leakR, if_pos ⟨k, (show secB _ = true from h)⟩]
theorem lkv (h3 : ¬ s.kind = 3 ∨ (labOk (labV p s.value) && decide (labV p s.value % 2 = 1)) = false) (k : ¬ s.kind = 4) (h : secE p.vars p.arrays 5 s.value = true) : leakR p s = 4 := by
  rw [leakR, if_neg (by rintro ⟨a, b⟩; exact h3.elim (fun h => h a) (fun h => Bool.false_ne_true (h.symm.trans b))), if_pos (.inl ⟨k, h⟩)]
theorem lki (k : s.kind = 2) (h : (labOk (labV p s.index) && decide (labV p s.index % 2 = 1)) = true) : leakR p s = 4 := by
  rw [leakR, if_neg (by omega), if_pos (.inr ⟨k, (show secB _ = true from h)⟩)]
theorem lk0 (h3 : ¬ s.kind = 3 ∨ (labOk (labV p s.value) && decide (labV p s.value % 2 = 1)) = false) (h4 : s.kind = 4 ∨ secE p.vars p.arrays 5 s.value = false) (h2 : ¬ s.kind = 2 ∨ (labOk (labV p s.index) && decide (labV p s.index % 2 = 1)) = false) : leakR p s = 0 := by
  rw [leakR, if_neg (by rintro ⟨a, b⟩; exact h3.elim (fun h => h a) (fun h => Bool.false_ne_true (h.symm.trans b))), if_neg]
  rintro (⟨a, b⟩ | ⟨a, b⟩)
  · rcases h4 with h | h
    · exact a h
    · rw [h] at b; cases b
  · rcases h2 with h | h
    · exact h a
    · exact Bool.false_ne_true (h.symm.trans b)
end

set_option maxHeartbeats 8000000 in
set_option maxRecDepth 100000 in
theorem c_l4Own (p : LProg) (s : LStmt) (pc : Int) (strict : Bool) (h : headB p.vars.length p.arrays.length s = true) : Ctr.ok Try.prog (fnC 172 [pA 0, sA s 3, iA pc, bA strict] (pS p ++ sS s) (iA (ownR p s pc strict))) := by
  refine rx_enter 94 Try.func172 (by rfl) (by kernel_rfl) (by kernel_rfl) ?_
  intro ι φ ψ w0 w F ρ0 ρ a G
  replace G := Gam.at G [dI p.vars, dI p.arrays, dT p.body, dE s.index.kids, dE s.value.kids, dT s.body, dT s.els] [(0, pA 0), (1, sA s 3), (2, iA pc), (3, bA strict)]
  refine wp_seq ?_
  refine rs0 G [0, 1, 2, 3, 4, 5, 6, 7, 15] [dI p.vars, dI p.arrays, dT p.body, dE s.index.kids, dE s.value.kids, dT s.body, dT s.els, .box (pL 0), .box (sL s 3)] [(2, iA pc), (3, bA strict), (4, .ptr 7 0), (5, .ptr 8 0), (8, iA 0)] ?_
  clear G; intro ρ a w G
  refine th_n ?_
  refine wp_seq ?_
  refine wp_seq ?_
  refine rs0s G [(2, iA pc), (3, bA strict), (4, .ptr 7 0), (5, .ptr 8 0), (8, iA 0), (10, iA s.kind)] ?_
  clear G; intro ρ a w G
  refine th_n ?_
  refine wp_block ?_
  refine wp_seq ?_
  refine rs0s G [(2, iA pc), (3, bA strict), (4, .ptr 7 0), (5, .ptr 8 0), (8, iA 0), (10, iA s.kind), (11, bA (s.kind == 1))] ?_
  clear G; intro ρ a w G
  refine th_n ?_
  cases h0 : (s.kind == (1 : Int))
  ·
   have q0 : ¬ (s.kind = 1) := ne_of_beq_false h0
   refine rF G (s.kind == (1 : Int)) (by assumption) ?_
   refine wp_seq ?_
   refine rs0s G [(2, iA pc), (3, bA strict), (4, .ptr 7 0), (5, .ptr 8 0), (8, iA 0), (10, iA s.kind), (27, bA (s.kind == 2))] ?_
   clear G; intro ρ a w G
   refine th_n ?_
   cases h1 : (s.kind == (2 : Int))
   ·
    have q1 : ¬ (s.kind = 2) := ne_of_beq_false h1
    refine rF G (s.kind == (2 : Int)) (by assumption) ?_
    refine wp_seq ?_
    refine rs0s G [(2, iA pc), (3, bA strict), (4, .ptr 7 0), (5, .ptr 8 0), (8, iA 0), (10, iA s.kind), (48, bA (s.kind == 5))] ?_
    clear G; intro ρ a w G
    refine th_n ?_
    cases h2 : (s.kind == (5 : Int))
    ·
     have q2 : ¬ (s.kind = 5) := ne_of_beq_false h2
     refine rF G (s.kind == (5 : Int)) (by assumption) ?_
     refine wp_seq ?_
     refine rs0s G [(3, bA strict), (4, .ptr 7 0), (5, .ptr 8 0), (8, iA 0), (60, bA (s.kind == 3))] ?_
     clear G; intro ρ a w G
     refine th_n ?_
     cases h3 : (s.kind == (3 : Int))
     ·
      have q3 : ¬ (s.kind = 3) := ne_of_beq_false h3
      refine rF G (s.kind == (3 : Int)) (by assumption) ?_
      refine wp_skip ?_
      refine bl_n ?_
      refine th_n ?_
      refine wp_seq ?_
      refine wp_seq ?_
      cases h4 : (strict)
      ·
       refine rs1 (dk := dkP) G ⟨[], [(strict, false)], [(2, 0), (3, 0), (4, 0), (5, 0), (10, 0), (11, 0), (22, 0), (1023, 0)]⟩ calls_nil ⟨(by assumption), trivial⟩ [0, 1, 2, 3, 4, 5, 6] [dI p.vars, dI p.arrays, dT p.body, dE s.index.kids, dE s.value.kids, dT s.body, dT s.els] [(8, iA 0), (93, bA false)] [] trivial ?_
       clear G; intro ρ a w G
       refine th_n ?_
       refine rF G (false) (by kernel_rfl) ?_
       refine wp_skip ?_
       refine th_n ?_
       refine wp_seq ?_
       refine rs0s G [(8, iA 0)] ?_
       clear G; intro ρ a w G
       refine th_n ?_
       refine wp_ret ?_
       exact rx_ret (v := iA 0) G [0, 1, 2, 3, 4, 5, 6] (by kernel_rfl) (by kernel_rfl) (by kernel_rfl) (by have e1 : (ownR p s pc false : Int) = (0) := (by exact ownR_lax (by exact fl0 (by omega))); first | (rw [e1]; done) | (rw [e1]; rfl) | (simp only [e1]; done) | (simp only [e1]; rfl))
      ·
       cases h5 : (s.kind != (4 : Int))
       ·
        have q5 : s.kind = 4 := (by simpa using h5)
        refine rs1 (dk := dkP) G ⟨[], [(strict, true), (s.kind != (4 : Int), false), (false, false), (s.kind == (2 : Int), false)], [(2, 0), (3, 0), (4, 0), (5, 0), (6, 1), (7, 1), (8, 1), (9, 1), (10, 0), (1010, 1), (11, 0), (12, 2), (13, 2), (14, 2), (15, 2), (16, 3), (17, 3), (18, 3), (19, 3), (20, 3), (21, 2), (1021, 3), (22, 0), (1022, 2), (1023, 0)]⟩ calls_nil ⟨(by assumption), (by assumption), (by kernel_rfl), (by assumption), trivial⟩ [0, 1, 2, 3, 4, 5, 6] [dI p.vars, dI p.arrays, dT p.body, dE s.index.kids, dE s.value.kids, dT s.body, dT s.els] [(8, iA 0), (93, bA false)] [] trivial ?_
        clear G; intro ρ a w G
        refine th_n ?_
        refine rF G (false) (by kernel_rfl) ?_
        refine wp_skip ?_
        refine th_n ?_
        refine wp_seq ?_
        refine rs0s G [(8, iA 0)] ?_
        clear G; intro ρ a w G
        refine th_n ?_
        refine wp_ret ?_
        exact rx_ret (v := iA 0) G [0, 1, 2, 3, 4, 5, 6] (by kernel_rfl) (by kernel_rfl) (by kernel_rfl) (by have e1 : (ownR p s pc true : Int) = (0) := (by exact ownR_strict (by exact fl0 (by omega)) (by exact lk0 (by exact .inl (by omega)) (by exact .inl (by omega)) (by exact .inl (by omega)))); first | (rw [e1]; done) | (rw [e1]; rfl) | (simp only [e1]; done) | (simp only [e1]; rfl))
       ·
        have q5 : ¬ (s.kind = 4) := bne_iff_ne.1 h5
        cases h6 : (secE p.vars p.arrays (5 : Nat) s.value)
        ·
         refine rs1 (dk := dkP) G ⟨[(9, _, [0, 1, 2, 4])], [(strict, true), (s.kind != (4 : Int), true), (secE p.vars p.arrays (5 : Nat) s.value, false), (s.kind == (2 : Int), false)], [(2, 0), (3, 0), (4, 0), (5, 0), (6, 1), (7, 1), (8, 1), (9, 1), (10, 0), (1010, 1), (11, 0), (12, 2), (13, 2), (14, 2), (15, 2), (16, 3), (17, 3), (18, 3), (19, 3), (20, 3), (21, 2), (1021, 3), (22, 0), (1022, 2), (1023, 0)]⟩ (calls_cons (c_l4Secret (p) (s.value) (by exact hd_value h (by omega))) calls_nil) ⟨(by assumption), (by assumption), (by assumption), (by assumption), trivial⟩ [0, 1, 2, 3, 4, 5, 6] [dI p.vars, dI p.arrays, dT p.body, dE s.index.kids, dE s.value.kids, dT s.body, dT s.els] [(8, iA 0), (93, bA false)] [] trivial ?_
         clear G; intro ρ a w G
         refine th_n ?_
         refine rF G (false) (by kernel_rfl) ?_
         refine wp_skip ?_
         refine th_n ?_
         refine wp_seq ?_
         refine rs0s G [(8, iA 0)] ?_
         clear G; intro ρ a w G
         refine th_n ?_
         refine wp_ret ?_
         exact rx_ret (v := iA 0) G [0, 1, 2, 3, 4, 5, 6] (by kernel_rfl) (by kernel_rfl) (by kernel_rfl) (by have e1 : (ownR p s pc true : Int) = (0) := (by exact ownR_strict (by exact fl0 (by omega)) (by exact lk0 (by exact .inl (by omega)) (by exact .inr (by with_reducible assumption)) (by exact .inl (by omega)))); first | (rw [e1]; done) | (rw [e1]; rfl) | (simp only [e1]; done) | (simp only [e1]; rfl))
        ·
         refine rs1 (dk := dkP) G ⟨[(9, _, [0, 1, 2, 4])], [(strict, true), (s.kind != (4 : Int), true), (secE p.vars p.arrays (5 : Nat) s.value, true)], [(2, 0), (3, 0), (4, 0), (5, 0), (6, 1), (7, 1), (8, 1), (9, 1), (10, 0), (1010, 1), (11, 0), (12, 2), (13, 2), (14, 2), (15, 2), (21, 2), (22, 0), (1022, 2), (1023, 0)]⟩ (calls_cons (c_l4Secret (p) (s.value) (by exact hd_value h (by omega))) calls_nil) ⟨(by assumption), (by assumption), (by assumption), trivial⟩ [0, 1, 2, 3, 4, 5, 6] [dI p.vars, dI p.arrays, dT p.body, dE s.index.kids, dE s.value.kids, dT s.body, dT s.els] [(8, iA 0), (93, bA true)] [] trivial ?_
         clear G; intro ρ a w G
         refine th_n ?_
         refine rT G (true) (by kernel_rfl) ?_
         refine wp_seq ?_
         refine rs0s G [(8, iA 4)] ?_
         clear G; intro ρ a w G
         refine th_n ?_
         refine wp_ret ?_
         refine th_r ?_
         exact rx_ret (v := iA 4) G [0, 1, 2, 3, 4, 5, 6] (by kernel_rfl) (by kernel_rfl) (by kernel_rfl) (by have e1 : (ownR p s pc true : Int) = (4) := (by exact ownR_strict (by exact fl0 (by omega)) (by exact lkv (by exact .inl (by omega)) (by omega) (by with_reducible assumption))); first | (rw [e1]; done) | (rw [e1]; rfl) | (simp only [e1]; done) | (simp only [e1]; rfl))
     ·
      have q3 : s.kind = 3 := eq_of_beq h3
      refine rT G (s.kind == (3 : Int)) (by assumption) ?_
      refine wp_seq ?_
      cases h7 : (strict)
      ·
       refine rs1s G ⟨[], [(strict, false)], [(2, 0), (3, 0), (4, 0), (5, 0), (6, 0), (1007, 0)]⟩ calls_nil ⟨(by assumption), trivial⟩ [(3, bA strict), (4, .ptr 7 0), (5, .ptr 8 0), (8, iA 0), (69, bA false)] [] trivial ?_
       clear G; intro ρ a w G
       refine th_n ?_
       refine rF G (false) (by kernel_rfl) ?_
       refine wp_skip ?_
       refine bl_n ?_
       refine th_n ?_
       refine wp_seq ?_
       refine wp_seq ?_
       refine rs1 (dk := dkP) G ⟨[], [(strict, false)], [(2, 0), (3, 0), (4, 0), (5, 0), (10, 0), (11, 0), (22, 0), (1023, 0)]⟩ calls_nil ⟨(by assumption), trivial⟩ [0, 1, 2, 3, 4, 5, 6] [dI p.vars, dI p.arrays, dT p.body, dE s.index.kids, dE s.value.kids, dT s.body, dT s.els] [(8, iA 0), (93, bA false)] [] trivial ?_
       clear G; intro ρ a w G
       refine th_n ?_
       refine rF G (false) (by kernel_rfl) ?_
       refine wp_skip ?_
       refine th_n ?_
       refine wp_seq ?_
       refine rs0s G [(8, iA 0)] ?_
       clear G; intro ρ a w G
       refine th_n ?_
       refine wp_ret ?_
       exact rx_ret (v := iA 0) G [0, 1, 2, 3, 4, 5, 6] (by kernel_rfl) (by kernel_rfl) (by kernel_rfl) (by have e1 : (ownR p s pc false : Int) = (0) := (by exact ownR_lax (by exact fl0 (by omega))); first | (rw [e1]; done) | (rw [e1]; rfl) | (simp only [e1]; done) | (simp only [e1]; rfl))
      ·
       refine rs1s G ⟨[(5, _, [0, 1, 2, 4]), (6, _, [])], [(strict, true)], [(2, 0), (3, 0), (4, 0), (5, 0), (6, 0), (1007, 0)]⟩ (calls_cons (c_l4Label (p) (s.value) (by exact hd_value h (by omega))) (calls_cons (c_LabelSecret (labV p s.value)) calls_nil)) ⟨(by assumption), trivial⟩ [(3, bA strict), (4, .ptr 7 0), (5, .ptr 8 0), (8, iA 0), (69, bA (labOk (labV p s.value) && decide (labV p s.value % 2 = 1)))] [] trivial ?_
       clear G; intro ρ a w G
       refine th_n ?_
       cases h8 : (labOk (labV p s.value) && decide (labV p s.value % (2 : Int) = (1 : Int)))
       ·
        have q8 : ((labOk (labV p s.value)) = false) ∨ (¬ (labV p s.value % 2 = 1)) := Or.imp (fun hq => (hq)) (fun hq => of_decide_eq_false (hq)) (Bool.and_eq_false_iff.1 h8)
        refine rF G (labOk (labV p s.value) && decide (labV p s.value % (2 : Int) = (1 : Int))) (by assumption) ?_
        refine wp_skip ?_
        refine bl_n ?_
        refine th_n ?_
        refine wp_seq ?_
        refine wp_seq ?_
        cases h9 : (s.kind != (4 : Int))
        ·
         have q9 : s.kind = 4 := (by simpa using h9)
         refine rs1 (dk := dkP) G ⟨[], [(strict, true), (s.kind != (4 : Int), false), (false, false), (s.kind == (2 : Int), false)], [(2, 0), (3, 0), (4, 0), (5, 0), (6, 1), (7, 1), (8, 1), (9, 1), (10, 0), (1010, 1), (11, 0), (12, 2), (13, 2), (14, 2), (15, 2), (16, 3), (17, 3), (18, 3), (19, 3), (20, 3), (21, 2), (1021, 3), (22, 0), (1022, 2), (1023, 0)]⟩ calls_nil ⟨(by assumption), (by assumption), (by kernel_rfl), (by assumption), trivial⟩ [0, 1, 2, 3, 4, 5, 6] [dI p.vars, dI p.arrays, dT p.body, dE s.index.kids, dE s.value.kids, dT s.body, dT s.els] [(8, iA 0), (93, bA false)] [] trivial ?_
         clear G; intro ρ a w G
         refine th_n ?_
         refine rF G (false) (by kernel_rfl) ?_
         refine wp_skip ?_
         refine th_n ?_
         refine wp_seq ?_
         refine rs0s G [(8, iA 0)] ?_
         clear G; intro ρ a w G
         refine th_n ?_
         refine wp_ret ?_
         exact rx_ret (v := iA 0) G [0, 1, 2, 3, 4, 5, 6] (by kernel_rfl) (by kernel_rfl) (by kernel_rfl) (by have e1 : (ownR p s pc true : Int) = (0) := (by exact ownR_strict (by exact fl0 (by omega)) (by exact lk0 (by exact .inl (by omega)) (by exact .inl (by omega)) (by exact .inl (by omega)))); first | (rw [e1]; done) | (rw [e1]; rfl) | (simp only [e1]; done) | (simp only [e1]; rfl))
        ·
         have q9 : ¬ (s.kind = 4) := bne_iff_ne.1 h9
         cases h10 : (secE p.vars p.arrays (5 : Nat) s.value)
         ·
          refine rs1 (dk := dkP) G ⟨[(9, _, [0, 1, 2, 4])], [(strict, true), (s.kind != (4 : Int), true), (secE p.vars p.arrays (5 : Nat) s.value, false), (s.kind == (2 : Int), false)], [(2, 0), (3, 0), (4, 0), (5, 0), (6, 1), (7, 1), (8, 1), (9, 1), (10, 0), (1010, 1), (11, 0), (12, 2), (13, 2), (14, 2), (15, 2), (16, 3), (17, 3), (18, 3), (19, 3), (20, 3), (21, 2), (1021, 3), (22, 0), (1022, 2), (1023, 0)]⟩ (calls_cons (c_l4Secret (p) (s.value) (by exact hd_value h (by omega))) calls_nil) ⟨(by assumption), (by assumption), (by assumption), (by assumption), trivial⟩ [0, 1, 2, 3, 4, 5, 6] [dI p.vars, dI p.arrays, dT p.body, dE s.index.kids, dE s.value.kids, dT s.body, dT s.els] [(8, iA 0), (93, bA false)] [] trivial ?_
          clear G; intro ρ a w G
          refine th_n ?_
          refine rF G (false) (by kernel_rfl) ?_
          refine wp_skip ?_
          refine th_n ?_
          refine wp_seq ?_
          refine rs0s G [(8, iA 0)] ?_
          clear G; intro ρ a w G
          refine th_n ?_
          refine wp_ret ?_
          exact rx_ret (v := iA 0) G [0, 1, 2, 3, 4, 5, 6] (by kernel_rfl) (by kernel_rfl) (by kernel_rfl) (by have e1 : (ownR p s pc true : Int) = (0) := (by exact ownR_strict (by exact fl0 (by omega)) (by exact lk0 (by exact .inr (by with_reducible assumption)) (by exact .inr (by with_reducible assumption)) (by exact .inl (by omega)))); first | (rw [e1]; done) | (rw [e1]; rfl) | (simp only [e1]; done) | (simp only [e1]; rfl))
         ·
          refine rs1 (dk := dkP) G ⟨[(9, _, [0, 1, 2, 4])], [(strict, true), (s.kind != (4 : Int), true), (secE p.vars p.arrays (5 : Nat) s.value, true)], [(2, 0), (3, 0), (4, 0), (5, 0), (6, 1), (7, 1), (8, 1), (9, 1), (10, 0), (1010, 1), (11, 0), (12, 2), (13, 2), (14, 2), (15, 2), (21, 2), (22, 0), (1022, 2), (1023, 0)]⟩ (calls_cons (c_l4Secret (p) (s.value) (by exact hd_value h (by omega))) calls_nil) ⟨(by assumption), (by assumption), (by assumption), trivial⟩ [0, 1, 2, 3, 4, 5, 6] [dI p.vars, dI p.arrays, dT p.body, dE s.index.kids, dE s.value.kids, dT s.body, dT s.els] [(8, iA 0), (93, bA true)] [] trivial ?_
          clear G; intro ρ a w G
          refine th_n ?_
          refine rT G (true) (by kernel_rfl) ?_
          refine wp_seq ?_
          refine rs0s G [(8, iA 4)] ?_
          clear G; intro ρ a w G
          refine th_n ?_
          refine wp_ret ?_
          refine th_r ?_
          exact rx_ret (v := iA 4) G [0, 1, 2, 3, 4, 5, 6] (by kernel_rfl) (by kernel_rfl) (by kernel_rfl) (by have e1 : (ownR p s pc true : Int) = (4) := (by exact ownR_strict (by exact fl0 (by omega)) (by exact lkv (by exact .inr (by with_reducible assumption)) (by omega) (by with_reducible assumption))); first | (rw [e1]; done) | (rw [e1]; rfl) | (simp only [e1]; done) | (simp only [e1]; rfl))
       ·
        have q8 : ((labOk (labV p s.value)) = true) ∧ (labV p s.value % 2 = 1) := And.imp (fun hq => (hq)) (fun hq => of_decide_eq_true (hq)) (Bool.and_eq_true_iff.1 h8)
        refine rT G (labOk (labV p s.value) && decide (labV p s.value % (2 : Int) = (1 : Int))) (by assumption) ?_
        refine wp_seq ?_
        refine rs0s G [(3, bA strict), (4, .ptr 7 0), (5, .ptr 8 0), (8, iA 3)] ?_
        clear G; intro ρ a w G
        refine th_n ?_
        refine wp_ret ?_
        refine bl_r ?_
        refine th_r ?_
        exact rx_ret (v := iA 3) G [0, 1, 2, 3, 4, 5, 6] (by kernel_rfl) (by kernel_rfl) (by kernel_rfl) (by have e1 : (ownR p s pc true : Int) = (3) := (by exact ownR_strict (by exact fl0 (by omega)) (by exact lk3 (by with_reducible assumption) (by with_reducible assumption))); first | (rw [e1]; done) | (rw [e1]; rfl) | (simp only [e1]; done) | (simp only [e1]; rfl))
    ·
     have q2 : s.kind = 5 := eq_of_beq h2
     refine rT G (s.kind == (5 : Int)) (by assumption) ?_
     refine wp_seq ?_
     cases h11 : (!(labOk (labV p s.value) && decide (labV p s.value ≤ (1 : Int))))
     ·
      have q11 : ((labOk (labV p s.value)) = true) ∧ (labV p s.value ≤ 1) := (fun hq => And.imp (fun hq => (hq)) (fun hq => of_decide_eq_true (hq)) (Bool.and_eq_true_iff.1 (hq))) (Eq.mp (Bool.not_eq_false' _) h11)
      refine rs1s G ⟨[(3, _, [0, 1, 2, 4]), (4, _, [])], [(!(labOk (labV p s.value) && decide (labV p s.value ≤ (1 : Int))), false)], [(7, 0), (8, 0), (1009, 0)]⟩ (calls_cons (c_l4Label (p) (s.value) (by exact hd_value h (by omega))) (calls_cons (c_LabelTrusted (labV p s.value)) calls_nil)) ⟨(by assumption), trivial⟩ [(3, bA strict), (4, .ptr 7 0), (5, .ptr 8 0), (8, iA 0), (59, bA (pc != 0))] [] trivial ?_
      clear G; intro ρ a w G
      refine th_n ?_
      cases h12 : (pc != (0 : Int))
      ·
       have q12 : pc = 0 := (by simpa using h12)
       refine rF G (pc != (0 : Int)) (by assumption) ?_
       refine wp_skip ?_
       refine bl_n ?_
       refine th_n ?_
       refine wp_seq ?_
       refine wp_seq ?_
       cases h13 : (strict)
       ·
        refine rs1 (dk := dkP) G ⟨[], [(strict, false)], [(2, 0), (3, 0), (4, 0), (5, 0), (10, 0), (11, 0), (22, 0), (1023, 0)]⟩ calls_nil ⟨(by assumption), trivial⟩ [0, 1, 2, 3, 4, 5, 6] [dI p.vars, dI p.arrays, dT p.body, dE s.index.kids, dE s.value.kids, dT s.body, dT s.els] [(8, iA 0), (93, bA false)] [] trivial ?_
        clear G; intro ρ a w G
        refine th_n ?_
        refine rF G (false) (by kernel_rfl) ?_
        refine wp_skip ?_
        refine th_n ?_
        refine wp_seq ?_
        refine rs0s G [(8, iA 0)] ?_
        clear G; intro ρ a w G
        refine th_n ?_
        refine wp_ret ?_
        exact rx_ret (v := iA 0) G [0, 1, 2, 3, 4, 5, 6] (by kernel_rfl) (by kernel_rfl) (by kernel_rfl) (by have e1 : (ownR p s pc false : Int) = (0) := (by exact ownR_lax (by exact fl5t (by with_reducible assumption) (by with_reducible assumption) (by with_reducible assumption))); first | (rw [e1]; done) | (rw [e1]; rfl) | (simp only [e1]; done) | (simp only [e1]; rfl))
       ·
        cases h14 : (s.kind != (4 : Int))
        ·
         have q14 : s.kind = 4 := (by simpa using h14)
         refine rs1 (dk := dkP) G ⟨[], [(strict, true), (s.kind != (4 : Int), false), (false, false), (s.kind == (2 : Int), false)], [(2, 0), (3, 0), (4, 0), (5, 0), (6, 1), (7, 1), (8, 1), (9, 1), (10, 0), (1010, 1), (11, 0), (12, 2), (13, 2), (14, 2), (15, 2), (16, 3), (17, 3), (18, 3), (19, 3), (20, 3), (21, 2), (1021, 3), (22, 0), (1022, 2), (1023, 0)]⟩ calls_nil ⟨(by assumption), (by assumption), (by kernel_rfl), (by assumption), trivial⟩ [0, 1, 2, 3, 4, 5, 6] [dI p.vars, dI p.arrays, dT p.body, dE s.index.kids, dE s.value.kids, dT s.body, dT s.els] [(8, iA 0), (93, bA false)] [] trivial ?_
         clear G; intro ρ a w G
         refine th_n ?_
         refine rF G (false) (by kernel_rfl) ?_
         refine wp_skip ?_
         refine th_n ?_
         refine wp_seq ?_
         refine rs0s G [(8, iA 0)] ?_
         clear G; intro ρ a w G
         refine th_n ?_
         refine wp_ret ?_
         exact rx_ret (v := iA 0) G [0, 1, 2, 3, 4, 5, 6] (by kernel_rfl) (by kernel_rfl) (by kernel_rfl) (by have e1 : (ownR p s pc true : Int) = (0) := (by exact ownR_strict (by exact fl5t (by with_reducible assumption) (by with_reducible assumption) (by with_reducible assumption)) (by exact lk0 (by exact .inl (by omega)) (by exact .inl (by omega)) (by exact .inl (by omega)))); first | (rw [e1]; done) | (rw [e1]; rfl) | (simp only [e1]; done) | (simp only [e1]; rfl))
        ·
         have q14 : ¬ (s.kind = 4) := bne_iff_ne.1 h14
         cases h15 : (secE p.vars p.arrays (5 : Nat) s.value)
         ·
          refine rs1 (dk := dkP) G ⟨[(9, _, [0, 1, 2, 4])], [(strict, true), (s.kind != (4 : Int), true), (secE p.vars p.arrays (5 : Nat) s.value, false), (s.kind == (2 : Int), false)], [(2, 0), (3, 0), (4, 0), (5, 0), (6, 1), (7, 1), (8, 1), (9, 1), (10, 0), (1010, 1), (11, 0), (12, 2), (13, 2), (14, 2), (15, 2), (16, 3), (17, 3), (18, 3), (19, 3), (20, 3), (21, 2), (1021, 3), (22, 0), (1022, 2), (1023, 0)]⟩ (calls_cons (c_l4Secret (p) (s.value) (by exact hd_value h (by omega))) calls_nil) ⟨(by assumption), (by assumption), (by assumption), (by assumption), trivial⟩ [0, 1, 2, 3, 4, 5, 6] [dI p.vars, dI p.arrays, dT p.body, dE s.index.kids, dE s.value.kids, dT s.body, dT s.els] [(8, iA 0), (93, bA false)] [] trivial ?_
          clear G; intro ρ a w G
          refine th_n ?_
          refine rF G (false) (by kernel_rfl) ?_
          refine wp_skip ?_
          refine th_n ?_
          refine wp_seq ?_
          refine rs0s G [(8, iA 0)] ?_
          clear G; intro ρ a w G
          refine th_n ?_
          refine wp_ret ?_
          exact rx_ret (v := iA 0) G [0, 1, 2, 3, 4, 5, 6] (by kernel_rfl) (by kernel_rfl) (by kernel_rfl) (by have e1 : (ownR p s pc true : Int) = (0) := (by exact ownR_strict (by exact fl5t (by with_reducible assumption) (by with_reducible assumption) (by with_reducible assumption)) (by exact lk0 (by exact .inl (by omega)) (by exact .inr (by with_reducible assumption)) (by exact .inl (by omega)))); first | (rw [e1]; done) | (rw [e1]; rfl) | (simp only [e1]; done) | (simp only [e1]; rfl))
         ·
          refine rs1 (dk := dkP) G ⟨[(9, _, [0, 1, 2, 4])], [(strict, true), (s.kind != (4 : Int), true), (secE p.vars p.arrays (5 : Nat) s.value, true)], [(2, 0), (3, 0), (4, 0), (5, 0), (6, 1), (7, 1), (8, 1), (9, 1), (10, 0), (1010, 1), (11, 0), (12, 2), (13, 2), (14, 2), (15, 2), (21, 2), (22, 0), (1022, 2), (1023, 0)]⟩ (calls_cons (c_l4Secret (p) (s.value) (by exact hd_value h (by omega))) calls_nil) ⟨(by assumption), (by assumption), (by assumption), trivial⟩ [0, 1, 2, 3, 4, 5, 6] [dI p.vars, dI p.arrays, dT p.body, dE s.index.kids, dE s.value.kids, dT s.body, dT s.els] [(8, iA 0), (93, bA true)] [] trivial ?_
          clear G; intro ρ a w G
          refine th_n ?_
          refine rT G (true) (by kernel_rfl) ?_
          refine wp_seq ?_
          refine rs0s G [(8, iA 4)] ?_
          clear G; intro ρ a w G
          refine th_n ?_
          refine wp_ret ?_
          refine th_r ?_
          exact rx_ret (v := iA 4) G [0, 1, 2, 3, 4, 5, 6] (by kernel_rfl) (by kernel_rfl) (by kernel_rfl) (by have e1 : (ownR p s pc true : Int) = (4) := (by exact ownR_strict (by exact fl5t (by with_reducible assumption) (by with_reducible assumption) (by with_reducible assumption)) (by exact lkv (by exact .inl (by omega)) (by omega) (by with_reducible assumption))); first | (rw [e1]; done) | (rw [e1]; rfl) | (simp only [e1]; done) | (simp only [e1]; rfl))
      ·
       have q12 : ¬ (pc = 0) := bne_iff_ne.1 h12
       refine rT G (pc != (0 : Int)) (by assumption) ?_
       refine wp_seq ?_
       refine rs0s G [(3, bA strict), (4, .ptr 7 0), (5, .ptr 8 0), (8, iA 2)] ?_
       clear G; intro ρ a w G
       refine th_n ?_
       refine wp_ret ?_
       refine bl_r ?_
       refine th_r ?_
       exact rx_ret (v := iA 2) G [0, 1, 2, 3, 4, 5, 6] (by kernel_rfl) (by kernel_rfl) (by kernel_rfl) (by have e1 : (ownR p s pc strict : Int) = (2) := (by exact ownR_bad (by exact fl5f (by with_reducible assumption) (.inr (by with_reducible assumption))) (by decide)); first | (rw [e1]; done) | (rw [e1]; rfl) | (simp only [e1]; done) | (simp only [e1]; rfl))
     ·
      have q11 : ((labOk (labV p s.value)) = false) ∨ (¬ (labV p s.value ≤ 1)) := (fun hq => Or.imp (fun hq => (hq)) (fun hq => of_decide_eq_false (hq)) (Bool.and_eq_false_iff.1 (hq))) (Eq.mp (Bool.not_eq_true' _) h11)
      refine rs1s G ⟨[(3, _, [0, 1, 2, 4]), (4, _, [])], [(!(labOk (labV p s.value) && decide (labV p s.value ≤ (1 : Int))), true)], [(7, 0), (8, 0), (1009, 0)]⟩ (calls_cons (c_l4Label (p) (s.value) (by exact hd_value h (by omega))) (calls_cons (c_LabelTrusted (labV p s.value)) calls_nil)) ⟨(by assumption), trivial⟩ [(3, bA strict), (4, .ptr 7 0), (5, .ptr 8 0), (8, iA 0), (59, bA true)] [] trivial ?_
      clear G; intro ρ a w G
      refine th_n ?_
      refine rT G (true) (by kernel_rfl) ?_
      refine wp_seq ?_
      refine rs0s G [(3, bA strict), (4, .ptr 7 0), (5, .ptr 8 0), (8, iA 2)] ?_
      clear G; intro ρ a w G
      refine th_n ?_
      refine wp_ret ?_
      refine bl_r ?_
      refine th_r ?_
      exact rx_ret (v := iA 2) G [0, 1, 2, 3, 4, 5, 6] (by kernel_rfl) (by kernel_rfl) (by kernel_rfl) (by have e1 : (ownR p s pc strict : Int) = (2) := (by exact ownR_bad (by exact fl5f (by with_reducible assumption) (.inl (by with_reducible assumption))) (by decide)); first | (rw [e1]; done) | (rw [e1]; rfl) | (simp only [e1]; done) | (simp only [e1]; rfl))
   ·
    have q1 : s.kind = 2 := eq_of_beq h1
    refine rT G (s.kind == (2 : Int)) (by assumption) ?_
    refine wp_seq ?_
    refine rd1s G ⟨[(3, _, [0, 1, 2, 4]), (7, _, [0, 1, 2, 3]), (17, _, [])], [], []⟩ (calls_cons (c_l4Label (p) (s.value) (by exact hd_value h (by omega))) (calls_cons (c_l4Label (p) (s.index) (by exact hd_index h (by with_reducible assumption))) (calls_cons (c_LabelFlows (orI (orI (labV p s.value) (labV p s.index)) pc) (p.arrays.getD s.target.toNat 0)) calls_nil))) trivial [0, 0, 2, 7, 0, 0, 32, 127, 255, 0, 1023, 0, 2048, 0, 8192, 30720, 63488, 131071, 262143] [(3, bA strict), (4, .ptr 7 0), (5, .ptr 8 0), (8, iA 0), (47, .v (.bool !(labOk (orI (orI (labV p s.value) (labV p s.index)) pc) && labOk (p.arrays.getD s.target.toNat 0) && orI (orI (orI (labV p s.value) (labV p s.index)) pc) (p.arrays.getD s.target.toNat 0) == p.arrays.getD s.target.toNat 0)))] [(0 : Int) ≤ s.target, s.target < (↑p.arrays.length : Int), s.target.toNat < p.arrays.length] ⟨(by exact (hd_arr h (by omega)).1), (by exact (hd_arr h (by omega)).2.1), (by exact (hd_arr h (by omega)).2.2), trivial⟩ ?_
    clear G; intro ρ a w G
    refine th_n ?_
    cases h16 : (!(labOk (orI (orI (labV p s.value) (labV p s.index)) pc) && labOk (p.arrays.getD s.target.toNat (0 : Int)) && orI (orI (orI (labV p s.value) (labV p s.index)) pc) (p.arrays.getD s.target.toNat (0 : Int)) == p.arrays.getD s.target.toNat (0 : Int)))
    ·
     have q16 : (((labOk (orI (orI (labV p s.value) (labV p s.index)) pc)) = true) ∧ ((labOk (p.arrays.getD s.target.toNat 0)) = true)) ∧ (orI (orI (orI (labV p s.value) (labV p s.index)) pc) (p.arrays.getD s.target.toNat 0) = p.arrays.getD s.target.toNat 0) := (fun hq => And.imp (fun hq => And.imp (fun hq => (hq)) (fun hq => (hq)) (Bool.and_eq_true_iff.1 (hq))) (fun hq => eq_of_beq (hq)) (Bool.and_eq_true_iff.1 (hq))) (Eq.mp (Bool.not_eq_false' _) h16)
     refine rF G (!(labOk (orI (orI (labV p s.value) (labV p s.index)) pc) && labOk (p.arrays.getD s.target.toNat (0 : Int)) && orI (orI (orI (labV p s.value) (labV p s.index)) pc) (p.arrays.getD s.target.toNat (0 : Int)) == p.arrays.getD s.target.toNat (0 : Int))) (by assumption) ?_
     refine wp_skip ?_
     refine bl_n ?_
     refine th_n ?_
     refine wp_seq ?_
     refine wp_seq ?_
     cases h17 : (strict)
     ·
      refine rs1 (dk := dkP) G ⟨[], [(strict, false)], [(2, 0), (3, 0), (4, 0), (5, 0), (10, 0), (11, 0), (22, 0), (1023, 0)]⟩ calls_nil ⟨(by assumption), trivial⟩ [0, 1, 2, 3, 4, 5, 6] [dI p.vars, dI p.arrays, dT p.body, dE s.index.kids, dE s.value.kids, dT s.body, dT s.els] [(8, iA 0), (93, bA false)] [] trivial ?_
      clear G; intro ρ a w G
      refine th_n ?_
      refine rF G (false) (by kernel_rfl) ?_
      refine wp_skip ?_
      refine th_n ?_
      refine wp_seq ?_
      refine rs0s G [(8, iA 0)] ?_
      clear G; intro ρ a w G
      refine th_n ?_
      refine wp_ret ?_
      exact rx_ret (v := iA 0) G [0, 1, 2, 3, 4, 5, 6] (by kernel_rfl) (by kernel_rfl) (by kernel_rfl) (by have e1 : (ownR p s pc false : Int) = (0) := (by exact ownR_lax (by exact fl2t (by with_reducible assumption) (by with_reducible assumption))); first | (rw [e1]; done) | (rw [e1]; rfl) | (simp only [e1]; done) | (simp only [e1]; rfl))
     ·
      cases h18 : (s.kind != (4 : Int))
      ·
       have q18 : s.kind = 4 := (by simpa using h18)
       refine rs1 (dk := dkP) G ⟨[(19, _, [0, 1, 2, 3]), (20, _, [])], [(strict, true), (s.kind != (4 : Int), false), (false, false), (s.kind == (2 : Int), true)], [(2, 0), (3, 0), (4, 0), (5, 0), (6, 1), (7, 1), (8, 1), (9, 1), (10, 0), (1010, 1), (11, 0), (12, 2), (13, 2), (14, 2), (15, 2), (16, 3), (17, 3), (18, 3), (19, 3), (20, 3), (21, 2), (1021, 3), (22, 0), (1022, 2), (1023, 0)]⟩ (calls_cons (c_l4Label (p) (s.index) (by exact hd_index h (by with_reducible assumption))) (calls_cons (c_LabelSecret (labV p s.index)) calls_nil)) ⟨(by assumption), (by assumption), (by kernel_rfl), (by assumption), trivial⟩ [0, 1, 2, 3, 4, 5, 6] [dI p.vars, dI p.arrays, dT p.body, dE s.index.kids, dE s.value.kids, dT s.body, dT s.els] [(8, iA 0), (93, bA (labOk (labV p s.index) && decide (labV p s.index % 2 = 1)))] [] trivial ?_
       clear G; intro ρ a w G
       refine th_n ?_
       cases h19 : (labOk (labV p s.index) && decide (labV p s.index % (2 : Int) = (1 : Int)))
       ·
        have q19 : ((labOk (labV p s.index)) = false) ∨ (¬ (labV p s.index % 2 = 1)) := Or.imp (fun hq => (hq)) (fun hq => of_decide_eq_false (hq)) (Bool.and_eq_false_iff.1 h19)
        refine rF G (labOk (labV p s.index) && decide (labV p s.index % (2 : Int) = (1 : Int))) (by assumption) ?_
        refine wp_skip ?_
        refine th_n ?_
        refine wp_seq ?_
        refine rs0s G [(8, iA 0)] ?_
        clear G; intro ρ a w G
        refine th_n ?_
        refine wp_ret ?_
        exact rx_ret (v := iA 0) G [0, 1, 2, 3, 4, 5, 6] (by kernel_rfl) (by kernel_rfl) (by kernel_rfl) (by have e1 : (ownR p s pc true : Int) = (0) := (by exact ownR_strict (by exact fl2t (by with_reducible assumption) (by with_reducible assumption)) (by exact lk0 (by exact .inl (by omega)) (by exact .inl (by omega)) (by exact .inl (by omega)))); first | (rw [e1]; done) | (rw [e1]; rfl) | (simp only [e1]; done) | (simp only [e1]; rfl))
       ·
        have q19 : ((labOk (labV p s.index)) = true) ∧ (labV p s.index % 2 = 1) := And.imp (fun hq => (hq)) (fun hq => of_decide_eq_true (hq)) (Bool.and_eq_true_iff.1 h19)
        refine rT G (labOk (labV p s.index) && decide (labV p s.index % (2 : Int) = (1 : Int))) (by assumption) ?_
        refine wp_seq ?_
        refine rs0s G [(8, iA 4)] ?_
        clear G; intro ρ a w G
        refine th_n ?_
        refine wp_ret ?_
        refine th_r ?_
        exact rx_ret (v := iA 4) G [0, 1, 2, 3, 4, 5, 6] (by kernel_rfl) (by kernel_rfl) (by kernel_rfl) (by have e1 : (ownR p s pc true : Int) = (4) := (by exact ownR_strict (by exact fl2t (by with_reducible assumption) (by with_reducible assumption)) (by exact lki (by with_reducible assumption) (by with_reducible assumption))); first | (rw [e1]; done) | (rw [e1]; rfl) | (simp only [e1]; done) | (simp only [e1]; rfl))
      ·
       have q18 : ¬ (s.kind = 4) := bne_iff_ne.1 h18
       cases h20 : (secE p.vars p.arrays (5 : Nat) s.value)
       ·
        refine rs1 (dk := dkP) G ⟨[(9, _, [0, 1, 2, 4]), (19, _, [0, 1, 2, 3]), (20, _, [])], [(strict, true), (s.kind != (4 : Int), true), (secE p.vars p.arrays (5 : Nat) s.value, false), (s.kind == (2 : Int), true)], [(2, 0), (3, 0), (4, 0), (5, 0), (6, 1), (7, 1), (8, 1), (9, 1), (10, 0), (1010, 1), (11, 0), (12, 2), (13, 2), (14, 2), (15, 2), (16, 3), (17, 3), (18, 3), (19, 3), (20, 3), (21, 2), (1021, 3), (22, 0), (1022, 2), (1023, 0)]⟩ (calls_cons (c_l4Secret (p) (s.value) (by exact hd_value h (by omega))) (calls_cons (c_l4Label (p) (s.index) (by exact hd_index h (by with_reducible assumption))) (calls_cons (c_LabelSecret (labV p s.index)) calls_nil))) ⟨(by assumption), (by assumption), (by assumption), (by assumption), trivial⟩ [0, 1, 2, 3, 4, 5, 6] [dI p.vars, dI p.arrays, dT p.body, dE s.index.kids, dE s.value.kids, dT s.body, dT s.els] [(8, iA 0), (93, bA (labOk (labV p s.index) && decide (labV p s.index % 2 = 1)))] [] trivial ?_
        clear G; intro ρ a w G
        refine th_n ?_
        cases h21 : (labOk (labV p s.index) && decide (labV p s.index % (2 : Int) = (1 : Int)))
        ·
         have q21 : ((labOk (labV p s.index)) = false) ∨ (¬ (labV p s.index % 2 = 1)) := Or.imp (fun hq => (hq)) (fun hq => of_decide_eq_false (hq)) (Bool.and_eq_false_iff.1 h21)
         refine rF G (labOk (labV p s.index) && decide (labV p s.index % (2 : Int) = (1 : Int))) (by assumption) ?_
         refine wp_skip ?_
         refine th_n ?_
         refine wp_seq ?_
         refine rs0s G [(8, iA 0)] ?_
         clear G; intro ρ a w G
         refine th_n ?_
         refine wp_ret ?_
         exact rx_ret (v := iA 0) G [0, 1, 2, 3, 4, 5, 6] (by kernel_rfl) (by kernel_rfl) (by kernel_rfl) (by have e1 : (ownR p s pc true : Int) = (0) := (by exact ownR_strict (by exact fl2t (by with_reducible assumption) (by with_reducible assumption)) (by exact lk0 (by exact .inl (by omega)) (by exact .inr (by with_reducible assumption)) (by exact .inr (by with_reducible assumption)))); first | (rw [e1]; done) | (rw [e1]; rfl) | (simp only [e1]; done) | (simp only [e1]; rfl))
        ·
         have q21 : ((labOk (labV p s.index)) = true) ∧ (labV p s.index % 2 = 1) := And.imp (fun hq => (hq)) (fun hq => of_decide_eq_true (hq)) (Bool.and_eq_true_iff.1 h21)
         refine rT G (labOk (labV p s.index) && decide (labV p s.index % (2 : Int) = (1 : Int))) (by assumption) ?_
         refine wp_seq ?_
         refine rs0s G [(8, iA 4)] ?_
         clear G; intro ρ a w G
         refine th_n ?_
         refine wp_ret ?_
         refine th_r ?_
         exact rx_ret (v := iA 4) G [0, 1, 2, 3, 4, 5, 6] (by kernel_rfl) (by kernel_rfl) (by kernel_rfl) (by have e1 : (ownR p s pc true : Int) = (4) := (by exact ownR_strict (by exact fl2t (by with_reducible assumption) (by with_reducible assumption)) (by exact lki (by with_reducible assumption) (by with_reducible assumption))); first | (rw [e1]; done) | (rw [e1]; rfl) | (simp only [e1]; done) | (simp only [e1]; rfl))
       ·
        refine rs1 (dk := dkP) G ⟨[(9, _, [0, 1, 2, 4])], [(strict, true), (s.kind != (4 : Int), true), (secE p.vars p.arrays (5 : Nat) s.value, true)], [(2, 0), (3, 0), (4, 0), (5, 0), (6, 1), (7, 1), (8, 1), (9, 1), (10, 0), (1010, 1), (11, 0), (12, 2), (13, 2), (14, 2), (15, 2), (21, 2), (22, 0), (1022, 2), (1023, 0)]⟩ (calls_cons (c_l4Secret (p) (s.value) (by exact hd_value h (by omega))) calls_nil) ⟨(by assumption), (by assumption), (by assumption), trivial⟩ [0, 1, 2, 3, 4, 5, 6] [dI p.vars, dI p.arrays, dT p.body, dE s.index.kids, dE s.value.kids, dT s.body, dT s.els] [(8, iA 0), (93, bA true)] [] trivial ?_
        clear G; intro ρ a w G
        refine th_n ?_
        refine rT G (true) (by kernel_rfl) ?_
        refine wp_seq ?_
        refine rs0s G [(8, iA 4)] ?_
        clear G; intro ρ a w G
        refine th_n ?_
        refine wp_ret ?_
        refine th_r ?_
        exact rx_ret (v := iA 4) G [0, 1, 2, 3, 4, 5, 6] (by kernel_rfl) (by kernel_rfl) (by kernel_rfl) (by have e1 : (ownR p s pc true : Int) = (4) := (by exact ownR_strict (by exact fl2t (by with_reducible assumption) (by with_reducible assumption)) (by exact lkv (by exact .inl (by omega)) (by omega) (by with_reducible assumption))); first | (rw [e1]; done) | (rw [e1]; rfl) | (simp only [e1]; done) | (simp only [e1]; rfl))
    ·
     have q16 : (((labOk (orI (orI (labV p s.value) (labV p s.index)) pc)) = false) ∨ ((labOk (p.arrays.getD s.target.toNat 0)) = false)) ∨ (¬ (orI (orI (orI (labV p s.value) (labV p s.index)) pc) (p.arrays.getD s.target.toNat 0) = p.arrays.getD s.target.toNat 0)) := (fun hq => Or.imp (fun hq => Or.imp (fun hq => (hq)) (fun hq => (hq)) (Bool.and_eq_false_iff.1 (hq))) (fun hq => ne_of_beq_false (hq)) (Bool.and_eq_false_iff.1 (hq))) (Eq.mp (Bool.not_eq_true' _) h16)
     refine rT G (!(labOk (orI (orI (labV p s.value) (labV p s.index)) pc) && labOk (p.arrays.getD s.target.toNat (0 : Int)) && orI (orI (orI (labV p s.value) (labV p s.index)) pc) (p.arrays.getD s.target.toNat (0 : Int)) == p.arrays.getD s.target.toNat (0 : Int))) (by assumption) ?_
     refine wp_seq ?_
     refine rs0s G [(3, bA strict), (4, .ptr 7 0), (5, .ptr 8 0), (8, iA 1)] ?_
     clear G; intro ρ a w G
     refine th_n ?_
     refine wp_ret ?_
     refine bl_r ?_
     refine th_r ?_
     exact rx_ret (v := iA 1) G [0, 1, 2, 3, 4, 5, 6] (by kernel_rfl) (by kernel_rfl) (by kernel_rfl) (by have e1 : (ownR p s pc strict : Int) = (1) := (by exact ownR_bad (by exact fl2f (by with_reducible assumption) (by with_reducible assumption)) (by decide)); first | (rw [e1]; done) | (rw [e1]; rfl) | (simp only [e1]; done) | (simp only [e1]; rfl))
  ·
   have q0 : s.kind = 1 := eq_of_beq h0
   refine rT G (s.kind == (1 : Int)) (by assumption) ?_
   refine wp_seq ?_
   refine rd1s G ⟨[(3, _, [0, 1, 2, 4]), (12, _, [])], [], []⟩ (calls_cons (c_l4Label (p) (s.value) (by exact hd_value h (by omega))) (calls_cons (c_LabelFlows (orI (labV p s.value) pc) (p.vars.getD s.target.toNat 0)) calls_nil)) trivial [0, 0, 2, 7, 0, 31, 0, 64, 0, 256, 960, 1984, 4095, 8191] [(3, bA strict), (4, .ptr 7 0), (5, .ptr 8 0), (8, iA 0), (26, .v (.bool !(labOk (orI (labV p s.value) pc) && labOk (p.vars.getD s.target.toNat 0) && orI (orI (labV p s.value) pc) (p.vars.getD s.target.toNat 0) == p.vars.getD s.target.toNat 0)))] [(0 : Int) ≤ s.target, s.target < (↑p.vars.length : Int), s.target.toNat < p.vars.length] ⟨(by exact (hd_var h (by omega)).1), (by exact (hd_var h (by omega)).2.1), (by exact (hd_var h (by omega)).2.2), trivial⟩ ?_
   clear G; intro ρ a w G
   refine th_n ?_
   cases h22 : (!(labOk (orI (labV p s.value) pc) && labOk (p.vars.getD s.target.toNat (0 : Int)) && orI (orI (labV p s.value) pc) (p.vars.getD s.target.toNat (0 : Int)) == p.vars.getD s.target.toNat (0 : Int)))
   ·
    have q22 : (((labOk (orI (labV p s.value) pc)) = true) ∧ ((labOk (p.vars.getD s.target.toNat 0)) = true)) ∧ (orI (orI (labV p s.value) pc) (p.vars.getD s.target.toNat 0) = p.vars.getD s.target.toNat 0) := (fun hq => And.imp (fun hq => And.imp (fun hq => (hq)) (fun hq => (hq)) (Bool.and_eq_true_iff.1 (hq))) (fun hq => eq_of_beq (hq)) (Bool.and_eq_true_iff.1 (hq))) (Eq.mp (Bool.not_eq_false' _) h22)
    refine rF G (!(labOk (orI (labV p s.value) pc) && labOk (p.vars.getD s.target.toNat (0 : Int)) && orI (orI (labV p s.value) pc) (p.vars.getD s.target.toNat (0 : Int)) == p.vars.getD s.target.toNat (0 : Int))) (by assumption) ?_
    refine wp_skip ?_
    refine bl_n ?_
    refine th_n ?_
    refine wp_seq ?_
    refine wp_seq ?_
    cases h23 : (strict)
    ·
     refine rs1 (dk := dkP) G ⟨[], [(strict, false)], [(2, 0), (3, 0), (4, 0), (5, 0), (10, 0), (11, 0), (22, 0), (1023, 0)]⟩ calls_nil ⟨(by assumption), trivial⟩ [0, 1, 2, 3, 4, 5, 6] [dI p.vars, dI p.arrays, dT p.body, dE s.index.kids, dE s.value.kids, dT s.body, dT s.els] [(8, iA 0), (93, bA false)] [] trivial ?_
     clear G; intro ρ a w G
     refine th_n ?_
     refine rF G (false) (by kernel_rfl) ?_
     refine wp_skip ?_
     refine th_n ?_
     refine wp_seq ?_
     refine rs0s G [(8, iA 0)] ?_
     clear G; intro ρ a w G
     refine th_n ?_
     refine wp_ret ?_
     exact rx_ret (v := iA 0) G [0, 1, 2, 3, 4, 5, 6] (by kernel_rfl) (by kernel_rfl) (by kernel_rfl) (by have e1 : (ownR p s pc false : Int) = (0) := (by exact ownR_lax (by exact fl1t (by with_reducible assumption) (by with_reducible assumption))); first | (rw [e1]; done) | (rw [e1]; rfl) | (simp only [e1]; done) | (simp only [e1]; rfl))
    ·
     cases h24 : (s.kind != (4 : Int))
     ·
      have q24 : s.kind = 4 := (by simpa using h24)
      cases h25 : (s.kind == (2 : Int))
      ·
       have q25 : ¬ (s.kind = 2) := ne_of_beq_false h25
       refine rs1 (dk := dkP) G ⟨[], [(strict, true), (s.kind != (4 : Int), false), (false, false), (s.kind == (2 : Int), false)], [(2, 0), (3, 0), (4, 0), (5, 0), (6, 1), (7, 1), (8, 1), (9, 1), (10, 0), (1010, 1), (11, 0), (12, 2), (13, 2), (14, 2), (15, 2), (16, 3), (17, 3), (18, 3), (19, 3), (20, 3), (21, 2), (1021, 3), (22, 0), (1022, 2), (1023, 0)]⟩ calls_nil ⟨(by assumption), (by assumption), (by kernel_rfl), (by assumption), trivial⟩ [0, 1, 2, 3, 4, 5, 6] [dI p.vars, dI p.arrays, dT p.body, dE s.index.kids, dE s.value.kids, dT s.body, dT s.els] [(8, iA 0), (93, bA false)] [] trivial ?_
       clear G; intro ρ a w G
       refine th_n ?_
       refine rF G (false) (by kernel_rfl) ?_
       refine wp_skip ?_
       refine th_n ?_
       refine wp_seq ?_
       refine rs0s G [(8, iA 0)] ?_
       clear G; intro ρ a w G
       refine th_n ?_
       refine wp_ret ?_
       exact rx_ret (v := iA 0) G [0, 1, 2, 3, 4, 5, 6] (by kernel_rfl) (by kernel_rfl) (by kernel_rfl) (by have e1 : (ownR p s pc true : Int) = (0) := (by exact ownR_strict (by exact fl1t (by with_reducible assumption) (by with_reducible assumption)) (by exact lk0 (by exact .inl (by omega)) (by exact .inl (by omega)) (by exact .inl (by omega)))); first | (rw [e1]; done) | (rw [e1]; rfl) | (simp only [e1]; done) | (simp only [e1]; rfl))
      ·
       have q25 : s.kind = 2 := eq_of_beq h25
       refine rs1 (dk := dkP) G ⟨[(19, _, [0, 1, 2, 3]), (20, _, [])], [(strict, true), (s.kind != (4 : Int), false), (false, false), (s.kind == (2 : Int), true)], [(2, 0), (3, 0), (4, 0), (5, 0), (6, 1), (7, 1), (8, 1), (9, 1), (10, 0), (1010, 1), (11, 0), (12, 2), (13, 2), (14, 2), (15, 2), (16, 3), (17, 3), (18, 3), (19, 3), (20, 3), (21, 2), (1021, 3), (22, 0), (1022, 2), (1023, 0)]⟩ (calls_cons (c_l4Label (p) (s.index) (by exact hd_index h (by with_reducible assumption))) (calls_cons (c_LabelSecret (labV p s.index)) calls_nil)) ⟨(by assumption), (by assumption), (by kernel_rfl), (by assumption), trivial⟩ [0, 1, 2, 3, 4, 5, 6] [dI p.vars, dI p.arrays, dT p.body, dE s.index.kids, dE s.value.kids, dT s.body, dT s.els] [(8, iA 0), (93, bA (labOk (labV p s.index) && decide (labV p s.index % 2 = 1)))] [] trivial ?_
       clear G; intro ρ a w G
       refine th_n ?_
       cases h26 : (labOk (labV p s.index) && decide (labV p s.index % (2 : Int) = (1 : Int)))
       ·
        have q26 : ((labOk (labV p s.index)) = false) ∨ (¬ (labV p s.index % 2 = 1)) := Or.imp (fun hq => (hq)) (fun hq => of_decide_eq_false (hq)) (Bool.and_eq_false_iff.1 h26)
        refine rF G (labOk (labV p s.index) && decide (labV p s.index % (2 : Int) = (1 : Int))) (by assumption) ?_
        refine wp_skip ?_
        refine th_n ?_
        refine wp_seq ?_
        refine rs0s G [(8, iA 0)] ?_
        clear G; intro ρ a w G
        refine th_n ?_
        refine wp_ret ?_
        exact rx_ret (v := iA 0) G [0, 1, 2, 3, 4, 5, 6] (by kernel_rfl) (by kernel_rfl) (by kernel_rfl) (by have e1 : (ownR p s pc true : Int) = (0) := (by exact ownR_strict (by exact fl1t (by with_reducible assumption) (by with_reducible assumption)) (by exact lk0 (by exact .inl (by omega)) (by exact .inl (by omega)) (by exact .inl (by omega)))); first | (rw [e1]; done) | (rw [e1]; rfl) | (simp only [e1]; done) | (simp only [e1]; rfl))
       ·
        have q26 : ((labOk (labV p s.index)) = true) ∧ (labV p s.index % 2 = 1) := And.imp (fun hq => (hq)) (fun hq => of_decide_eq_true (hq)) (Bool.and_eq_true_iff.1 h26)
        refine rT G (labOk (labV p s.index) && decide (labV p s.index % (2 : Int) = (1 : Int))) (by assumption) ?_
        refine wp_seq ?_
        refine rs0s G [(8, iA 4)] ?_
        clear G; intro ρ a w G
        refine th_n ?_
        refine wp_ret ?_
        refine th_r ?_
        exact rx_ret (v := iA 4) G [0, 1, 2, 3, 4, 5, 6] (by kernel_rfl) (by kernel_rfl) (by kernel_rfl) (by have e1 : (ownR p s pc true : Int) = (4) := (by exact ownR_strict (by exact fl1t (by with_reducible assumption) (by with_reducible assumption)) (by exact lki (by with_reducible assumption) (by with_reducible assumption))); first | (rw [e1]; done) | (rw [e1]; rfl) | (simp only [e1]; done) | (simp only [e1]; rfl))
     ·
      have q24 : ¬ (s.kind = 4) := bne_iff_ne.1 h24
      cases h27 : (secE p.vars p.arrays (5 : Nat) s.value)
      ·
       cases h28 : (s.kind == (2 : Int))
       ·
        have q28 : ¬ (s.kind = 2) := ne_of_beq_false h28
        refine rs1 (dk := dkP) G ⟨[(9, _, [0, 1, 2, 4])], [(strict, true), (s.kind != (4 : Int), true), (secE p.vars p.arrays (5 : Nat) s.value, false), (s.kind == (2 : Int), false)], [(2, 0), (3, 0), (4, 0), (5, 0), (6, 1), (7, 1), (8, 1), (9, 1), (10, 0), (1010, 1), (11, 0), (12, 2), (13, 2), (14, 2), (15, 2), (16, 3), (17, 3), (18, 3), (19, 3), (20, 3), (21, 2), (1021, 3), (22, 0), (1022, 2), (1023, 0)]⟩ (calls_cons (c_l4Secret (p) (s.value) (by exact hd_value h (by omega))) calls_nil) ⟨(by assumption), (by assumption), (by assumption), (by assumption), trivial⟩ [0, 1, 2, 3, 4, 5, 6] [dI p.vars, dI p.arrays, dT p.body, dE s.index.kids, dE s.value.kids, dT s.body, dT s.els] [(8, iA 0), (93, bA false)] [] trivial ?_
        clear G; intro ρ a w G
        refine th_n ?_
        refine rF G (false) (by kernel_rfl) ?_
        refine wp_skip ?_
        refine th_n ?_
        refine wp_seq ?_
        refine rs0s G [(8, iA 0)] ?_
        clear G; intro ρ a w G
        refine th_n ?_
        refine wp_ret ?_
        exact rx_ret (v := iA 0) G [0, 1, 2, 3, 4, 5, 6] (by kernel_rfl) (by kernel_rfl) (by kernel_rfl) (by have e1 : (ownR p s pc true : Int) = (0) := (by exact ownR_strict (by exact fl1t (by with_reducible assumption) (by with_reducible assumption)) (by exact lk0 (by exact .inl (by omega)) (by exact .inr (by with_reducible assumption)) (by exact .inl (by omega)))); first | (rw [e1]; done) | (rw [e1]; rfl) | (simp only [e1]; done) | (simp only [e1]; rfl))
       ·
        have q28 : s.kind = 2 := eq_of_beq h28
        refine rs1 (dk := dkP) G ⟨[(9, _, [0, 1, 2, 4]), (19, _, [0, 1, 2, 3]), (20, _, [])], [(strict, true), (s.kind != (4 : Int), true), (secE p.vars p.arrays (5 : Nat) s.value, false), (s.kind == (2 : Int), true)], [(2, 0), (3, 0), (4, 0), (5, 0), (6, 1), (7, 1), (8, 1), (9, 1), (10, 0), (1010, 1), (11, 0), (12, 2), (13, 2), (14, 2), (15, 2), (16, 3), (17, 3), (18, 3), (19, 3), (20, 3), (21, 2), (1021, 3), (22, 0), (1022, 2), (1023, 0)]⟩ (calls_cons (c_l4Secret (p) (s.value) (by exact hd_value h (by omega))) (calls_cons (c_l4Label (p) (s.index) (by exact hd_index h (by with_reducible assumption))) (calls_cons (c_LabelSecret (labV p s.index)) calls_nil))) ⟨(by assumption), (by assumption), (by assumption), (by assumption), trivial⟩ [0, 1, 2, 3, 4, 5, 6] [dI p.vars, dI p.arrays, dT p.body, dE s.index.kids, dE s.value.kids, dT s.body, dT s.els] [(8, iA 0), (93, bA (labOk (labV p s.index) && decide (labV p s.index % 2 = 1)))] [] trivial ?_
        clear G; intro ρ a w G
        refine th_n ?_
        cases h29 : (labOk (labV p s.index) && decide (labV p s.index % (2 : Int) = (1 : Int)))
        ·
         have q29 : ((labOk (labV p s.index)) = false) ∨ (¬ (labV p s.index % 2 = 1)) := Or.imp (fun hq => (hq)) (fun hq => of_decide_eq_false (hq)) (Bool.and_eq_false_iff.1 h29)
         refine rF G (labOk (labV p s.index) && decide (labV p s.index % (2 : Int) = (1 : Int))) (by assumption) ?_
         refine wp_skip ?_
         refine th_n ?_
         refine wp_seq ?_
         refine rs0s G [(8, iA 0)] ?_
         clear G; intro ρ a w G
         refine th_n ?_
         refine wp_ret ?_
         exact rx_ret (v := iA 0) G [0, 1, 2, 3, 4, 5, 6] (by kernel_rfl) (by kernel_rfl) (by kernel_rfl) (by have e1 : (ownR p s pc true : Int) = (0) := (by exact ownR_strict (by exact fl1t (by with_reducible assumption) (by with_reducible assumption)) (by exact lk0 (by exact .inl (by omega)) (by exact .inl (by omega)) (by exact .inl (by omega)))); first | (rw [e1]; done) | (rw [e1]; rfl) | (simp only [e1]; done) | (simp only [e1]; rfl))
        ·
         have q29 : ((labOk (labV p s.index)) = true) ∧ (labV p s.index % 2 = 1) := And.imp (fun hq => (hq)) (fun hq => of_decide_eq_true (hq)) (Bool.and_eq_true_iff.1 h29)
         refine rT G (labOk (labV p s.index) && decide (labV p s.index % (2 : Int) = (1 : Int))) (by assumption) ?_
         refine wp_seq ?_
         refine rs0s G [(8, iA 4)] ?_
         clear G; intro ρ a w G
         refine th_n ?_
         refine wp_ret ?_
         refine th_r ?_
         exact rx_ret (v := iA 4) G [0, 1, 2, 3, 4, 5, 6] (by kernel_rfl) (by kernel_rfl) (by kernel_rfl) (by have e1 : (ownR p s pc true : Int) = (4) := (by exact ownR_strict (by exact fl1t (by with_reducible assumption) (by with_reducible assumption)) (by exact lki (by with_reducible assumption) (by with_reducible assumption))); first | (rw [e1]; done) | (rw [e1]; rfl) | (simp only [e1]; done) | (simp only [e1]; rfl))
      ·
       refine rs1 (dk := dkP) G ⟨[(9, _, [0, 1, 2, 4])], [(strict, true), (s.kind != (4 : Int), true), (secE p.vars p.arrays (5 : Nat) s.value, true)], [(2, 0), (3, 0), (4, 0), (5, 0), (6, 1), (7, 1), (8, 1), (9, 1), (10, 0), (1010, 1), (11, 0), (12, 2), (13, 2), (14, 2), (15, 2), (21, 2), (22, 0), (1022, 2), (1023, 0)]⟩ (calls_cons (c_l4Secret (p) (s.value) (by exact hd_value h (by omega))) calls_nil) ⟨(by assumption), (by assumption), (by assumption), trivial⟩ [0, 1, 2, 3, 4, 5, 6] [dI p.vars, dI p.arrays, dT p.body, dE s.index.kids, dE s.value.kids, dT s.body, dT s.els] [(8, iA 0), (93, bA true)] [] trivial ?_
       clear G; intro ρ a w G
       refine th_n ?_
       refine rT G (true) (by kernel_rfl) ?_
       refine wp_seq ?_
       refine rs0s G [(8, iA 4)] ?_
       clear G; intro ρ a w G
       refine th_n ?_
       refine wp_ret ?_
       refine th_r ?_
       exact rx_ret (v := iA 4) G [0, 1, 2, 3, 4, 5, 6] (by kernel_rfl) (by kernel_rfl) (by kernel_rfl) (by have e1 : (ownR p s pc true : Int) = (4) := (by exact ownR_strict (by exact fl1t (by with_reducible assumption) (by with_reducible assumption)) (by exact lkv (by exact .inl (by omega)) (by omega) (by with_reducible assumption))); first | (rw [e1]; done) | (rw [e1]; rfl) | (simp only [e1]; done) | (simp only [e1]; rfl))
   ·
    have q22 : (((labOk (orI (labV p s.value) pc)) = false) ∨ ((labOk (p.vars.getD s.target.toNat 0)) = false)) ∨ (¬ (orI (orI (labV p s.value) pc) (p.vars.getD s.target.toNat 0) = p.vars.getD s.target.toNat 0)) := (fun hq => Or.imp (fun hq => Or.imp (fun hq => (hq)) (fun hq => (hq)) (Bool.and_eq_false_iff.1 (hq))) (fun hq => ne_of_beq_false (hq)) (Bool.and_eq_false_iff.1 (hq))) (Eq.mp (Bool.not_eq_true' _) h22)
    refine rT G (!(labOk (orI (labV p s.value) pc) && labOk (p.vars.getD s.target.toNat (0 : Int)) && orI (orI (labV p s.value) pc) (p.vars.getD s.target.toNat (0 : Int)) == p.vars.getD s.target.toNat (0 : Int))) (by assumption) ?_
    refine wp_seq ?_
    refine rs0s G [(3, bA strict), (4, .ptr 7 0), (5, .ptr 8 0), (8, iA 1)] ?_
    clear G; intro ρ a w G
    refine th_n ?_
    refine wp_ret ?_
    refine bl_r ?_
    refine th_r ?_
    exact rx_ret (v := iA 1) G [0, 1, 2, 3, 4, 5, 6] (by kernel_rfl) (by kernel_rfl) (by kernel_rfl) (by have e1 : (ownR p s pc strict : Int) = (1) := (by exact ownR_bad (by exact fl1f (by with_reducible assumption) (by with_reducible assumption)) (by decide)); first | (rw [e1]; done) | (rw [e1]; rfl) | (simp only [e1]; done) | (simp only [e1]; rfl))

end Go.Proofs.Ytgpkdfefgcpbiaa

namespace Go.Proofs.Ytgpkdfefgcpbiaa
set_option linter.unusedVariables false
set_option linter.unusedSimpArgs false
open Go Go.RowKit

/-- Statements one after another, until one is not fine. -/
def foldC (F : Nat → LStmt → Int × Nat) : Nat → List LStmt → Int × Nat
  | c, [] => (0, c)
  | c, s :: r => if (F c s).1 = 0 then foldC F (F c s).2 r else F c s
def innR (p : LProg) (s : LStmt) (pc : Int) : Int := if s.kind = 3 then orI pc (labV p s.value) else pc
def stC (p : LProg) (strict : Bool) : Nat → Int → Nat → LStmt → Int × Nat
  | 0, _, c, _ => (0, c)
  | d + 1, pc, c, s => if ownR p s pc strict = 0 then
      (if (foldC (stC p strict d (innR p s pc)) (c + 1) s.body).1 = 0 then foldC (stC p strict d (innR p s pc)) (foldC (stC p strict d (innR p s pc)) (c + 1) s.body).2 s.els
       else foldC (stC p strict d (innR p s pc)) (c + 1) s.body)
    else (ownR p s pc strict, c)
abbrev blC (p : LProg) (strict : Bool) (d : Nat) (pc : Int) (c : Nat) (ss : List LStmt) : Int × Nat := foldC (stC p strict d pc) c ss
theorem foldC_append (F : Nat → LStmt → Int × Nat) : ∀ (a b : List LStmt) (c : Nat), foldC F c (a ++ b) = if (foldC F c a).1 = 0 then foldC F (foldC F c a).2 b else foldC F c a
  | [], b, c => by simp [foldC]
  | x :: r, b, c => by
    simp only [List.cons_append, foldC]
    by_cases h : (F c x).1 = 0
    · simp only [h, if_true]; exact foldC_append F r b _
    · simp [h]
theorem foldC_next {F : Nat → LStmt → Int × Nat} {c k : Nat} {ss : List LStmt} (h : (foldC F c (ss.take k)).1 = 0) (hk : k < ss.length) : foldC F c (ss.take (k + 1)) = F (foldC F c (ss.take k)).2 (ss.getD k default) := by
  rw [take_succ_get _ _ hk, foldC_append, if_pos h, getD_lt hk]
  simp only [foldC]
  split
  · rename_i h; exact Prod.ext h.symm rfl
  · rfl
theorem foldC_stop {F : Nat → LStmt → Int × Nat} {c k : Nat} {ss : List LStmt} (h : (foldC F c (ss.take k)).1 = 0) (hk : k < ss.length) (hf : ¬ (F (foldC F c (ss.take k)).2 (ss.getD k default)).1 = 0) : foldC F c ss = F (foldC F c (ss.take k)).2 (ss.getD k default) := by
  conv => lhs; rw [← List.take_append_drop (k + 1) ss]
  rw [foldC_append, foldC_next h hk, if_neg hf]
theorem foldC_full {F : Nat → LStmt → Int × Nat} {c k : Nat} {ss : List LStmt} (hk : ss.length ≤ k) : foldC F c ss = foldC F c (ss.take k) := by rw [List.take_of_length_le hk]
theorem foldC_le {F : Nat → LStmt → Int × Nat} (hF : ∀ c s, (F c s).2 ≤ c + nS s) : ∀ (ss : List LStmt) (c : Nat), (foldC F c ss).2 ≤ c + nSs ss
  | [], c => by simp [foldC]
  | s :: r, c => by
    simp only [foldC, nSs]
    have h1 := hF c s
    have h2 := foldC_le hF r (F c s).2
    split <;> omega
theorem stC_le {p : LProg} {strict : Bool} : ∀ (d : Nat) (pc : Int) (c : Nat) (s : LStmt), (stC p strict d pc c s).2 ≤ c + nS s
  | 0, _, c, s => by simp [stC]
  | d + 1, pc, c, s => by
    have hs := nS_def s
    have h1 := foldC_le (stC_le (p := p) (strict := strict) d (innR p s pc)) s.body (c + 1)
    have h2 := foldC_le (stC_le (p := p) (strict := strict) d (innR p s pc)) s.els (foldC (stC p strict d (innR p s pc)) (c + 1) s.body).2
    rw [stC]
    split
    · split <;> omega
    · simp only; omega
theorem blC_le {p : LProg} {strict : Bool} {d : Nat} {pc : Int} {c : Nat} {ss : List LStmt} : (blC p strict d pc c ss).2 ≤ c + nSs ss := foldC_le (stC_le d pc) ss c

theorem bl_at {nv na d k : Nat} {ss : List LStmt} (hs : ss.all (stmtB nv na (d + 1)) = true) (hk : k < ss.length) : headB nv na (ss.getD k default) = true ∧ (ss.getD k default).body.all (stmtB nv na d) = true ∧ (ss.getD k default).els.all (stmtB nv na d) = true := by
  have h := List.all_eq_true.1 hs _ (List.getElem_mem hk)
  rw [stmtB_head, Bool.and_eq_true, Bool.and_eq_true] at h
  rw [getD_lt hk]; exact h
theorem blk_n {k : Nat} {ss : List LStmt} (hk : k < ss.length) : nSs (ss.take k) + (1 + nSs (ss.getD k default).body + nSs (ss.getD k default).els) ≤ nSs ss := by
  have h1 := nSs_take1 hk
  have h2 := nSs_take_le ss (k + 1)
  rw [nS_def] at h1
  rw [getD_lt hk]; omega
section
variable {p : LProg} {strict : Bool} {d c : Nat} {pc : Int} {s : LStmt}
theorem stC_own (h : ¬ ownR p s pc strict = 0) : stC p strict (d + 1) pc c s = (ownR p s pc strict, c) := by rw [stC, if_neg h]
theorem stC_body {x : Int} (h : ownR p s pc strict = 0) (hx : innR p s pc = x) (h2 : ¬ (blC p strict d x (c + 1) s.body).1 = 0) : stC p strict (d + 1) pc c s = blC p strict d x (c + 1) s.body := by
  subst hx; rw [stC, if_pos h, if_neg h2]
theorem stC_els {x : Int} (h : ownR p s pc strict = 0) (hx : innR p s pc = x) (h2 : (blC p strict d x (c + 1) s.body).1 = 0) : stC p strict (d + 1) pc c s = blC p strict d x (blC p strict d x (c + 1) s.body).2 s.els := by
  subst hx; rw [stC, if_pos h, if_pos h2]
theorem inn_if (k : s.kind = 3) : innR p s pc = orI pc (labV p s.value) := if_pos k
theorem inn_no (k : ¬ s.kind = 3) : innR p s pc = pc := if_neg k
end

theorem bl_bound {p : LProg} {strict : Bool} {d k c : Nat} {pc : Int} {ss : List LStmt} (hc : c + nSs ss ≤ 4000000) (hk : k < ss.length) : (blC p strict (d + 1) pc c (ss.take k)).2 + 1 + nSs (ss.getD k default).body ≤ 4000000 := by
  have h1 := blk_n (k := k) (ss := ss) hk
  have h2 := blC_le (p := p) (strict := strict) (d := d + 1) (pc := pc) (c := c) (ss := ss.take k)
  omega
theorem bl_bound2 {p : LProg} {strict : Bool} {d k c : Nat} {pc x : Int} {ss : List LStmt} (hc : c + nSs ss ≤ 4000000) (hk : k < ss.length) : (blC p strict d x ((blC p strict (d + 1) pc c (ss.take k)).2 + 1) (ss.getD k default).body).2 + nSs (ss.getD k default).els ≤ 4000000 := by
  have h1 := blk_n (k := k) (ss := ss) hk
  have h2 := blC_le (p := p) (strict := strict) (d := d + 1) (pc := pc) (c := c) (ss := ss.take k)
  have h3 := blC_le (p := p) (strict := strict) (d := d) (pc := x) (c := (blC p strict (d + 1) pc c (ss.take k)).2 + 1) (ss := (ss.getD k default).body)
  omega
theorem bl_wrap {p : LProg} {strict : Bool} {d k c : Nat} {pc : Int} {ss : List LStmt} (hc : c + nSs ss ≤ 4000000) (hk : k < ss.length) : IntKind.i64.wrap (((blC p strict (d + 1) pc c (ss.take k)).2 : Int) + 1) = ((blC p strict (d + 1) pc c (ss.take k)).2 : Int) + 1 := by
  have h1 := bl_bound (p := p) (strict := strict) (d := d) (pc := pc) hc hk
  exact w64 (by omega) (by omega)

abbrev blkC (p : LProg) (d : Nat) (ss : List LStmt) (pc : Int) (c : Nat) (strict : Bool) : Ctr := fnC 129 [pA 0, .ref 3, iA pc, iA c, bA strict] (pS p ++ [.dat (.stmts ss)]) (.tup [iA (blC p strict d pc c ss).1, iA (blC p strict d pc c ss).2])

set_option maxRecDepth 100000 in
theorem c_l4Block0 (p : LProg) (pc : Int) (c : Nat) (strict : Bool) : Ctr.ok Try.prog (blkC p 0 [] pc c strict) := by
  refine rx_enter 74 Try.func129 (by rfl) (by kernel_rfl) (by kernel_rfl) ?_
  intro ι φ ψ w0 w F ρ0 ρ a G
  replace G := Gam.at G [dI p.vars, dI p.arrays, dT p.body, dT []] [(0, pA 0), (1, .ref 3), (2, iA pc), (3, iA (↑c : Int)), (4, bA strict)]
  refine wp_seq ?_
  refine rs0 G [0, 1, 2, 3, 4] [dI p.vars, dI p.arrays, dT p.body, dT [], .box (pL 0)] [(1, .ref 3), (2, iA pc), (3, iA (↑c : Int)), (4, bA strict), (5, .ptr 4 0), (10, iA 0), (11, iA 0)] ?_
  clear G; intro ρ a w G
  refine th_n ?_
  refine wp_seq ?_
  refine wp_seq ?_
  refine rs0s G [(1, .ref 3), (2, iA pc), (3, iA (↑c : Int)), (4, bA strict), (5, .ptr 4 0), (10, iA 0), (11, iA 0), (12, iA 0)] ?_
  clear G; intro ρ a w G
  refine th_n ?_
  refine wp_block ?_
  refine rx_for (κ := Nat) (fun k => k = 0) (fun k => 0) (fun k => [dI p.vars, dI p.arrays, dT p.body, dT [], .box (pL 0)]) (fun k => [(1, .ref 3), (2, iA pc), (3, iA (↑c : Int)), (4, bA strict), (5, .ptr 4 0), (10, iA 0), (11, iA 0), (12, iA 0)]) (0) (by kernel_rfl) (Gam.at G _ _) ?_
  clear G
  intro k ρ a w hp G
  replace G := Gam.at G [dI p.vars, dI p.arrays, dT p.body, dT [], .box (pL 0)] [(1, .ref 3), (2, iA pc), (3, iA (↑c : Int)), (4, bA strict), (5, .ptr 4 0), (10, iA 0), (11, iA 0), (12, iA 0)]
  refine wp_seq ?_
  refine wp_seq ?_
  refine rs0s G [(1, .ref 3), (2, iA pc), (3, iA (↑c : Int)), (4, bA strict), (5, .ptr 4 0), (10, iA 0), (11, iA 0), (12, iA 0), (19, bA false)] ?_
  clear G; intro ρ a w G
  refine th_n ?_
  refine rF G (false) (by kernel_rfl) ?_
  refine wp_exit ?_
  refine th_e ?_
  refine th_e ?_
  refine bl_hit ?_
  refine th_n ?_
  refine wp_seq ?_
  refine rs0 G [0, 1, 2, 3] [dI p.vars, dI p.arrays, dT p.body, dT []] [(10, iA 0), (11, iA (↑c : Int))] ?_
  clear G; intro ρ a w G
  refine th_n ?_
  refine wp_ret ?_
  exact rx_ret (v := .tup [iA 0, iA (↑c : Int)]) G [0, 1, 2, 3] (by kernel_rfl) (by kernel_rfl) (by kernel_rfl) (by kernel_rfl)

set_option maxHeartbeats 4000000 in
set_option maxRecDepth 100000 in
theorem c_l4BlockS (p : LProg) (d : Nat) (strict : Bool) (ih : ∀ (ss : List LStmt) (pc : Int) (c : Nat), ss.all (stmtB p.vars.length p.arrays.length d) = true → c + nSs ss ≤ 4000000 → Ctr.ok Try.prog (blkC p d ss pc c strict))
    (ss : List LStmt) (pc : Int) (c : Nat) (hs : ss.all (stmtB p.vars.length p.arrays.length (d + 1)) = true) (hc : c + nSs ss ≤ 4000000) : Ctr.ok Try.prog (blkC p (d + 1) ss pc c strict) := by
  refine rx_enter 74 Try.func129 (by rfl) (by kernel_rfl) (by kernel_rfl) ?_
  intro ι φ ψ w0 w F ρ0 ρ a G
  replace G := Gam.at G [dI p.vars, dI p.arrays, dT p.body, dT ss] [(0, pA 0), (1, .ref 3), (2, iA pc), (3, iA (↑c : Int)), (4, bA strict)]
  have hlen : ss.length ≤ 9223372036854775807 := G.len 3 (d := .stmts ss) (by kernel_rfl)
  refine wp_seq ?_
  refine rs0 G [0, 1, 2, 3, 4] [dI p.vars, dI p.arrays, dT p.body, dT ss, .box (pL 0)] [(1, .ref 3), (2, iA pc), (3, iA (↑c : Int)), (4, bA strict), (5, .ptr 4 0), (10, iA 0), (11, iA 0)] ?_
  clear G; intro ρ a w G
  refine th_n ?_
  refine wp_seq ?_
  refine wp_seq ?_
  refine rs0s G [(1, .ref 3), (2, iA pc), (3, iA (↑c : Int)), (4, bA strict), (5, .ptr 4 0), (10, iA 0), (11, iA 0), (12, iA 0)] ?_
  clear G; intro ρ a w G
  refine th_n ?_
  refine wp_block ?_
  refine rx_for (κ := Nat) (fun k => k ≤ ss.length ∧ (blC p strict (d + 1) pc c (ss.take k)).1 = 0) (fun k => ss.length - k) (fun k => [dI p.vars, dI p.arrays, dT p.body, dT ss, .box (pL 0)]) (fun k => [(1, .ref 3), (2, iA pc), (3, iA (blC p strict (d + 1) pc c (ss.take k)).2), (4, bA strict), (5, .ptr 4 0), (10, iA 0), (11, iA 0), (12, iA k)]) (0) (by exact ⟨Nat.zero_le _, rfl⟩) (Gam.at G _ _) ?_
  clear G
  intro k ρ a w hp G
  replace G := Gam.at G [dI p.vars, dI p.arrays, dT p.body, dT ss, .box (pL 0)] [(1, .ref 3), (2, iA pc), (3, iA (↑(blC p strict (d + 1) pc c (List.take k ss)).snd : Int)), (4, bA strict), (5, .ptr 4 0), (10, iA 0), (11, iA 0), (12, iA (↑k : Int))]
  refine wp_seq ?_
  refine wp_seq ?_
  refine rs0s G [(1, .ref 3), (2, iA pc), (3, iA (↑(blC p strict (d + 1) pc c (List.take k ss)).snd : Int)), (4, bA strict), (5, .ptr 4 0), (10, iA 0), (11, iA 0), (12, iA (↑k : Int)), (19, bA (decide ((↑k : Int) < (↑ss.length : Int))))] ?_
  clear G; intro ρ a w G
  refine th_n ?_
  cases h0 : (decide ((↑k : Int) < (↑ss.length : Int)))
  ·
   have q0 : ¬ ((↑k : Int) < (↑ss.length : Int)) := of_decide_eq_false h0
   refine rF G (decide ((↑k : Int) < (↑ss.length : Int))) (by assumption) ?_
   refine wp_exit ?_
   refine th_e ?_
   refine th_e ?_
   refine bl_hit ?_
   refine th_n ?_
   refine wp_seq ?_
   refine rs0 G [0, 1, 2, 3] [dI p.vars, dI p.arrays, dT p.body, dT ss] [(10, iA 0), (11, iA (↑(blC p strict (d + 1) pc c (List.take k ss)).snd : Int))] ?_
   clear G; intro ρ a w G
   refine th_n ?_
   refine wp_ret ?_
   exact rx_ret (v := .tup [iA 0, iA (↑(blC p strict (d + 1) pc c (List.take k ss)).snd : Int)]) G [0, 1, 2, 3] (by kernel_rfl) (by kernel_rfl) (by kernel_rfl) (by have e1 : ((blC p strict (d + 1) pc c ss).fst : Int) = (0) := (by rw [blC, foldC_full (k := k) (by omega)]; exact hp.2); have e2 : ((↑(blC p strict (d + 1) pc c ss).snd : Int) : Int) = ((↑(blC p strict (d + 1) pc c (List.take k ss)).snd : Int)) := (by rw [blC, foldC_full (k := k) (by omega)]); first | (rw [e1, e2]; done) | (rw [e1, e2]; rfl) | (simp only [e1, e2]; done) | (simp only [e1, e2]; rfl))
  ·
   have q0 : (↑k : Int) < (↑ss.length : Int) := of_decide_eq_true h0
   refine rT G (decide ((↑k : Int) < (↑ss.length : Int))) (by assumption) ?_
   refine wp_skip ?_
   refine th_n ?_
   refine wp_seq ?_
   refine wp_block ?_
   refine wp_seq ?_
   refine rs1 (dk := dkP) G ⟨[], [], []⟩ calls_nil trivial [0, 1, 2, 3, 4, 29, 30, 31, 32, 37] [dI p.vars, dI p.arrays, dT p.body, dT ss, .box (pL 0), dE (ss.getD k default).index.kids, dE (ss.getD k default).value.kids, dT (ss.getD k default).body, dT (ss.getD k default).els, .box (sL (ss.getD k default) 5)] [(1, .ref 3), (2, iA pc), (3, iA (↑(blC p strict (d + 1) pc c (List.take k ss)).snd : Int)), (4, bA strict), (5, .ptr 4 0), (10, iA 0), (11, iA 0), (12, iA (↑k : Int)), (13, .ptr 9 0)] [(0 : Int) ≤ (↑k : Int), (↑k : Int) < (↑ss.length : Int), k < ss.length] ⟨(by simp [hs, h0]), (by assumption), (by have hp := hp; omega), trivial⟩ ?_
   clear G; intro ρ a w G
   refine th_n ?_
   refine wp_seq ?_
   refine rs1s G ⟨[(4, _, [0, 1, 2, 5, 6, 7, 8])], [], []⟩ (calls_cons (c_l4Own (p) (ss.getD k default) (pc) (strict) (by exact (bl_at hs (by omega)).1)) calls_nil) trivial [(1, .ref 3), (2, iA pc), (3, iA (↑(blC p strict (d + 1) pc c (List.take k ss)).snd : Int)), (4, bA strict), (5, .ptr 4 0), (10, iA 0), (11, iA 0), (12, iA (↑k : Int)), (13, .ptr 9 0), (14, iA (ownR p (ss.getD k default) pc strict))] [] trivial ?_
   clear G; intro ρ a w G
   refine th_n ?_
   refine wp_seq ?_
   refine wp_seq ?_
   refine rs0s G [(1, .ref 3), (2, iA pc), (3, iA (↑(blC p strict (d + 1) pc c (List.take k ss)).snd : Int)), (4, bA strict), (5, .ptr 4 0), (10, iA 0), (11, iA 0), (12, iA (↑k : Int)), (13, .ptr 9 0), (14, iA (ownR p (ss.getD k default) pc strict)), (32, bA (ownR p (ss.getD k default) pc strict != 0))] ?_
   clear G; intro ρ a w G
   refine th_n ?_
   cases h1 : (ownR p (ss.getD k default) pc strict != (0 : Int))
   ·
    have q1 : ownR p (ss.getD k default) pc strict = 0 := (by simpa using h1)
    refine rF G (ownR p (ss.getD k default) pc strict != (0 : Int)) (by assumption) ?_
    refine wp_skip ?_
    refine th_n ?_
    refine wp_seq ?_
    refine rs1s G ⟨[], [], []⟩ calls_nil trivial [(1, .ref 3), (2, iA pc), (3, iA ((↑(blC p strict (d + 1) pc c (List.take k ss)).snd : Int) + 1)), (4, bA strict), (5, .ptr 4 0), (10, iA 0), (11, iA 0), (12, iA (↑k : Int)), (13, .ptr 9 0), (14, iA (ownR p (ss.getD k default) pc strict))] [IntKind.i64.wrap ((↑(blC p strict (d + (1 : Nat)) pc c (List.take k ss)).snd : Int) + (1 : Int)) = (↑(blC p strict (d + (1 : Nat)) pc c (List.take k ss)).snd : Int) + (1 : Int)] ⟨(by exact bl_wrap hc (by omega)), trivial⟩ ?_
    clear G; intro ρ a w G
    refine th_n ?_
    refine wp_seq ?_
    refine rs0s G [(1, .ref 3), (2, iA pc), (3, iA ((↑(blC p strict (d + 1) pc c (List.take k ss)).snd : Int) + 1)), (4, bA strict), (5, .ptr 4 0), (10, iA 0), (11, iA 0), (12, iA (↑k : Int)), (13, .ptr 9 0), (14, iA (ownR p (ss.getD k default) pc strict)), (15, iA pc)] ?_
    clear G; intro ρ a w G
    refine th_n ?_
    refine wp_seq ?_
    refine wp_seq ?_
    refine rs0s G [(1, .ref 3), (2, iA pc), (3, iA ((↑(blC p strict (d + 1) pc c (List.take k ss)).snd : Int) + 1)), (4, bA strict), (5, .ptr 4 0), (10, iA 0), (11, iA 0), (12, iA (↑k : Int)), (13, .ptr 9 0), (14, iA (ownR p (ss.getD k default) pc strict)), (15, iA pc), (40, bA ((ss.getD k default).kind == 3))] ?_
    clear G; intro ρ a w G
    refine th_n ?_
    cases h2 : ((ss.getD k default).kind == (3 : Int))
    ·
     have q2 : ¬ ((ss.getD k default).kind = 3) := ne_of_beq_false h2
     refine rF G ((ss.getD k default).kind == (3 : Int)) (by assumption) ?_
     refine wp_skip ?_
     refine th_n ?_
     refine wp_seq ?_
     refine rs1s G ⟨[(6, _, [0, 1, 2, 7])], [], []⟩ (calls_cons (ih ((ss.getD k default).body) (pc) ((blC p strict (d + 1) pc c (List.take k ss)).snd + 1) (by exact (bl_at hs (by omega)).2.1) (by exact bl_bound hc (by omega))) calls_nil) trivial [(1, .ref 3), (2, iA pc), (3, iA (↑(blC p strict d pc ((blC p strict (d + 1) pc c (List.take k ss)).snd + 1) (ss.getD k default).body).snd : Int)), (4, bA strict), (5, .ptr 4 0), (10, iA 0), (11, iA 0), (12, iA (↑k : Int)), (13, .ptr 9 0), (14, iA (blC p strict d pc ((blC p strict (d + 1) pc c (List.take k ss)).snd + 1) (ss.getD k default).body).fst), (15, iA pc)] [] trivial ?_
     clear G; intro ρ a w G
     refine th_n ?_
     refine wp_seq ?_
     refine wp_seq ?_
     refine rs0s G [(1, .ref 3), (2, iA pc), (3, iA (↑(blC p strict d pc ((blC p strict (d + 1) pc c (List.take k ss)).snd + 1) (ss.getD k default).body).snd : Int)), (4, bA strict), (5, .ptr 4 0), (10, iA 0), (11, iA 0), (12, iA (↑k : Int)), (13, .ptr 9 0), (14, iA (blC p strict d pc ((blC p strict (d + 1) pc c (List.take k ss)).snd + 1) (ss.getD k default).body).fst), (15, iA pc), (58, bA ((blC p strict d pc ((blC p strict (d + 1) pc c (List.take k ss)).snd + 1) (ss.getD k default).body).fst == 0))] ?_
     clear G; intro ρ a w G
     refine th_n ?_
     cases h3 : ((blC p strict d pc ((blC p strict (d + (1 : Nat)) pc c (List.take k ss)).snd + (1 : Nat)) (ss.getD k default).body).fst == (0 : Int))
     ·
      have q3 : ¬ ((blC p strict d pc ((blC p strict (d + 1) pc c (List.take k ss)).snd + 1) (ss.getD k default).body).fst = 0) := ne_of_beq_false h3
      refine rF G ((blC p strict d pc ((blC p strict (d + (1 : Nat)) pc c (List.take k ss)).snd + (1 : Nat)) (ss.getD k default).body).fst == (0 : Int)) (by assumption) ?_
      refine wp_skip ?_
      refine th_n ?_
      refine wp_seq ?_
      refine rs0 G [0, 1, 2, 3, 4] [dI p.vars, dI p.arrays, dT p.body, dT ss, .box (pL 0)] [(1, .ref 3), (2, iA pc), (3, iA (↑(blC p strict d pc ((blC p strict (d + 1) pc c (List.take k ss)).snd + 1) (ss.getD k default).body).snd : Int)), (4, bA strict), (5, .ptr 4 0), (10, iA 0), (11, iA 0), (12, iA (↑k : Int)), (14, iA (blC p strict d pc ((blC p strict (d + 1) pc c (List.take k ss)).snd + 1) (ss.getD k default).body).fst), (70, bA ((blC p strict d pc ((blC p strict (d + 1) pc c (List.take k ss)).snd + 1) (ss.getD k default).body).fst != 0))] ?_
      clear G; intro ρ a w G
      refine th_n ?_
      cases h4 : ((blC p strict d pc ((blC p strict (d + (1 : Nat)) pc c (List.take k ss)).snd + (1 : Nat)) (ss.getD k default).body).fst != (0 : Int))
      ·
       have q4 : (blC p strict d pc ((blC p strict (d + 1) pc c (List.take k ss)).snd + 1) (ss.getD k default).body).fst = 0 := (by simpa using h4)
       refine rF G ((blC p strict d pc ((blC p strict (d + (1 : Nat)) pc c (List.take k ss)).snd + (1 : Nat)) (ss.getD k default).body).fst != (0 : Int)) (by assumption) ?_
       refine wp_skip ?_
       refine bl_n ?_
       refine th_n ?_
       refine rs1s G ⟨[], [], []⟩ calls_nil trivial [(1, .ref 3), (2, iA pc), (3, iA (↑(blC p strict d pc ((blC p strict (d + 1) pc c (List.take k ss)).snd + 1) (ss.getD k default).body).snd : Int)), (4, bA strict), (5, .ptr 4 0), (10, iA 0), (11, iA 0), (12, iA ((↑k : Int) + 1))] [IntKind.i64.wrap ((↑k : Int) + (1 : Int)) = (↑k : Int) + (1 : Int)] ⟨(by have hp := hp; omega), trivial⟩ ?_
       clear G; intro ρ a w G
       refine th_n ?_
       exact rx_next G (k + 1) (by exact ⟨by omega, by omega⟩) (by have hp := hp; omega) [0, 1, 2, 3, 4] [dI p.vars, dI p.arrays, dT p.body, dT ss, .box (pL 0)] [(1, .ref 3), (2, iA pc), (3, iA (↑(blC p strict (d + 1) pc c (List.take (k + 1) ss)).snd : Int)), (4, bA strict), (5, .ptr 4 0), (10, iA 0), (11, iA 0), (12, iA (↑(k + 1) : Int))] (by kernel_rfl) (by kernel_rfl) (by kernel_rfl) (by kernel_rfl) (by have e1 : ((↑(blC p strict (d + 1) pc c (List.take (k + 1) ss)).snd : Int) : Int) = ((↑(blC p strict d pc ((blC p strict (d + 1) pc c (List.take k ss)).snd + 1) (ss.getD k default).body).snd : Int)) := (by have hp := hp; omega); first | (rw [e1]; done) | (rw [e1]; rfl) | (simp only [e1]; done) | (simp only [e1]; rfl))
      ·
       have q4 : ¬ ((blC p strict d pc ((blC p strict (d + 1) pc c (List.take k ss)).snd + 1) (ss.getD k default).body).fst = 0) := bne_iff_ne.1 h4
       refine rT G ((blC p strict d pc ((blC p strict (d + (1 : Nat)) pc c (List.take k ss)).snd + (1 : Nat)) (ss.getD k default).body).fst != (0 : Int)) (by assumption) ?_
       refine wp_seq ?_
       refine rs0s G [(1, .ref 3), (2, iA pc), (3, iA (↑(blC p strict d pc ((blC p strict (d + 1) pc c (List.take k ss)).snd + 1) (ss.getD k default).body).snd : Int)), (4, bA strict), (5, .ptr 4 0), (10, iA (blC p strict d pc ((blC p strict (d + 1) pc c (List.take k ss)).snd + 1) (ss.getD k default).body).fst), (11, iA (↑(blC p strict d pc ((blC p strict (d + 1) pc c (List.take k ss)).snd + 1) (ss.getD k default).body).snd : Int)), (12, iA (↑k : Int))] ?_
       clear G; intro ρ a w G
       refine th_n ?_
       refine wp_ret ?_
       refine bl_r ?_
       refine th_r ?_
       refine th_r ?_
       refine bl_r ?_
       refine th_r ?_
       exact rx_ret (v := .tup [iA (blC p strict d pc ((blC p strict (d + 1) pc c (List.take k ss)).snd + 1) (ss.getD k default).body).fst, iA (↑(blC p strict d pc ((blC p strict (d + 1) pc c (List.take k ss)).snd + 1) (ss.getD k default).body).snd : Int)]) G [0, 1, 2, 3] (by kernel_rfl) (by kernel_rfl) (by kernel_rfl) (by have e1 : ((blC p strict (d + 1) pc c ss).fst : Int) = ((blC p strict d pc ((blC p strict (d + 1) pc c (List.take k ss)).snd + 1) (ss.getD k default).body).fst) := (by rw [blC, foldC_stop hp.2 (by omega) (by rw [stC_body (by with_reducible assumption) (by exact inn_no (by with_reducible assumption)) (by with_reducible assumption)]; with_reducible assumption), stC_body (by with_reducible assumption) (by exact inn_no (by with_reducible assumption)) (by with_reducible assumption)]); have e2 : ((↑(blC p strict (d + 1) pc c ss).snd : Int) : Int) = ((↑(blC p strict d pc ((blC p strict (d + 1) pc c (List.take k ss)).snd + 1) (ss.getD k default).body).snd : Int)) := (by rw [blC, foldC_stop hp.2 (by omega) (by rw [stC_body (by with_reducible assumption) (by exact inn_no (by with_reducible assumption)) (by with_reducible assumption)]; with_reducible assumption), stC_body (by with_reducible assumption) (by exact inn_no (by with_reducible assumption)) (by with_reducible assumption)]); first | (rw [e1, e2]; done) | (rw [e1, e2]; rfl) | (simp only [e1, e2]; done) | (simp only [e1, e2]; rfl))
     ·
      have q3 : (blC p strict d pc ((blC p strict (d + 1) pc c (List.take k ss)).snd + 1) (ss.getD k default).body).fst = 0 := eq_of_beq h3
      refine rT G ((blC p strict d pc ((blC p strict (d + (1 : Nat)) pc c (List.take k ss)).snd + (1 : Nat)) (ss.getD k default).body).fst == (0 : Int)) (by assumption) ?_
      refine rs1 (dk := dkP) G ⟨[(6, _, [0, 1, 2, 8])], [], []⟩ (calls_cons (ih ((ss.getD k default).els) (pc) ((blC p strict d pc ((blC p strict (d + 1) pc c (List.take k ss)).snd + 1) (ss.getD k default).body).snd) (by exact (bl_at hs (by omega)).2.2) (by exact bl_bound2 hc (by omega))) calls_nil) trivial [0, 1, 2, 3, 4] [dI p.vars, dI p.arrays, dT p.body, dT ss, .box (pL 0)] [(1, .ref 3), (2, iA pc), (3, iA (↑(blC p strict d pc (blC p strict d pc ((blC p strict (d + 1) pc c (List.take k ss)).snd + 1) (ss.getD k default).body).snd (ss.getD k default).els).snd : Int)), (4, bA strict), (5, .ptr 4 0), (10, iA 0), (11, iA 0), (12, iA (↑k : Int)), (14, iA (blC p strict d pc (blC p strict d pc ((blC p strict (d + 1) pc c (List.take k ss)).snd + 1) (ss.getD k default).body).snd (ss.getD k default).els).fst)] [] trivial ?_
      clear G; intro ρ a w G
      refine th_n ?_
      refine wp_seq ?_
      refine rs0s G [(1, .ref 3), (2, iA pc), (3, iA (↑(blC p strict d pc (blC p strict d pc ((blC p strict (d + 1) pc c (List.take k ss)).snd + 1) (ss.getD k default).body).snd (ss.getD k default).els).snd : Int)), (4, bA strict), (5, .ptr 4 0), (10, iA 0), (11, iA 0), (12, iA (↑k : Int)), (14, iA (blC p strict d pc (blC p strict d pc ((blC p strict (d + 1) pc c (List.take k ss)).snd + 1) (ss.getD k default).body).snd (ss.getD k default).els).fst), (70, bA ((blC p strict d pc (blC p strict d pc ((blC p strict (d + 1) pc c (List.take k ss)).snd + 1) (ss.getD k default).body).snd (ss.getD k default).els).fst != 0))] ?_
      clear G; intro ρ a w G
      refine th_n ?_
      cases h5 : ((blC p strict d pc (blC p strict d pc ((blC p strict (d + (1 : Nat)) pc c (List.take k ss)).snd + (1 : Nat)) (ss.getD k default).body).snd (ss.getD k default).els).fst != (0 : Int))
      ·
       have q5 : (blC p strict d pc (blC p strict d pc ((blC p strict (d + 1) pc c (List.take k ss)).snd + 1) (ss.getD k default).body).snd (ss.getD k default).els).fst = 0 := (by simpa using h5)
       refine rF G ((blC p strict d pc (blC p strict d pc ((blC p strict (d + (1 : Nat)) pc c (List.take k ss)).snd + (1 : Nat)) (ss.getD k default).body).snd (ss.getD k default).els).fst != (0 : Int)) (by assumption) ?_
       refine wp_skip ?_
       refine bl_n ?_
       refine th_n ?_
       refine rs1s G ⟨[], [], []⟩ calls_nil trivial [(1, .ref 3), (2, iA pc), (3, iA (↑(blC p strict d pc (blC p strict d pc ((blC p strict (d + 1) pc c (List.take k ss)).snd + 1) (ss.getD k default).body).snd (ss.getD k default).els).snd : Int)), (4, bA strict), (5, .ptr 4 0), (10, iA 0), (11, iA 0), (12, iA ((↑k : Int) + 1))] [IntKind.i64.wrap ((↑k : Int) + (1 : Int)) = (↑k : Int) + (1 : Int)] ⟨(by exact w64 (by omega) (by omega)), trivial⟩ ?_
       clear G; intro ρ a w G
       refine th_n ?_
       exact rx_next G (k + 1) (by exact ⟨by omega, by rw [blC, foldC_next hp.2 (by omega), stC_els (by with_reducible assumption) (by exact inn_no (by with_reducible assumption)) (by with_reducible assumption)]; with_reducible assumption⟩) (by have hp := hp; omega) [0, 1, 2, 3, 4] [dI p.vars, dI p.arrays, dT p.body, dT ss, .box (pL 0)] [(1, .ref 3), (2, iA pc), (3, iA (↑(blC p strict (d + 1) pc c (List.take (k + 1) ss)).snd : Int)), (4, bA strict), (5, .ptr 4 0), (10, iA 0), (11, iA 0), (12, iA (↑(k + 1) : Int))] (by kernel_rfl) (by kernel_rfl) (by kernel_rfl) (by kernel_rfl) (by have e1 : ((↑(blC p strict (d + 1) pc c (List.take (k + 1) ss)).snd : Int) : Int) = ((↑(blC p strict d pc (blC p strict d pc ((blC p strict (d + 1) pc c (List.take k ss)).snd + 1) (ss.getD k default).body).snd (ss.getD k default).els).snd : Int)) := (by rw [blC, foldC_next hp.2 (by omega), stC_els (by with_reducible assumption) (by exact inn_no (by with_reducible assumption)) (by with_reducible assumption)]); first | (rw [e1]; done) | (rw [e1]; rfl) | (simp only [e1]; done) | (simp only [e1]; rfl))
      ·
       have q5 : ¬ ((blC p strict d pc (blC p strict d pc ((blC p strict (d + 1) pc c (List.take k ss)).snd + 1) (ss.getD k default).body).snd (ss.getD k default).els).fst = 0) := bne_iff_ne.1 h5
       refine rT G ((blC p strict d pc (blC p strict d pc ((blC p strict (d + (1 : Nat)) pc c (List.take k ss)).snd + (1 : Nat)) (ss.getD k default).body).snd (ss.getD k default).els).fst != (0 : Int)) (by assumption) ?_
       refine wp_seq ?_
       refine rs0s G [(1, .ref 3), (2, iA pc), (3, iA (↑(blC p strict d pc (blC p strict d pc ((blC p strict (d + 1) pc c (List.take k ss)).snd + 1) (ss.getD k default).body).snd (ss.getD k default).els).snd : Int)), (4, bA strict), (5, .ptr 4 0), (10, iA (blC p strict d pc (blC p strict d pc ((blC p strict (d + 1) pc c (List.take k ss)).snd + 1) (ss.getD k default).body).snd (ss.getD k default).els).fst), (11, iA (↑(blC p strict d pc (blC p strict d pc ((blC p strict (d + 1) pc c (List.take k ss)).snd + 1) (ss.getD k default).body).snd (ss.getD k default).els).snd : Int)), (12, iA (↑k : Int))] ?_
       clear G; intro ρ a w G
       refine th_n ?_
       refine wp_ret ?_
       refine bl_r ?_
       refine th_r ?_
       refine th_r ?_
       refine bl_r ?_
       refine th_r ?_
       exact rx_ret (v := .tup [iA (blC p strict d pc (blC p strict d pc ((blC p strict (d + 1) pc c (List.take k ss)).snd + 1) (ss.getD k default).body).snd (ss.getD k default).els).fst, iA (↑(blC p strict d pc (blC p strict d pc ((blC p strict (d + 1) pc c (List.take k ss)).snd + 1) (ss.getD k default).body).snd (ss.getD k default).els).snd : Int)]) G [0, 1, 2, 3] (by kernel_rfl) (by kernel_rfl) (by kernel_rfl) (by have e1 : ((blC p strict (d + 1) pc c ss).fst : Int) = ((blC p strict d pc (blC p strict d pc ((blC p strict (d + 1) pc c (List.take k ss)).snd + 1) (ss.getD k default).body).snd (ss.getD k default).els).fst) := (by rw [blC, foldC_stop hp.2 (by omega) (by rw [stC_els (by with_reducible assumption) (by exact inn_no (by with_reducible assumption)) (by with_reducible assumption)]; with_reducible assumption), stC_els (by with_reducible assumption) (by exact inn_no (by with_reducible assumption)) (by with_reducible assumption)]); have e2 : ((↑(blC p strict (d + 1) pc c ss).snd : Int) : Int) = ((↑(blC p strict d pc (blC p strict d pc ((blC p strict (d + 1) pc c (List.take k ss)).snd + 1) (ss.getD k default).body).snd (ss.getD k default).els).snd : Int)) := (by rw [blC, foldC_stop hp.2 (by omega) (by rw [stC_els (by with_reducible assumption) (by exact inn_no (by with_reducible assumption)) (by with_reducible assumption)]; with_reducible assumption), stC_els (by with_reducible assumption) (by exact inn_no (by with_reducible assumption)) (by with_reducible assumption)]); first | (rw [e1, e2]; done) | (rw [e1, e2]; rfl) | (simp only [e1, e2]; done) | (simp only [e1, e2]; rfl))
    ·
     have q2 : (ss.getD k default).kind = 3 := eq_of_beq h2
     refine rT G ((ss.getD k default).kind == (3 : Int)) (by assumption) ?_
     refine rs1s G ⟨[(4, _, [0, 1, 2, 6])], [], []⟩ (calls_cons (c_l4Label (p) ((ss.getD k default).value) (by exact hd_value (bl_at hs (by omega)).1 (by omega))) calls_nil) trivial [(1, .ref 3), (2, iA pc), (3, iA ((↑(blC p strict (d + 1) pc c (List.take k ss)).snd : Int) + 1)), (4, bA strict), (5, .ptr 4 0), (10, iA 0), (11, iA 0), (12, iA (↑k : Int)), (13, .ptr 9 0), (14, iA (ownR p (ss.getD k default) pc strict)), (15, iA (orI pc (labV p (ss.getD k default).value)))] [] trivial ?_
     clear G; intro ρ a w G
     refine th_n ?_
     refine wp_seq ?_
     refine rs1s G ⟨[(6, _, [0, 1, 2, 7])], [], []⟩ (calls_cons (ih ((ss.getD k default).body) (orI pc (labV p (ss.getD k default).value)) ((blC p strict (d + 1) pc c (List.take k ss)).snd + 1) (by exact (bl_at hs (by omega)).2.1) (by exact bl_bound hc (by omega))) calls_nil) trivial [(1, .ref 3), (2, iA pc), (3, iA (↑(blC p strict d (orI pc (labV p (ss.getD k default).value)) ((blC p strict (d + 1) pc c (List.take k ss)).snd + 1) (ss.getD k default).body).snd : Int)), (4, bA strict), (5, .ptr 4 0), (10, iA 0), (11, iA 0), (12, iA (↑k : Int)), (13, .ptr 9 0), (14, iA (blC p strict d (orI pc (labV p (ss.getD k default).value)) ((blC p strict (d + 1) pc c (List.take k ss)).snd + 1) (ss.getD k default).body).fst), (15, iA (orI pc (labV p (ss.getD k default).value)))] [] trivial ?_
     clear G; intro ρ a w G
     refine th_n ?_
     refine wp_seq ?_
     refine wp_seq ?_
     refine rs0s G [(1, .ref 3), (2, iA pc), (3, iA (↑(blC p strict d (orI pc (labV p (ss.getD k default).value)) ((blC p strict (d + 1) pc c (List.take k ss)).snd + 1) (ss.getD k default).body).snd : Int)), (4, bA strict), (5, .ptr 4 0), (10, iA 0), (11, iA 0), (12, iA (↑k : Int)), (13, .ptr 9 0), (14, iA (blC p strict d (orI pc (labV p (ss.getD k default).value)) ((blC p strict (d + 1) pc c (List.take k ss)).snd + 1) (ss.getD k default).body).fst), (15, iA (orI pc (labV p (ss.getD k default).value))), (58, bA ((blC p strict d (orI pc (labV p (ss.getD k default).value)) ((blC p strict (d + 1) pc c (List.take k ss)).snd + 1) (ss.getD k default).body).fst == 0))] ?_
     clear G; intro ρ a w G
     refine th_n ?_
     cases h6 : ((blC p strict d (orI pc (labV p (ss.getD k default).value)) ((blC p strict (d + (1 : Nat)) pc c (List.take k ss)).snd + (1 : Nat)) (ss.getD k default).body).fst == (0 : Int))
     ·
      have q6 : ¬ ((blC p strict d (orI pc (labV p (ss.getD k default).value)) ((blC p strict (d + 1) pc c (List.take k ss)).snd + 1) (ss.getD k default).body).fst = 0) := ne_of_beq_false h6
      refine rF G ((blC p strict d (orI pc (labV p (ss.getD k default).value)) ((blC p strict (d + (1 : Nat)) pc c (List.take k ss)).snd + (1 : Nat)) (ss.getD k default).body).fst == (0 : Int)) (by assumption) ?_
      refine wp_skip ?_
      refine th_n ?_
      refine wp_seq ?_
      refine rs0 G [0, 1, 2, 3, 4] [dI p.vars, dI p.arrays, dT p.body, dT ss, .box (pL 0)] [(1, .ref 3), (2, iA pc), (3, iA (↑(blC p strict d (orI pc (labV p (ss.getD k default).value)) ((blC p strict (d + 1) pc c (List.take k ss)).snd + 1) (ss.getD k default).body).snd : Int)), (4, bA strict), (5, .ptr 4 0), (10, iA 0), (11, iA 0), (12, iA (↑k : Int)), (14, iA (blC p strict d (orI pc (labV p (ss.getD k default).value)) ((blC p strict (d + 1) pc c (List.take k ss)).snd + 1) (ss.getD k default).body).fst), (70, bA ((blC p strict d (orI pc (labV p (ss.getD k default).value)) ((blC p strict (d + 1) pc c (List.take k ss)).snd + 1) (ss.getD k default).body).fst != 0))] ?_
      clear G; intro ρ a w G
      refine th_n ?_
      cases h7 : ((blC p strict d (orI pc (labV p (ss.getD k default).value)) ((blC p strict (d + (1 : Nat)) pc c (List.take k ss)).snd + (1 : Nat)) (ss.getD k default).body).fst != (0 : Int))
      ·
       have q7 : (blC p strict d (orI pc (labV p (ss.getD k default).value)) ((blC p strict (d + 1) pc c (List.take k ss)).snd + 1) (ss.getD k default).body).fst = 0 := (by simpa using h7)
       refine rF G ((blC p strict d (orI pc (labV p (ss.getD k default).value)) ((blC p strict (d + (1 : Nat)) pc c (List.take k ss)).snd + (1 : Nat)) (ss.getD k default).body).fst != (0 : Int)) (by assumption) ?_
       refine wp_skip ?_
       refine bl_n ?_
       refine th_n ?_
       refine rs1s G ⟨[], [], []⟩ calls_nil trivial [(1, .ref 3), (2, iA pc), (3, iA (↑(blC p strict d (orI pc (labV p (ss.getD k default).value)) ((blC p strict (d + 1) pc c (List.take k ss)).snd + 1) (ss.getD k default).body).snd : Int)), (4, bA strict), (5, .ptr 4 0), (10, iA 0), (11, iA 0), (12, iA ((↑k : Int) + 1))] [IntKind.i64.wrap ((↑k : Int) + (1 : Int)) = (↑k : Int) + (1 : Int)] ⟨(by have hp := hp; omega), trivial⟩ ?_
       clear G; intro ρ a w G
       refine th_n ?_
       exact rx_next G (k + 1) (by exact ⟨by omega, by omega⟩) (by have hp := hp; omega) [0, 1, 2, 3, 4] [dI p.vars, dI p.arrays, dT p.body, dT ss, .box (pL 0)] [(1, .ref 3), (2, iA pc), (3, iA (↑(blC p strict (d + 1) pc c (List.take (k + 1) ss)).snd : Int)), (4, bA strict), (5, .ptr 4 0), (10, iA 0), (11, iA 0), (12, iA (↑(k + 1) : Int))] (by kernel_rfl) (by kernel_rfl) (by kernel_rfl) (by kernel_rfl) (by have e1 : ((↑(blC p strict (d + 1) pc c (List.take (k + 1) ss)).snd : Int) : Int) = ((↑(blC p strict d (orI pc (labV p (ss.getD k default).value)) ((blC p strict (d + 1) pc c (List.take k ss)).snd + 1) (ss.getD k default).body).snd : Int)) := (by have hp := hp; omega); first | (rw [e1]; done) | (rw [e1]; rfl) | (simp only [e1]; done) | (simp only [e1]; rfl))
      ·
       have q7 : ¬ ((blC p strict d (orI pc (labV p (ss.getD k default).value)) ((blC p strict (d + 1) pc c (List.take k ss)).snd + 1) (ss.getD k default).body).fst = 0) := bne_iff_ne.1 h7
       refine rT G ((blC p strict d (orI pc (labV p (ss.getD k default).value)) ((blC p strict (d + (1 : Nat)) pc c (List.take k ss)).snd + (1 : Nat)) (ss.getD k default).body).fst != (0 : Int)) (by assumption) ?_
       refine wp_seq ?_
       refine rs0s G [(1, .ref 3), (2, iA pc), (3, iA (↑(blC p strict d (orI pc (labV p (ss.getD k default).value)) ((blC p strict (d + 1) pc c (List.take k ss)).snd + 1) (ss.getD k default).body).snd : Int)), (4, bA strict), (5, .ptr 4 0), (10, iA (blC p strict d (orI pc (labV p (ss.getD k default).value)) ((blC p strict (d + 1) pc c (List.take k ss)).snd + 1) (ss.getD k default).body).fst), (11, iA (↑(blC p strict d (orI pc (labV p (ss.getD k default).value)) ((blC p strict (d + 1) pc c (List.take k ss)).snd + 1) (ss.getD k default).body).snd : Int)), (12, iA (↑k : Int))] ?_
       clear G; intro ρ a w G
       refine th_n ?_
       refine wp_ret ?_
       refine bl_r ?_
       refine th_r ?_
       refine th_r ?_
       refine bl_r ?_
       refine th_r ?_
       exact rx_ret (v := .tup [iA (blC p strict d (orI pc (labV p (ss.getD k default).value)) ((blC p strict (d + 1) pc c (List.take k ss)).snd + 1) (ss.getD k default).body).fst, iA (↑(blC p strict d (orI pc (labV p (ss.getD k default).value)) ((blC p strict (d + 1) pc c (List.take k ss)).snd + 1) (ss.getD k default).body).snd : Int)]) G [0, 1, 2, 3] (by kernel_rfl) (by kernel_rfl) (by kernel_rfl) (by have e1 : ((blC p strict (d + 1) pc c ss).fst : Int) = ((blC p strict d (orI pc (labV p (ss.getD k default).value)) ((blC p strict (d + 1) pc c (List.take k ss)).snd + 1) (ss.getD k default).body).fst) := (by rw [blC, foldC_stop hp.2 (by omega) (by rw [stC_body (by with_reducible assumption) (by exact inn_if (by with_reducible assumption)) (by with_reducible assumption)]; with_reducible assumption), stC_body (by with_reducible assumption) (by exact inn_if (by with_reducible assumption)) (by with_reducible assumption)]); have e2 : ((↑(blC p strict (d + 1) pc c ss).snd : Int) : Int) = ((↑(blC p strict d (orI pc (labV p (ss.getD k default).value)) ((blC p strict (d + 1) pc c (List.take k ss)).snd + 1) (ss.getD k default).body).snd : Int)) := (by rw [blC, foldC_stop hp.2 (by omega) (by rw [stC_body (by with_reducible assumption) (by exact inn_if (by with_reducible assumption)) (by with_reducible assumption)]; with_reducible assumption), stC_body (by with_reducible assumption) (by exact inn_if (by with_reducible assumption)) (by with_reducible assumption)]); first | (rw [e1, e2]; done) | (rw [e1, e2]; rfl) | (simp only [e1, e2]; done) | (simp only [e1, e2]; rfl))
     ·
      have q6 : (blC p strict d (orI pc (labV p (ss.getD k default).value)) ((blC p strict (d + 1) pc c (List.take k ss)).snd + 1) (ss.getD k default).body).fst = 0 := eq_of_beq h6
      refine rT G ((blC p strict d (orI pc (labV p (ss.getD k default).value)) ((blC p strict (d + (1 : Nat)) pc c (List.take k ss)).snd + (1 : Nat)) (ss.getD k default).body).fst == (0 : Int)) (by assumption) ?_
      refine rs1 (dk := dkP) G ⟨[(6, _, [0, 1, 2, 8])], [], []⟩ (calls_cons (ih ((ss.getD k default).els) (orI pc (labV p (ss.getD k default).value)) ((blC p strict d (orI pc (labV p (ss.getD k default).value)) ((blC p strict (d + 1) pc c (List.take k ss)).snd + 1) (ss.getD k default).body).snd) (by exact (bl_at hs (by omega)).2.2) (by exact bl_bound2 hc (by omega))) calls_nil) trivial [0, 1, 2, 3, 4] [dI p.vars, dI p.arrays, dT p.body, dT ss, .box (pL 0)] [(1, .ref 3), (2, iA pc), (3, iA (↑(blC p strict d (orI pc (labV p (ss.getD k default).value)) (blC p strict d (orI pc (labV p (ss.getD k default).value)) ((blC p strict (d + 1) pc c (List.take k ss)).snd + 1) (ss.getD k default).body).snd (ss.getD k default).els).snd : Int)), (4, bA strict), (5, .ptr 4 0), (10, iA 0), (11, iA 0), (12, iA (↑k : Int)), (14, iA (blC p strict d (orI pc (labV p (ss.getD k default).value)) (blC p strict d (orI pc (labV p (ss.getD k default).value)) ((blC p strict (d + 1) pc c (List.take k ss)).snd + 1) (ss.getD k default).body).snd (ss.getD k default).els).fst)] [] trivial ?_
      clear G; intro ρ a w G
      refine th_n ?_
      refine wp_seq ?_
      refine rs0s G [(1, .ref 3), (2, iA pc), (3, iA (↑(blC p strict d (orI pc (labV p (ss.getD k default).value)) (blC p strict d (orI pc (labV p (ss.getD k default).value)) ((blC p strict (d + 1) pc c (List.take k ss)).snd + 1) (ss.getD k default).body).snd (ss.getD k default).els).snd : Int)), (4, bA strict), (5, .ptr 4 0), (10, iA 0), (11, iA 0), (12, iA (↑k : Int)), (14, iA (blC p strict d (orI pc (labV p (ss.getD k default).value)) (blC p strict d (orI pc (labV p (ss.getD k default).value)) ((blC p strict (d + 1) pc c (List.take k ss)).snd + 1) (ss.getD k default).body).snd (ss.getD k default).els).fst), (70, bA ((blC p strict d (orI pc (labV p (ss.getD k default).value)) (blC p strict d (orI pc (labV p (ss.getD k default).value)) ((blC p strict (d + 1) pc c (List.take k ss)).snd + 1) (ss.getD k default).body).snd (ss.getD k default).els).fst != 0))] ?_
      clear G; intro ρ a w G
      refine th_n ?_
      cases h8 : ((blC p strict d (orI pc (labV p (ss.getD k default).value)) (blC p strict d (orI pc (labV p (ss.getD k default).value)) ((blC p strict (d + (1 : Nat)) pc c (List.take k ss)).snd + (1 : Nat)) (ss.getD k default).body).snd (ss.getD k default).els).fst != (0 : Int))
      ·
       have q8 : (blC p strict d (orI pc (labV p (ss.getD k default).value)) (blC p strict d (orI pc (labV p (ss.getD k default).value)) ((blC p strict (d + 1) pc c (List.take k ss)).snd + 1) (ss.getD k default).body).snd (ss.getD k default).els).fst = 0 := (by simpa using h8)
       refine rF G ((blC p strict d (orI pc (labV p (ss.getD k default).value)) (blC p strict d (orI pc (labV p (ss.getD k default).value)) ((blC p strict (d + (1 : Nat)) pc c (List.take k ss)).snd + (1 : Nat)) (ss.getD k default).body).snd (ss.getD k default).els).fst != (0 : Int)) (by assumption) ?_
       refine wp_skip ?_
       refine bl_n ?_
       refine th_n ?_
       refine rs1s G ⟨[], [], []⟩ calls_nil trivial [(1, .ref 3), (2, iA pc), (3, iA (↑(blC p strict d (orI pc (labV p (ss.getD k default).value)) (blC p strict d (orI pc (labV p (ss.getD k default).value)) ((blC p strict (d + 1) pc c (List.take k ss)).snd + 1) (ss.getD k default).body).snd (ss.getD k default).els).snd : Int)), (4, bA strict), (5, .ptr 4 0), (10, iA 0), (11, iA 0), (12, iA ((↑k : Int) + 1))] [IntKind.i64.wrap ((↑k : Int) + (1 : Int)) = (↑k : Int) + (1 : Int)] ⟨(by exact w64 (by omega) (by omega)), trivial⟩ ?_
       clear G; intro ρ a w G
       refine th_n ?_
       exact rx_next G (k + 1) (by exact ⟨by omega, by rw [blC, foldC_next hp.2 (by omega), stC_els (by with_reducible assumption) (by exact inn_if (by with_reducible assumption)) (by with_reducible assumption)]; with_reducible assumption⟩) (by have hp := hp; omega) [0, 1, 2, 3, 4] [dI p.vars, dI p.arrays, dT p.body, dT ss, .box (pL 0)] [(1, .ref 3), (2, iA pc), (3, iA (↑(blC p strict (d + 1) pc c (List.take (k + 1) ss)).snd : Int)), (4, bA strict), (5, .ptr 4 0), (10, iA 0), (11, iA 0), (12, iA (↑(k + 1) : Int))] (by kernel_rfl) (by kernel_rfl) (by kernel_rfl) (by kernel_rfl) (by have e1 : ((↑(blC p strict (d + 1) pc c (List.take (k + 1) ss)).snd : Int) : Int) = ((↑(blC p strict d (orI pc (labV p (ss.getD k default).value)) (blC p strict d (orI pc (labV p (ss.getD k default).value)) ((blC p strict (d + 1) pc c (List.take k ss)).snd + 1) (ss.getD k default).body).snd (ss.getD k default).els).snd : Int)) := (by rw [blC, foldC_next hp.2 (by omega), stC_els (by with_reducible assumption) (by exact inn_if (by with_reducible assumption)) (by with_reducible assumption)]); first | (rw [e1]; done) | (rw [e1]; rfl) | (simp only [e1]; done) | (simp only [e1]; rfl))
      ·
       have q8 : ¬ ((blC p strict d (orI pc (labV p (ss.getD k default).value)) (blC p strict d (orI pc (labV p (ss.getD k default).value)) ((blC p strict (d + 1) pc c (List.take k ss)).snd + 1) (ss.getD k default).body).snd (ss.getD k default).els).fst = 0) := bne_iff_ne.1 h8
       refine rT G ((blC p strict d (orI pc (labV p (ss.getD k default).value)) (blC p strict d (orI pc (labV p (ss.getD k default).value)) ((blC p strict (d + (1 : Nat)) pc c (List.take k ss)).snd + (1 : Nat)) (ss.getD k default).body).snd (ss.getD k default).els).fst != (0 : Int)) (by assumption) ?_
       refine wp_seq ?_
       refine rs0s G [(1, .ref 3), (2, iA pc), (3, iA (↑(blC p strict d (orI pc (labV p (ss.getD k default).value)) (blC p strict d (orI pc (labV p (ss.getD k default).value)) ((blC p strict (d + 1) pc c (List.take k ss)).snd + 1) (ss.getD k default).body).snd (ss.getD k default).els).snd : Int)), (4, bA strict), (5, .ptr 4 0), (10, iA (blC p strict d (orI pc (labV p (ss.getD k default).value)) (blC p strict d (orI pc (labV p (ss.getD k default).value)) ((blC p strict (d + 1) pc c (List.take k ss)).snd + 1) (ss.getD k default).body).snd (ss.getD k default).els).fst), (11, iA (↑(blC p strict d (orI pc (labV p (ss.getD k default).value)) (blC p strict d (orI pc (labV p (ss.getD k default).value)) ((blC p strict (d + 1) pc c (List.take k ss)).snd + 1) (ss.getD k default).body).snd (ss.getD k default).els).snd : Int)), (12, iA (↑k : Int))] ?_
       clear G; intro ρ a w G
       refine th_n ?_
       refine wp_ret ?_
       refine bl_r ?_
       refine th_r ?_
       refine th_r ?_
       refine bl_r ?_
       refine th_r ?_
       exact rx_ret (v := .tup [iA (blC p strict d (orI pc (labV p (ss.getD k default).value)) (blC p strict d (orI pc (labV p (ss.getD k default).value)) ((blC p strict (d + 1) pc c (List.take k ss)).snd + 1) (ss.getD k default).body).snd (ss.getD k default).els).fst, iA (↑(blC p strict d (orI pc (labV p (ss.getD k default).value)) (blC p strict d (orI pc (labV p (ss.getD k default).value)) ((blC p strict (d + 1) pc c (List.take k ss)).snd + 1) (ss.getD k default).body).snd (ss.getD k default).els).snd : Int)]) G [0, 1, 2, 3] (by kernel_rfl) (by kernel_rfl) (by kernel_rfl) (by have e1 : ((blC p strict (d + 1) pc c ss).fst : Int) = ((blC p strict d (orI pc (labV p (ss.getD k default).value)) (blC p strict d (orI pc (labV p (ss.getD k default).value)) ((blC p strict (d + 1) pc c (List.take k ss)).snd + 1) (ss.getD k default).body).snd (ss.getD k default).els).fst) := (by rw [blC, foldC_stop hp.2 (by omega) (by rw [stC_els (by with_reducible assumption) (by exact inn_if (by with_reducible assumption)) (by with_reducible assumption)]; with_reducible assumption), stC_els (by with_reducible assumption) (by exact inn_if (by with_reducible assumption)) (by with_reducible assumption)]); have e2 : ((↑(blC p strict (d + 1) pc c ss).snd : Int) : Int) = ((↑(blC p strict d (orI pc (labV p (ss.getD k default).value)) (blC p strict d (orI pc (labV p (ss.getD k default).value)) ((blC p strict (d + 1) pc c (List.take k ss)).snd + 1) (ss.getD k default).body).snd (ss.getD k default).els).snd : Int)) := (by rw [blC, foldC_stop hp.2 (by omega) (by rw [stC_els (by with_reducible assumption) (by exact inn_if (by with_reducible assumption)) (by with_reducible assumption)]; with_reducible assumption), stC_els (by with_reducible assumption) (by exact inn_if (by with_reducible assumption)) (by with_reducible assumption)]); first | (rw [e1, e2]; done) | (rw [e1, e2]; rfl) | (simp only [e1, e2]; done) | (simp only [e1, e2]; rfl))
   ·
    have q1 : ¬ (ownR p (ss.getD k default) pc strict = 0) := bne_iff_ne.1 h1
    refine rT G (ownR p (ss.getD k default) pc strict != (0 : Int)) (by assumption) ?_
    refine wp_seq ?_
    refine rs0s G [(1, .ref 3), (2, iA pc), (3, iA (↑(blC p strict (d + 1) pc c (List.take k ss)).snd : Int)), (4, bA strict), (5, .ptr 4 0), (10, iA (ownR p (ss.getD k default) pc strict)), (11, iA (↑(blC p strict (d + 1) pc c (List.take k ss)).snd : Int)), (12, iA (↑k : Int)), (13, .ptr 9 0), (14, iA (ownR p (ss.getD k default) pc strict))] ?_
    clear G; intro ρ a w G
    refine th_n ?_
    refine wp_ret ?_
    refine th_r ?_
    refine bl_r ?_
    refine th_r ?_
    refine th_r ?_
    refine bl_r ?_
    refine th_r ?_
    exact rx_ret (v := .tup [iA (ownR p (ss.getD k default) pc strict), iA (↑(blC p strict (d + 1) pc c (List.take k ss)).snd : Int)]) G [0, 1, 2, 3] (by kernel_rfl) (by kernel_rfl) (by kernel_rfl) (by have e1 : ((blC p strict (d + 1) pc c ss).fst : Int) = (ownR p (ss.getD k default) pc strict) := (by rw [blC, foldC_stop hp.2 (by omega) (by rw [stC_own (by with_reducible assumption)]; with_reducible assumption), stC_own (by with_reducible assumption)]); have e2 : ((↑(blC p strict (d + 1) pc c ss).snd : Int) : Int) = ((↑(blC p strict (d + 1) pc c (List.take k ss)).snd : Int)) := (by rw [blC, foldC_stop hp.2 (by omega) (by rw [stC_own (by with_reducible assumption)]; with_reducible assumption), stC_own (by with_reducible assumption)]); first | (rw [e1, e2]; done) | (rw [e1, e2]; rfl) | (simp only [e1, e2]; done) | (simp only [e1, e2]; rfl))

end Go.Proofs.Ytgpkdfefgcpbiaa

namespace Go.Proofs.Ytgpkdfefgcpbiaa
set_option linter.unusedVariables false
set_option linter.unusedSimpArgs false
open Go Go.RowKit

theorem c_l4BlockD (p : LProg) (strict : Bool) : ∀ (d : Nat) (ss : List LStmt) (pc : Int) (c : Nat), ss.all (stmtB p.vars.length p.arrays.length d) = true → c + nSs ss ≤ 4000000 → Ctr.ok Try.prog (blkC p d ss pc c strict) := by
  intro d
  induction d with
  | zero =>
    intro ss pc c h hc
    cases ss with
    | nil => exact c_l4Block0 p pc c strict
    | cons s r => simp [stmtB] at h
  | succ d ih => intro ss pc c h hc; exact c_l4BlockS p d strict ih ss pc c h hc
theorem progB_all {p : LProg} (h : progB p = true) : p.body.all (stmtB p.vars.length p.arrays.length 5) = true ∧ nSs p.body ≤ 60 := by
  simp only [progB, blockB, Bool.and_eq_true, decide_eq_true_eq] at h
  exact ⟨h.1.2, h.2⟩
theorem c_l4Body (p : LProg) (strict : Bool) (h : progB p = true) : Ctr.ok Try.prog (fnC 129 [pA 0, .ref 2, iA 0, iA 0, bA strict] (pS p) (.tup [iA (blC p strict 5 0 0 p.body).1, iA (blC p strict 5 0 0 p.body).2])) :=
  Ctr.dup (S := pS p) (S' := pS p) (d := .stmts p.body) (i := 2) (c_l4BlockD p strict 5 p.body 0 0 (progB_all h).1 (by have := (progB_all h).2; omega)) rfl rfl rfl (fun ρ h => by simp only [AV.vals, AV.val]; rw [show ρ 3 = ρ 2 from h]; rfl) rfl

/-- What a check answers. -/
def ckR (p : LProg) (strict : Bool) : Int × Int := if progB p then (if (blC p strict 5 0 0 p.body).1 = 0 then (0, -1) else ((blC p strict 5 0 0 p.body).1, ((blC p strict 5 0 0 p.body).2 : Int))) else (5, -1)
section
variable {p : LProg} {strict : Bool}
theorem ck_no (h : progB p = false) : ckR p strict = (5, -1) := by rw [ckR, h]; rfl
theorem ck_fine (h : progB p = true) (h1 : (blC p strict 5 0 0 p.body).1 = 0) : ckR p strict = (0, -1) := by rw [ckR, h, h1]; rfl
theorem ck_bad (h : progB p = true) (h1 : ¬ (blC p strict 5 0 0 p.body).1 = 0) : ckR p strict = ((blC p strict 5 0 0 p.body).1, ((blC p strict 5 0 0 p.body).2 : Int)) := by rw [ckR, h, if_neg h1]; rfl
end

set_option maxRecDepth 100000 in
theorem c_l4Check (p : LProg) (strict : Bool) (hb : szSs p.body ≤ 1048576) : Ctr.ok Try.prog (fnC 65 [pA 0, bA strict] (pS p) (.tup [iA (ckR p strict).1, iA (ckR p strict).2])) := by
  refine rx_enter 24 Try.func65 (by rfl) (by kernel_rfl) (by kernel_rfl) ?_
  intro ι φ ψ w0 w F ρ0 ρ a G
  replace G := Gam.at G [dI p.vars, dI p.arrays, dT p.body] [(0, pA 0), (1, bA strict)]
  refine wp_seq ?_
  refine rs0 G [0, 1, 2, 3] [dI p.vars, dI p.arrays, dT p.body, .box (pL 0)] [(1, bA strict), (2, .ptr 3 0), (4, iA 0), (5, iA 0)] ?_
  clear G; intro ρ a w G
  refine th_n ?_
  refine wp_seq ?_
  refine wp_seq ?_
  refine rs1s G ⟨[(1, _, [0, 1, 2])], [], []⟩ (calls_cons (c_ProgramValid (p) (by assumption)) calls_nil) trivial [(1, bA strict), (2, .ptr 3 0), (4, iA 0), (5, iA 0), (10, .v (.bool !progB p))] [] trivial ?_
  clear G; intro ρ a w G
  refine th_n ?_
  cases h0 : (!progB p)
  ·
   have q0 : (progB p) = true := (fun hq => (hq)) (Eq.mp (Bool.not_eq_false' _) h0)
   refine rF G (!progB p) (by assumption) ?_
   refine wp_skip ?_
   refine th_n ?_
   refine wp_seq ?_
   refine rs1 (dk := dkP) G ⟨[(4, _, [0, 1, 2])], [], []⟩ (calls_cons (c_l4Body (p) (strict) (by assumption)) calls_nil) trivial [0, 1, 2] [dI p.vars, dI p.arrays, dT p.body] [(4, iA 0), (5, iA 0), (6, iA (blC p strict 5 0 0 p.body).fst), (7, iA (↑(blC p strict 5 0 0 p.body).snd : Int))] [] trivial ?_
   clear G; intro ρ a w G
   refine th_n ?_
   refine wp_seq ?_
   refine wp_seq ?_
   refine rs0s G [(4, iA 0), (5, iA 0), (6, iA (blC p strict 5 0 0 p.body).fst), (7, iA (↑(blC p strict 5 0 0 p.body).snd : Int)), (20, bA ((blC p strict 5 0 0 p.body).fst == 0))] ?_
   clear G; intro ρ a w G
   refine th_n ?_
   cases h1 : ((blC p strict (5 : Nat) (0 : Int) (0 : Nat) p.body).fst == (0 : Int))
   ·
    have q1 : ¬ ((blC p strict 5 0 0 p.body).fst = 0) := ne_of_beq_false h1
    refine rF G ((blC p strict (5 : Nat) (0 : Int) (0 : Nat) p.body).fst == (0 : Int)) (by assumption) ?_
    refine wp_skip ?_
    refine th_n ?_
    refine wp_seq ?_
    refine rs0s G [(4, iA (blC p strict 5 0 0 p.body).fst), (5, iA (↑(blC p strict 5 0 0 p.body).snd : Int))] ?_
    clear G; intro ρ a w G
    refine th_n ?_
    refine wp_ret ?_
    exact rx_ret (v := .tup [iA (blC p strict 5 0 0 p.body).fst, iA (↑(blC p strict 5 0 0 p.body).snd : Int)]) G [0, 1, 2] (by kernel_rfl) (by kernel_rfl) (by kernel_rfl) (by have e1 : ((ckR p strict).fst : Int) = ((blC p strict 5 0 0 p.body).fst) := (by rw [ck_bad (by assumption) (by assumption)]; done); have e2 : ((ckR p strict).snd : Int) = ((↑(blC p strict 5 0 0 p.body).snd : Int)) := (by rw [ck_bad (by assumption) (by assumption)]; done); first | (rw [e1, e2]; done) | (rw [e1, e2]; rfl) | (simp only [e1, e2]; done) | (simp only [e1, e2]; rfl))
   ·
    have q1 : (blC p strict 5 0 0 p.body).fst = 0 := eq_of_beq h1
    refine rT G ((blC p strict (5 : Nat) (0 : Int) (0 : Nat) p.body).fst == (0 : Int)) (by assumption) ?_
    refine wp_seq ?_
    refine rs0s G [(4, iA (blC p strict 5 0 0 p.body).fst), (5, iA (-1)), (6, iA (blC p strict 5 0 0 p.body).fst), (7, iA (↑(blC p strict 5 0 0 p.body).snd : Int))] ?_
    clear G; intro ρ a w G
    refine th_n ?_
    refine wp_ret ?_
    refine th_r ?_
    exact rx_ret (v := .tup [iA (blC p strict 5 0 0 p.body).fst, iA (-1)]) G [0, 1, 2] (by kernel_rfl) (by kernel_rfl) (by kernel_rfl) (by have e1 : ((ckR p strict).fst : Int) = ((blC p strict 5 0 0 p.body).fst) := (by exact (congrArg Prod.fst (ck_fine (by assumption) (by assumption))).trans (Eq.symm (by assumption))); have e2 : ((ckR p strict).snd : Int) = (-1) := (by rw [ck_fine (by assumption) (by assumption)]; done); first | (rw [e1, e2]; done) | (rw [e1, e2]; rfl) | (simp only [e1, e2]; done) | (simp only [e1, e2]; rfl))
  ·
   have q0 : (progB p) = false := (fun hq => (hq)) (Eq.mp (Bool.not_eq_true' _) h0)
   refine rT G (!progB p) (by assumption) ?_
   refine wp_seq ?_
   refine rs0s G [(1, bA strict), (2, .ptr 3 0), (4, iA 5), (5, iA (-1))] ?_
   clear G; intro ρ a w G
   refine th_n ?_
   refine wp_ret ?_
   refine th_r ?_
   exact rx_ret (v := .tup [iA 5, iA (-1)]) G [0, 1, 2] (by kernel_rfl) (by kernel_rfl) (by kernel_rfl) (by have e1 : ((ckR p strict).fst : Int) = (5) := (by rw [ck_no (by assumption)]; done); have e2 : ((ckR p strict).snd : Int) = (-1) := (by rw [ck_no (by assumption)]; done); first | (rw [e1, e2]; done) | (rw [e1, e2]; rfl) | (simp only [e1, e2]; done) | (simp only [e1, e2]; rfl))

set_option maxRecDepth 100000 in
theorem c_CheckFlow (p : LProg) (hb : szSs p.body ≤ 1048576) : Ctr.ok Try.prog (fnC 124 [pA 0] (pS p) (.tup [iA (ckR p false).1, iA (ckR p false).2])) := by
  refine rx_enter 8 Try.func124 (by rfl) (by kernel_rfl) (by kernel_rfl) ?_
  intro ι φ ψ w0 w F ρ0 ρ a G
  replace G := Gam.at G [dI p.vars, dI p.arrays, dT p.body] [(0, pA 0)]
  refine wp_seq ?_
  refine rs0 G [0, 1, 2, 3] [dI p.vars, dI p.arrays, dT p.body, .box (pL 0)] [(1, .ptr 3 0), (2, iA 0), (3, iA 0)] ?_
  clear G; intro ρ a w G
  refine th_n ?_
  refine wp_seq ?_
  refine rs1 (dk := dkP) G ⟨[(1, _, [0, 1, 2])], [], []⟩ (calls_cons (c_l4Check (p) (false) (by assumption)) calls_nil) trivial [0, 1, 2] [dI p.vars, dI p.arrays, dT p.body] [(2, iA (ckR p false).fst), (3, iA (ckR p false).snd)] [] trivial ?_
  clear G; intro ρ a w G
  refine th_n ?_
  refine wp_ret ?_
  exact rx_ret (v := .tup [iA (ckR p false).fst, iA (ckR p false).snd]) G [0, 1, 2] (by kernel_rfl) (by kernel_rfl) (by kernel_rfl) (by kernel_rfl)

end Go.Proofs.Ytgpkdfefgcpbiaa

namespace Go.Proofs.Ytgpkdfefgcpbiaa
set_option linter.unusedVariables false
set_option linter.unusedSimpArgs false
open Go Go.RowKit

theorem c_label (p : LProg) (e : LExpr) (he : shapeB p.vars.length p.arrays.length 5 e = true) : Ctr.ok Try.prog (fnC 133 [pA 0, eA e 3] (pS p ++ eS e) (iA (labV p e))) := c_labelD p 5 e he
/-- What a statement writes, impl's order. -/
def stoR (p : LProg) (s : LStmt) (cx : Int) : Int := if s.kind = 2 then orI (orI (labV p s.value) cx) (labV p s.index) else orI (labV p s.value) cx
def iflR (p : LProg) (s : LStmt) (cx : Int) : Int :=
  if s.kind = 1 then if anI (orI (labV p s.value) cx) (p.vars.getD s.target.toNat 0) = 0 then 0 else 1
  else if s.kind = 2 then if anI (orI (orI (labV p s.value) cx) (labV p s.index)) (p.arrays.getD s.target.toNat 0) = 0 then 0 else 1
  else if s.kind = 5 then if (labOk (labV p s.value) && decide (labV p s.value ≤ 1)) = true ∧ cx = 0 then 0 else 2
  else 0
theorem sto_1 {p : LProg} {s : LStmt} {cx : Int} (k : ¬ s.kind = 2) : stoR p s cx = orI (labV p s.value) cx := if_neg k
theorem sto_2 {p : LProg} {s : LStmt} {cx : Int} (k : s.kind = 2) : stoR p s cx = orI (orI (labV p s.value) cx) (labV p s.index) := if_pos k

section
variable {p : LProg} {s : LStmt} {cx : Int}
theorem if1t (k : s.kind = 1) (h : (!(anI (stoR p s cx) (p.vars.getD s.target.toNat 0) == 0)) = false) : iflR p s cx = 0 := by
  rw [sto_1 (by omega)] at h
  rw [iflR, if_pos k, if_pos (by simpa using h)]
theorem if1f (k : s.kind = 1) (h : (!(anI (stoR p s cx) (p.vars.getD s.target.toNat 0) == 0)) = true) : iflR p s cx = 1 := by
  rw [sto_1 (by omega)] at h
  rw [iflR, if_pos k, if_neg (by simpa using h)]
theorem if2t (k : s.kind = 2) (h : (!(anI (stoR p s cx) (p.arrays.getD s.target.toNat 0) == 0)) = false) : iflR p s cx = 0 := by
  rw [sto_2 k] at h
  rw [iflR, if_neg (by omega), if_pos k, if_pos (by simpa using h)]
theorem if2f (k : s.kind = 2) (h : (!(anI (stoR p s cx) (p.arrays.getD s.target.toNat 0) == 0)) = true) : iflR p s cx = 1 := by
  rw [sto_2 k] at h
  rw [iflR, if_neg (by omega), if_pos k, if_neg (by simpa using h)]
theorem if5t (k : s.kind = 5) (h : (!(labOk (labV p s.value) && decide (labV p s.value ≤ 1))) = false) (h2 : cx = 0) : iflR p s cx = 0 := by
  rw [Bool.not_eq_false'] at h
  rw [iflR, if_neg (by omega), if_neg (by omega), if_pos k, if_pos ⟨h, h2⟩]
theorem if5f (k : s.kind = 5) (h : (!(labOk (labV p s.value) && decide (labV p s.value ≤ 1))) = true ∨ ¬ cx = 0) : iflR p s cx = 2 := by
  rw [iflR, if_neg (by omega), if_neg (by omega), if_pos k, if_neg]
  rintro ⟨a, b⟩
  rcases h with h | h
  · rw [a] at h; cases h
  · exact h b
theorem if0 (k : ¬ s.kind = 1 ∧ ¬ s.kind = 2 ∧ ¬ s.kind = 5) : iflR p s cx = 0 := by rw [iflR, if_neg k.1, if_neg k.2.1, if_neg k.2.2]
end

set_option maxRecDepth 100000 in
theorem c_stored (p : LProg) (s : LStmt) (cx : Int) (h : headB p.vars.length p.arrays.length s = true) (h4 : ¬ s.kind = 4) : Ctr.ok Try.prog (fnC 127 [pA 0, sA s 3, iA cx] (pS p ++ sS s) (iA (stoR p s cx))) := by
  refine rx_enter 24 Try.func127 (by rfl) (by kernel_rfl) (by kernel_rfl) ?_
  intro ι φ ψ w0 w F ρ0 ρ a G
  replace G := Gam.at G [dI p.vars, dI p.arrays, dT p.body, dE s.index.kids, dE s.value.kids, dT s.body, dT s.els] [(0, pA 0), (1, sA s 3), (2, iA cx)]
  refine wp_seq ?_
  refine rs0 G [0, 1, 2, 3, 4, 5, 6, 7, 15] [dI p.vars, dI p.arrays, dT p.body, dE s.index.kids, dE s.value.kids, dT s.body, dT s.els, .box (pL 0), .box (sL s 3)] [(2, iA cx), (3, .ptr 7 0), (4, .ptr 8 0), (6, iA 0)] ?_
  clear G; intro ρ a w G
  refine th_n ?_
  refine wp_seq ?_
  refine rs1s G ⟨[(3, _, [0, 1, 2, 4])], [], []⟩ (calls_cons (c_label (p) (s.value) (by exact hd_value h (by omega))) calls_nil) trivial [(3, .ptr 7 0), (4, .ptr 8 0), (6, iA 0), (7, iA (orI (labV p s.value) cx))] [] trivial ?_
  clear G; intro ρ a w G
  refine th_n ?_
  refine wp_seq ?_
  refine wp_seq ?_
  refine rs0s G [(3, .ptr 7 0), (4, .ptr 8 0), (6, iA 0), (7, iA (orI (labV p s.value) cx)), (16, bA (s.kind == 2))] ?_
  clear G; intro ρ a w G
  refine th_n ?_
  cases h0 : (s.kind == (2 : Int))
  ·
   have q0 : ¬ (s.kind = 2) := ne_of_beq_false h0
   refine rF G (s.kind == (2 : Int)) (by assumption) ?_
   refine wp_skip ?_
   refine th_n ?_
   refine wp_seq ?_
   refine rs0 G [0, 1, 2, 3, 4, 5, 6] [dI p.vars, dI p.arrays, dT p.body, dE s.index.kids, dE s.value.kids, dT s.body, dT s.els] [(6, iA (orI (labV p s.value) cx))] ?_
   clear G; intro ρ a w G
   refine th_n ?_
   refine wp_ret ?_
   exact rx_ret (v := iA (orI (labV p s.value) cx)) G [0, 1, 2, 3, 4, 5, 6] (by kernel_rfl) (by kernel_rfl) (by kernel_rfl) (by have e1 : (stoR p s cx : Int) = (orI (labV p s.value) cx) := (by exact sto_1 (by assumption)); first | (rw [e1]; done) | (rw [e1]; rfl) | (simp only [e1]; done) | (simp only [e1]; rfl))
  ·
   have q0 : s.kind = 2 := eq_of_beq h0
   refine rT G (s.kind == (2 : Int)) (by assumption) ?_
   refine rs1 (dk := dkP) G ⟨[(4, _, [0, 1, 2, 3])], [], []⟩ (calls_cons (c_label (p) (s.index) (by exact hd_index h (by assumption))) calls_nil) trivial [0, 1, 2, 3, 4, 5, 6] [dI p.vars, dI p.arrays, dT p.body, dE s.index.kids, dE s.value.kids, dT s.body, dT s.els] [(6, iA 0), (7, iA (orI (orI (labV p s.value) cx) (labV p s.index)))] [] trivial ?_
   clear G; intro ρ a w G
   refine th_n ?_
   refine wp_seq ?_
   refine rs0s G [(6, iA (orI (orI (labV p s.value) cx) (labV p s.index)))] ?_
   clear G; intro ρ a w G
   refine th_n ?_
   refine wp_ret ?_
   exact rx_ret (v := iA (orI (orI (labV p s.value) cx) (labV p s.index))) G [0, 1, 2, 3, 4, 5, 6] (by kernel_rfl) (by kernel_rfl) (by kernel_rfl) (by have e1 : (stoR p s cx : Int) = (orI (orI (labV p s.value) cx) (labV p s.index)) := (by exact sto_2 (by assumption)); first | (rw [e1]; done) | (rw [e1]; rfl) | (simp only [e1]; done) | (simp only [e1]; rfl))

set_option maxHeartbeats 4000000 in
set_option maxRecDepth 100000 in
theorem c_flow (p : LProg) (s : LStmt) (cx : Int) (h : headB p.vars.length p.arrays.length s = true) : Ctr.ok Try.prog (fnC 131 [pA 0, sA s 3, iA cx] (pS p ++ sS s) (iA (iflR p s cx))) := by
  refine rx_enter 59 Try.func131 (by rfl) (by kernel_rfl) (by kernel_rfl) ?_
  intro ι φ ψ w0 w F ρ0 ρ a G
  replace G := Gam.at G [dI p.vars, dI p.arrays, dT p.body, dE s.index.kids, dE s.value.kids, dT s.body, dT s.els] [(0, pA 0), (1, sA s 3), (2, iA cx)]
  refine wp_seq ?_
  refine rs0 G [0, 1, 2, 3, 4, 5, 6, 7, 15] [dI p.vars, dI p.arrays, dT p.body, dE s.index.kids, dE s.value.kids, dT s.body, dT s.els, .box (pL 0), .box (sL s 3)] [(2, iA cx), (3, .ptr 7 0), (4, .ptr 8 0), (6, iA 0)] ?_
  clear G; intro ρ a w G
  refine th_n ?_
  refine wp_seq ?_
  refine wp_block ?_
  refine wp_seq ?_
  cases h0 : (s.kind == (1 : Int))
  ·
   have q0 : ¬ (s.kind = 1) := ne_of_beq_false h0
   refine rd1s G ⟨[], [(s.kind == (1 : Int), false)], [(4, 0), (5, 0), (6, 0), (7, 0), (8, 0), (9, 0), (10, 0), (11, 0), (12, 0), (13, 0), (14, 0), (15, 0), (1016, 0)]⟩ calls_nil ⟨(by assumption), trivial⟩ [0, 1, 3, 7, 15, 15, 15, 127, 15, 271, 15, 1039, 3855, 7951, 16383, 32767, 65535, 131071] [(2, iA cx), (3, .ptr 7 0), (4, .ptr 8 0), (6, iA 0), (7, bA false)] [] trivial ?_
   clear G; intro ρ a w G
   refine th_n ?_
   refine rF G (false) (by kernel_rfl) ?_
   refine wp_seq ?_
   cases h1 : (s.kind == (2 : Int))
   ·
    have q1 : ¬ (s.kind = 2) := ne_of_beq_false h1
    refine rd1s G ⟨[], [(s.kind == (2 : Int), false)], [(4, 0), (5, 0), (6, 0), (7, 0), (8, 0), (9, 0), (10, 0), (11, 0), (12, 0), (13, 0), (14, 0), (15, 0), (1016, 0)]⟩ calls_nil ⟨(by assumption), trivial⟩ [0, 1, 3, 7, 15, 15, 15, 127, 15, 271, 15, 1039, 3855, 7951, 16383, 32767, 65535, 131071] [(2, iA cx), (3, .ptr 7 0), (4, .ptr 8 0), (6, iA 0), (25, bA false)] [] trivial ?_
    clear G; intro ρ a w G
    refine th_n ?_
    refine rF G (false) (by kernel_rfl) ?_
    refine wp_seq ?_
    cases h2 : (s.kind == (5 : Int))
    ·
     have q2 : ¬ (s.kind = 5) := ne_of_beq_false h2
     refine rs1 (dk := dkP) G ⟨[], [(s.kind == (5 : Int), false)], [(4, 0), (5, 0), (6, 0), (7, 0), (8, 0), (9, 0), (10, 0), (13, 0), (1014, 0)]⟩ calls_nil ⟨(by assumption), trivial⟩ [0, 1, 2, 3, 4, 5, 6] [dI p.vars, dI p.arrays, dT p.body, dE s.index.kids, dE s.value.kids, dT s.body, dT s.els] [(6, iA 0), (43, bA false)] [] trivial ?_
     clear G; intro ρ a w G
     refine th_n ?_
     refine rF G (false) (by kernel_rfl) ?_
     refine wp_skip ?_
     refine bl_n ?_
     refine th_n ?_
     refine wp_seq ?_
     refine rs0s G [(6, iA 0)] ?_
     clear G; intro ρ a w G
     refine th_n ?_
     refine wp_ret ?_
     exact rx_ret (v := iA 0) G [0, 1, 2, 3, 4, 5, 6] (by kernel_rfl) (by kernel_rfl) (by kernel_rfl) (by have e1 : (iflR p s cx : Int) = (0) := (by exact if0 (by omega)); first | (rw [e1]; done) | (rw [e1]; rfl) | (simp only [e1]; done) | (simp only [e1]; rfl))
    ·
     have q2 : s.kind = 5 := eq_of_beq h2
     cases h3 : (!(labOk (labV p s.value) && decide (labV p s.value ≤ (1 : Int))))
     ·
      have q3 : ((labOk (labV p s.value)) = true) ∧ (labV p s.value ≤ 1) := (fun hq => And.imp (fun hq => (hq)) (fun hq => of_decide_eq_true (hq)) (Bool.and_eq_true_iff.1 (hq))) (Eq.mp (Bool.not_eq_false' _) h3)
      refine rs1 (dk := dkP) G ⟨[(7, _, [0, 1, 2, 4]), (8, _, [])], [(s.kind == (5 : Int), true), (!(labOk (labV p s.value) && decide (labV p s.value ≤ (1 : Int))), false)], [(4, 0), (5, 0), (6, 0), (7, 0), (8, 0), (9, 0), (10, 0), (11, 1), (12, 1), (13, 0), (1013, 1), (1014, 0)]⟩ (calls_cons (c_label (p) (s.value) (by exact hd_value h (by omega))) (calls_cons (c_iLabelTrusted (labV p s.value)) calls_nil)) ⟨(by assumption), (by assumption), trivial⟩ [0, 1, 2, 3, 4, 5, 6] [dI p.vars, dI p.arrays, dT p.body, dE s.index.kids, dE s.value.kids, dT s.body, dT s.els] [(6, iA 0), (43, bA (cx != 0))] [] trivial ?_
      clear G; intro ρ a w G
      refine th_n ?_
      cases h4 : (cx != (0 : Int))
      ·
       have q4 : cx = 0 := (by simpa using h4)
       refine rF G (cx != (0 : Int)) (by assumption) ?_
       refine wp_skip ?_
       refine bl_n ?_
       refine th_n ?_
       refine wp_seq ?_
       refine rs0s G [(6, iA 0)] ?_
       clear G; intro ρ a w G
       refine th_n ?_
       refine wp_ret ?_
       exact rx_ret (v := iA 0) G [0, 1, 2, 3, 4, 5, 6] (by kernel_rfl) (by kernel_rfl) (by kernel_rfl) (by have e1 : (iflR p s cx : Int) = (0) := (by exact if5t (by with_reducible assumption) (by with_reducible assumption) (by with_reducible assumption)); first | (rw [e1]; done) | (rw [e1]; rfl) | (simp only [e1]; done) | (simp only [e1]; rfl))
      ·
       have q4 : ¬ (cx = 0) := bne_iff_ne.1 h4
       refine rT G (cx != (0 : Int)) (by assumption) ?_
       refine wp_seq ?_
       refine rs0s G [(6, iA 2)] ?_
       clear G; intro ρ a w G
       refine th_n ?_
       refine wp_ret ?_
       refine bl_r ?_
       refine th_r ?_
       exact rx_ret (v := iA 2) G [0, 1, 2, 3, 4, 5, 6] (by kernel_rfl) (by kernel_rfl) (by kernel_rfl) (by have e1 : (iflR p s cx : Int) = (2) := (by exact if5f (by with_reducible assumption) (.inr (by with_reducible assumption))); first | (rw [e1]; done) | (rw [e1]; rfl) | (simp only [e1]; done) | (simp only [e1]; rfl))
     ·
      have q3 : ((labOk (labV p s.value)) = false) ∨ (¬ (labV p s.value ≤ 1)) := (fun hq => Or.imp (fun hq => (hq)) (fun hq => of_decide_eq_false (hq)) (Bool.and_eq_false_iff.1 (hq))) (Eq.mp (Bool.not_eq_true' _) h3)
      refine rs1 (dk := dkP) G ⟨[(7, _, [0, 1, 2, 4]), (8, _, [])], [(s.kind == (5 : Int), true), (!(labOk (labV p s.value) && decide (labV p s.value ≤ (1 : Int))), true)], [(4, 0), (5, 0), (6, 0), (7, 0), (8, 0), (9, 0), (10, 0), (11, 1), (12, 1), (13, 0), (1013, 1), (1014, 0)]⟩ (calls_cons (c_label (p) (s.value) (by exact hd_value h (by omega))) (calls_cons (c_iLabelTrusted (labV p s.value)) calls_nil)) ⟨(by assumption), (by assumption), trivial⟩ [0, 1, 2, 3, 4, 5, 6] [dI p.vars, dI p.arrays, dT p.body, dE s.index.kids, dE s.value.kids, dT s.body, dT s.els] [(6, iA 0), (43, bA true)] [] trivial ?_
      clear G; intro ρ a w G
      refine th_n ?_
      refine rT G (true) (by kernel_rfl) ?_
      refine wp_seq ?_
      refine rs0s G [(6, iA 2)] ?_
      clear G; intro ρ a w G
      refine th_n ?_
      refine wp_ret ?_
      refine bl_r ?_
      refine th_r ?_
      exact rx_ret (v := iA 2) G [0, 1, 2, 3, 4, 5, 6] (by kernel_rfl) (by kernel_rfl) (by kernel_rfl) (by have e1 : (iflR p s cx : Int) = (2) := (by exact if5f (by with_reducible assumption) (.inl (by with_reducible assumption))); first | (rw [e1]; done) | (rw [e1]; rfl) | (simp only [e1]; done) | (simp only [e1]; rfl))
   ·
    have q1 : s.kind = 2 := eq_of_beq h1
    refine rd1s G ⟨[(7, _, [0, 1, 2, 3, 4, 5, 6]), (14, _, [])], [(s.kind == (2 : Int), true)], [(4, 0), (5, 0), (6, 0), (7, 0), (8, 0), (9, 0), (10, 0), (11, 0), (12, 0), (13, 0), (14, 0), (15, 0), (1016, 0)]⟩ (calls_cons (c_stored (p) (s) (cx) (by assumption) (by omega)) (calls_cons (c_flows (stoR p s cx) (p.arrays.getD s.target.toNat 0)) calls_nil)) ⟨(by assumption), trivial⟩ [0, 1, 3, 7, 15, 15, 15, 127, 15, 271, 15, 1039, 3855, 7951, 16383, 32767, 65535, 131071] [(2, iA cx), (3, .ptr 7 0), (4, .ptr 8 0), (6, iA 0), (25, .v (.bool !anI (stoR p s cx) (p.arrays.getD s.target.toNat 0) == 0))] [(0 : Int) ≤ s.target, s.target < (↑p.arrays.length : Int), s.target.toNat < p.arrays.length] ⟨(by exact (hd_arr h (by omega)).1), (by exact (hd_arr h (by omega)).2.1), (by exact (hd_arr h (by omega)).2.2), trivial⟩ ?_
    clear G; intro ρ a w G
    refine th_n ?_
    cases h5 : (!anI (stoR p s cx) (p.arrays.getD s.target.toNat (0 : Int)) == (0 : Int))
    ·
     have q5 : anI (stoR p s cx) (p.arrays.getD s.target.toNat 0) = 0 := (fun hq => eq_of_beq (hq)) (Eq.mp (Bool.not_eq_false' _) h5)
     refine rF G (!anI (stoR p s cx) (p.arrays.getD s.target.toNat (0 : Int)) == (0 : Int)) (by assumption) ?_
     refine wp_seq ?_
     cases h6 : (s.kind == (5 : Int))
     ·
      have q6 : ¬ (s.kind = 5) := ne_of_beq_false h6
      refine rs1 (dk := dkP) G ⟨[], [(s.kind == (5 : Int), false)], [(4, 0), (5, 0), (6, 0), (7, 0), (8, 0), (9, 0), (10, 0), (13, 0), (1014, 0)]⟩ calls_nil ⟨(by assumption), trivial⟩ [0, 1, 2, 3, 4, 5, 6] [dI p.vars, dI p.arrays, dT p.body, dE s.index.kids, dE s.value.kids, dT s.body, dT s.els] [(6, iA 0), (43, bA false)] [] trivial ?_
      clear G; intro ρ a w G
      refine th_n ?_
      refine rF G (false) (by kernel_rfl) ?_
      refine wp_skip ?_
      refine bl_n ?_
      refine th_n ?_
      refine wp_seq ?_
      refine rs0s G [(6, iA 0)] ?_
      clear G; intro ρ a w G
      refine th_n ?_
      refine wp_ret ?_
      exact rx_ret (v := iA 0) G [0, 1, 2, 3, 4, 5, 6] (by kernel_rfl) (by kernel_rfl) (by kernel_rfl) (by have e1 : (iflR p s cx : Int) = (0) := (by exact if2t (by with_reducible assumption) (by with_reducible assumption)); first | (rw [e1]; done) | (rw [e1]; rfl) | (simp only [e1]; done) | (simp only [e1]; rfl))
     ·
      have q6 : s.kind = 5 := eq_of_beq h6
      cases h7 : (!(labOk (labV p s.value) && decide (labV p s.value ≤ (1 : Int))))
      ·
       have q7 : ((labOk (labV p s.value)) = true) ∧ (labV p s.value ≤ 1) := (fun hq => And.imp (fun hq => (hq)) (fun hq => of_decide_eq_true (hq)) (Bool.and_eq_true_iff.1 (hq))) (Eq.mp (Bool.not_eq_false' _) h7)
       refine rs1 (dk := dkP) G ⟨[(7, _, [0, 1, 2, 4]), (8, _, [])], [(s.kind == (5 : Int), true), (!(labOk (labV p s.value) && decide (labV p s.value ≤ (1 : Int))), false)], [(4, 0), (5, 0), (6, 0), (7, 0), (8, 0), (9, 0), (10, 0), (11, 1), (12, 1), (13, 0), (1013, 1), (1014, 0)]⟩ (calls_cons (c_label (p) (s.value) (by exact hd_value h (by omega))) (calls_cons (c_iLabelTrusted (labV p s.value)) calls_nil)) ⟨(by assumption), (by assumption), trivial⟩ [0, 1, 2, 3, 4, 5, 6] [dI p.vars, dI p.arrays, dT p.body, dE s.index.kids, dE s.value.kids, dT s.body, dT s.els] [(6, iA 0), (43, bA (cx != 0))] [] trivial ?_
       clear G; intro ρ a w G
       refine th_n ?_
       cases h8 : (cx != (0 : Int))
       ·
        have q8 : cx = 0 := (by simpa using h8)
        refine rF G (cx != (0 : Int)) (by assumption) ?_
        refine wp_skip ?_
        refine bl_n ?_
        refine th_n ?_
        refine wp_seq ?_
        refine rs0s G [(6, iA 0)] ?_
        clear G; intro ρ a w G
        refine th_n ?_
        refine wp_ret ?_
        exact rx_ret (v := iA 0) G [0, 1, 2, 3, 4, 5, 6] (by kernel_rfl) (by kernel_rfl) (by kernel_rfl) (by have e1 : (iflR p s cx : Int) = (0) := (by exact if0 (by omega)); first | (rw [e1]; done) | (rw [e1]; rfl) | (simp only [e1]; done) | (simp only [e1]; rfl))
       ·
        have q8 : ¬ (cx = 0) := bne_iff_ne.1 h8
        refine rT G (cx != (0 : Int)) (by assumption) ?_
        refine wp_seq ?_
        refine rs0s G [(6, iA 2)] ?_
        clear G; intro ρ a w G
        refine th_n ?_
        refine wp_ret ?_
        refine bl_r ?_
        refine th_r ?_
        exact rx_ret (v := iA 2) G [0, 1, 2, 3, 4, 5, 6] (by kernel_rfl) (by kernel_rfl) (by kernel_rfl) (by have e1 : (iflR p s cx : Int) = (2) := (by exact if5f (by with_reducible assumption) (.inr (by with_reducible assumption))); first | (rw [e1]; done) | (rw [e1]; rfl) | (simp only [e1]; done) | (simp only [e1]; rfl))
      ·
       have q7 : ((labOk (labV p s.value)) = false) ∨ (¬ (labV p s.value ≤ 1)) := (fun hq => Or.imp (fun hq => (hq)) (fun hq => of_decide_eq_false (hq)) (Bool.and_eq_false_iff.1 (hq))) (Eq.mp (Bool.not_eq_true' _) h7)
       refine rs1 (dk := dkP) G ⟨[(7, _, [0, 1, 2, 4]), (8, _, [])], [(s.kind == (5 : Int), true), (!(labOk (labV p s.value) && decide (labV p s.value ≤ (1 : Int))), true)], [(4, 0), (5, 0), (6, 0), (7, 0), (8, 0), (9, 0), (10, 0), (11, 1), (12, 1), (13, 0), (1013, 1), (1014, 0)]⟩ (calls_cons (c_label (p) (s.value) (by exact hd_value h (by omega))) (calls_cons (c_iLabelTrusted (labV p s.value)) calls_nil)) ⟨(by assumption), (by assumption), trivial⟩ [0, 1, 2, 3, 4, 5, 6] [dI p.vars, dI p.arrays, dT p.body, dE s.index.kids, dE s.value.kids, dT s.body, dT s.els] [(6, iA 0), (43, bA true)] [] trivial ?_
       clear G; intro ρ a w G
       refine th_n ?_
       refine rT G (true) (by kernel_rfl) ?_
       refine wp_seq ?_
       refine rs0s G [(6, iA 2)] ?_
       clear G; intro ρ a w G
       refine th_n ?_
       refine wp_ret ?_
       refine bl_r ?_
       refine th_r ?_
       exact rx_ret (v := iA 2) G [0, 1, 2, 3, 4, 5, 6] (by kernel_rfl) (by kernel_rfl) (by kernel_rfl) (by have e1 : (iflR p s cx : Int) = (2) := (by exact if5f (by with_reducible assumption) (.inl (by with_reducible assumption))); first | (rw [e1]; done) | (rw [e1]; rfl) | (simp only [e1]; done) | (simp only [e1]; rfl))
    ·
     have q5 : ¬ (anI (stoR p s cx) (p.arrays.getD s.target.toNat 0) = 0) := (fun hq => ne_of_beq_false (hq)) (Eq.mp (Bool.not_eq_true' _) h5)
     refine rT G (!anI (stoR p s cx) (p.arrays.getD s.target.toNat (0 : Int)) == (0 : Int)) (by assumption) ?_
     refine wp_seq ?_
     refine rs0 G [0, 1, 2, 3, 4, 5, 6] [dI p.vars, dI p.arrays, dT p.body, dE s.index.kids, dE s.value.kids, dT s.body, dT s.els] [(6, iA 1)] ?_
     clear G; intro ρ a w G
     refine th_n ?_
     refine wp_ret ?_
     refine bl_r ?_
     refine th_r ?_
     exact rx_ret (v := iA 1) G [0, 1, 2, 3, 4, 5, 6] (by kernel_rfl) (by kernel_rfl) (by kernel_rfl) (by have e1 : (iflR p s cx : Int) = (1) := (by exact if2f (by with_reducible assumption) (by with_reducible assumption)); first | (rw [e1]; done) | (rw [e1]; rfl) | (simp only [e1]; done) | (simp only [e1]; rfl))
  ·
   have q0 : s.kind = 1 := eq_of_beq h0
   refine rd1s G ⟨[(7, _, [0, 1, 2, 3, 4, 5, 6]), (14, _, [])], [(s.kind == (1 : Int), true)], [(4, 0), (5, 0), (6, 0), (7, 0), (8, 0), (9, 0), (10, 0), (11, 0), (12, 0), (13, 0), (14, 0), (15, 0), (1016, 0)]⟩ (calls_cons (c_stored (p) (s) (cx) (by assumption) (by omega)) (calls_cons (c_flows (stoR p s cx) (p.vars.getD s.target.toNat 0)) calls_nil)) ⟨(by assumption), trivial⟩ [0, 1, 3, 7, 15, 15, 15, 127, 15, 271, 15, 1039, 3855, 7951, 16383, 32767, 65535, 131071] [(2, iA cx), (3, .ptr 7 0), (4, .ptr 8 0), (6, iA 0), (7, .v (.bool !anI (stoR p s cx) (p.vars.getD s.target.toNat 0) == 0))] [(0 : Int) ≤ s.target, s.target < (↑p.vars.length : Int), s.target.toNat < p.vars.length] ⟨(by exact (hd_var h (by omega)).1), (by exact (hd_var h (by omega)).2.1), (by exact (hd_var h (by omega)).2.2), trivial⟩ ?_
   clear G; intro ρ a w G
   refine th_n ?_
   cases h9 : (!anI (stoR p s cx) (p.vars.getD s.target.toNat (0 : Int)) == (0 : Int))
   ·
    have q9 : anI (stoR p s cx) (p.vars.getD s.target.toNat 0) = 0 := (fun hq => eq_of_beq (hq)) (Eq.mp (Bool.not_eq_false' _) h9)
    refine rF G (!anI (stoR p s cx) (p.vars.getD s.target.toNat (0 : Int)) == (0 : Int)) (by assumption) ?_
    refine wp_seq ?_
    cases h10 : (s.kind == (2 : Int))
    ·
     have q10 : ¬ (s.kind = 2) := ne_of_beq_false h10
     refine rd1s G ⟨[], [(s.kind == (2 : Int), false)], [(4, 0), (5, 0), (6, 0), (7, 0), (8, 0), (9, 0), (10, 0), (11, 0), (12, 0), (13, 0), (14, 0), (15, 0), (1016, 0)]⟩ calls_nil ⟨(by assumption), trivial⟩ [0, 1, 3, 7, 15, 15, 15, 127, 15, 271, 15, 1039, 3855, 7951, 16383, 32767, 65535, 131071] [(2, iA cx), (3, .ptr 7 0), (4, .ptr 8 0), (6, iA 0), (25, bA false)] [] trivial ?_
     clear G; intro ρ a w G
     refine th_n ?_
     refine rF G (false) (by kernel_rfl) ?_
     refine wp_seq ?_
     cases h11 : (s.kind == (5 : Int))
     ·
      have q11 : ¬ (s.kind = 5) := ne_of_beq_false h11
      refine rs1 (dk := dkP) G ⟨[], [(s.kind == (5 : Int), false)], [(4, 0), (5, 0), (6, 0), (7, 0), (8, 0), (9, 0), (10, 0), (13, 0), (1014, 0)]⟩ calls_nil ⟨(by assumption), trivial⟩ [0, 1, 2, 3, 4, 5, 6] [dI p.vars, dI p.arrays, dT p.body, dE s.index.kids, dE s.value.kids, dT s.body, dT s.els] [(6, iA 0), (43, bA false)] [] trivial ?_
      clear G; intro ρ a w G
      refine th_n ?_
      refine rF G (false) (by kernel_rfl) ?_
      refine wp_skip ?_
      refine bl_n ?_
      refine th_n ?_
      refine wp_seq ?_
      refine rs0s G [(6, iA 0)] ?_
      clear G; intro ρ a w G
      refine th_n ?_
      refine wp_ret ?_
      exact rx_ret (v := iA 0) G [0, 1, 2, 3, 4, 5, 6] (by kernel_rfl) (by kernel_rfl) (by kernel_rfl) (by have e1 : (iflR p s cx : Int) = (0) := (by exact if1t (by with_reducible assumption) (by with_reducible assumption)); first | (rw [e1]; done) | (rw [e1]; rfl) | (simp only [e1]; done) | (simp only [e1]; rfl))
     ·
      have q11 : s.kind = 5 := eq_of_beq h11
      cases h12 : (!(labOk (labV p s.value) && decide (labV p s.value ≤ (1 : Int))))
      ·
       have q12 : ((labOk (labV p s.value)) = true) ∧ (labV p s.value ≤ 1) := (fun hq => And.imp (fun hq => (hq)) (fun hq => of_decide_eq_true (hq)) (Bool.and_eq_true_iff.1 (hq))) (Eq.mp (Bool.not_eq_false' _) h12)
       refine rs1 (dk := dkP) G ⟨[(7, _, [0, 1, 2, 4]), (8, _, [])], [(s.kind == (5 : Int), true), (!(labOk (labV p s.value) && decide (labV p s.value ≤ (1 : Int))), false)], [(4, 0), (5, 0), (6, 0), (7, 0), (8, 0), (9, 0), (10, 0), (11, 1), (12, 1), (13, 0), (1013, 1), (1014, 0)]⟩ (calls_cons (c_label (p) (s.value) (by exact hd_value h (by omega))) (calls_cons (c_iLabelTrusted (labV p s.value)) calls_nil)) ⟨(by assumption), (by assumption), trivial⟩ [0, 1, 2, 3, 4, 5, 6] [dI p.vars, dI p.arrays, dT p.body, dE s.index.kids, dE s.value.kids, dT s.body, dT s.els] [(6, iA 0), (43, bA (cx != 0))] [] trivial ?_
       clear G; intro ρ a w G
       refine th_n ?_
       cases h13 : (cx != (0 : Int))
       ·
        have q13 : cx = 0 := (by simpa using h13)
        refine rF G (cx != (0 : Int)) (by assumption) ?_
        refine wp_skip ?_
        refine bl_n ?_
        refine th_n ?_
        refine wp_seq ?_
        refine rs0s G [(6, iA 0)] ?_
        clear G; intro ρ a w G
        refine th_n ?_
        refine wp_ret ?_
        exact rx_ret (v := iA 0) G [0, 1, 2, 3, 4, 5, 6] (by kernel_rfl) (by kernel_rfl) (by kernel_rfl) (by have e1 : (iflR p s cx : Int) = (0) := (by exact if0 (by omega)); first | (rw [e1]; done) | (rw [e1]; rfl) | (simp only [e1]; done) | (simp only [e1]; rfl))
       ·
        have q13 : ¬ (cx = 0) := bne_iff_ne.1 h13
        refine rT G (cx != (0 : Int)) (by assumption) ?_
        refine wp_seq ?_
        refine rs0s G [(6, iA 2)] ?_
        clear G; intro ρ a w G
        refine th_n ?_
        refine wp_ret ?_
        refine bl_r ?_
        refine th_r ?_
        exact rx_ret (v := iA 2) G [0, 1, 2, 3, 4, 5, 6] (by kernel_rfl) (by kernel_rfl) (by kernel_rfl) (by have e1 : (iflR p s cx : Int) = (2) := (by exact if5f (by with_reducible assumption) (.inr (by with_reducible assumption))); first | (rw [e1]; done) | (rw [e1]; rfl) | (simp only [e1]; done) | (simp only [e1]; rfl))
      ·
       have q12 : ((labOk (labV p s.value)) = false) ∨ (¬ (labV p s.value ≤ 1)) := (fun hq => Or.imp (fun hq => (hq)) (fun hq => of_decide_eq_false (hq)) (Bool.and_eq_false_iff.1 (hq))) (Eq.mp (Bool.not_eq_true' _) h12)
       refine rs1 (dk := dkP) G ⟨[(7, _, [0, 1, 2, 4]), (8, _, [])], [(s.kind == (5 : Int), true), (!(labOk (labV p s.value) && decide (labV p s.value ≤ (1 : Int))), true)], [(4, 0), (5, 0), (6, 0), (7, 0), (8, 0), (9, 0), (10, 0), (11, 1), (12, 1), (13, 0), (1013, 1), (1014, 0)]⟩ (calls_cons (c_label (p) (s.value) (by exact hd_value h (by omega))) (calls_cons (c_iLabelTrusted (labV p s.value)) calls_nil)) ⟨(by assumption), (by assumption), trivial⟩ [0, 1, 2, 3, 4, 5, 6] [dI p.vars, dI p.arrays, dT p.body, dE s.index.kids, dE s.value.kids, dT s.body, dT s.els] [(6, iA 0), (43, bA true)] [] trivial ?_
       clear G; intro ρ a w G
       refine th_n ?_
       refine rT G (true) (by kernel_rfl) ?_
       refine wp_seq ?_
       refine rs0s G [(6, iA 2)] ?_
       clear G; intro ρ a w G
       refine th_n ?_
       refine wp_ret ?_
       refine bl_r ?_
       refine th_r ?_
       exact rx_ret (v := iA 2) G [0, 1, 2, 3, 4, 5, 6] (by kernel_rfl) (by kernel_rfl) (by kernel_rfl) (by have e1 : (iflR p s cx : Int) = (2) := (by exact if5f (by with_reducible assumption) (.inl (by with_reducible assumption))); first | (rw [e1]; done) | (rw [e1]; rfl) | (simp only [e1]; done) | (simp only [e1]; rfl))
    ·
     have q10 : s.kind = 2 := eq_of_beq h10
     refine rd1s G ⟨[(7, _, [0, 1, 2, 3, 4, 5, 6]), (14, _, [])], [(s.kind == (2 : Int), true)], [(4, 0), (5, 0), (6, 0), (7, 0), (8, 0), (9, 0), (10, 0), (11, 0), (12, 0), (13, 0), (14, 0), (15, 0), (1016, 0)]⟩ (calls_cons (c_stored (p) (s) (cx) (by assumption) (by omega)) (calls_cons (c_flows (stoR p s cx) (p.arrays.getD s.target.toNat 0)) calls_nil)) ⟨(by assumption), trivial⟩ [0, 1, 3, 7, 15, 15, 15, 127, 15, 271, 15, 1039, 3855, 7951, 16383, 32767, 65535, 131071] [(2, iA cx), (3, .ptr 7 0), (4, .ptr 8 0), (6, iA 0), (25, .v (.bool !anI (stoR p s cx) (p.arrays.getD s.target.toNat 0) == 0))] [(0 : Int) ≤ s.target, s.target < (↑p.arrays.length : Int), s.target.toNat < p.arrays.length] ⟨(by exact (hd_arr h (by omega)).1), (by exact (hd_arr h (by omega)).2.1), (by exact (hd_arr h (by omega)).2.2), trivial⟩ ?_
     clear G; intro ρ a w G
     refine th_n ?_
     cases h14 : (!anI (stoR p s cx) (p.arrays.getD s.target.toNat (0 : Int)) == (0 : Int))
     ·
      have q14 : anI (stoR p s cx) (p.arrays.getD s.target.toNat 0) = 0 := (fun hq => eq_of_beq (hq)) (Eq.mp (Bool.not_eq_false' _) h14)
      refine rF G (!anI (stoR p s cx) (p.arrays.getD s.target.toNat (0 : Int)) == (0 : Int)) (by assumption) ?_
      refine wp_seq ?_
      cases h15 : (s.kind == (5 : Int))
      ·
       have q15 : ¬ (s.kind = 5) := ne_of_beq_false h15
       refine rs1 (dk := dkP) G ⟨[], [(s.kind == (5 : Int), false)], [(4, 0), (5, 0), (6, 0), (7, 0), (8, 0), (9, 0), (10, 0), (13, 0), (1014, 0)]⟩ calls_nil ⟨(by assumption), trivial⟩ [0, 1, 2, 3, 4, 5, 6] [dI p.vars, dI p.arrays, dT p.body, dE s.index.kids, dE s.value.kids, dT s.body, dT s.els] [(6, iA 0), (43, bA false)] [] trivial ?_
       clear G; intro ρ a w G
       refine th_n ?_
       refine rF G (false) (by kernel_rfl) ?_
       refine wp_skip ?_
       refine bl_n ?_
       refine th_n ?_
       refine wp_seq ?_
       refine rs0s G [(6, iA 0)] ?_
       clear G; intro ρ a w G
       refine th_n ?_
       refine wp_ret ?_
       exact rx_ret (v := iA 0) G [0, 1, 2, 3, 4, 5, 6] (by kernel_rfl) (by kernel_rfl) (by kernel_rfl) (by have e1 : (iflR p s cx : Int) = (0) := (by exact if0 (by omega)); first | (rw [e1]; done) | (rw [e1]; rfl) | (simp only [e1]; done) | (simp only [e1]; rfl))
      ·
       have q15 : s.kind = 5 := eq_of_beq h15
       cases h16 : (!(labOk (labV p s.value) && decide (labV p s.value ≤ (1 : Int))))
       ·
        have q16 : ((labOk (labV p s.value)) = true) ∧ (labV p s.value ≤ 1) := (fun hq => And.imp (fun hq => (hq)) (fun hq => of_decide_eq_true (hq)) (Bool.and_eq_true_iff.1 (hq))) (Eq.mp (Bool.not_eq_false' _) h16)
        refine rs1 (dk := dkP) G ⟨[(7, _, [0, 1, 2, 4]), (8, _, [])], [(s.kind == (5 : Int), true), (!(labOk (labV p s.value) && decide (labV p s.value ≤ (1 : Int))), false)], [(4, 0), (5, 0), (6, 0), (7, 0), (8, 0), (9, 0), (10, 0), (11, 1), (12, 1), (13, 0), (1013, 1), (1014, 0)]⟩ (calls_cons (c_label (p) (s.value) (by exact hd_value h (by omega))) (calls_cons (c_iLabelTrusted (labV p s.value)) calls_nil)) ⟨(by assumption), (by assumption), trivial⟩ [0, 1, 2, 3, 4, 5, 6] [dI p.vars, dI p.arrays, dT p.body, dE s.index.kids, dE s.value.kids, dT s.body, dT s.els] [(6, iA 0), (43, bA (cx != 0))] [] trivial ?_
        clear G; intro ρ a w G
        refine th_n ?_
        cases h17 : (cx != (0 : Int))
        ·
         have q17 : cx = 0 := (by simpa using h17)
         refine rF G (cx != (0 : Int)) (by assumption) ?_
         refine wp_skip ?_
         refine bl_n ?_
         refine th_n ?_
         refine wp_seq ?_
         refine rs0s G [(6, iA 0)] ?_
         clear G; intro ρ a w G
         refine th_n ?_
         refine wp_ret ?_
         exact rx_ret (v := iA 0) G [0, 1, 2, 3, 4, 5, 6] (by kernel_rfl) (by kernel_rfl) (by kernel_rfl) (by have e1 : (iflR p s cx : Int) = (0) := (by exact if0 (by omega)); first | (rw [e1]; done) | (rw [e1]; rfl) | (simp only [e1]; done) | (simp only [e1]; rfl))
        ·
         have q17 : ¬ (cx = 0) := bne_iff_ne.1 h17
         refine rT G (cx != (0 : Int)) (by assumption) ?_
         refine wp_seq ?_
         refine rs0s G [(6, iA 2)] ?_
         clear G; intro ρ a w G
         refine th_n ?_
         refine wp_ret ?_
         refine bl_r ?_
         refine th_r ?_
         exact rx_ret (v := iA 2) G [0, 1, 2, 3, 4, 5, 6] (by kernel_rfl) (by kernel_rfl) (by kernel_rfl) (by have e1 : (iflR p s cx : Int) = (2) := (by exact if5f (by with_reducible assumption) (.inr (by with_reducible assumption))); first | (rw [e1]; done) | (rw [e1]; rfl) | (simp only [e1]; done) | (simp only [e1]; rfl))
       ·
        have q16 : ((labOk (labV p s.value)) = false) ∨ (¬ (labV p s.value ≤ 1)) := (fun hq => Or.imp (fun hq => (hq)) (fun hq => of_decide_eq_false (hq)) (Bool.and_eq_false_iff.1 (hq))) (Eq.mp (Bool.not_eq_true' _) h16)
        refine rs1 (dk := dkP) G ⟨[(7, _, [0, 1, 2, 4]), (8, _, [])], [(s.kind == (5 : Int), true), (!(labOk (labV p s.value) && decide (labV p s.value ≤ (1 : Int))), true)], [(4, 0), (5, 0), (6, 0), (7, 0), (8, 0), (9, 0), (10, 0), (11, 1), (12, 1), (13, 0), (1013, 1), (1014, 0)]⟩ (calls_cons (c_label (p) (s.value) (by exact hd_value h (by omega))) (calls_cons (c_iLabelTrusted (labV p s.value)) calls_nil)) ⟨(by assumption), (by assumption), trivial⟩ [0, 1, 2, 3, 4, 5, 6] [dI p.vars, dI p.arrays, dT p.body, dE s.index.kids, dE s.value.kids, dT s.body, dT s.els] [(6, iA 0), (43, bA true)] [] trivial ?_
        clear G; intro ρ a w G
        refine th_n ?_
        refine rT G (true) (by kernel_rfl) ?_
        refine wp_seq ?_
        refine rs0s G [(6, iA 2)] ?_
        clear G; intro ρ a w G
        refine th_n ?_
        refine wp_ret ?_
        refine bl_r ?_
        refine th_r ?_
        exact rx_ret (v := iA 2) G [0, 1, 2, 3, 4, 5, 6] (by kernel_rfl) (by kernel_rfl) (by kernel_rfl) (by have e1 : (iflR p s cx : Int) = (2) := (by exact if5f (by with_reducible assumption) (.inl (by with_reducible assumption))); first | (rw [e1]; done) | (rw [e1]; rfl) | (simp only [e1]; done) | (simp only [e1]; rfl))
     ·
      have q14 : ¬ (anI (stoR p s cx) (p.arrays.getD s.target.toNat 0) = 0) := (fun hq => ne_of_beq_false (hq)) (Eq.mp (Bool.not_eq_true' _) h14)
      refine rT G (!anI (stoR p s cx) (p.arrays.getD s.target.toNat (0 : Int)) == (0 : Int)) (by assumption) ?_
      refine wp_seq ?_
      refine rs0 G [0, 1, 2, 3, 4, 5, 6] [dI p.vars, dI p.arrays, dT p.body, dE s.index.kids, dE s.value.kids, dT s.body, dT s.els] [(6, iA 1)] ?_
      clear G; intro ρ a w G
      refine th_n ?_
      refine wp_ret ?_
      refine bl_r ?_
      refine th_r ?_
      exact rx_ret (v := iA 1) G [0, 1, 2, 3, 4, 5, 6] (by kernel_rfl) (by kernel_rfl) (by kernel_rfl) (by have e1 : (iflR p s cx : Int) = (1) := (by exact if2f (by with_reducible assumption) (by with_reducible assumption)); first | (rw [e1]; done) | (rw [e1]; rfl) | (simp only [e1]; done) | (simp only [e1]; rfl))
   ·
    have q9 : ¬ (anI (stoR p s cx) (p.vars.getD s.target.toNat 0) = 0) := (fun hq => ne_of_beq_false (hq)) (Eq.mp (Bool.not_eq_true' _) h9)
    refine rT G (!anI (stoR p s cx) (p.vars.getD s.target.toNat (0 : Int)) == (0 : Int)) (by assumption) ?_
    refine wp_seq ?_
    refine rs0 G [0, 1, 2, 3, 4, 5, 6] [dI p.vars, dI p.arrays, dT p.body, dE s.index.kids, dE s.value.kids, dT s.body, dT s.els] [(6, iA 1)] ?_
    clear G; intro ρ a w G
    refine th_n ?_
    refine wp_ret ?_
    refine bl_r ?_
    refine th_r ?_
    exact rx_ret (v := iA 1) G [0, 1, 2, 3, 4, 5, 6] (by kernel_rfl) (by kernel_rfl) (by kernel_rfl) (by have e1 : (iflR p s cx : Int) = (1) := (by exact if1f (by with_reducible assumption) (by with_reducible assumption)); first | (rw [e1]; done) | (rw [e1]; rfl) | (simp only [e1]; done) | (simp only [e1]; rfl))

end Go.Proofs.Ytgpkdfefgcpbiaa

namespace Go.Proofs.Ytgpkdfefgcpbiaa
set_option linter.unusedVariables false
set_option linter.unusedSimpArgs false
open Go Go.RowKit

/-- Statements with the labels around them, in order. -/
def evs (p : LProg) : Nat → Int → List LStmt → List (LStmt × Int)
  | 0, _, _ => []
  | d + 1, cx, ss => ss.flatMap fun s => (s, cx) :: (evs p d (innR p s cx) s.body ++ evs p d (innR p s cx) s.els)
theorem evs_cons (p : LProg) (d : Nat) (cx : Int) (s : LStmt) (r : List LStmt) : evs p (d + 1) cx (s :: r) = (s, cx) :: (evs p d (innR p s cx) s.body ++ evs p d (innR p s cx) s.els) ++ evs p (d + 1) cx r := by
  simp only [evs, List.flatMap_cons]
theorem evs_nil (p : LProg) (d : Nat) (cx : Int) : evs p d cx [] = [] := by cases d <;> rfl
theorem evs_append (p : LProg) (d : Nat) (cx : Int) (a b : List LStmt) : evs p d cx (a ++ b) = evs p d cx a ++ evs p d cx b := by
  cases d with
  | zero => rfl
  | succ d => simp [evs]
theorem evs_take (p : LProg) (d : Nat) (cx : Int) {ss : List LStmt} {k : Nat} (hk : k < ss.length) :
    evs p (d + 1) cx (ss.take (k + 1)) = evs p (d + 1) cx (ss.take k) ++ ((ss.getD k default, cx) :: (evs p d (innR p (ss.getD k default) cx) (ss.getD k default).body ++ evs p d (innR p (ss.getD k default) cx) (ss.getD k default).els)) := by
  rw [take_succ_get _ _ hk, evs_append, getD_lt hk, evs_cons, evs_nil, List.append_nil]
theorem evs_len (p : LProg) : ∀ (d : Nat) (cx : Int) (ss : List LStmt), (evs p d cx ss).length ≤ nSs ss
  | 0, _, _ => Nat.zero_le _
  | d + 1, cx, [] => by simp [evs]
  | d + 1, cx, s :: r => by
    rw [evs_cons, List.length_append, List.length_cons, List.length_append, nSs, nS_def]
    have h1 := evs_len p d (innR p s cx) s.body
    have h2 := evs_len p d (innR p s cx) s.els
    have h3 := evs_len p (d + 1) cx r
    omega

/-- The first that is not fine, and its number. -/
def firstN (R : LStmt × Int → Int) : Nat → List (LStmt × Int) → Int × Nat
  | c, [] => (0, c)
  | c, x :: r => if R x = 0 then firstN R (c + 1) r else (R x, c)
theorem firstN_append (R : LStmt × Int → Int) : ∀ (a b : List (LStmt × Int)) (c : Nat), firstN R c (a ++ b) = if (firstN R c a).1 = 0 then firstN R (firstN R c a).2 b else firstN R c a
  | [], b, c => by simp [firstN]
  | x :: r, b, c => by
    simp only [List.cons_append, firstN]
    by_cases h : R x = 0
    · simp only [h, if_true]; exact firstN_append R r b _
    · simp [h]
theorem firstN_congr {R R' : LStmt × Int → Int} : ∀ {l : List (LStmt × Int)} {c : Nat}, (∀ x ∈ l, R x = R' x) → firstN R c l = firstN R' c l
  | [], c, _ => rfl
  | x :: r, c, h => by
    simp only [firstN]
    rw [h x List.mem_cons_self, firstN_congr fun y hy => h y (List.mem_cons_of_mem _ hy)]
theorem stC_evs (p : LProg) (strict : Bool) (d : Nat) (ih : ∀ (cx : Int) (c : Nat) (ss : List LStmt), blC p strict d cx c ss = firstN (fun x => ownR p x.1 x.2 strict) c (evs p d cx ss)) (cx : Int) (c : Nat) (s : LStmt) :
    stC p strict (d + 1) cx c s = firstN (fun x => ownR p x.1 x.2 strict) c ((s, cx) :: (evs p d (innR p s cx) s.body ++ evs p d (innR p s cx) s.els)) := by
  have h1 := ih (innR p s cx) (c + 1) s.body
  unfold blC at h1
  rw [stC, firstN]
  simp only
  split
  · rw [firstN_append, h1]
    split
    · exact ih _ _ _
    · rfl
  · rfl
theorem blC_evs (p : LProg) (strict : Bool) : ∀ (d : Nat) (cx : Int) (c : Nat) (ss : List LStmt), blC p strict d cx c ss = firstN (fun x => ownR p x.1 x.2 strict) c (evs p d cx ss)
  | 0, cx, c, ss => by
    induction ss with
    | nil => rfl
    | cons s r ih => unfold blC at ih ⊢; rw [foldC]; simp only [stC, if_true]; exact ih
  | d + 1, cx, c, ss => by
    induction ss generalizing c with
    | nil => simp [foldC, evs, firstN]
    | cons s r ih =>
      unfold blC at ih ⊢
      rw [foldC, evs_cons, firstN_append, ← stC_evs p strict d (blC_evs p strict d)]
      split
      · exact ih _
      · rfl

/-- What is told of one after another. -/
def stepF (R : LStmt × Int → Int) (σ : Int × Int × Nat) (x : LStmt × Int) : Int × Int × Nat :=
  if σ.1 = 0 then (R x, if R x = 0 then σ.2.1 else (σ.2.2 : Int), σ.2.2 + 1) else (σ.1, σ.2.1, σ.2.2 + 1)
theorem stepF_len (R : LStmt × Int → Int) : ∀ (l : List (LStmt × Int)) (σ : Int × Int × Nat), (l.foldl (stepF R) σ).2.2 = σ.2.2 + l.length
  | [], σ => rfl
  | x :: r, σ => by
    rw [List.foldl_cons, stepF_len R r, List.length_cons]
    unfold stepF
    split <;> simp only <;> omega
theorem stepF_stop {R : LStmt × Int → Int} : ∀ (l : List (LStmt × Int)) {σ : Int × Int × Nat}, ¬ σ.1 = 0 → (l.foldl (stepF R) σ).1 = σ.1 ∧ (l.foldl (stepF R) σ).2.1 = σ.2.1
  | [], σ, h => ⟨rfl, rfl⟩
  | x :: r, σ, h => by
    rw [List.foldl_cons]
    have e : stepF R σ x = (σ.1, σ.2.1, σ.2.2 + 1) := by unfold stepF; rw [if_neg h]
    rw [e]
    exact stepF_stop r (σ := (σ.1, σ.2.1, σ.2.2 + 1)) h
theorem stepF_first {R : LStmt × Int → Int} : ∀ (l : List (LStmt × Int)) (n : Nat), ((l.foldl (stepF R) (0, -1, n)).1, (l.foldl (stepF R) (0, -1, n)).2.1) = if (firstN R n l).1 = 0 then ((0 : Int), (-1 : Int)) else ((firstN R n l).1, ((firstN R n l).2 : Int))
  | [], n => rfl
  | x :: r, n => by
    rw [List.foldl_cons, firstN]
    by_cases h : R x = 0
    · have e : stepF R (0, -1, n) x = (0, -1, n + 1) := by unfold stepF; simp [h]
      rw [e, if_pos h]; exact stepF_first r (n + 1)
    · have e : stepF R (0, -1, n) x = (R x, (n : Int), n + 1) := by unfold stepF; simp [h]
      rw [e, if_neg h, if_neg h]
      obtain ⟨h1, h2⟩ := stepF_stop (R := R) r (σ := (R x, (n : Int), n + 1)) h
      rw [h1, h2]
theorem stepF_run {R : LStmt × Int → Int} {p : LProg} {d : Nat} {cx : Int} {ss : List LStmt} {k : Nat} (hk : k < ss.length) (σ : Int × Int × Nat) :
    (evs p (d + 1) cx (ss.take (k + 1))).foldl (stepF R) σ =
      (evs p d (innR p (ss.getD k default) cx) (ss.getD k default).els).foldl (stepF R) ((evs p d (innR p (ss.getD k default) cx) (ss.getD k default).body).foldl (stepF R) (stepF R ((evs p (d + 1) cx (ss.take k)).foldl (stepF R) σ) (ss.getD k default, cx))) := by
  rw [evs_take p d cx hk, List.foldl_append, List.foldl_cons, List.foldl_append]

/-- What stands there is valid, with labels around it. -/
theorem or_fin : ∀ x : Fin 4, ∀ y : Fin 4, ∃ z : Fin 4, orI x.val y.val = (z.val : Int) := by decide +kernel
theorem or_ok {x y : Int} (hx : labOk x = true) (hy : labOk y = true) : labOk (orI x y) = true := by
  obtain ⟨a, rfl⟩ := lab_fin hx
  obtain ⟨b, rfl⟩ := lab_fin hy
  obtain ⟨c, h⟩ := or_fin a b
  rw [h]
  simp [labOk]; omega
theorem or_comm_fin : ∀ x : Fin 4, ∀ y : Fin 4, orI x.val y.val = orI y.val x.val := by decide +kernel
theorem or_assoc_fin : ∀ x : Fin 4, ∀ y : Fin 4, ∀ z : Fin 4, orI (orI x.val y.val) z.val = orI x.val (orI y.val z.val) := by decide +kernel
theorem or_comm {x y : Int} (hx : labOk x = true) (hy : labOk y = true) : orI x y = orI y x := by
  obtain ⟨a, rfl⟩ := lab_fin hx
  obtain ⟨b, rfl⟩ := lab_fin hy
  exact or_comm_fin a b
theorem or_assoc {x y z : Int} (hx : labOk x = true) (hy : labOk y = true) (hz : labOk z = true) : orI (orI x y) z = orI x (orI y z) := by
  obtain ⟨a, rfl⟩ := lab_fin hx
  obtain ⟨b, rfl⟩ := lab_fin hy
  obtain ⟨c, rfl⟩ := lab_fin hz
  exact or_assoc_fin a b c
theorem getD_ok {l : List Int} (h : l.all labOk = true) (i : Nat) : labOk (l.getD i 0) = true := by
  rcases Nat.lt_or_ge i l.length with hi | hi
  · rw [getD_lt hi]; exact List.all_eq_true.1 h _ (List.getElem_mem hi)
  · rw [List.getD_eq_getElem?_getD, List.getElem?_eq_none hi]; rfl
theorem labE_ok {vs ars : List Int} (h1 : vs.all labOk = true) (h2 : ars.all labOk = true) : ∀ (d : Nat) (e : LExpr), labOk (labE vs ars d e) = true
  | 0, _ => rfl
  | d + 1, e => by
    rw [labE]
    have key : ∀ (ks : List LExpr) (a : Int), labOk a = true → labOk (ks.foldl (fun a k => orI a (labE vs ars d k)) a) = true := by
      intro ks
      induction ks with
      | nil => intro a ha; exact ha
      | cons x r ih => intro a ha; rw [List.foldl_cons]; exact ih _ (or_ok ha (labE_ok h1 h2 d x))
    refine key _ _ ?_
    unfold ownL
    split
    · exact getD_ok h1 _
    · split
      · exact getD_ok h2 _
      · rfl
/-- All labels of a program are labels. -/
def labsB (p : LProg) : Bool := p.vars.all labOk && p.arrays.all labOk
theorem progB_labs {p : LProg} (h : progB p = true) : labsB p = true := by
  unfold progB headsB at h
  simp only [Bool.and_eq_true] at h
  unfold labsB
  rw [h.1.1.1.1.1.1, h.1.1.1.1.1.2]; rfl
theorem labV_ok {p : LProg} (h : labsB p = true) (e : LExpr) : labOk (labV p e) = true := by
  simp only [labsB, Bool.and_eq_true] at h
  exact labE_ok h.1 h.2 5 e
theorem innR_ok {p : LProg} (h : labsB p = true) {cx : Int} (hc : labOk cx = true) (s : LStmt) : labOk (innR p s cx) = true := by
  unfold innR
  split
  · exact or_ok hc (labV_ok h _)
  · exact hc
theorem evs_mem {p : LProg} (hp : labsB p = true) : ∀ (d : Nat) (cx : Int) (ss : List LStmt), labOk cx = true → ss.all (stmtB p.vars.length p.arrays.length d) = true → ∀ x ∈ evs p d cx ss, headB p.vars.length p.arrays.length x.1 = true ∧ labOk x.2 = true ∧ (x.1.kind = 4 → x.1.value.kind = 0 ∧ x.1.value.kids = [])
  | 0, cx, ss, _, _, x, hx => by simp [evs] at hx
  | d + 1, cx, ss, hc, hs, x, hx => by
    rw [evs] at hx
    obtain ⟨s, hss, hx⟩ := List.mem_flatMap.1 hx
    have h0 := List.all_eq_true.1 hs s hss
    have h1 := h0
    rw [stmtB_head, Bool.and_eq_true, Bool.and_eq_true] at h1
    rw [List.mem_cons, List.mem_append] at hx
    rcases hx with rfl | hx | hx
    · refine ⟨h1.1, hc, fun k4 => ?_⟩
      rw [stmtB, Bool.and_eq_true] at h0
      have h2 := h0.1
      unfold partsB at h2
      rw [if_pos (.inr k4), if_pos k4] at h2
      simp only [Bool.and_eq_true, decide_eq_true_eq, noneB] at h2
      exact ⟨h2.2.2.1.1, List.eq_nil_of_length_eq_zero h2.2.2.2⟩
    · exact evs_mem hp d _ _ (innR_ok hp hc s) h1.2.1 x hx
    · exact evs_mem hp d _ _ (innR_ok hp hc s) h1.2.2 x hx

/-- impl's flow is the reference's. -/
theorem iflR_eq {p : LProg} (hp : labsB p = true) {s : LStmt} {cx : Int} (hc : labOk cx = true) : iflR p s cx = flowR p s cx := by
  have hv := labV_ok hp s.value
  have hi := labV_ok hp s.index
  simp only [labsB, Bool.and_eq_true] at hp
  unfold iflR flowR
  by_cases k1 : s.kind = 1
  · rw [if_pos k1, if_pos k1]
    have hx := or_ok hv hc
    have hy := getD_ok hp.1 s.target.toNat
    have := flows_eq hx hy
    unfold flB
    rw [hx, hy]
    by_cases h : anI (orI (labV p s.value) cx) (p.vars.getD s.target.toNat 0) = 0
    · rw [if_pos h, if_pos]
      rw [beq_iff_eq.2 h] at this
      rw [← this]; rfl
    · rw [if_neg h, if_neg]
      rw [beq_eq_false_iff_ne.2 h] at this
      rw [← this]; simp
  rw [if_neg k1, if_neg k1]
  by_cases k2 : s.kind = 2
  · rw [if_pos k2, if_pos k2]
    have e : orI (orI (labV p s.value) cx) (labV p s.index) = orI (orI (labV p s.value) (labV p s.index)) cx := by
      rw [or_assoc hv hc hi, or_comm hc hi, ← or_assoc hv hi hc]
    rw [e]
    have hx := or_ok (or_ok hv hi) hc
    have hy := getD_ok hp.2 s.target.toNat
    have := flows_eq hx hy
    unfold flB
    rw [hx, hy]
    by_cases h : anI (orI (orI (labV p s.value) (labV p s.index)) cx) (p.arrays.getD s.target.toNat 0) = 0
    · rw [if_pos h, if_pos]
      rw [beq_iff_eq.2 h] at this
      rw [← this]; rfl
    · rw [if_neg h, if_neg]
      rw [beq_eq_false_iff_ne.2 h] at this
      rw [← this]; simp
  rw [if_neg k2, if_neg k2]
  by_cases k5 : s.kind = 5
  · rw [if_pos k5, if_pos k5]
    by_cases h : (labOk (labV p s.value) && decide (labV p s.value ≤ 1)) = true ∧ cx = 0
    · rw [if_pos h, if_pos]
      rw [h.1, decide_eq_true h.2]; rfl
    · rw [if_neg h, if_neg]
      rw [Bool.and_eq_true, decide_eq_true_eq]; exact h
  · rw [if_neg k5, if_neg k5]
/-- impl's two walks tell what the reference's checks tell. -/
theorem ck_flow {p : LProg} (h : progB p = true) : ((evs p 5 0 p.body).foldl (stepF fun x => iflR p x.1 x.2) (0, -1, 0)).1 = (ckR p false).1 ∧ ((evs p 5 0 p.body).foldl (stepF fun x => iflR p x.1 x.2) (0, -1, 0)).2.1 = (ckR p false).2 := by
  have h1 := stepF_first (R := fun x => iflR p x.1 x.2) (evs p 5 0 p.body) 0
  have hl := progB_labs h
  have e : firstN (fun x => iflR p x.1 x.2) 0 (evs p 5 0 p.body) = blC p false 5 0 0 p.body := by
    rw [blC_evs]
    refine firstN_congr fun x hx => ?_
    have hm := evs_mem hl 5 0 p.body rfl (progB_all h).1 x hx
    rw [iflR_eq hl hm.2.1]
    unfold ownR
    simp only [Bool.false_eq_true, if_false]
    split
    · rename_i h; exact h
    · rfl
  rw [e] at h1
  have h2 := Prod.mk.inj h1
  unfold ckR
  rw [if_pos h]
  split
  · rename_i h3
    rw [if_pos h3] at h1
    exact Prod.mk.inj h1
  · rename_i h3
    rw [if_neg h3] at h1
    exact Prod.mk.inj h1

end Go.Proofs.Ytgpkdfefgcpbiaa

namespace Go.Proofs.Ytgpkdfefgcpbiaa
set_option linter.unusedVariables false
set_option linter.unusedSimpArgs false
open Go Go.RowKit

section
variable {p : LProg} {s : LStmt}
end

end Go.Proofs.Ytgpkdfefgcpbiaa

namespace Go.Proofs.Ytgpkdfefgcpbiaa
set_option linter.unusedVariables false
set_option linter.unusedSimpArgs false
open Go Go.RowKit

/-- The closure of firstOf: what it holds, and what it does. -/
abbrev fcB (f : Nat) (c n a : Int) : List It := [.box [iA c], .box [.bm f [pA 0]], .box [iA n], .box [iA a]]
abbrev FLOW : Nat := 131
abbrev RFl (p : LProg) : LStmt × Int → Int := fun x => iflR p x.1 x.2
section
variable {R : LStmt × Int → Int} {c a : Int} {n : Nat} {x : LStmt × Int}
theorem st_a (h : ¬ c = 0) : (stepF R (c, a, n) x).1 = c := by unfold stepF; rw [if_neg h]
theorem st_b (h : ¬ c = 0) : (stepF R (c, a, n) x).2.1 = a := by unfold stepF; rw [if_neg h]
theorem st_n : (stepF R (c, a, n) x).2.2 = n + 1 := by unfold stepF; split <;> rfl
theorem st_c (h : c = 0) : (stepF R (c, a, n) x).1 = R x := by unfold stepF; rw [if_pos h]
theorem st_d (h : c = 0) (hr : R x = 0) : (stepF R (c, a, n) x).2.1 = a := by unfold stepF; rw [if_pos h, if_pos hr]
theorem st_e (h : c = 0) (hr : ¬ R x = 0) : (stepF R (c, a, n) x).2.1 = n := by unfold stepF; rw [if_pos h, if_neg hr]
end

set_option maxRecDepth 100000 in
theorem c_closF (p : LProg) (s : LStmt) (cx : Int) (c b : Int) (n : Nat) (hn : n + 1 ≤ 4000000) (h : headB p.vars.length p.arrays.length s = true) :
    Ctr.ok Try.prog ⟨132, [sA s 7, iA cx, .ptr 3 0, .ptr 4 0, .ptr 5 0, .ptr 6 0], pS p ++ fcB FLOW c n b ++ sS s,
      pS p ++ fcB FLOW (stepF (RFl p) (c, b, n) (s, cx)).1 (stepF (RFl p) (c, b, n) (s, cx)).2.2 (stepF (RFl p) (c, b, n) (s, cx)).2.1 ++ sS s, .tup []⟩ := by
  refine rx_enter 19 Try.func132 (by rfl) (by kernel_rfl) (by kernel_rfl) ?_
  intro ι φ ψ w0 w F ρ0 ρ a G
  replace G := Gam.at G [dI p.vars, dI p.arrays, dT p.body, .box [iA c], .box [.bm 131 [pA 0]], .box [iA (↑n : Int)], .box [iA b], dE s.index.kids, dE s.value.kids, dT s.body, dT s.els] [(0, sA s 7), (1, iA cx), (2, .ptr 3 0), (3, .ptr 4 0), (4, .ptr 5 0), (5, .ptr 6 0)]
  refine wp_seq ?_
  refine rs0 G [0, 1, 2, 3, 4, 5, 6, 7, 8, 9, 10, 11] [dI p.vars, dI p.arrays, dT p.body, .box [iA c], .box [.bm 131 [pA 0]], .box [iA (↑n : Int)], .box [iA b], dE s.index.kids, dE s.value.kids, dT s.body, dT s.els, .box (sL s 7)] [(1, iA cx), (2, .ptr 3 0), (3, .ptr 4 0), (4, .ptr 5 0), (5, .ptr 6 0), (6, .ptr 11 0)] ?_
  clear G; intro ρ a w G
  refine th_n ?_
  refine wp_seq ?_
  refine wp_seq ?_
  refine rs0s G [(1, iA cx), (2, .ptr 3 0), (3, .ptr 4 0), (4, .ptr 5 0), (5, .ptr 6 0), (6, .ptr 11 0), (9, bA (c == 0))] ?_
  clear G; intro ρ a w G
  refine th_n ?_
  cases h0 : (c == (0 : Int))
  ·
   have q0 : ¬ (c = 0) := ne_of_beq_false h0
   refine rF G (c == (0 : Int)) (by assumption) ?_
   refine wp_skip ?_
   refine th_n ?_
   refine rs1 (dk := dkP) G ⟨[], [], []⟩ calls_nil trivial [0, 1, 2, 3, 4, 5, 6, 7, 8, 9, 10] [dI p.vars, dI p.arrays, dT p.body, .box [iA c], .box [.bm 131 [pA 0]], .box [iA ((↑n : Int) + 1)], .box [iA b], dE s.index.kids, dE s.value.kids, dT s.body, dT s.els] [] [IntKind.i64.wrap ((↑n : Int) + (1 : Int)) = (↑n : Int) + (1 : Int)] ⟨(by exact w64 (by omega) (by omega)), trivial⟩ ?_
   clear G; intro ρ a w G
   exact rx_retN (v := .tup []) G [0, 1, 2, 3, 4, 5, 6, 7, 8, 9, 10] (by kernel_rfl) (by kernel_rfl) (by have e1 : ((stepF (RFl p) (c, b, n) (s, cx)).fst : Int) = (c) := (by exact st_a (by assumption)); have e2 : ((↑(stepF (RFl p) (c, b, n) (s, cx)).snd.snd : Int) : Int) = ((↑n : Int) + 1) := (by exact congrArg Int.ofNat st_n); have e3 : ((stepF (RFl p) (c, b, n) (s, cx)).snd.fst : Int) = (b) := (by exact st_b (by assumption)); first | (rw [e1, e2, e3]; done) | (rw [e1, e2, e3]; rfl) | (simp only [e1, e2, e3]; done) | (simp only [e1, e2, e3]; rfl)) (by kernel_rfl)
  ·
   have q0 : c = 0 := eq_of_beq h0
   refine rT G (c == (0 : Int)) (by assumption) ?_
   refine wp_seq ?_
   refine rs1 (dk := dkP) G ⟨[(3, _, [0, 1, 2, 7, 8, 9, 10])], [], []⟩ (calls_cons (c_flow (p) (s) (cx) (by assumption)) calls_nil) trivial [0, 1, 2, 3, 4, 5, 6, 7, 8, 9, 10] [dI p.vars, dI p.arrays, dT p.body, .box [iA (iflR p s cx)], .box [.bm 131 [pA 0]], .box [iA (↑n : Int)], .box [iA b], dE s.index.kids, dE s.value.kids, dT s.body, dT s.els] [(2, .ptr 3 0), (4, .ptr 5 0), (5, .ptr 6 0)] [] trivial ?_
   clear G; intro ρ a w G
   refine th_n ?_
   refine wp_seq ?_
   refine rs0s G [(4, .ptr 5 0), (5, .ptr 6 0), (15, bA (iflR p s cx != 0))] ?_
   clear G; intro ρ a w G
   refine th_n ?_
   cases h1 : (iflR p s cx != (0 : Int))
   ·
    have q1 : iflR p s cx = 0 := (by simpa using h1)
    refine rF G (iflR p s cx != (0 : Int)) (by assumption) ?_
    refine wp_skip ?_
    refine th_n ?_
    refine rs1 (dk := dkP) G ⟨[], [], []⟩ calls_nil trivial [0, 1, 2, 3, 4, 5, 6, 7, 8, 9, 10] [dI p.vars, dI p.arrays, dT p.body, .box [iA (iflR p s cx)], .box [.bm 131 [pA 0]], .box [iA ((↑n : Int) + 1)], .box [iA b], dE s.index.kids, dE s.value.kids, dT s.body, dT s.els] [] [IntKind.i64.wrap ((↑n : Int) + (1 : Int)) = (↑n : Int) + (1 : Int)] ⟨(by exact w64 (by omega) (by omega)), trivial⟩ ?_
    clear G; intro ρ a w G
    exact rx_retN (v := .tup []) G [0, 1, 2, 3, 4, 5, 6, 7, 8, 9, 10] (by kernel_rfl) (by kernel_rfl) (by have e1 : ((stepF (RFl p) (c, b, n) (s, cx)).fst : Int) = (iflR p s cx) := (by exact st_c (by assumption)); have e2 : ((↑(stepF (RFl p) (c, b, n) (s, cx)).snd.snd : Int) : Int) = ((↑n : Int) + 1) := (by exact congrArg Int.ofNat st_n); have e3 : ((stepF (RFl p) (c, b, n) (s, cx)).snd.fst : Int) = (b) := (by exact st_d (by assumption) (by assumption)); first | (rw [e1, e2, e3]; done) | (rw [e1, e2, e3]; rfl) | (simp only [e1, e2, e3]; done) | (simp only [e1, e2, e3]; rfl)) (by kernel_rfl)
   ·
    have q1 : ¬ (iflR p s cx = 0) := bne_iff_ne.1 h1
    refine rT G (iflR p s cx != (0 : Int)) (by assumption) ?_
    refine rs0 G [0, 1, 2, 3, 4, 5, 6, 7, 8, 9, 10] [dI p.vars, dI p.arrays, dT p.body, .box [iA (iflR p s cx)], .box [.bm 131 [pA 0]], .box [iA (↑n : Int)], .box [iA (↑n : Int)], dE s.index.kids, dE s.value.kids, dT s.body, dT s.els] [(4, .ptr 5 0)] ?_
    clear G; intro ρ a w G
    refine th_n ?_
    refine rs1 (dk := dkP) G ⟨[], [], []⟩ calls_nil trivial [0, 1, 2, 3, 4, 5, 6, 7, 8, 9, 10] [dI p.vars, dI p.arrays, dT p.body, .box [iA (iflR p s cx)], .box [.bm 131 [pA 0]], .box [iA ((↑n : Int) + 1)], .box [iA (↑n : Int)], dE s.index.kids, dE s.value.kids, dT s.body, dT s.els] [] [IntKind.i64.wrap ((↑n : Int) + (1 : Int)) = (↑n : Int) + (1 : Int)] ⟨(by exact w64 (by omega) (by omega)), trivial⟩ ?_
    clear G; intro ρ a w G
    exact rx_retN (v := .tup []) G [0, 1, 2, 3, 4, 5, 6, 7, 8, 9, 10] (by kernel_rfl) (by kernel_rfl) (by have e1 : ((stepF (RFl p) (c, b, n) (s, cx)).fst : Int) = (iflR p s cx) := (by exact st_c (by assumption)); have e2 : ((↑(stepF (RFl p) (c, b, n) (s, cx)).snd.snd : Int) : Int) = ((↑n : Int) + 1) := (by exact congrArg Int.ofNat st_n); have e3 : ((stepF (RFl p) (c, b, n) (s, cx)).snd.fst : Int) = ((↑n : Int)) := (by exact st_e (by assumption) (by assumption)); first | (rw [e1, e2, e3]; done) | (rw [e1, e2, e3]; rfl) | (simp only [e1, e2, e3]; done) | (simp only [e1, e2, e3]; rfl)) (by kernel_rfl)

/-- How far the walk has come. -/
def fdF (R : LStmt × Int → Int) (p : LProg) (d : Nat) (cx : Int) (ss : List LStmt) (c b : Int) (n k : Nat) : Int × Int × Nat := (evs p (d + 1) cx (ss.take k)).foldl (stepF R) (c, b, n)
section
variable {R : LStmt × Int → Int} {p : LProg} {d : Nat} {cx : Int} {ss : List LStmt} {c b : Int} {n k : Nat}
theorem fd_3 (hk : k < ss.length) (h : (ss.getD k default).kind = 3) : fdF R p d cx ss c b n (k + 1) = (evs p d (orI cx (labV p (ss.getD k default).value)) (ss.getD k default).els).foldl (stepF R) ((evs p d (orI cx (labV p (ss.getD k default).value)) (ss.getD k default).body).foldl (stepF R) (stepF R (fdF R p d cx ss c b n k) (ss.getD k default, cx))) := by
  unfold fdF; rw [stepF_run hk]; unfold innR; rw [if_pos h]
theorem fd_n (hk : k < ss.length) (h : ¬ (ss.getD k default).kind = 3) : fdF R p d cx ss c b n (k + 1) = (evs p d cx (ss.getD k default).els).foldl (stepF R) ((evs p d cx (ss.getD k default).body).foldl (stepF R) (stepF R (fdF R p d cx ss c b n k) (ss.getD k default, cx))) := by
  unfold fdF; rw [stepF_run hk]; unfold innR; rw [if_neg h]
theorem fd_end (hk : ss.length ≤ k) : (evs p (d + 1) cx ss).foldl (stepF R) (c, b, n) = fdF R p d cx ss c b n k := by unfold fdF; rw [List.take_of_length_le hk]
theorem fd_cnt : (fdF R p d cx ss c b n k).2.2 ≤ n + nSs (ss.take k) := by
  unfold fdF; rw [stepF_len]
  have := evs_len p (d + 1) cx (ss.take k)
  simp only; omega
theorem fd_cnt1 (hk : k < ss.length) (hn : n + nSs ss ≤ 4000000) : (fdF R p d cx ss c b n k).2.2 + 1 ≤ 4000000 := by
  have h1 := fd_cnt (R := R) (p := p) (d := d) (cx := cx) (ss := ss) (c := c) (b := b) (n := n) (k := k)
  have h2 := blk_n hk
  omega
theorem fd_cnt2 (hk : k < ss.length) (hn : n + nSs ss ≤ 4000000) : (stepF R ((fdF R p d cx ss c b n k).1, (fdF R p d cx ss c b n k).2.1, (fdF R p d cx ss c b n k).2.2) (ss.getD k default, cx)).2.2 + nSs (ss.getD k default).body ≤ 4000000 := by
  have h1 := fd_cnt (R := R) (p := p) (d := d) (cx := cx) (ss := ss) (c := c) (b := b) (n := n) (k := k)
  have h2 := blk_n hk
  rw [st_n]
  omega
theorem fd_cnt3 {cy : Int} (hk : k < ss.length) (hn : n + nSs ss ≤ 4000000) {σ : Int × Int × Nat} (hσ : σ.2.2 = (fdF R p d cx ss c b n k).2.2 + 1) : ((evs p d cy (ss.getD k default).body).foldl (stepF R) σ).2.2 + nSs (ss.getD k default).els ≤ 4000000 := by
  have h1 := fd_cnt (R := R) (p := p) (d := d) (cx := cx) (ss := ss) (c := c) (b := b) (n := n) (k := k)
  have h2 := blk_n hk
  rw [stepF_len, hσ]
  have h3 := evs_len p d cy (ss.getD k default).body
  omega
end

set_option maxRecDepth 100000 in
theorem c_eachFS (p : LProg) (d : Nat) (ss : List LStmt) (ih : ∀ (tt : List LStmt) (cx : Int) (c b : Int) (n : Nat), 0 < ss.length → tt.all (stmtB p.vars.length p.arrays.length d) = true → n + nSs tt ≤ 4000000 → Ctr.ok Try.prog ⟨125, [pA 0, .ref 7, iA cx, .fn 132 [.ptr 3 0, .ptr 4 0, .ptr 5 0, .ptr 6 0]], pS p ++ fcB FLOW c n b ++ [.dat (.stmts tt)],
      pS p ++ fcB FLOW ((evs p d cx tt).foldl (stepF (RFl p)) (c, b, n)).1 ((evs p d cx tt).foldl (stepF (RFl p)) (c, b, n)).2.2 ((evs p d cx tt).foldl (stepF (RFl p)) (c, b, n)).2.1 ++ [.dat (.stmts tt)], .tup []⟩)
    (cx : Int) (c b : Int) (n : Nat) (hs : ss.all (stmtB p.vars.length p.arrays.length (d + 1)) = true) (hn : n + nSs ss ≤ 4000000) : Ctr.ok Try.prog ⟨125, [pA 0, .ref 7, iA cx, .fn 132 [.ptr 3 0, .ptr 4 0, .ptr 5 0, .ptr 6 0]], pS p ++ fcB FLOW c n b ++ [.dat (.stmts ss)],
      pS p ++ fcB FLOW ((evs p (d + 1) cx ss).foldl (stepF (RFl p)) (c, b, n)).1 ((evs p (d + 1) cx ss).foldl (stepF (RFl p)) (c, b, n)).2.2 ((evs p (d + 1) cx ss).foldl (stepF (RFl p)) (c, b, n)).2.1 ++ [.dat (.stmts ss)], .tup []⟩ := by
  refine rx_enter 44 Try.func125 (by rfl) (by kernel_rfl) (by kernel_rfl) ?_
  intro ι φ ψ w0 w F ρ0 ρ a G
  replace G := Gam.at G [dI p.vars, dI p.arrays, dT p.body, .box [iA c], .box [.bm 131 [pA 0]], .box [iA (↑n : Int)], .box [iA b], dT ss] [(0, pA 0), (1, .ref 7), (2, iA cx), (3, .fn 132 [.ptr 3 0, .ptr 4 0, .ptr 5 0, .ptr 6 0])]
  have hlen : ss.length ≤ 9223372036854775807 := G.len 7 (d := .stmts ss) (by kernel_rfl)
  refine wp_seq ?_
  refine rs0 G [0, 1, 2, 3, 4, 5, 6, 7, 8] [dI p.vars, dI p.arrays, dT p.body, .box [iA c], .box [.bm 131 [pA 0]], .box [iA (↑n : Int)], .box [iA b], dT ss, .box (pL 0)] [(1, .ref 7), (2, iA cx), (3, .fn 132 [.ptr 3 0, .ptr 4 0, .ptr 5 0, .ptr 6 0]), (4, .ptr 8 0)] ?_
  clear G; intro ρ a w G
  refine th_n ?_
  refine wp_seq ?_
  refine rs0s G [(2, iA cx), (3, .fn 132 [.ptr 3 0, .ptr 4 0, .ptr 5 0, .ptr 6 0]), (4, .ptr 8 0), (11, .ref 7), (12, iA (↑ss.length : Int)), (13, iA 0)] ?_
  clear G; intro ρ a w G
  refine th_n ?_
  refine wp_block ?_
  refine rx_for (κ := Nat) (fun k => k ≤ ss.length) (fun k => ss.length - k) (fun k => [dI p.vars, dI p.arrays, dT p.body, .box [iA (fdF (RFl p) p d cx ss c b n k).1], .box [.bm 131 [pA 0]], .box [iA (fdF (RFl p) p d cx ss c b n k).2.2], .box [iA (fdF (RFl p) p d cx ss c b n k).2.1], dT ss, .box (pL 0)]) (fun k => [(2, iA cx), (3, .fn 132 [.ptr 3 0, .ptr 4 0, .ptr 5 0, .ptr 6 0]), (4, .ptr 8 0), (11, .ref 7), (12, iA (↑ss.length : Int)), (13, iA k)]) (0) (by simp [hs]) (Gam.at G _ _) ?_
  clear G
  intro k ρ a w hp G
  replace G := Gam.at G [dI p.vars, dI p.arrays, dT p.body, .box [iA (fdF (RFl p) p d cx ss c b n k).fst], .box [.bm 131 [pA 0]], .box [iA (↑(fdF (RFl p) p d cx ss c b n k).snd.snd : Int)], .box [iA (fdF (RFl p) p d cx ss c b n k).snd.fst], dT ss, .box (pL 0)] [(2, iA cx), (3, .fn 132 [.ptr 3 0, .ptr 4 0, .ptr 5 0, .ptr 6 0]), (4, .ptr 8 0), (11, .ref 7), (12, iA (↑ss.length : Int)), (13, iA (↑k : Int))]
  refine wp_seq ?_
  refine rs0s G [(2, iA cx), (3, .fn 132 [.ptr 3 0, .ptr 4 0, .ptr 5 0, .ptr 6 0]), (4, .ptr 8 0), (11, .ref 7), (12, iA (↑ss.length : Int)), (13, iA (↑k : Int)), (14, bA (decide ((↑k : Int) < (↑ss.length : Int))))] ?_
  clear G; intro ρ a w G
  refine th_n ?_
  refine wp_seq ?_
  cases h0 : (decide ((↑k : Int) < (↑ss.length : Int)))
  ·
   have q0 : ¬ ((↑k : Int) < (↑ss.length : Int)) := of_decide_eq_false h0
   refine rF G (decide ((↑k : Int) < (↑ss.length : Int))) (by assumption) ?_
   refine wp_exit ?_
   refine th_e ?_
   refine th_e ?_
   refine bl_hit ?_
   exact rx_retN (v := .tup []) G [0, 1, 2, 3, 4, 5, 6, 7] (by kernel_rfl) (by kernel_rfl) (by have e1 : ((List.foldl (stepF (RFl p)) (c, b, n) (evs p (d + 1) cx ss)).fst : Int) = ((fdF (RFl p) p d cx ss c b n k).fst) := (by exact congrArg Prod.fst (fd_end (by omega))); have e2 : ((↑(List.foldl (stepF (RFl p)) (c, b, n) (evs p (d + 1) cx ss)).snd.snd : Int) : Int) = ((↑(fdF (RFl p) p d cx ss c b n k).snd.snd : Int)) := (by exact congrArg (fun x : Int × Int × Nat => Int.ofNat x.2.2) (fd_end (by omega))); have e3 : ((List.foldl (stepF (RFl p)) (c, b, n) (evs p (d + 1) cx ss)).snd.fst : Int) = ((fdF (RFl p) p d cx ss c b n k).snd.fst) := (by exact congrArg (fun x : Int × Int × Nat => x.2.1) (fd_end (by omega))); first | (rw [e1, e2, e3]; done) | (rw [e1, e2, e3]; rfl) | (simp only [e1, e2, e3]; done) | (simp only [e1, e2, e3]; rfl)) (by kernel_rfl)
  ·
   have q0 : (↑k : Int) < (↑ss.length : Int) := of_decide_eq_true h0
   refine rT G (decide ((↑k : Int) < (↑ss.length : Int))) (by assumption) ?_
   refine wp_skip ?_
   refine th_n ?_
   refine wp_seq ?_
   refine wp_block ?_
   refine wp_seq ?_
   refine rs1 (dk := dkP) G ⟨[], [], []⟩ calls_nil trivial [0, 1, 2, 3, 4, 5, 6, 7, 8, 17, 18, 19, 20, 25] [dI p.vars, dI p.arrays, dT p.body, .box [iA (fdF (RFl p) p d cx ss c b n k).fst], .box [.bm 131 [pA 0]], .box [iA (↑(fdF (RFl p) p d cx ss c b n k).snd.snd : Int)], .box [iA (fdF (RFl p) p d cx ss c b n k).snd.fst], dT ss, .box (pL 0), dE (ss.getD k default).index.kids, dE (ss.getD k default).value.kids, dT (ss.getD k default).body, dT (ss.getD k default).els, .box (sL (ss.getD k default) 9)] [(2, iA cx), (3, .fn 132 [.ptr 3 0, .ptr 4 0, .ptr 5 0, .ptr 6 0]), (4, .ptr 8 0), (9, .ptr 13 0), (11, .ref 7), (12, iA (↑ss.length : Int)), (13, iA (↑k : Int))] [(0 : Int) ≤ (↑k : Int), (↑k : Int) < (↑ss.length : Int), k < ss.length] ⟨(by simp [hs, h0]), (by assumption), (by omega), trivial⟩ ?_
   clear G; intro ρ a w G
   refine th_n ?_
   refine wp_seq ?_
   refine rs1 (dk := dkP) G ⟨[(3, _, [0, 1, 2, 3, 4, 5, 6, 9, 10, 11, 12])], [], []⟩ (calls_cons (c_closF (p) (ss.getD k default) (cx) ((fdF (RFl p) p d cx ss c b n k).fst) ((fdF (RFl p) p d cx ss c b n k).snd.fst) ((fdF (RFl p) p d cx ss c b n k).snd.snd) (by exact fd_cnt1 (by omega) hn) (by exact (bl_at hs (by omega)).1)) calls_nil) trivial [0, 1, 2, 3, 4, 5, 6, 7, 8, 9, 10, 11, 12, 13] [dI p.vars, dI p.arrays, dT p.body, .box [iA (stepF (RFl p) ((fdF (RFl p) p d cx ss c b n k).fst, (fdF (RFl p) p d cx ss c b n k).snd.fst, (fdF (RFl p) p d cx ss c b n k).snd.snd) (ss.getD k default, cx)).fst], .box [.bm 131 [pA 0]], .box [iA (↑(stepF (RFl p) ((fdF (RFl p) p d cx ss c b n k).fst, (fdF (RFl p) p d cx ss c b n k).snd.fst, (fdF (RFl p) p d cx ss c b n k).snd.snd) (ss.getD k default, cx)).snd.snd : Int)], .box [iA (stepF (RFl p) ((fdF (RFl p) p d cx ss c b n k).fst, (fdF (RFl p) p d cx ss c b n k).snd.fst, (fdF (RFl p) p d cx ss c b n k).snd.snd) (ss.getD k default, cx)).snd.fst], dT ss, .box (pL 0), dE (ss.getD k default).index.kids, dE (ss.getD k default).value.kids, dT (ss.getD k default).body, dT (ss.getD k default).els, .box (sL (ss.getD k default) 9)] [(2, iA cx), (3, .fn 132 [.ptr 3 0, .ptr 4 0, .ptr 5 0, .ptr 6 0]), (4, .ptr 8 0), (9, .ptr 13 0), (11, .ref 7), (12, iA (↑ss.length : Int)), (13, iA (↑k : Int))] [] trivial ?_
   clear G; intro ρ a w G
   refine th_n ?_
   refine wp_seq ?_
   refine rs0s G [(2, iA cx), (3, .fn 132 [.ptr 3 0, .ptr 4 0, .ptr 5 0, .ptr 6 0]), (4, .ptr 8 0), (9, .ptr 13 0), (10, iA cx), (11, .ref 7), (12, iA (↑ss.length : Int)), (13, iA (↑k : Int))] ?_
   clear G; intro ρ a w G
   refine th_n ?_
   refine wp_seq ?_
   refine wp_seq ?_
   refine rs0s G [(2, iA cx), (3, .fn 132 [.ptr 3 0, .ptr 4 0, .ptr 5 0, .ptr 6 0]), (4, .ptr 8 0), (9, .ptr 13 0), (10, iA cx), (11, .ref 7), (12, iA (↑ss.length : Int)), (13, iA (↑k : Int)), (24, bA ((ss.getD k default).kind == 3))] ?_
   clear G; intro ρ a w G
   refine th_n ?_
   cases h1 : ((ss.getD k default).kind == (3 : Int))
   ·
    have q1 : ¬ ((ss.getD k default).kind = 3) := ne_of_beq_false h1
    refine rF G ((ss.getD k default).kind == (3 : Int)) (by assumption) ?_
    refine wp_skip ?_
    refine th_n ?_
    refine wp_seq ?_
    refine rs1 (dk := dkP) G ⟨[(5, _, [0, 1, 2, 3, 4, 5, 6, 11])], [], []⟩ (calls_cons (ih ((ss.getD k default).body) (cx) ((stepF (RFl p) ((fdF (RFl p) p d cx ss c b n k).fst, (fdF (RFl p) p d cx ss c b n k).snd.fst, (fdF (RFl p) p d cx ss c b n k).snd.snd) (ss.getD k default, cx)).fst) ((stepF (RFl p) ((fdF (RFl p) p d cx ss c b n k).fst, (fdF (RFl p) p d cx ss c b n k).snd.fst, (fdF (RFl p) p d cx ss c b n k).snd.snd) (ss.getD k default, cx)).snd.fst) ((stepF (RFl p) ((fdF (RFl p) p d cx ss c b n k).fst, (fdF (RFl p) p d cx ss c b n k).snd.fst, (fdF (RFl p) p d cx ss c b n k).snd.snd) (ss.getD k default, cx)).snd.snd) (by omega) (by exact (bl_at hs (by omega)).2.1) (by exact fd_cnt2 (by omega) hn)) calls_nil) trivial [0, 1, 2, 3, 4, 5, 6, 7, 8, 9, 10, 11, 12, 13] [dI p.vars, dI p.arrays, dT p.body, .box [iA (List.foldl (stepF (RFl p)) ((stepF (RFl p) ((fdF (RFl p) p d cx ss c b n k).fst, (fdF (RFl p) p d cx ss c b n k).snd.fst, (fdF (RFl p) p d cx ss c b n k).snd.snd) (ss.getD k default, cx)).fst, (stepF (RFl p) ((fdF (RFl p) p d cx ss c b n k).fst, (fdF (RFl p) p d cx ss c b n k).snd.fst, (fdF (RFl p) p d cx ss c b n k).snd.snd) (ss.getD k default, cx)).snd.fst, (stepF (RFl p) ((fdF (RFl p) p d cx ss c b n k).fst, (fdF (RFl p) p d cx ss c b n k).snd.fst, (fdF (RFl p) p d cx ss c b n k).snd.snd) (ss.getD k default, cx)).snd.snd) (evs p d cx (ss.getD k default).body)).fst], .box [.bm 131 [pA 0]], .box [iA (↑(List.foldl (stepF (RFl p)) ((stepF (RFl p) ((fdF (RFl p) p d cx ss c b n k).fst, (fdF (RFl p) p d cx ss c b n k).snd.fst, (fdF (RFl p) p d cx ss c b n k).snd.snd) (ss.getD k default, cx)).fst, (stepF (RFl p) ((fdF (RFl p) p d cx ss c b n k).fst, (fdF (RFl p) p d cx ss c b n k).snd.fst, (fdF (RFl p) p d cx ss c b n k).snd.snd) (ss.getD k default, cx)).snd.fst, (stepF (RFl p) ((fdF (RFl p) p d cx ss c b n k).fst, (fdF (RFl p) p d cx ss c b n k).snd.fst, (fdF (RFl p) p d cx ss c b n k).snd.snd) (ss.getD k default, cx)).snd.snd) (evs p d cx (ss.getD k default).body)).snd.snd : Int)], .box [iA (List.foldl (stepF (RFl p)) ((stepF (RFl p) ((fdF (RFl p) p d cx ss c b n k).fst, (fdF (RFl p) p d cx ss c b n k).snd.fst, (fdF (RFl p) p d cx ss c b n k).snd.snd) (ss.getD k default, cx)).fst, (stepF (RFl p) ((fdF (RFl p) p d cx ss c b n k).fst, (fdF (RFl p) p d cx ss c b n k).snd.fst, (fdF (RFl p) p d cx ss c b n k).snd.snd) (ss.getD k default, cx)).snd.fst, (stepF (RFl p) ((fdF (RFl p) p d cx ss c b n k).fst, (fdF (RFl p) p d cx ss c b n k).snd.fst, (fdF (RFl p) p d cx ss c b n k).snd.snd) (ss.getD k default, cx)).snd.snd) (evs p d cx (ss.getD k default).body)).snd.fst], dT ss, .box (pL 0), dE (ss.getD k default).index.kids, dE (ss.getD k default).value.kids, dT (ss.getD k default).body, dT (ss.getD k default).els, .box (sL (ss.getD k default) 9)] [(2, iA cx), (3, .fn 132 [.ptr 3 0, .ptr 4 0, .ptr 5 0, .ptr 6 0]), (4, .ptr 8 0), (9, .ptr 13 0), (10, iA cx), (11, .ref 7), (12, iA (↑ss.length : Int)), (13, iA (↑k : Int))] [] trivial ?_
    clear G; intro ρ a w G
    refine th_n ?_
    refine rs1 (dk := dkP) G ⟨[(5, _, [0, 1, 2, 3, 4, 5, 6, 12])], [], []⟩ (calls_cons (ih ((ss.getD k default).els) (cx) ((List.foldl (stepF (RFl p)) ((stepF (RFl p) ((fdF (RFl p) p d cx ss c b n k).fst, (fdF (RFl p) p d cx ss c b n k).snd.fst, (fdF (RFl p) p d cx ss c b n k).snd.snd) (ss.getD k default, cx)).fst, (stepF (RFl p) ((fdF (RFl p) p d cx ss c b n k).fst, (fdF (RFl p) p d cx ss c b n k).snd.fst, (fdF (RFl p) p d cx ss c b n k).snd.snd) (ss.getD k default, cx)).snd.fst, (stepF (RFl p) ((fdF (RFl p) p d cx ss c b n k).fst, (fdF (RFl p) p d cx ss c b n k).snd.fst, (fdF (RFl p) p d cx ss c b n k).snd.snd) (ss.getD k default, cx)).snd.snd) (evs p d cx (ss.getD k default).body)).fst) ((List.foldl (stepF (RFl p)) ((stepF (RFl p) ((fdF (RFl p) p d cx ss c b n k).fst, (fdF (RFl p) p d cx ss c b n k).snd.fst, (fdF (RFl p) p d cx ss c b n k).snd.snd) (ss.getD k default, cx)).fst, (stepF (RFl p) ((fdF (RFl p) p d cx ss c b n k).fst, (fdF (RFl p) p d cx ss c b n k).snd.fst, (fdF (RFl p) p d cx ss c b n k).snd.snd) (ss.getD k default, cx)).snd.fst, (stepF (RFl p) ((fdF (RFl p) p d cx ss c b n k).fst, (fdF (RFl p) p d cx ss c b n k).snd.fst, (fdF (RFl p) p d cx ss c b n k).snd.snd) (ss.getD k default, cx)).snd.snd) (evs p d cx (ss.getD k default).body)).snd.fst) ((List.foldl (stepF (RFl p)) ((stepF (RFl p) ((fdF (RFl p) p d cx ss c b n k).fst, (fdF (RFl p) p d cx ss c b n k).snd.fst, (fdF (RFl p) p d cx ss c b n k).snd.snd) (ss.getD k default, cx)).fst, (stepF (RFl p) ((fdF (RFl p) p d cx ss c b n k).fst, (fdF (RFl p) p d cx ss c b n k).snd.fst, (fdF (RFl p) p d cx ss c b n k).snd.snd) (ss.getD k default, cx)).snd.fst, (stepF (RFl p) ((fdF (RFl p) p d cx ss c b n k).fst, (fdF (RFl p) p d cx ss c b n k).snd.fst, (fdF (RFl p) p d cx ss c b n k).snd.snd) (ss.getD k default, cx)).snd.snd) (evs p d cx (ss.getD k default).body)).snd.snd) (by omega) (by exact (bl_at hs (by omega)).2.2) (by exact fd_cnt3 (by omega) hn st_n)) calls_nil) trivial [0, 1, 2, 3, 4, 5, 6, 7, 8] [dI p.vars, dI p.arrays, dT p.body, .box [iA (List.foldl (stepF (RFl p)) ((List.foldl (stepF (RFl p)) ((stepF (RFl p) ((fdF (RFl p) p d cx ss c b n k).fst, (fdF (RFl p) p d cx ss c b n k).snd.fst, (fdF (RFl p) p d cx ss c b n k).snd.snd) (ss.getD k default, cx)).fst, (stepF (RFl p) ((fdF (RFl p) p d cx ss c b n k).fst, (fdF (RFl p) p d cx ss c b n k).snd.fst, (fdF (RFl p) p d cx ss c b n k).snd.snd) (ss.getD k default, cx)).snd.fst, (stepF (RFl p) ((fdF (RFl p) p d cx ss c b n k).fst, (fdF (RFl p) p d cx ss c b n k).snd.fst, (fdF (RFl p) p d cx ss c b n k).snd.snd) (ss.getD k default, cx)).snd.snd) (evs p d cx (ss.getD k default).body)).fst, (List.foldl (stepF (RFl p)) ((stepF (RFl p) ((fdF (RFl p) p d cx ss c b n k).fst, (fdF (RFl p) p d cx ss c b n k).snd.fst, (fdF (RFl p) p d cx ss c b n k).snd.snd) (ss.getD k default, cx)).fst, (stepF (RFl p) ((fdF (RFl p) p d cx ss c b n k).fst, (fdF (RFl p) p d cx ss c b n k).snd.fst, (fdF (RFl p) p d cx ss c b n k).snd.snd) (ss.getD k default, cx)).snd.fst, (stepF (RFl p) ((fdF (RFl p) p d cx ss c b n k).fst, (fdF (RFl p) p d cx ss c b n k).snd.fst, (fdF (RFl p) p d cx ss c b n k).snd.snd) (ss.getD k default, cx)).snd.snd) (evs p d cx (ss.getD k default).body)).snd.fst, (List.foldl (stepF (RFl p)) ((stepF (RFl p) ((fdF (RFl p) p d cx ss c b n k).fst, (fdF (RFl p) p d cx ss c b n k).snd.fst, (fdF (RFl p) p d cx ss c b n k).snd.snd) (ss.getD k default, cx)).fst, (stepF (RFl p) ((fdF (RFl p) p d cx ss c b n k).fst, (fdF (RFl p) p d cx ss c b n k).snd.fst, (fdF (RFl p) p d cx ss c b n k).snd.snd) (ss.getD k default, cx)).snd.fst, (stepF (RFl p) ((fdF (RFl p) p d cx ss c b n k).fst, (fdF (RFl p) p d cx ss c b n k).snd.fst, (fdF (RFl p) p d cx ss c b n k).snd.snd) (ss.getD k default, cx)).snd.snd) (evs p d cx (ss.getD k default).body)).snd.snd) (evs p d cx (ss.getD k default).els)).fst], .box [.bm 131 [pA 0]], .box [iA (↑(List.foldl (stepF (RFl p)) ((List.foldl (stepF (RFl p)) ((stepF (RFl p) ((fdF (RFl p) p d cx ss c b n k).fst, (fdF (RFl p) p d cx ss c b n k).snd.fst, (fdF (RFl p) p d cx ss c b n k).snd.snd) (ss.getD k default, cx)).fst, (stepF (RFl p) ((fdF (RFl p) p d cx ss c b n k).fst, (fdF (RFl p) p d cx ss c b n k).snd.fst, (fdF (RFl p) p d cx ss c b n k).snd.snd) (ss.getD k default, cx)).snd.fst, (stepF (RFl p) ((fdF (RFl p) p d cx ss c b n k).fst, (fdF (RFl p) p d cx ss c b n k).snd.fst, (fdF (RFl p) p d cx ss c b n k).snd.snd) (ss.getD k default, cx)).snd.snd) (evs p d cx (ss.getD k default).body)).fst, (List.foldl (stepF (RFl p)) ((stepF (RFl p) ((fdF (RFl p) p d cx ss c b n k).fst, (fdF (RFl p) p d cx ss c b n k).snd.fst, (fdF (RFl p) p d cx ss c b n k).snd.snd) (ss.getD k default, cx)).fst, (stepF (RFl p) ((fdF (RFl p) p d cx ss c b n k).fst, (fdF (RFl p) p d cx ss c b n k).snd.fst, (fdF (RFl p) p d cx ss c b n k).snd.snd) (ss.getD k default, cx)).snd.fst, (stepF (RFl p) ((fdF (RFl p) p d cx ss c b n k).fst, (fdF (RFl p) p d cx ss c b n k).snd.fst, (fdF (RFl p) p d cx ss c b n k).snd.snd) (ss.getD k default, cx)).snd.snd) (evs p d cx (ss.getD k default).body)).snd.fst, (List.foldl (stepF (RFl p)) ((stepF (RFl p) ((fdF (RFl p) p d cx ss c b n k).fst, (fdF (RFl p) p d cx ss c b n k).snd.fst, (fdF (RFl p) p d cx ss c b n k).snd.snd) (ss.getD k default, cx)).fst, (stepF (RFl p) ((fdF (RFl p) p d cx ss c b n k).fst, (fdF (RFl p) p d cx ss c b n k).snd.fst, (fdF (RFl p) p d cx ss c b n k).snd.snd) (ss.getD k default, cx)).snd.fst, (stepF (RFl p) ((fdF (RFl p) p d cx ss c b n k).fst, (fdF (RFl p) p d cx ss c b n k).snd.fst, (fdF (RFl p) p d cx ss c b n k).snd.snd) (ss.getD k default, cx)).snd.snd) (evs p d cx (ss.getD k default).body)).snd.snd) (evs p d cx (ss.getD k default).els)).snd.snd : Int)], .box [iA (List.foldl (stepF (RFl p)) ((List.foldl (stepF (RFl p)) ((stepF (RFl p) ((fdF (RFl p) p d cx ss c b n k).fst, (fdF (RFl p) p d cx ss c b n k).snd.fst, (fdF (RFl p) p d cx ss c b n k).snd.snd) (ss.getD k default, cx)).fst, (stepF (RFl p) ((fdF (RFl p) p d cx ss c b n k).fst, (fdF (RFl p) p d cx ss c b n k).snd.fst, (fdF (RFl p) p d cx ss c b n k).snd.snd) (ss.getD k default, cx)).snd.fst, (stepF (RFl p) ((fdF (RFl p) p d cx ss c b n k).fst, (fdF (RFl p) p d cx ss c b n k).snd.fst, (fdF (RFl p) p d cx ss c b n k).snd.snd) (ss.getD k default, cx)).snd.snd) (evs p d cx (ss.getD k default).body)).fst, (List.foldl (stepF (RFl p)) ((stepF (RFl p) ((fdF (RFl p) p d cx ss c b n k).fst, (fdF (RFl p) p d cx ss c b n k).snd.fst, (fdF (RFl p) p d cx ss c b n k).snd.snd) (ss.getD k default, cx)).fst, (stepF (RFl p) ((fdF (RFl p) p d cx ss c b n k).fst, (fdF (RFl p) p d cx ss c b n k).snd.fst, (fdF (RFl p) p d cx ss c b n k).snd.snd) (ss.getD k default, cx)).snd.fst, (stepF (RFl p) ((fdF (RFl p) p d cx ss c b n k).fst, (fdF (RFl p) p d cx ss c b n k).snd.fst, (fdF (RFl p) p d cx ss c b n k).snd.snd) (ss.getD k default, cx)).snd.snd) (evs p d cx (ss.getD k default).body)).snd.fst, (List.foldl (stepF (RFl p)) ((stepF (RFl p) ((fdF (RFl p) p d cx ss c b n k).fst, (fdF (RFl p) p d cx ss c b n k).snd.fst, (fdF (RFl p) p d cx ss c b n k).snd.snd) (ss.getD k default, cx)).fst, (stepF (RFl p) ((fdF (RFl p) p d cx ss c b n k).fst, (fdF (RFl p) p d cx ss c b n k).snd.fst, (fdF (RFl p) p d cx ss c b n k).snd.snd) (ss.getD k default, cx)).snd.fst, (stepF (RFl p) ((fdF (RFl p) p d cx ss c b n k).fst, (fdF (RFl p) p d cx ss c b n k).snd.fst, (fdF (RFl p) p d cx ss c b n k).snd.snd) (ss.getD k default, cx)).snd.snd) (evs p d cx (ss.getD k default).body)).snd.snd) (evs p d cx (ss.getD k default).els)).snd.fst], dT ss, .box (pL 0)] [(2, iA cx), (3, .fn 132 [.ptr 3 0, .ptr 4 0, .ptr 5 0, .ptr 6 0]), (4, .ptr 8 0), (11, .ref 7), (12, iA (↑ss.length : Int)), (13, iA (↑k : Int))] [] trivial ?_
    clear G; intro ρ a w G
    refine bl_n ?_
    refine th_n ?_
    refine rs1s G ⟨[], [], []⟩ calls_nil trivial [(2, iA cx), (3, .fn 132 [.ptr 3 0, .ptr 4 0, .ptr 5 0, .ptr 6 0]), (4, .ptr 8 0), (11, .ref 7), (12, iA (↑ss.length : Int)), (13, iA ((↑k : Int) + 1))] [IntKind.i64.wrap ((↑k : Int) + (1 : Int)) = (↑k : Int) + (1 : Int)] ⟨(by exact w64 (by omega) (by omega)), trivial⟩ ?_
    clear G; intro ρ a w G
    refine th_n ?_
    exact rx_next G (k + 1) (by omega) (by omega) [0, 1, 2, 3, 4, 5, 6, 7, 8] [dI p.vars, dI p.arrays, dT p.body, .box [iA (fdF (RFl p) p d cx ss c b n (k + 1)).fst], .box [.bm 131 [pA 0]], .box [iA (↑(fdF (RFl p) p d cx ss c b n (k + 1)).snd.snd : Int)], .box [iA (fdF (RFl p) p d cx ss c b n (k + 1)).snd.fst], dT ss, .box (pL 0)] [(2, iA cx), (3, .fn 132 [.ptr 3 0, .ptr 4 0, .ptr 5 0, .ptr 6 0]), (4, .ptr 8 0), (11, .ref 7), (12, iA (↑ss.length : Int)), (13, iA (↑(k + 1) : Int))] (by kernel_rfl) (by kernel_rfl) (by kernel_rfl) (by have e1 : ((fdF (RFl p) p d cx ss c b n (k + 1)).fst : Int) = ((List.foldl (stepF (RFl p)) ((List.foldl (stepF (RFl p)) ((stepF (RFl p) ((fdF (RFl p) p d cx ss c b n k).fst, (fdF (RFl p) p d cx ss c b n k).snd.fst, (fdF (RFl p) p d cx ss c b n k).snd.snd) (ss.getD k default, cx)).fst, (stepF (RFl p) ((fdF (RFl p) p d cx ss c b n k).fst, (fdF (RFl p) p d cx ss c b n k).snd.fst, (fdF (RFl p) p d cx ss c b n k).snd.snd) (ss.getD k default, cx)).snd.fst, (stepF (RFl p) ((fdF (RFl p) p d cx ss c b n k).fst, (fdF (RFl p) p d cx ss c b n k).snd.fst, (fdF (RFl p) p d cx ss c b n k).snd.snd) (ss.getD k default, cx)).snd.snd) (evs p d cx (ss.getD k default).body)).fst, (List.foldl (stepF (RFl p)) ((stepF (RFl p) ((fdF (RFl p) p d cx ss c b n k).fst, (fdF (RFl p) p d cx ss c b n k).snd.fst, (fdF (RFl p) p d cx ss c b n k).snd.snd) (ss.getD k default, cx)).fst, (stepF (RFl p) ((fdF (RFl p) p d cx ss c b n k).fst, (fdF (RFl p) p d cx ss c b n k).snd.fst, (fdF (RFl p) p d cx ss c b n k).snd.snd) (ss.getD k default, cx)).snd.fst, (stepF (RFl p) ((fdF (RFl p) p d cx ss c b n k).fst, (fdF (RFl p) p d cx ss c b n k).snd.fst, (fdF (RFl p) p d cx ss c b n k).snd.snd) (ss.getD k default, cx)).snd.snd) (evs p d cx (ss.getD k default).body)).snd.fst, (List.foldl (stepF (RFl p)) ((stepF (RFl p) ((fdF (RFl p) p d cx ss c b n k).fst, (fdF (RFl p) p d cx ss c b n k).snd.fst, (fdF (RFl p) p d cx ss c b n k).snd.snd) (ss.getD k default, cx)).fst, (stepF (RFl p) ((fdF (RFl p) p d cx ss c b n k).fst, (fdF (RFl p) p d cx ss c b n k).snd.fst, (fdF (RFl p) p d cx ss c b n k).snd.snd) (ss.getD k default, cx)).snd.fst, (stepF (RFl p) ((fdF (RFl p) p d cx ss c b n k).fst, (fdF (RFl p) p d cx ss c b n k).snd.fst, (fdF (RFl p) p d cx ss c b n k).snd.snd) (ss.getD k default, cx)).snd.snd) (evs p d cx (ss.getD k default).body)).snd.snd) (evs p d cx (ss.getD k default).els)).fst) := (by exact congrArg Prod.fst (fd_n (by omega) (by assumption))); have e2 : ((↑(fdF (RFl p) p d cx ss c b n (k + 1)).snd.snd : Int) : Int) = ((↑(List.foldl (stepF (RFl p)) ((List.foldl (stepF (RFl p)) ((stepF (RFl p) ((fdF (RFl p) p d cx ss c b n k).fst, (fdF (RFl p) p d cx ss c b n k).snd.fst, (fdF (RFl p) p d cx ss c b n k).snd.snd) (ss.getD k default, cx)).fst, (stepF (RFl p) ((fdF (RFl p) p d cx ss c b n k).fst, (fdF (RFl p) p d cx ss c b n k).snd.fst, (fdF (RFl p) p d cx ss c b n k).snd.snd) (ss.getD k default, cx)).snd.fst, (stepF (RFl p) ((fdF (RFl p) p d cx ss c b n k).fst, (fdF (RFl p) p d cx ss c b n k).snd.fst, (fdF (RFl p) p d cx ss c b n k).snd.snd) (ss.getD k default, cx)).snd.snd) (evs p d cx (ss.getD k default).body)).fst, (List.foldl (stepF (RFl p)) ((stepF (RFl p) ((fdF (RFl p) p d cx ss c b n k).fst, (fdF (RFl p) p d cx ss c b n k).snd.fst, (fdF (RFl p) p d cx ss c b n k).snd.snd) (ss.getD k default, cx)).fst, (stepF (RFl p) ((fdF (RFl p) p d cx ss c b n k).fst, (fdF (RFl p) p d cx ss c b n k).snd.fst, (fdF (RFl p) p d cx ss c b n k).snd.snd) (ss.getD k default, cx)).snd.fst, (stepF (RFl p) ((fdF (RFl p) p d cx ss c b n k).fst, (fdF (RFl p) p d cx ss c b n k).snd.fst, (fdF (RFl p) p d cx ss c b n k).snd.snd) (ss.getD k default, cx)).snd.snd) (evs p d cx (ss.getD k default).body)).snd.fst, (List.foldl (stepF (RFl p)) ((stepF (RFl p) ((fdF (RFl p) p d cx ss c b n k).fst, (fdF (RFl p) p d cx ss c b n k).snd.fst, (fdF (RFl p) p d cx ss c b n k).snd.snd) (ss.getD k default, cx)).fst, (stepF (RFl p) ((fdF (RFl p) p d cx ss c b n k).fst, (fdF (RFl p) p d cx ss c b n k).snd.fst, (fdF (RFl p) p d cx ss c b n k).snd.snd) (ss.getD k default, cx)).snd.fst, (stepF (RFl p) ((fdF (RFl p) p d cx ss c b n k).fst, (fdF (RFl p) p d cx ss c b n k).snd.fst, (fdF (RFl p) p d cx ss c b n k).snd.snd) (ss.getD k default, cx)).snd.snd) (evs p d cx (ss.getD k default).body)).snd.snd) (evs p d cx (ss.getD k default).els)).snd.snd : Int)) := (by exact congrArg (fun x : Int × Int × Nat => Int.ofNat x.2.2) (fd_n (by omega) (by assumption))); have e3 : ((fdF (RFl p) p d cx ss c b n (k + 1)).snd.fst : Int) = ((List.foldl (stepF (RFl p)) ((List.foldl (stepF (RFl p)) ((stepF (RFl p) ((fdF (RFl p) p d cx ss c b n k).fst, (fdF (RFl p) p d cx ss c b n k).snd.fst, (fdF (RFl p) p d cx ss c b n k).snd.snd) (ss.getD k default, cx)).fst, (stepF (RFl p) ((fdF (RFl p) p d cx ss c b n k).fst, (fdF (RFl p) p d cx ss c b n k).snd.fst, (fdF (RFl p) p d cx ss c b n k).snd.snd) (ss.getD k default, cx)).snd.fst, (stepF (RFl p) ((fdF (RFl p) p d cx ss c b n k).fst, (fdF (RFl p) p d cx ss c b n k).snd.fst, (fdF (RFl p) p d cx ss c b n k).snd.snd) (ss.getD k default, cx)).snd.snd) (evs p d cx (ss.getD k default).body)).fst, (List.foldl (stepF (RFl p)) ((stepF (RFl p) ((fdF (RFl p) p d cx ss c b n k).fst, (fdF (RFl p) p d cx ss c b n k).snd.fst, (fdF (RFl p) p d cx ss c b n k).snd.snd) (ss.getD k default, cx)).fst, (stepF (RFl p) ((fdF (RFl p) p d cx ss c b n k).fst, (fdF (RFl p) p d cx ss c b n k).snd.fst, (fdF (RFl p) p d cx ss c b n k).snd.snd) (ss.getD k default, cx)).snd.fst, (stepF (RFl p) ((fdF (RFl p) p d cx ss c b n k).fst, (fdF (RFl p) p d cx ss c b n k).snd.fst, (fdF (RFl p) p d cx ss c b n k).snd.snd) (ss.getD k default, cx)).snd.snd) (evs p d cx (ss.getD k default).body)).snd.fst, (List.foldl (stepF (RFl p)) ((stepF (RFl p) ((fdF (RFl p) p d cx ss c b n k).fst, (fdF (RFl p) p d cx ss c b n k).snd.fst, (fdF (RFl p) p d cx ss c b n k).snd.snd) (ss.getD k default, cx)).fst, (stepF (RFl p) ((fdF (RFl p) p d cx ss c b n k).fst, (fdF (RFl p) p d cx ss c b n k).snd.fst, (fdF (RFl p) p d cx ss c b n k).snd.snd) (ss.getD k default, cx)).snd.fst, (stepF (RFl p) ((fdF (RFl p) p d cx ss c b n k).fst, (fdF (RFl p) p d cx ss c b n k).snd.fst, (fdF (RFl p) p d cx ss c b n k).snd.snd) (ss.getD k default, cx)).snd.snd) (evs p d cx (ss.getD k default).body)).snd.snd) (evs p d cx (ss.getD k default).els)).snd.fst) := (by exact congrArg (fun x : Int × Int × Nat => x.2.1) (fd_n (by omega) (by assumption))); first | (rw [e1, e2, e3]; done) | (rw [e1, e2, e3]; rfl) | (simp only [e1, e2, e3]; done) | (simp only [e1, e2, e3]; rfl)) (by kernel_rfl)
   ·
    have q1 : (ss.getD k default).kind = 3 := eq_of_beq h1
    refine rT G ((ss.getD k default).kind == (3 : Int)) (by assumption) ?_
    refine rs1s G ⟨[(4, _, [0, 1, 2, 10])], [], []⟩ (calls_cons (c_label (p) ((ss.getD k default).value) (by exact hd_value (bl_at hs (by omega)).1 (by omega))) calls_nil) trivial [(2, iA cx), (3, .fn 132 [.ptr 3 0, .ptr 4 0, .ptr 5 0, .ptr 6 0]), (4, .ptr 8 0), (9, .ptr 13 0), (10, iA (orI cx (labV p (ss.getD k default).value))), (11, .ref 7), (12, iA (↑ss.length : Int)), (13, iA (↑k : Int))] [] trivial ?_
    clear G; intro ρ a w G
    refine th_n ?_
    refine wp_seq ?_
    refine rs1 (dk := dkP) G ⟨[(5, _, [0, 1, 2, 3, 4, 5, 6, 11])], [], []⟩ (calls_cons (ih ((ss.getD k default).body) (orI cx (labV p (ss.getD k default).value)) ((stepF (RFl p) ((fdF (RFl p) p d cx ss c b n k).fst, (fdF (RFl p) p d cx ss c b n k).snd.fst, (fdF (RFl p) p d cx ss c b n k).snd.snd) (ss.getD k default, cx)).fst) ((stepF (RFl p) ((fdF (RFl p) p d cx ss c b n k).fst, (fdF (RFl p) p d cx ss c b n k).snd.fst, (fdF (RFl p) p d cx ss c b n k).snd.snd) (ss.getD k default, cx)).snd.fst) ((stepF (RFl p) ((fdF (RFl p) p d cx ss c b n k).fst, (fdF (RFl p) p d cx ss c b n k).snd.fst, (fdF (RFl p) p d cx ss c b n k).snd.snd) (ss.getD k default, cx)).snd.snd) (by omega) (by exact (bl_at hs (by omega)).2.1) (by exact fd_cnt2 (by omega) hn)) calls_nil) trivial [0, 1, 2, 3, 4, 5, 6, 7, 8, 9, 10, 11, 12, 13] [dI p.vars, dI p.arrays, dT p.body, .box [iA (List.foldl (stepF (RFl p)) ((stepF (RFl p) ((fdF (RFl p) p d cx ss c b n k).fst, (fdF (RFl p) p d cx ss c b n k).snd.fst, (fdF (RFl p) p d cx ss c b n k).snd.snd) (ss.getD k default, cx)).fst, (stepF (RFl p) ((fdF (RFl p) p d cx ss c b n k).fst, (fdF (RFl p) p d cx ss c b n k).snd.fst, (fdF (RFl p) p d cx ss c b n k).snd.snd) (ss.getD k default, cx)).snd.fst, (stepF (RFl p) ((fdF (RFl p) p d cx ss c b n k).fst, (fdF (RFl p) p d cx ss c b n k).snd.fst, (fdF (RFl p) p d cx ss c b n k).snd.snd) (ss.getD k default, cx)).snd.snd) (evs p d (orI cx (labV p (ss.getD k default).value)) (ss.getD k default).body)).fst], .box [.bm 131 [pA 0]], .box [iA (↑(List.foldl (stepF (RFl p)) ((stepF (RFl p) ((fdF (RFl p) p d cx ss c b n k).fst, (fdF (RFl p) p d cx ss c b n k).snd.fst, (fdF (RFl p) p d cx ss c b n k).snd.snd) (ss.getD k default, cx)).fst, (stepF (RFl p) ((fdF (RFl p) p d cx ss c b n k).fst, (fdF (RFl p) p d cx ss c b n k).snd.fst, (fdF (RFl p) p d cx ss c b n k).snd.snd) (ss.getD k default, cx)).snd.fst, (stepF (RFl p) ((fdF (RFl p) p d cx ss c b n k).fst, (fdF (RFl p) p d cx ss c b n k).snd.fst, (fdF (RFl p) p d cx ss c b n k).snd.snd) (ss.getD k default, cx)).snd.snd) (evs p d (orI cx (labV p (ss.getD k default).value)) (ss.getD k default).body)).snd.snd : Int)], .box [iA (List.foldl (stepF (RFl p)) ((stepF (RFl p) ((fdF (RFl p) p d cx ss c b n k).fst, (fdF (RFl p) p d cx ss c b n k).snd.fst, (fdF (RFl p) p d cx ss c b n k).snd.snd) (ss.getD k default, cx)).fst, (stepF (RFl p) ((fdF (RFl p) p d cx ss c b n k).fst, (fdF (RFl p) p d cx ss c b n k).snd.fst, (fdF (RFl p) p d cx ss c b n k).snd.snd) (ss.getD k default, cx)).snd.fst, (stepF (RFl p) ((fdF (RFl p) p d cx ss c b n k).fst, (fdF (RFl p) p d cx ss c b n k).snd.fst, (fdF (RFl p) p d cx ss c b n k).snd.snd) (ss.getD k default, cx)).snd.snd) (evs p d (orI cx (labV p (ss.getD k default).value)) (ss.getD k default).body)).snd.fst], dT ss, .box (pL 0), dE (ss.getD k default).index.kids, dE (ss.getD k default).value.kids, dT (ss.getD k default).body, dT (ss.getD k default).els, .box (sL (ss.getD k default) 9)] [(2, iA cx), (3, .fn 132 [.ptr 3 0, .ptr 4 0, .ptr 5 0, .ptr 6 0]), (4, .ptr 8 0), (9, .ptr 13 0), (10, iA (orI cx (labV p (ss.getD k default).value))), (11, .ref 7), (12, iA (↑ss.length : Int)), (13, iA (↑k : Int))] [] trivial ?_
    clear G; intro ρ a w G
    refine th_n ?_
    refine rs1 (dk := dkP) G ⟨[(5, _, [0, 1, 2, 3, 4, 5, 6, 12])], [], []⟩ (calls_cons (ih ((ss.getD k default).els) (orI cx (labV p (ss.getD k default).value)) ((List.foldl (stepF (RFl p)) ((stepF (RFl p) ((fdF (RFl p) p d cx ss c b n k).fst, (fdF (RFl p) p d cx ss c b n k).snd.fst, (fdF (RFl p) p d cx ss c b n k).snd.snd) (ss.getD k default, cx)).fst, (stepF (RFl p) ((fdF (RFl p) p d cx ss c b n k).fst, (fdF (RFl p) p d cx ss c b n k).snd.fst, (fdF (RFl p) p d cx ss c b n k).snd.snd) (ss.getD k default, cx)).snd.fst, (stepF (RFl p) ((fdF (RFl p) p d cx ss c b n k).fst, (fdF (RFl p) p d cx ss c b n k).snd.fst, (fdF (RFl p) p d cx ss c b n k).snd.snd) (ss.getD k default, cx)).snd.snd) (evs p d (orI cx (labV p (ss.getD k default).value)) (ss.getD k default).body)).fst) ((List.foldl (stepF (RFl p)) ((stepF (RFl p) ((fdF (RFl p) p d cx ss c b n k).fst, (fdF (RFl p) p d cx ss c b n k).snd.fst, (fdF (RFl p) p d cx ss c b n k).snd.snd) (ss.getD k default, cx)).fst, (stepF (RFl p) ((fdF (RFl p) p d cx ss c b n k).fst, (fdF (RFl p) p d cx ss c b n k).snd.fst, (fdF (RFl p) p d cx ss c b n k).snd.snd) (ss.getD k default, cx)).snd.fst, (stepF (RFl p) ((fdF (RFl p) p d cx ss c b n k).fst, (fdF (RFl p) p d cx ss c b n k).snd.fst, (fdF (RFl p) p d cx ss c b n k).snd.snd) (ss.getD k default, cx)).snd.snd) (evs p d (orI cx (labV p (ss.getD k default).value)) (ss.getD k default).body)).snd.fst) ((List.foldl (stepF (RFl p)) ((stepF (RFl p) ((fdF (RFl p) p d cx ss c b n k).fst, (fdF (RFl p) p d cx ss c b n k).snd.fst, (fdF (RFl p) p d cx ss c b n k).snd.snd) (ss.getD k default, cx)).fst, (stepF (RFl p) ((fdF (RFl p) p d cx ss c b n k).fst, (fdF (RFl p) p d cx ss c b n k).snd.fst, (fdF (RFl p) p d cx ss c b n k).snd.snd) (ss.getD k default, cx)).snd.fst, (stepF (RFl p) ((fdF (RFl p) p d cx ss c b n k).fst, (fdF (RFl p) p d cx ss c b n k).snd.fst, (fdF (RFl p) p d cx ss c b n k).snd.snd) (ss.getD k default, cx)).snd.snd) (evs p d (orI cx (labV p (ss.getD k default).value)) (ss.getD k default).body)).snd.snd) (by omega) (by exact (bl_at hs (by omega)).2.2) (by exact fd_cnt3 (by omega) hn st_n)) calls_nil) trivial [0, 1, 2, 3, 4, 5, 6, 7, 8] [dI p.vars, dI p.arrays, dT p.body, .box [iA (List.foldl (stepF (RFl p)) ((List.foldl (stepF (RFl p)) ((stepF (RFl p) ((fdF (RFl p) p d cx ss c b n k).fst, (fdF (RFl p) p d cx ss c b n k).snd.fst, (fdF (RFl p) p d cx ss c b n k).snd.snd) (ss.getD k default, cx)).fst, (stepF (RFl p) ((fdF (RFl p) p d cx ss c b n k).fst, (fdF (RFl p) p d cx ss c b n k).snd.fst, (fdF (RFl p) p d cx ss c b n k).snd.snd) (ss.getD k default, cx)).snd.fst, (stepF (RFl p) ((fdF (RFl p) p d cx ss c b n k).fst, (fdF (RFl p) p d cx ss c b n k).snd.fst, (fdF (RFl p) p d cx ss c b n k).snd.snd) (ss.getD k default, cx)).snd.snd) (evs p d (orI cx (labV p (ss.getD k default).value)) (ss.getD k default).body)).fst, (List.foldl (stepF (RFl p)) ((stepF (RFl p) ((fdF (RFl p) p d cx ss c b n k).fst, (fdF (RFl p) p d cx ss c b n k).snd.fst, (fdF (RFl p) p d cx ss c b n k).snd.snd) (ss.getD k default, cx)).fst, (stepF (RFl p) ((fdF (RFl p) p d cx ss c b n k).fst, (fdF (RFl p) p d cx ss c b n k).snd.fst, (fdF (RFl p) p d cx ss c b n k).snd.snd) (ss.getD k default, cx)).snd.fst, (stepF (RFl p) ((fdF (RFl p) p d cx ss c b n k).fst, (fdF (RFl p) p d cx ss c b n k).snd.fst, (fdF (RFl p) p d cx ss c b n k).snd.snd) (ss.getD k default, cx)).snd.snd) (evs p d (orI cx (labV p (ss.getD k default).value)) (ss.getD k default).body)).snd.fst, (List.foldl (stepF (RFl p)) ((stepF (RFl p) ((fdF (RFl p) p d cx ss c b n k).fst, (fdF (RFl p) p d cx ss c b n k).snd.fst, (fdF (RFl p) p d cx ss c b n k).snd.snd) (ss.getD k default, cx)).fst, (stepF (RFl p) ((fdF (RFl p) p d cx ss c b n k).fst, (fdF (RFl p) p d cx ss c b n k).snd.fst, (fdF (RFl p) p d cx ss c b n k).snd.snd) (ss.getD k default, cx)).snd.fst, (stepF (RFl p) ((fdF (RFl p) p d cx ss c b n k).fst, (fdF (RFl p) p d cx ss c b n k).snd.fst, (fdF (RFl p) p d cx ss c b n k).snd.snd) (ss.getD k default, cx)).snd.snd) (evs p d (orI cx (labV p (ss.getD k default).value)) (ss.getD k default).body)).snd.snd) (evs p d (orI cx (labV p (ss.getD k default).value)) (ss.getD k default).els)).fst], .box [.bm 131 [pA 0]], .box [iA (↑(List.foldl (stepF (RFl p)) ((List.foldl (stepF (RFl p)) ((stepF (RFl p) ((fdF (RFl p) p d cx ss c b n k).fst, (fdF (RFl p) p d cx ss c b n k).snd.fst, (fdF (RFl p) p d cx ss c b n k).snd.snd) (ss.getD k default, cx)).fst, (stepF (RFl p) ((fdF (RFl p) p d cx ss c b n k).fst, (fdF (RFl p) p d cx ss c b n k).snd.fst, (fdF (RFl p) p d cx ss c b n k).snd.snd) (ss.getD k default, cx)).snd.fst, (stepF (RFl p) ((fdF (RFl p) p d cx ss c b n k).fst, (fdF (RFl p) p d cx ss c b n k).snd.fst, (fdF (RFl p) p d cx ss c b n k).snd.snd) (ss.getD k default, cx)).snd.snd) (evs p d (orI cx (labV p (ss.getD k default).value)) (ss.getD k default).body)).fst, (List.foldl (stepF (RFl p)) ((stepF (RFl p) ((fdF (RFl p) p d cx ss c b n k).fst, (fdF (RFl p) p d cx ss c b n k).snd.fst, (fdF (RFl p) p d cx ss c b n k).snd.snd) (ss.getD k default, cx)).fst, (stepF (RFl p) ((fdF (RFl p) p d cx ss c b n k).fst, (fdF (RFl p) p d cx ss c b n k).snd.fst, (fdF (RFl p) p d cx ss c b n k).snd.snd) (ss.getD k default, cx)).snd.fst, (stepF (RFl p) ((fdF (RFl p) p d cx ss c b n k).fst, (fdF (RFl p) p d cx ss c b n k).snd.fst, (fdF (RFl p) p d cx ss c b n k).snd.snd) (ss.getD k default, cx)).snd.snd) (evs p d (orI cx (labV p (ss.getD k default).value)) (ss.getD k default).body)).snd.fst, (List.foldl (stepF (RFl p)) ((stepF (RFl p) ((fdF (RFl p) p d cx ss c b n k).fst, (fdF (RFl p) p d cx ss c b n k).snd.fst, (fdF (RFl p) p d cx ss c b n k).snd.snd) (ss.getD k default, cx)).fst, (stepF (RFl p) ((fdF (RFl p) p d cx ss c b n k).fst, (fdF (RFl p) p d cx ss c b n k).snd.fst, (fdF (RFl p) p d cx ss c b n k).snd.snd) (ss.getD k default, cx)).snd.fst, (stepF (RFl p) ((fdF (RFl p) p d cx ss c b n k).fst, (fdF (RFl p) p d cx ss c b n k).snd.fst, (fdF (RFl p) p d cx ss c b n k).snd.snd) (ss.getD k default, cx)).snd.snd) (evs p d (orI cx (labV p (ss.getD k default).value)) (ss.getD k default).body)).snd.snd) (evs p d (orI cx (labV p (ss.getD k default).value)) (ss.getD k default).els)).snd.snd : Int)], .box [iA (List.foldl (stepF (RFl p)) ((List.foldl (stepF (RFl p)) ((stepF (RFl p) ((fdF (RFl p) p d cx ss c b n k).fst, (fdF (RFl p) p d cx ss c b n k).snd.fst, (fdF (RFl p) p d cx ss c b n k).snd.snd) (ss.getD k default, cx)).fst, (stepF (RFl p) ((fdF (RFl p) p d cx ss c b n k).fst, (fdF (RFl p) p d cx ss c b n k).snd.fst, (fdF (RFl p) p d cx ss c b n k).snd.snd) (ss.getD k default, cx)).snd.fst, (stepF (RFl p) ((fdF (RFl p) p d cx ss c b n k).fst, (fdF (RFl p) p d cx ss c b n k).snd.fst, (fdF (RFl p) p d cx ss c b n k).snd.snd) (ss.getD k default, cx)).snd.snd) (evs p d (orI cx (labV p (ss.getD k default).value)) (ss.getD k default).body)).fst, (List.foldl (stepF (RFl p)) ((stepF (RFl p) ((fdF (RFl p) p d cx ss c b n k).fst, (fdF (RFl p) p d cx ss c b n k).snd.fst, (fdF (RFl p) p d cx ss c b n k).snd.snd) (ss.getD k default, cx)).fst, (stepF (RFl p) ((fdF (RFl p) p d cx ss c b n k).fst, (fdF (RFl p) p d cx ss c b n k).snd.fst, (fdF (RFl p) p d cx ss c b n k).snd.snd) (ss.getD k default, cx)).snd.fst, (stepF (RFl p) ((fdF (RFl p) p d cx ss c b n k).fst, (fdF (RFl p) p d cx ss c b n k).snd.fst, (fdF (RFl p) p d cx ss c b n k).snd.snd) (ss.getD k default, cx)).snd.snd) (evs p d (orI cx (labV p (ss.getD k default).value)) (ss.getD k default).body)).snd.fst, (List.foldl (stepF (RFl p)) ((stepF (RFl p) ((fdF (RFl p) p d cx ss c b n k).fst, (fdF (RFl p) p d cx ss c b n k).snd.fst, (fdF (RFl p) p d cx ss c b n k).snd.snd) (ss.getD k default, cx)).fst, (stepF (RFl p) ((fdF (RFl p) p d cx ss c b n k).fst, (fdF (RFl p) p d cx ss c b n k).snd.fst, (fdF (RFl p) p d cx ss c b n k).snd.snd) (ss.getD k default, cx)).snd.fst, (stepF (RFl p) ((fdF (RFl p) p d cx ss c b n k).fst, (fdF (RFl p) p d cx ss c b n k).snd.fst, (fdF (RFl p) p d cx ss c b n k).snd.snd) (ss.getD k default, cx)).snd.snd) (evs p d (orI cx (labV p (ss.getD k default).value)) (ss.getD k default).body)).snd.snd) (evs p d (orI cx (labV p (ss.getD k default).value)) (ss.getD k default).els)).snd.fst], dT ss, .box (pL 0)] [(2, iA cx), (3, .fn 132 [.ptr 3 0, .ptr 4 0, .ptr 5 0, .ptr 6 0]), (4, .ptr 8 0), (11, .ref 7), (12, iA (↑ss.length : Int)), (13, iA (↑k : Int))] [] trivial ?_
    clear G; intro ρ a w G
    refine bl_n ?_
    refine th_n ?_
    refine rs1s G ⟨[], [], []⟩ calls_nil trivial [(2, iA cx), (3, .fn 132 [.ptr 3 0, .ptr 4 0, .ptr 5 0, .ptr 6 0]), (4, .ptr 8 0), (11, .ref 7), (12, iA (↑ss.length : Int)), (13, iA ((↑k : Int) + 1))] [IntKind.i64.wrap ((↑k : Int) + (1 : Int)) = (↑k : Int) + (1 : Int)] ⟨(by exact w64 (by omega) (by omega)), trivial⟩ ?_
    clear G; intro ρ a w G
    refine th_n ?_
    exact rx_next G (k + 1) (by omega) (by omega) [0, 1, 2, 3, 4, 5, 6, 7, 8] [dI p.vars, dI p.arrays, dT p.body, .box [iA (fdF (RFl p) p d cx ss c b n (k + 1)).fst], .box [.bm 131 [pA 0]], .box [iA (↑(fdF (RFl p) p d cx ss c b n (k + 1)).snd.snd : Int)], .box [iA (fdF (RFl p) p d cx ss c b n (k + 1)).snd.fst], dT ss, .box (pL 0)] [(2, iA cx), (3, .fn 132 [.ptr 3 0, .ptr 4 0, .ptr 5 0, .ptr 6 0]), (4, .ptr 8 0), (11, .ref 7), (12, iA (↑ss.length : Int)), (13, iA (↑(k + 1) : Int))] (by kernel_rfl) (by kernel_rfl) (by kernel_rfl) (by have e1 : ((fdF (RFl p) p d cx ss c b n (k + 1)).fst : Int) = ((List.foldl (stepF (RFl p)) ((List.foldl (stepF (RFl p)) ((stepF (RFl p) ((fdF (RFl p) p d cx ss c b n k).fst, (fdF (RFl p) p d cx ss c b n k).snd.fst, (fdF (RFl p) p d cx ss c b n k).snd.snd) (ss.getD k default, cx)).fst, (stepF (RFl p) ((fdF (RFl p) p d cx ss c b n k).fst, (fdF (RFl p) p d cx ss c b n k).snd.fst, (fdF (RFl p) p d cx ss c b n k).snd.snd) (ss.getD k default, cx)).snd.fst, (stepF (RFl p) ((fdF (RFl p) p d cx ss c b n k).fst, (fdF (RFl p) p d cx ss c b n k).snd.fst, (fdF (RFl p) p d cx ss c b n k).snd.snd) (ss.getD k default, cx)).snd.snd) (evs p d (orI cx (labV p (ss.getD k default).value)) (ss.getD k default).body)).fst, (List.foldl (stepF (RFl p)) ((stepF (RFl p) ((fdF (RFl p) p d cx ss c b n k).fst, (fdF (RFl p) p d cx ss c b n k).snd.fst, (fdF (RFl p) p d cx ss c b n k).snd.snd) (ss.getD k default, cx)).fst, (stepF (RFl p) ((fdF (RFl p) p d cx ss c b n k).fst, (fdF (RFl p) p d cx ss c b n k).snd.fst, (fdF (RFl p) p d cx ss c b n k).snd.snd) (ss.getD k default, cx)).snd.fst, (stepF (RFl p) ((fdF (RFl p) p d cx ss c b n k).fst, (fdF (RFl p) p d cx ss c b n k).snd.fst, (fdF (RFl p) p d cx ss c b n k).snd.snd) (ss.getD k default, cx)).snd.snd) (evs p d (orI cx (labV p (ss.getD k default).value)) (ss.getD k default).body)).snd.fst, (List.foldl (stepF (RFl p)) ((stepF (RFl p) ((fdF (RFl p) p d cx ss c b n k).fst, (fdF (RFl p) p d cx ss c b n k).snd.fst, (fdF (RFl p) p d cx ss c b n k).snd.snd) (ss.getD k default, cx)).fst, (stepF (RFl p) ((fdF (RFl p) p d cx ss c b n k).fst, (fdF (RFl p) p d cx ss c b n k).snd.fst, (fdF (RFl p) p d cx ss c b n k).snd.snd) (ss.getD k default, cx)).snd.fst, (stepF (RFl p) ((fdF (RFl p) p d cx ss c b n k).fst, (fdF (RFl p) p d cx ss c b n k).snd.fst, (fdF (RFl p) p d cx ss c b n k).snd.snd) (ss.getD k default, cx)).snd.snd) (evs p d (orI cx (labV p (ss.getD k default).value)) (ss.getD k default).body)).snd.snd) (evs p d (orI cx (labV p (ss.getD k default).value)) (ss.getD k default).els)).fst) := (by exact congrArg Prod.fst (fd_3 (by omega) (by assumption))); have e2 : ((↑(fdF (RFl p) p d cx ss c b n (k + 1)).snd.snd : Int) : Int) = ((↑(List.foldl (stepF (RFl p)) ((List.foldl (stepF (RFl p)) ((stepF (RFl p) ((fdF (RFl p) p d cx ss c b n k).fst, (fdF (RFl p) p d cx ss c b n k).snd.fst, (fdF (RFl p) p d cx ss c b n k).snd.snd) (ss.getD k default, cx)).fst, (stepF (RFl p) ((fdF (RFl p) p d cx ss c b n k).fst, (fdF (RFl p) p d cx ss c b n k).snd.fst, (fdF (RFl p) p d cx ss c b n k).snd.snd) (ss.getD k default, cx)).snd.fst, (stepF (RFl p) ((fdF (RFl p) p d cx ss c b n k).fst, (fdF (RFl p) p d cx ss c b n k).snd.fst, (fdF (RFl p) p d cx ss c b n k).snd.snd) (ss.getD k default, cx)).snd.snd) (evs p d (orI cx (labV p (ss.getD k default).value)) (ss.getD k default).body)).fst, (List.foldl (stepF (RFl p)) ((stepF (RFl p) ((fdF (RFl p) p d cx ss c b n k).fst, (fdF (RFl p) p d cx ss c b n k).snd.fst, (fdF (RFl p) p d cx ss c b n k).snd.snd) (ss.getD k default, cx)).fst, (stepF (RFl p) ((fdF (RFl p) p d cx ss c b n k).fst, (fdF (RFl p) p d cx ss c b n k).snd.fst, (fdF (RFl p) p d cx ss c b n k).snd.snd) (ss.getD k default, cx)).snd.fst, (stepF (RFl p) ((fdF (RFl p) p d cx ss c b n k).fst, (fdF (RFl p) p d cx ss c b n k).snd.fst, (fdF (RFl p) p d cx ss c b n k).snd.snd) (ss.getD k default, cx)).snd.snd) (evs p d (orI cx (labV p (ss.getD k default).value)) (ss.getD k default).body)).snd.fst, (List.foldl (stepF (RFl p)) ((stepF (RFl p) ((fdF (RFl p) p d cx ss c b n k).fst, (fdF (RFl p) p d cx ss c b n k).snd.fst, (fdF (RFl p) p d cx ss c b n k).snd.snd) (ss.getD k default, cx)).fst, (stepF (RFl p) ((fdF (RFl p) p d cx ss c b n k).fst, (fdF (RFl p) p d cx ss c b n k).snd.fst, (fdF (RFl p) p d cx ss c b n k).snd.snd) (ss.getD k default, cx)).snd.fst, (stepF (RFl p) ((fdF (RFl p) p d cx ss c b n k).fst, (fdF (RFl p) p d cx ss c b n k).snd.fst, (fdF (RFl p) p d cx ss c b n k).snd.snd) (ss.getD k default, cx)).snd.snd) (evs p d (orI cx (labV p (ss.getD k default).value)) (ss.getD k default).body)).snd.snd) (evs p d (orI cx (labV p (ss.getD k default).value)) (ss.getD k default).els)).snd.snd : Int)) := (by exact congrArg (fun x : Int × Int × Nat => Int.ofNat x.2.2) (fd_3 (by omega) (by assumption))); have e3 : ((fdF (RFl p) p d cx ss c b n (k + 1)).snd.fst : Int) = ((List.foldl (stepF (RFl p)) ((List.foldl (stepF (RFl p)) ((stepF (RFl p) ((fdF (RFl p) p d cx ss c b n k).fst, (fdF (RFl p) p d cx ss c b n k).snd.fst, (fdF (RFl p) p d cx ss c b n k).snd.snd) (ss.getD k default, cx)).fst, (stepF (RFl p) ((fdF (RFl p) p d cx ss c b n k).fst, (fdF (RFl p) p d cx ss c b n k).snd.fst, (fdF (RFl p) p d cx ss c b n k).snd.snd) (ss.getD k default, cx)).snd.fst, (stepF (RFl p) ((fdF (RFl p) p d cx ss c b n k).fst, (fdF (RFl p) p d cx ss c b n k).snd.fst, (fdF (RFl p) p d cx ss c b n k).snd.snd) (ss.getD k default, cx)).snd.snd) (evs p d (orI cx (labV p (ss.getD k default).value)) (ss.getD k default).body)).fst, (List.foldl (stepF (RFl p)) ((stepF (RFl p) ((fdF (RFl p) p d cx ss c b n k).fst, (fdF (RFl p) p d cx ss c b n k).snd.fst, (fdF (RFl p) p d cx ss c b n k).snd.snd) (ss.getD k default, cx)).fst, (stepF (RFl p) ((fdF (RFl p) p d cx ss c b n k).fst, (fdF (RFl p) p d cx ss c b n k).snd.fst, (fdF (RFl p) p d cx ss c b n k).snd.snd) (ss.getD k default, cx)).snd.fst, (stepF (RFl p) ((fdF (RFl p) p d cx ss c b n k).fst, (fdF (RFl p) p d cx ss c b n k).snd.fst, (fdF (RFl p) p d cx ss c b n k).snd.snd) (ss.getD k default, cx)).snd.snd) (evs p d (orI cx (labV p (ss.getD k default).value)) (ss.getD k default).body)).snd.fst, (List.foldl (stepF (RFl p)) ((stepF (RFl p) ((fdF (RFl p) p d cx ss c b n k).fst, (fdF (RFl p) p d cx ss c b n k).snd.fst, (fdF (RFl p) p d cx ss c b n k).snd.snd) (ss.getD k default, cx)).fst, (stepF (RFl p) ((fdF (RFl p) p d cx ss c b n k).fst, (fdF (RFl p) p d cx ss c b n k).snd.fst, (fdF (RFl p) p d cx ss c b n k).snd.snd) (ss.getD k default, cx)).snd.fst, (stepF (RFl p) ((fdF (RFl p) p d cx ss c b n k).fst, (fdF (RFl p) p d cx ss c b n k).snd.fst, (fdF (RFl p) p d cx ss c b n k).snd.snd) (ss.getD k default, cx)).snd.snd) (evs p d (orI cx (labV p (ss.getD k default).value)) (ss.getD k default).body)).snd.snd) (evs p d (orI cx (labV p (ss.getD k default).value)) (ss.getD k default).els)).snd.fst) := (by exact congrArg (fun x : Int × Int × Nat => x.2.1) (fd_3 (by omega) (by assumption))); first | (rw [e1, e2, e3]; done) | (rw [e1, e2, e3]; rfl) | (simp only [e1, e2, e3]; done) | (simp only [e1, e2, e3]; rfl)) (by kernel_rfl)

theorem c_eachFD (p : LProg) : ∀ (d : Nat) (ss : List LStmt) (cx : Int) (c b : Int) (n : Nat), ss.all (stmtB p.vars.length p.arrays.length d) = true → n + nSs ss ≤ 4000000 → Ctr.ok Try.prog ⟨125, [pA 0, .ref 7, iA cx, .fn 132 [.ptr 3 0, .ptr 4 0, .ptr 5 0, .ptr 6 0]], pS p ++ fcB FLOW c n b ++ [.dat (.stmts ss)],
      pS p ++ fcB FLOW ((evs p d cx ss).foldl (stepF (RFl p)) (c, b, n)).1 ((evs p d cx ss).foldl (stepF (RFl p)) (c, b, n)).2.2 ((evs p d cx ss).foldl (stepF (RFl p)) (c, b, n)).2.1 ++ [.dat (.stmts ss)], .tup []⟩ := by
  intro d
  induction d with
  | zero =>
    intro ss cx c b n hs hn
    have h0 : ss = [] := by
      cases ss with
      | nil => rfl
      | cons a r => simp [stmtB] at hs
    subst h0
    exact c_eachFS p 0 [] (fun _ _ _ _ _ h => absurd h (by simp)) cx c b n rfl hn
  | succ d ih => intro ss cx c b n hs hn; exact c_eachFS p d ss (fun tt cx c b n _ h1 h2 => ih tt cx c b n h1 h2) cx c b n hs hn
theorem c_eachFP (p : LProg) (h : progB p = true) : Ctr.ok Try.prog ⟨125, [pA 0, .ref 2, iA 0, .fn 132 [.ptr 3 0, .ptr 4 0, .ptr 5 0, .ptr 6 0]], pS p ++ fcB FLOW 0 0 (-1),
      pS p ++ fcB FLOW ((evs p 5 0 p.body).foldl (stepF (RFl p)) (0, -1, 0)).1 ((evs p 5 0 p.body).foldl (stepF (RFl p)) (0, -1, 0)).2.2 ((evs p 5 0 p.body).foldl (stepF (RFl p)) (0, -1, 0)).2.1, .tup []⟩ :=
  Ctr.dup (S := pS p ++ fcB FLOW 0 0 (-1)) (S' := pS p ++ fcB FLOW ((evs p 5 0 p.body).foldl (stepF (RFl p)) (0, -1, 0)).1 ((evs p 5 0 p.body).foldl (stepF (RFl p)) (0, -1, 0)).2.2 ((evs p 5 0 p.body).foldl (stepF (RFl p)) (0, -1, 0)).2.1) (d := .stmts p.body) (i := 2) (c_eachFD p 5 p.body 0 0 (-1) 0 (progB_all h).1 (by have := (progB_all h).2; omega)) rfl rfl rfl (fun ρ h => by simp only [AV.vals, AV.val]; rw [show ρ 7 = ρ 2 from h]) rfl

set_option maxRecDepth 100000 in
theorem c_firstOfF (p : LProg) (h : progB p = true) : Ctr.ok Try.prog (fnC 69 [pA 0, .bm FLOW [pA 0]] (pS p) (.tup [iA ((evs p 5 0 p.body).foldl (stepF (RFl p)) (0, -1, 0)).1, iA ((evs p 5 0 p.body).foldl (stepF (RFl p)) (0, -1, 0)).2.1])) := by
  refine rx_enter 16 Try.func69 (by rfl) (by kernel_rfl) (by kernel_rfl) ?_
  intro ι φ ψ w0 w F ρ0 ρ a G
  replace G := Gam.at G [dI p.vars, dI p.arrays, dT p.body] [(0, pA 0), (1, .bm 131 [pA 0])]
  refine wp_seq ?_
  refine rs0 G [0, 1, 2, 3, 11] [dI p.vars, dI p.arrays, dT p.body, .box (pL 0), .box [.bm 131 [pA 0]]] [(0, pA 0), (2, .ptr 3 0), (3, .ptr 4 0), (4, iA 0), (5, iA 0)] ?_
  clear G; intro ρ a w G
  refine th_n ?_
  refine wp_seq ?_
  refine rs0 G [0, 1, 2, 3, 4, 5, 13, 21] [dI p.vars, dI p.arrays, dT p.body, .box (pL 0), .box [.bm 131 [pA 0]], .box [iA 0], .box [iA (-1)], .box [iA 0]] [(0, pA 0), (2, .ptr 3 0), (3, .ptr 4 0), (4, iA 0), (5, iA 0), (6, .ptr 5 0), (7, .ptr 6 0), (8, .ptr 7 0)] ?_
  clear G; intro ρ a w G
  refine th_n ?_
  refine wp_seq ?_
  refine rs1 (dk := dkP) G ⟨[(4, _, [0, 1, 2, 5, 4, 7, 6])], [], []⟩ (calls_cons (c_eachFP (p) (by assumption)) calls_nil) trivial [0, 1, 2, 5, 6] [dI p.vars, dI p.arrays, dT p.body, .box [iA (List.foldl (stepF (RFl p)) (0, -1, 0) (evs p 5 0 p.body)).fst], .box [iA (List.foldl (stepF (RFl p)) (0, -1, 0) (evs p 5 0 p.body)).snd.fst]] [(0, pA 0), (4, iA 0), (5, iA 0), (6, .ptr 3 0), (7, .ptr 4 0)] [] trivial ?_
  clear G; intro ρ a w G
  refine th_n ?_
  refine wp_seq ?_
  refine rd1 (dk := dkP) G ⟨[], [], []⟩ calls_nil trivial [0, 0, 1, 7] [0, 1, 2] [dI p.vars, dI p.arrays, dT p.body] [(0, pA 0), (4, iA (List.foldl (stepF (RFl p)) (0, -1, 0) (evs p 5 0 p.body)).fst), (5, iA (List.foldl (stepF (RFl p)) (0, -1, 0) (evs p 5 0 p.body)).snd.fst)] [] trivial ?_
  clear G; intro ρ a w G
  refine th_n ?_
  refine wp_ret ?_
  exact rx_ret (v := .tup [iA (List.foldl (stepF (RFl p)) (0, -1, 0) (evs p 5 0 p.body)).fst, iA (List.foldl (stepF (RFl p)) (0, -1, 0) (evs p 5 0 p.body)).snd.fst]) G [0, 1, 2] (by kernel_rfl) (by kernel_rfl) (by kernel_rfl) (by kernel_rfl)

end Go.Proofs.Ytgpkdfefgcpbiaa

namespace Go.Proofs.Ytgpkdfefgcpbiaa
set_option linter.unusedVariables false
set_option linter.unusedSimpArgs false
open Go Go.RowKit

set_option maxRecDepth 100000 in
theorem c_iCheckFlow (p : LProg) (hb : szSs p.body ≤ 1048576) : Ctr.ok Try.prog (fnC 68 [pA 0] (pS p) (.tup [iA (ckR p false).1, iA (ckR p false).2])) := by
  refine rx_enter 13 Try.func68 (by rfl) (by kernel_rfl) (by kernel_rfl) ?_
  intro ι φ ψ w0 w F ρ0 ρ a G
  replace G := Gam.at G [dI p.vars, dI p.arrays, dT p.body] [(0, pA 0)]
  refine wp_seq ?_
  refine rs0 G [0, 1, 2, 3] [dI p.vars, dI p.arrays, dT p.body, .box (pL 0)] [(1, .ptr 3 0), (2, iA 0), (3, iA 0)] ?_
  clear G; intro ρ a w G
  refine th_n ?_
  refine wp_seq ?_
  refine wp_seq ?_
  refine rs1s G ⟨[(1, _, [0, 1, 2])], [], []⟩ (calls_cons (c_iProgramValid (p)) calls_nil) trivial [(1, .ptr 3 0), (2, iA 0), (3, iA 0), (6, .v (.bool !progB p))] [] trivial ?_
  clear G; intro ρ a w G
  refine th_n ?_
  cases h0 : (!progB p)
  ·
   have q0 : (progB p) = true := (fun hq => (hq)) (Eq.mp (Bool.not_eq_false' _) h0)
   refine rF G (!progB p) (by assumption) ?_
   refine wp_skip ?_
   refine th_n ?_
   refine wp_seq ?_
   refine rs1 (dk := dkP) G ⟨[(3, _, [0, 1, 2])], [], []⟩ (calls_cons (c_firstOfF (p) (by assumption)) calls_nil) trivial [0, 1, 2] [dI p.vars, dI p.arrays, dT p.body] [(2, iA (List.foldl (stepF (RFl p)) (0, -1, 0) (evs p 5 0 p.body)).fst), (3, iA (List.foldl (stepF (RFl p)) (0, -1, 0) (evs p 5 0 p.body)).snd.fst)] [] trivial ?_
   clear G; intro ρ a w G
   refine th_n ?_
   refine wp_ret ?_
   exact rx_ret (v := .tup [iA (List.foldl (stepF (RFl p)) (0, -1, 0) (evs p 5 0 p.body)).fst, iA (List.foldl (stepF (RFl p)) (0, -1, 0) (evs p 5 0 p.body)).snd.fst]) G [0, 1, 2] (by kernel_rfl) (by kernel_rfl) (by kernel_rfl) (by have e1 : ((ckR p false).fst : Int) = ((List.foldl (stepF (RFl p)) (0, -1, 0) (evs p 5 0 p.body)).fst) := (by exact (ck_flow (by assumption)).1.symm); have e2 : ((ckR p false).snd : Int) = ((List.foldl (stepF (RFl p)) (0, -1, 0) (evs p 5 0 p.body)).snd.fst) := (by exact (ck_flow (by assumption)).2.symm); first | (rw [e1, e2]; done) | (rw [e1, e2]; rfl) | (simp only [e1, e2]; done) | (simp only [e1, e2]; rfl))
  ·
   have q0 : (progB p) = false := (fun hq => (hq)) (Eq.mp (Bool.not_eq_true' _) h0)
   refine rT G (!progB p) (by assumption) ?_
   refine wp_seq ?_
   refine rs0s G [(1, .ptr 3 0), (2, iA 5), (3, iA (-1))] ?_
   clear G; intro ρ a w G
   refine th_n ?_
   refine wp_ret ?_
   refine th_r ?_
   exact rx_ret (v := .tup [iA 5, iA (-1)]) G [0, 1, 2] (by kernel_rfl) (by kernel_rfl) (by kernel_rfl) (by have e1 : ((ckR p false).fst : Int) = (5) := (by rw [ck_no (by assumption)]; done); have e2 : ((ckR p false).snd : Int) = (-1) := (by rw [ck_no (by assumption)]; done); first | (rw [e1, e2]; done) | (rw [e1, e2]; rfl) | (simp only [e1, e2]; done) | (simp only [e1, e2]; rfl))

end Go.Proofs.Ytgpkdfefgcpbiaa

namespace Go.Proofs.Ytgpkdfefgcpbiaa
set_option linter.unusedVariables false
set_option linter.unusedSimpArgs false
open Go Go.RowKit

abbrev Lab : Type := List Int × List Int
def bv (x : Int) : BitVec 64 := BitVec.ofInt 64 x
def ofb (b : BitVec 64) : Int := IntKind.i64.wrap (b.toNat : Int)
theorem bv_ofb (b : BitVec 64) : bv (ofb b) = b := by
  apply BitVec.eq_of_toNat_eq
  unfold bv ofb
  rw [BitVec.toNat_ofInt]
  have h := b.isLt
  unfold IntKind.wrap
  simp only [IntKind.bits, IntKind.signed, Bool.true_and, decide_eq_true_eq]
  split <;> omega
theorem orI_ofb (x y : Int) : orI x y = ofb (bv x ||| bv y) := rfl
theorem bv_or (x y : Int) : bv (orI x y) = bv x ||| bv y := by rw [orI_ofb, bv_ofb]
/-- x may flow to y. -/
def leI (x y : Int) : Prop := bv x ||| bv y = bv y
theorem leI.refl (x : Int) : leI x x := BitVec.or_self
theorem leI.trans {x y z : Int} (h : leI x y) (k : leI y z) : leI x z := by
  unfold leI at *
  rw [← k, ← BitVec.or_assoc, h]
theorem le_or1 (x y : Int) : leI x (orI x y) := by unfold leI; rw [bv_or, ← BitVec.or_assoc, BitVec.or_self]
theorem or_mono {x y a b : Int} (h : leI x a) (k : leI y b) : leI (orI x y) (orI a b) := by
  unfold leI at *
  rw [bv_or, bv_or, BitVec.or_assoc, ← BitVec.or_assoc (bv y), BitVec.or_comm (bv y) (bv a), BitVec.or_assoc (bv a), k, ← BitVec.or_assoc, h]
theorem bv_fin : ∀ x : Fin 4, ∀ y : Fin 4, bv x.val = bv y.val → x = y := by decide +kernel
theorem le_fin : ∀ x : Fin 4, ∀ y : Fin 4, bv x.val ||| bv y.val = bv y.val → x.val ≤ y.val := by decide +kernel
theorem leI.anti {x y : Int} (h : leI x y) (k : leI y x) (hx : labOk x = true) (hy : labOk y = true) : x = y := by
  obtain ⟨a, rfl⟩ := lab_fin hx
  obtain ⟨b, rfl⟩ := lab_fin hy
  unfold leI at *
  rw [BitVec.or_comm, h] at k
  rw [bv_fin b a k]
theorem leI.nat {x y : Int} (h : leI x y) (hx : labOk x = true) (hy : labOk y = true) : x.toNat ≤ y.toNat := by
  obtain ⟨a, rfl⟩ := lab_fin hx
  obtain ⟨b, rfl⟩ := lab_fin hy
  have := le_fin a b h
  omega

def leP (q r : Lab) : Prop := (∀ i, leI (q.1.getD i 0) (r.1.getD i 0)) ∧ ∀ i, leI (q.2.getD i 0) (r.2.getD i 0)
def shP (q r : Lab) : Prop := r.1.length = q.1.length ∧ r.2.length = q.2.length
def okP (q : Lab) : Prop := q.1.all labOk = true ∧ q.2.all labOk = true
theorem leP.refl (q : Lab) : leP q q := ⟨fun _ => leI.refl _, fun _ => leI.refl _⟩
theorem leP.trans {q r s : Lab} (h : leP q r) (k : leP r s) : leP q s := ⟨fun i => (h.1 i).trans (k.1 i), fun i => (h.2 i).trans (k.2 i)⟩
theorem shP.refl (q : Lab) : shP q q := ⟨rfl, rfl⟩
theorem shP.trans {q r s : Lab} (h : shP q r) (k : shP r s) : shP q s := ⟨k.1.trans h.1, k.2.trans h.2⟩
theorem shP.symm {q r : Lab} (h : shP q r) : shP r q := ⟨h.1.symm, h.2.symm⟩
theorem list_anti {a b : List Int} (hl : b.length = a.length) (h : ∀ i, leI (a.getD i 0) (b.getD i 0)) (k : ∀ i, leI (b.getD i 0) (a.getD i 0)) (ha : a.all labOk = true) (hb : b.all labOk = true) : a = b := by
  apply List.ext_getElem (by omega)
  intro i h1 h2
  have := (h i).anti (k i) (getD_ok ha i) (getD_ok hb i)
  rw [getD_lt h1, getD_lt h2] at this
  exact this
theorem leP.anti {q r : Lab} (h : leP q r) (k : leP r q) (hs : shP q r) (hq : okP q) (hr : okP r) : q = r :=
  Prod.ext (list_anti hs.1 h.1 k.1 hq.1 hr.1) (list_anti hs.2 h.2 k.2 hq.2 hr.2)

theorem own_mono {q r : Lab} (h : leP q r) (e : LExpr) : leI (ownL q.1 q.2 e) (ownL r.1 r.2 e) := by
  unfold ownL
  split
  · exact h.1 _
  · split
    · exact h.2 _
    · exact leI.refl _
theorem lab_mono {q r : Lab} (h : leP q r) : ∀ (d : Nat) (e : LExpr), leI (labE q.1 q.2 d e) (labE r.1 r.2 d e)
  | 0, _ => leI.refl _
  | d + 1, e => by
    rw [labE, labE]
    have key : ∀ (ks : List LExpr) (a b : Int), leI a b → leI (ks.foldl (fun a k => orI a (labE q.1 q.2 d k)) a) (ks.foldl (fun a k => orI a (labE r.1 r.2 d k)) b) := by
      intro ks
      induction ks with
      | nil => intro a b hab; exact hab
      | cons x t ih => intro a b hab; rw [List.foldl_cons, List.foldl_cons]; exact ih _ _ (or_mono hab (lab_mono h d x))
    exact key _ _ _ (own_mono h e)

/-- A statement alone. -/
def oneL (q : Lab) (s : LStmt) (cx : Int) : Lab :=
  if s.kind = 1 then (q.1.set s.target.toNat (orI (orI (q.1.getD s.target.toNat 0) (labE q.1 q.2 5 s.value)) cx), q.2)
  else if s.kind = 2 then (q.1, q.2.set s.target.toNat (orI (orI (orI (q.2.getD s.target.toNat 0) (labE q.1 q.2 5 s.value)) (labE q.1 q.2 5 s.index)) cx))
  else q
def innL (q : Lab) (s : LStmt) (cx : Int) : Int := if s.kind = 3 then orI cx (labE q.1 q.2 5 s.value) else cx
/-- Statements within statements; b: the label around the other branch is read behind the first. -/
def upS (b : Bool) : Nat → Lab → Int → LStmt → Lab
  | 0, q, _, _ => q
  | d + 1, q, cx, s => s.els.foldl (fun r t => upS b d r (innL (if b then s.body.foldl (fun r t => upS b d r (innL (oneL q s cx) s cx) t) (oneL q s cx) else oneL q s cx) s cx) t) (s.body.foldl (fun r t => upS b d r (innL (oneL q s cx) s cx) t) (oneL q s cx))
abbrev upB (b : Bool) (d : Nat) (q : Lab) (cx : Int) (ss : List LStmt) : Lab := ss.foldl (fun r t => upS b d r cx t) q
theorem upS_eq (b : Bool) (d : Nat) (q : Lab) (cx : Int) (s : LStmt) : upS b (d + 1) q cx s = upB b d (upB b d (oneL q s cx) (innL (oneL q s cx) s cx) s.body) (innL (if b then upB b d (oneL q s cx) (innL (oneL q s cx) s cx) s.body else oneL q s cx) s cx) s.els := by rw [upS]

theorem set_getD (l : List Int) (t i : Nat) (x : Int) : (l.set t x).getD i 0 = if t = i ∧ t < l.length then x else l.getD i 0 := by
  simp only [List.getD_eq_getElem?_getD, List.getElem?_set]
  by_cases h : t = i
  · subst h
    by_cases h2 : t < l.length
    · simp [h2]
    · simp [h2]
  · simp [h]
theorem set_all {l : List Int} {t : Nat} {x : Int} (h : l.all labOk = true) (hx : labOk x = true) : (l.set t x).all labOk = true := by
  rw [List.all_eq_true] at *
  intro y hy
  rcases List.mem_or_eq_of_mem_set hy with h1 | h1
  · exact h y h1
  · rw [h1]; exact hx
theorem one_sh (q : Lab) (s : LStmt) (cx : Int) : shP q (oneL q s cx) := by
  unfold oneL
  split
  · exact ⟨by simp, rfl⟩
  · split
    · exact ⟨rfl, by simp⟩
    · exact shP.refl _
theorem set_infl {l : List Int} {t : Nat} {x : Int} (h : leI (l.getD t 0) x) (i : Nat) : leI (l.getD i 0) ((l.set t x).getD i 0) := by
  rw [set_getD]
  split
  · rename_i h1; rw [← h1.1]; exact h
  · exact leI.refl _
theorem set_mono {l m : List Int} {t : Nat} {x y : Int} (hl : m.length = l.length) (h : ∀ i, leI (l.getD i 0) (m.getD i 0)) (hx : leI x y) (i : Nat) : leI ((l.set t x).getD i 0) ((m.set t y).getD i 0) := by
  rw [set_getD, set_getD, hl]
  split
  · exact hx
  · exact h i
theorem one_infl (q : Lab) (s : LStmt) (cx : Int) : leP q (oneL q s cx) := by
  unfold oneL
  split
  · exact ⟨set_infl ((le_or1 _ _).trans (le_or1 _ _)), fun _ => leI.refl _⟩
  · split
    · exact ⟨fun _ => leI.refl _, set_infl (((le_or1 _ _).trans (le_or1 _ _)).trans (le_or1 _ _))⟩
    · exact leP.refl _
theorem one_mono {q r : Lab} (h : leP q r) (hs : shP q r) {cx cy : Int} (hc : leI cx cy) (s : LStmt) : leP (oneL q s cx) (oneL r s cy) := by
  unfold oneL
  split
  · exact ⟨set_mono hs.1 h.1 (or_mono (or_mono (h.1 _) (lab_mono h 5 _)) hc), h.2⟩
  · split
    · exact ⟨h.1, set_mono hs.2 h.2 (or_mono (or_mono (or_mono (h.2 _) (lab_mono h 5 _)) (lab_mono h 5 _)) hc)⟩
    · exact h
theorem one_ok {q : Lab} (h : okP q) {cx : Int} (hc : labOk cx = true) (s : LStmt) : okP (oneL q s cx) := by
  unfold oneL
  split
  · exact ⟨set_all h.1 (or_ok (or_ok (getD_ok h.1 _) (labE_ok h.1 h.2 5 _)) hc), h.2⟩
  · split
    · exact ⟨h.1, set_all h.2 (or_ok (or_ok (or_ok (getD_ok h.2 _) (labE_ok h.1 h.2 5 _)) (labE_ok h.1 h.2 5 _)) hc)⟩
    · exact h
theorem inn_mono {q r : Lab} (h : leP q r) {cx cy : Int} (hc : leI cx cy) (s : LStmt) : leI (innL q s cx) (innL r s cy) := by
  unfold innL
  split
  · exact or_mono hc (lab_mono h 5 _)
  · exact hc
theorem inn_ok {q : Lab} (h : okP q) {cx : Int} (hc : labOk cx = true) (s : LStmt) : labOk (innL q s cx) = true := by
  unfold innL
  split
  · exact or_ok hc (labE_ok h.1 h.2 5 _)
  · exact hc

theorem fold_sh {F : Lab → LStmt → Lab} (hF : ∀ q s, shP q (F q s)) : ∀ (ss : List LStmt) (q : Lab), shP q (ss.foldl F q)
  | [], q => shP.refl q
  | s :: r, q => (hF q s).trans (fold_sh hF r _)
theorem fold_infl {F : Lab → LStmt → Lab} (hF : ∀ q s, leP q (F q s)) : ∀ (ss : List LStmt) (q : Lab), leP q (ss.foldl F q)
  | [], q => leP.refl q
  | s :: r, q => (hF q s).trans (fold_infl hF r _)
theorem fold_ok {F : Lab → LStmt → Lab} (hF : ∀ q s, okP q → okP (F q s)) : ∀ (ss : List LStmt) (q : Lab), okP q → okP (ss.foldl F q)
  | [], _, h => h
  | s :: r, q, h => fold_ok hF r _ (hF q s h)
theorem fold_mono {F G : Lab → LStmt → Lab} (hF : ∀ q s, shP q (F q s)) (hG : ∀ q s, shP q (G q s)) (h : ∀ q r s, shP q r → leP q r → leP (F q s) (G r s)) : ∀ (ss : List LStmt) (q r : Lab), shP q r → leP q r → leP (ss.foldl F q) (ss.foldl G r)
  | [], _, _, _, hl => hl
  | s :: t, q, r, hs, hl => fold_mono hF hG h t _ _ (((hF q s).symm.trans hs).trans (hG r s)) (h q r s hs hl)
/-- Where nothing has turned at the end, nothing has turned on the way. -/
theorem fold_fix {F : Lab → LStmt → Lab} (h1 : ∀ q s, leP q (F q s)) (h2 : ∀ q s, shP q (F q s)) (h3 : ∀ q s, okP q → okP (F q s)) : ∀ (ss : List LStmt) (q : Lab), okP q → ss.foldl F q = q → ∀ s ∈ ss, F q s = q
  | [], _, _, _, s, hs => by cases hs
  | x :: r, q, hq, h, s, hs => by
    rw [List.foldl_cons] at h
    have e : F q x = q := ((h1 q x).anti (by have := fold_infl h1 r (F q x); rw [h] at this; exact this) (h2 q x) hq (h3 q x hq)).symm
    rw [e] at h
    rcases List.mem_cons.1 hs with rfl | hs
    · exact e
    · exact fold_fix h1 h2 h3 r q hq h s hs
theorem fold_id {F : Lab → LStmt → Lab} : ∀ (ss : List LStmt) (q : Lab), (∀ s ∈ ss, F q s = q) → ss.foldl F q = q
  | [], _, _ => rfl
  | x :: r, q, h => by
    rw [List.foldl_cons, h x List.mem_cons_self]
    exact fold_id r q fun s hs => h s (List.mem_cons_of_mem _ hs)

theorem up_sh (b : Bool) : ∀ (d : Nat) (cx : Int) (q : Lab) (s : LStmt), shP q (upS b d q cx s)
  | 0, _, q, _ => shP.refl q
  | d + 1, cx, q, s => by
    rw [upS_eq]
    exact ((one_sh q s cx).trans (fold_sh (fun q s => up_sh b d _ q s) _ _)).trans (fold_sh (fun q s => up_sh b d _ q s) _ _)
theorem up_infl (b : Bool) : ∀ (d : Nat) (cx : Int) (q : Lab) (s : LStmt), leP q (upS b d q cx s)
  | 0, _, q, _ => leP.refl q
  | d + 1, cx, q, s => by
    rw [upS_eq]
    exact ((one_infl q s cx).trans (fold_infl (fun q s => up_infl b d _ q s) _ _)).trans (fold_infl (fun q s => up_infl b d _ q s) _ _)
theorem up_ok (b : Bool) : ∀ (d : Nat) (cx : Int) (q : Lab) (s : LStmt), labOk cx = true → okP q → okP (upS b d q cx s)
  | 0, _, _, _, _, h => h
  | d + 1, cx, q, s, hc, h => by
    rw [upS_eq]
    have h1 := one_ok h hc s
    have h2 : okP (upB b d (oneL q s cx) (innL (oneL q s cx) s cx) s.body) := fold_ok (fun q t hq => up_ok b d _ q t (inn_ok h1 hc s) hq) _ _ h1
    refine fold_ok (fun q t hq => up_ok b d _ q t (inn_ok ?_ hc s) hq) _ _ h2
    split
    · exact h2
    · exact h1
theorem up_mono {b b' : Bool} (hb : b = true → b' = true) : ∀ (d : Nat) (cx cy : Int) (q r : Lab) (s : LStmt), leI cx cy → shP q r → leP q r → leP (upS b d q cx s) (upS b' d r cy s)
  | 0, _, _, _, _, _, _, _, h => h
  | d + 1, cx, cy, q, r, s, hc, hs, h => by
    rw [upS_eq, upS_eq]
    have h1 := one_mono h hs hc s
    have s1 : shP (oneL q s cx) (oneL r s cy) := ((one_sh q s cx).symm.trans hs).trans (one_sh r s cy)
    have hi := inn_mono h1 hc s
    have h2 : leP (upB b d (oneL q s cx) (innL (oneL q s cx) s cx) s.body) (upB b' d (oneL r s cy) (innL (oneL r s cy) s cy) s.body) := fold_mono (fun q t => up_sh b d _ q t) (fun q t => up_sh b' d _ q t) (fun q r t hs hl => up_mono hb d _ _ q r t hi hs hl) _ _ _ s1 h1
    have s2 : shP (upB b d (oneL q s cx) (innL (oneL q s cx) s cx) s.body) (upB b' d (oneL r s cy) (innL (oneL r s cy) s cy) s.body) := ((fold_sh (fun q t => up_sh b d _ q t) _ _).symm.trans s1).trans (fold_sh (fun q t => up_sh b' d _ q t) _ _)
    refine fold_mono (fun q t => up_sh b d _ q t) (fun q t => up_sh b' d _ q t) (fun q r t hs hl => up_mono hb d _ _ q r t ?_ hs hl) _ _ _ s2 h2
    refine inn_mono ?_ hc s
    cases b with
    | true =>
      have e := hb rfl
      subst e
      exact h2
    | false =>
      simp only [Bool.false_eq_true, if_false]
      split
      · exact h1.trans (fold_infl (fun q t => up_infl b' d _ q t) _ _)
      · exact h1
section
variable {b : Bool} {d : Nat} {cx : Int} {q r : Lab} {ss : List LStmt}
theorem upB_sh : shP q (upB b d q cx ss) := fold_sh (fun q t => up_sh b d _ q t) _ _
theorem upB_infl : leP q (upB b d q cx ss) := fold_infl (fun q t => up_infl b d _ q t) _ _
theorem upB_ok (hc : labOk cx = true) (h : okP q) : okP (upB b d q cx ss) := fold_ok (fun q t hq => up_ok b d _ q t hc hq) _ _ h
theorem upB_fix (hc : labOk cx = true) (h : okP q) (hf : upB b d q cx ss = q) : ∀ s ∈ ss, upS b d q cx s = q := fold_fix (fun q t => up_infl b d _ q t) (fun q t => up_sh b d _ q t) (fun q t hq => up_ok b d _ q t hc hq) _ _ h hf
end
/-- What stands still in the one order stands still in the other. -/
theorem fix_both : ∀ (d : Nat) (cx : Int) (q : Lab) (s : LStmt), labOk cx = true → okP q → upS false d q cx s = q → upS true d q cx s = q
  | 0, _, _, _, _, _, _ => rfl
  | d + 1, cx, q, s, hc, hq, h => by
    rw [upS_eq] at h ⊢
    have o1 := one_ok hq hc s
    have hi := inn_ok o1 hc s
    have i1 := one_infl q s cx
    have i2 : leP (oneL q s cx) (upB false d (oneL q s cx) (innL (oneL q s cx) s cx) s.body) := upB_infl
    have i3 : leP (upB false d (oneL q s cx) (innL (oneL q s cx) s cx) s.body) q := by
      have := upB_infl (b := false) (d := d) (q := upB false d (oneL q s cx) (innL (oneL q s cx) s cx) s.body) (cx := innL (oneL q s cx) s cx) (ss := s.els)
      simp only [Bool.false_eq_true, if_false] at h
      rw [h] at this; exact this
    have e1 : oneL q s cx = q := (i1.anti (i2.trans i3) (one_sh q s cx) hq o1).symm
    simp only [e1, Bool.false_eq_true, if_false, if_true] at h i2 i3 hi ⊢
    have e2 : upB false d q (innL q s cx) s.body = q := (upB_infl.anti i3 upB_sh hq (upB_ok hi hq)).symm
    rw [e2] at h
    have f1 := upB_fix hi hq e2
    have f2 := upB_fix hi hq h
    have g1 : upB true d q (innL q s cx) s.body = q := fold_id _ _ fun t ht => fix_both d _ q t hi hq (f1 t ht)
    rw [g1]
    exact fold_id _ _ fun t ht => fix_both d _ q t hi hq (f2 t ht)
theorem fixB_both {d : Nat} {cx : Int} {q : Lab} {ss : List LStmt} (hc : labOk cx = true) (hq : okP q) (h : upB false d q cx ss = q) : upB true d q cx ss = q :=
  fold_id _ _ fun t ht => fix_both d _ q t hc hq (upB_fix hc hq h t ht)

def sumL (l : List Int) : Nat := (l.map Int.toNat).sum
def sumP (q : Lab) : Nat := sumL q.1 + sumL q.2
theorem sumL_le : ∀ {a b : List Int}, b.length = a.length → a.all labOk = true → b.all labOk = true → (∀ i, leI (a.getD i 0) (b.getD i 0)) → sumL a ≤ sumL b ∧ (sumL a = sumL b → a = b)
  | [], b, hl, _, _, _ => by rw [List.eq_nil_of_length_eq_zero hl]; exact ⟨Nat.le_refl _, fun _ => rfl⟩
  | x :: r, [], hl, _, _, _ => by cases hl
  | x :: r, y :: t, hl, ha, hb, h => by
    simp only [List.all_cons, Bool.and_eq_true] at ha hb
    have h0 := h 0
    simp at h0
    obtain ⟨k1, k2⟩ := sumL_le (a := r) (b := t) (by simpa using hl) ha.2 hb.2 fun i => by have := h (i + 1); simpa using this
    have k3 := h0.nat ha.1 hb.1
    simp only [sumL, List.map_cons, List.sum_cons] at k1 k2 ⊢
    refine ⟨by omega, fun e => ?_⟩
    obtain ⟨a, rfl⟩ := lab_fin ha.1
    obtain ⟨b, rfl⟩ := lab_fin hb.1
    rw [k2 (by omega)]
    congr 1
    omega
theorem sumL_max : ∀ {l : List Int}, l.all labOk = true → sumL l ≤ 3 * l.length
  | [], _ => Nat.zero_le _
  | x :: r, h => by
    simp only [List.all_cons, Bool.and_eq_true] at h
    have h1 := sumL_max h.2
    obtain ⟨a, rfl⟩ := lab_fin h.1
    simp only [sumL, List.map_cons, List.sum_cons, List.length_cons] at h1 ⊢
    omega
theorem sumP_lt {q r : Lab} (hs : shP q r) (hq : okP q) (hr : okP r) (h : leP q r) (hne : ¬ r = q) : sumP q < sumP r := by
  obtain ⟨a1, a2⟩ := sumL_le hs.1 hq.1 hr.1 h.1
  obtain ⟨b1, b2⟩ := sumL_le hs.2 hq.2 hr.2 h.2
  unfold sumP
  refine Nat.lt_of_not_le fun hle => hne (Prod.ext (a2 (by omega)).symm (b2 (by omega)).symm)
theorem sumP_max {q : Lab} (hq : okP q) : sumP q ≤ 3 * (q.1.length + q.2.length) := by
  have h1 := sumL_max hq.1
  have h2 := sumL_max hq.2
  unfold sumP; omega

/-- On the way to the least labels. -/
def InfW (b : List LStmt) (p q : Lab) : Prop := shP p q ∧ okP q ∧ leP p q ∧ ∀ r, shP p r → okP r → leP p r → upB true 5 r 0 b = r → leP q r
theorem infW_start {b : List LStmt} {p : Lab} (h : okP p) : InfW b p p := ⟨shP.refl _, h, leP.refl _, fun _ _ _ h _ => h⟩
theorem infW_step {b : List LStmt} {p q : Lab} {f : Bool} (h : InfW b p q) : InfW b p (upB f 5 q 0 b) :=
  ⟨h.1.trans upB_sh, upB_ok rfl h.2.1, h.2.2.1.trans upB_infl, fun r h1 h2 h3 h4 => by
    have h5 := h.2.2.2 r h1 h2 h3 h4
    have := fold_mono (fun q t => up_sh f 5 0 q t) (fun q t => up_sh true 5 0 q t) (fun q r t hs hl => up_mono (b := f) (b' := true) (fun _ => rfl) 5 0 0 q r t (leI.refl _) hs hl) b q r (h.1.symm.trans h1) h5
    rw [show b.foldl (fun q t => upS true 5 q 0 t) r = r from h4] at this
    exact this⟩
theorem infW_unique {b : List LStmt} {p q r : Lab} (hq : InfW b p q) (hr : InfW b p r) (fq : upB true 5 q 0 b = q) (fr : upB true 5 r 0 b = r) : q = r :=
  (hq.2.2.2 r hr.1 hr.2.1 hr.2.2.1 fr).anti (hr.2.2.2 q hq.1 hq.2.1 hq.2.2.1 fq) (hq.1.symm.trans hr.1) hq.2.1 hr.2.1
def infF (b : List LStmt) : Nat → Lab → Lab
  | 0, q => q
  | n + 1, q => infF b n (upB true 5 q 0 b)
def infL (p : LProg) : Lab := infF p.body 64 (p.vars, p.arrays)
theorem infF_way {b : List LStmt} {p : Lab} : ∀ (n : Nat) (q : Lab), InfW b p q → InfW b p (infF b n q)
  | 0, _, h => h
  | n + 1, q, h => infF_way n _ (infW_step h)
theorem infF_fix {b : List LStmt} : ∀ (n : Nat) {q : Lab}, upB true 5 q 0 b = q → infF b n q = q
  | 0, _, _ => rfl
  | n + 1, q, h => by rw [infF, h]; exact infF_fix n h
theorem infF_end {b : List LStmt} {p : Lab} : ∀ (n : Nat) (q : Lab), InfW b p q → upB true 5 (infF b n q) 0 b = infF b n q ∨ sumP q + n ≤ sumP (infF b n q)
  | 0, _, _ => .inr (Nat.le_refl _)
  | n + 1, q, h => by
    rw [infF]
    by_cases e : upB true 5 q 0 b = q
    · left
      rw [e, infF_fix n e, e]
    · have h1 := sumP_lt upB_sh h.2.1 (upB_ok rfl h.2.1) upB_infl e
      rcases infF_end n _ (infW_step (f := true) h) with h2 | h2
      · exact .inl h2
      · right; omega
theorem labs_ok {p : LProg} (h : progB p = true) : okP (p.vars, p.arrays) := by
  have := progB_labs h
  simp only [labsB, Bool.and_eq_true] at this
  exact this
theorem infL_way {p : LProg} (h : progB p = true) : InfW p.body (p.vars, p.arrays) (infL p) := infF_way 64 _ (infW_start (labs_ok h))
theorem infL_fix {p : LProg} (h : progB p = true) (hl : p.vars.length + p.arrays.length ≤ 14) : upB true 5 (infL p) 0 p.body = infL p := by
  rcases infF_end (b := p.body) 64 (p.vars, p.arrays) (infW_start (labs_ok h)) with h1 | h1
  · exact h1
  · have h2 := infL_way h
    have h3 := sumP_max h2.2.1
    have h4 := h2.1
    have h5 : infF p.body 64 (p.vars, p.arrays) = infL p := rfl
    rw [h5] at h1
    rw [h4.1, h4.2] at h3
    simp only at h3
    omega
/-- The end of the way. -/
theorem infL_is {p : LProg} {q : Lab} (h : progB p = true) (hl : p.vars.length + p.arrays.length ≤ 14) (hq : InfW p.body (p.vars, p.arrays) q) (hf : upB true 5 q 0 p.body = q) : infL p = q :=
  infW_unique (infL_way h) hq (infL_fix h hl) hf
end Go.Proofs.Ytgpkdfefgcpbiaa
