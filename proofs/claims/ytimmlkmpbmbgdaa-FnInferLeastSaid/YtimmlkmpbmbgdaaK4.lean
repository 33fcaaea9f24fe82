/-
  Texts of this claim, part 4: what the functions on the way do, and plain laws. Conditions: as each statement says.
-/
import Derived.WalkSpells
import Derived.Lib.SliceRun
import Derived.Test.YtimmlkmpbmbgdaaK3

namespace Go.Proofs.Ytimmlkmpbmbgdaa
set_option linter.unusedVariables false
set_option linter.unusedSimpArgs false
open Go Go.RowKit

theorem c_l4LabelD (p : LProg) : ∀ (d : Nat) (e : LExpr), shapeB p.vars.length p.arrays.length d e = true → Ctr.ok Try.prog (fnC 130 [pA 0, eA e 3] (pS p ++ eS e) (iA (labE p.vars p.arrays d e))) := by
  intro d
  induction d with
  | zero => intro e h; simp [shapeB] at h
  | succ d ih => intro e h; exact c_l4LabelS p d ih e h
theorem c_labelD (p : LProg) : ∀ (d : Nat) (e : LExpr), shapeB p.vars.length p.arrays.length d e = true → Ctr.ok Try.prog (fnC 108 [pA 0, eA e 3] (pS p ++ eS e) (iA (labE p.vars p.arrays d e))) := by
  intro d
  induction d with
  | zero => intro e h; simp [shapeB] at h
  | succ d ih => intro e h; exact c_labelS p d ih e h

def secE (vs ars : List Int) : Nat → LExpr → Bool
  | 0, _ => false
  | d + 1, e => (decide (e.kind = 3) && (labOk (labE vs ars d (e.kids.getD 0 default)) && decide (labE vs ars d (e.kids.getD 0 default) % 2 = 1))) || e.kids.any (secE vs ars d)
section
variable {vs ars : List Int} {d : Nat} {e : LExpr}
theorem secE_t (k : e.kind = 3) (h : (labOk (labE vs ars d (e.kids.getD 0 default)) && decide (labE vs ars d (e.kids.getD 0 default) % 2 = 1)) = true) : secE vs ars (d + 1) e = true := by rw [secE, h]; simp [k]
theorem secE_f (h : e.kids.any (secE vs ars d) = false) (k : ¬ e.kind = 3) : secE vs ars (d + 1) e = false := by rw [secE, h]; simp [k]
theorem secE_f3 (h : e.kids.any (secE vs ars d) = false) (k : (labOk (labE vs ars d (e.kids.getD 0 default)) && decide (labE vs ars d (e.kids.getD 0 default) % 2 = 1)) = false) : secE vs ars (d + 1) e = false := by rw [secE, h, k]; simp
end
theorem any_next {α : Type} {l : List α} {k : Nat} {p : α → Bool} {z : α} (h : (l.take k).any p = false) (hk : k < l.length) (hp : p (l.getD k z) = false) : (l.take (k + 1)).any p = false := by
  rw [p_take_succ l k hk, List.any_append, h, ← getD_lt (d := z) hk, List.any_cons, hp]; rfl
theorem any_full {α : Type} {l : List α} {k : Nat} {p : α → Bool} (h : (l.take k).any p = false) (hk : l.length ≤ k) : l.any p = false := by
  rw [List.take_of_length_le hk] at h; exact h
theorem any_hit {α : Type} {l : List α} {k : Nat} {p : α → Bool} {z : α} (hk : k < l.length) (hp : p (l.getD k z) = true) : l.any p = true := by
  rw [getD_lt hk] at hp
  exact List.any_eq_true.2 ⟨_, List.getElem_mem hk, hp⟩

set_option maxRecDepth 100000 in
theorem c_l4SecretS (p : LProg) (d : Nat) (ih : ∀ (e : LExpr), shapeB p.vars.length p.arrays.length d e = true → Ctr.ok Try.prog (fnC 162 [pA 0, eA e 3] (pS p ++ eS e) (bA (secE p.vars p.arrays d e))))
    (ihl : ∀ (e : LExpr), shapeB p.vars.length p.arrays.length d e = true → Ctr.ok Try.prog (fnC 130 [pA 0, eA e 3] (pS p ++ eS e) (iA (labE p.vars p.arrays d e))))
    (e : LExpr) (he : shapeB p.vars.length p.arrays.length (d + 1) e = true) : Ctr.ok Try.prog (fnC 162 [pA 0, eA e 3] (pS p ++ eS e) (bA (secE p.vars p.arrays (d + 1) e))) := by
  refine rx_enter 32 Try.func162 (by rfl) (by kernel_rfl) (by kernel_rfl) ?_; intro ι φ ψ w0 w F ρ0 ρ a G; replace G := Gam.at G [dI p.vars, dI p.arrays, dT p.body, dE e.kids] [(0, pA 0), (1, eA e 3)]; have hlen : e.kids.length ≤ 9223372036854775807 := G.len 3 (d := .exprs e.kids) (by kernel_rfl); refine wp_seq ?_; refine rs0 G [0, 1, 2, 3, 4, 12] [dI p.vars, dI p.arrays, dT p.body, dE e.kids, .box (pL 0), .box (eL e 3)] [(2, .ptr 4 0), (3, .ptr 5 0), (4, bA false)] fun ρ a w G => th_n (wp_seq (wp_seq ?_)); cases h0 : (e.kind == (3 : Int))
  ·
   have q0 : ¬ (e.kind = 3) := ne_of_beq_false h0; refine rd1s G ⟨[], [(e.kind == (3 : Int), false)], us [(4, 10, 0), (1011, 1011, 0)]⟩ calls_nil ⟨(by assumption), trivial⟩ [0, 1, 3, 7, 15, 15, 47, 111, 239, 511, 1023, 2047] [(2, .ptr 4 0), (3, .ptr 5 0), (4, bA false), (17, bA false)] [] trivial fun ρ a w G => th_n ?_; refine rF G (false) (by kernel_rfl) ?_; refine wp_skip (th_n (wp_seq (wp_seq ?_))); refine rs0s G [(2, .ptr 4 0), (3, .ptr 5 0), (4, bA false), (5, iA 0)] fun ρ a w G => th_n (wp_block ?_); refine rx_for (κ := Nat) (fun k => k ≤ e.kids.length ∧ (e.kids.take k).any (secE p.vars p.arrays d) = false) (fun k => e.kids.length - k) (fun k => [dI p.vars, dI p.arrays, dT p.body, dE e.kids, .box (pL 0), .box (eL e 3)]) (fun k => [(2, .ptr 4 0), (3, .ptr 5 0), (4, bA false), (5, iA k)]) (0) (by simp [he, h0]) (Gam.at G _ _) ?_; clear G; intro k ρ a w hp G; replace G := Gam.at G [dI p.vars, dI p.arrays, dT p.body, dE e.kids, .box (pL 0), .box (eL e 3)] [(2, .ptr 4 0), (3, .ptr 5 0), (4, bA false), (5, iA (↑k : Int))]; refine wp_seq (wp_seq ?_); refine rs0s G [(2, .ptr 4 0), (3, .ptr 5 0), (4, bA false), (5, iA (↑k : Int)), (22, bA (decide ((↑k : Int) < (↑e.kids.length : Int))))] fun ρ a w G => th_n ?_; cases h2 : (decide ((↑k : Int) < (↑e.kids.length : Int)))
   · have q2 : ¬ ((↑k : Int) < (↑e.kids.length : Int)) := dFf h2; refine rF G (decide ((↑k : Int) < (↑e.kids.length : Int))) (by assumption) ?_; refine wp_exit (th_e (th_e (bl_hit (th_n (wp_seq ?_))))); refine rs0 G (rg 4) [dI p.vars, dI p.arrays, dT p.body, dE e.kids] [(4, bA false)] fun ρ a w G => th_n (wp_ret ?_); exact rx_ret (v := bA false) G (rg 4) (by kernel_rfl) (by kernel_rfl) (by kernel_rfl) (by have e1 : (secE p.vars p.arrays (d + 1) e : Bool) = (false) := (by exact secE_f (any_full hp.2 (by omega)) (by assumption)); (first | rw [e1] | simp only [e1]) <;> rfl)
   ·
    have q2 : (↑k : Int) < (↑e.kids.length : Int) := dTt h2; refine rT G (decide ((↑k : Int) < (↑e.kids.length : Int))) (by assumption) ?_; refine wp_skip (th_n (wp_seq (wp_block (wp_seq ?_)))); refine rd1s G ⟨[(6, _, [0, 1, 2, 46])], [], []⟩ (calls_cons (ih (e.kids.getD k default) (by exact sh_kid he (by omega))) calls_nil) trivial [0, 0, 2, 0, 14, 30, 63] [(2, .ptr 4 0), (3, .ptr 5 0), (4, bA false), (5, iA (↑k : Int)), (31, bA (secE p.vars p.arrays d (e.kids.getD k default)))] [(0 : Int) ≤ (↑k : Int), (↑k : Int) < (↑e.kids.length : Int), k < e.kids.length] ⟨(by simp [he, h0, h2]), (by assumption), (by have hp := hp; omega), trivial⟩ fun ρ a w G => th_n ?_; cases h3 : (secE p.vars p.arrays d (e.kids.getD k default))
    · refine rF G (secE p.vars p.arrays d (e.kids.getD k default)) (by assumption) ?_; refine wp_skip ?_; refine bl_n ?_; refine th_n ?_; refine rs1s G ⟨[], [], []⟩ calls_nil trivial [(2, .ptr 4 0), (3, .ptr 5 0), (4, bA false), (5, iA ((↑k : Int) + 1))] [IntKind.i64.wrap ((↑k : Int) + (1 : Int)) = (↑k : Int) + (1 : Int)] ⟨(by exact w64 (by omega) (by omega)), trivial⟩ fun ρ a w G => th_n ?_; exact rx_next G (k + 1) (by exact ⟨by omega, any_next hp.2 (by omega) (by assumption)⟩) (by have hp := hp; omega) (rg 6) [dI p.vars, dI p.arrays, dT p.body, dE e.kids, .box (pL 0), .box (eL e 3)] [(2, .ptr 4 0), (3, .ptr 5 0), (4, bA false), (5, iA (↑(k + 1) : Int))] (by kernel_rfl) (by kernel_rfl) (by kernel_rfl) (by kernel_rfl) (by kernel_rfl)
    · refine rT G (secE p.vars p.arrays d (e.kids.getD k default)) (by assumption) ?_; refine wp_seq ?_; refine rs0s G [(2, .ptr 4 0), (3, .ptr 5 0), (4, bA true), (5, iA (↑k : Int))] fun ρ a w G => th_n (wp_ret (bl_r (th_r (th_r (bl_r (th_r ?_)))))); exact rx_ret (v := bA true) G (rg 4) (by kernel_rfl) (by kernel_rfl) (by kernel_rfl) (by have e1 : (secE p.vars p.arrays (d + 1) e : Bool) = (true) := (by rw [secE, any_hit (k := k) (by omega) (by assumption), Bool.or_true]); (first | rw [e1] | simp only [e1]) <;> rfl)
  ·
   have q0 : e.kind = 3 := eq_of_beq h0; refine rd1s G ⟨[(9, _, [0, 1, 2, 70]), (10, _, [])], [(e.kind == (3 : Int), true)], us [(4, 10, 0), (1011, 1011, 0)]⟩ (calls_cons (ihl (e.kids.getD 0 default) (by exact sh_kid he (sh_len he (by assumption)))) (calls_cons (c_LabelSecret (labE p.vars p.arrays d (e.kids.getD 0 default))) calls_nil)) ⟨(by assumption), trivial⟩ [0, 1, 3, 7, 15, 15, 47, 111, 239, 511, 1023, 2047] [(2, .ptr 4 0), (3, .ptr 5 0), (4, bA false), (17, bA (labOk (labE p.vars p.arrays d (e.kids.getD 0 default)) && decide (labE p.vars p.arrays d (e.kids.getD 0 default) % 2 = 1)))] [(0 : Int) ≤ (0 : Int), (0 : Int) < (↑e.kids.length : Int), (0 : Nat) < e.kids.length] ⟨(by simp [he, h0]), (by have := sh_len he (by assumption); omega), (by have := sh_len he (by assumption); omega), trivial⟩ fun ρ a w G => th_n ?_; cases h1 : (labOk (labE p.vars p.arrays d (e.kids.getD (0 : Nat) default)) && decide (labE p.vars p.arrays d (e.kids.getD (0 : Nat) default) % (2 : Int) = (1 : Int)))
   ·
    have q1 : ((labOk (labE p.vars p.arrays d (e.kids.getD 0 default))) = false) ∨ (¬ (labE p.vars p.arrays d (e.kids.getD 0 default) % 2 = 1)) := Or.imp (fun hq => (hq)) (fun hq => of_decide_eq_false (hq)) (Bool.and_eq_false_iff.1 h1); refine rF G (labOk (labE p.vars p.arrays d (e.kids.getD (0 : Nat) default)) && decide (labE p.vars p.arrays d (e.kids.getD (0 : Nat) default) % (2 : Int) = (1 : Int))) (by assumption) ?_; refine wp_skip (th_n (wp_seq (wp_seq ?_))); refine rs0s G [(2, .ptr 4 0), (3, .ptr 5 0), (4, bA false), (5, iA 0)] fun ρ a w G => th_n (wp_block ?_); refine rx_for (κ := Nat) (fun k => k ≤ e.kids.length ∧ (e.kids.take k).any (secE p.vars p.arrays d) = false) (fun k => e.kids.length - k) (fun k => [dI p.vars, dI p.arrays, dT p.body, dE e.kids, .box (pL 0), .box (eL e 3)]) (fun k => [(2, .ptr 4 0), (3, .ptr 5 0), (4, bA false), (5, iA k)]) (0) (by simp [he, h0, h1]) (Gam.at G _ _) ?_; clear G; intro k ρ a w hp G; replace G := Gam.at G [dI p.vars, dI p.arrays, dT p.body, dE e.kids, .box (pL 0), .box (eL e 3)] [(2, .ptr 4 0), (3, .ptr 5 0), (4, bA false), (5, iA (↑k : Int))]; refine wp_seq (wp_seq ?_); refine rs0s G [(2, .ptr 4 0), (3, .ptr 5 0), (4, bA false), (5, iA (↑k : Int)), (22, bA (decide ((↑k : Int) < (↑e.kids.length : Int))))] fun ρ a w G => th_n ?_; cases h4 : (decide ((↑k : Int) < (↑e.kids.length : Int)))
    · have q4 : ¬ ((↑k : Int) < (↑e.kids.length : Int)) := dFf h4; refine rF G (decide ((↑k : Int) < (↑e.kids.length : Int))) (by assumption) ?_; refine wp_exit (th_e (th_e (bl_hit (th_n (wp_seq ?_))))); refine rs0 G (rg 4) [dI p.vars, dI p.arrays, dT p.body, dE e.kids] [(4, bA false)] fun ρ a w G => th_n (wp_ret ?_); exact rx_ret (v := bA false) G (rg 4) (by kernel_rfl) (by kernel_rfl) (by kernel_rfl) (by have e1 : (secE p.vars p.arrays (d + 1) e : Bool) = (false) := (by exact secE_f3 (any_full hp.2 (by omega)) (by assumption)); (first | rw [e1] | simp only [e1]) <;> rfl)
    ·
     have q4 : (↑k : Int) < (↑e.kids.length : Int) := dTt h4; refine rT G (decide ((↑k : Int) < (↑e.kids.length : Int))) (by assumption) ?_; refine wp_skip (th_n (wp_seq (wp_block (wp_seq ?_)))); refine rd1s G ⟨[(6, _, [0, 1, 2, 46])], [], []⟩ (calls_cons (ih (e.kids.getD k default) (by exact sh_kid he (by omega))) calls_nil) trivial [0, 0, 2, 0, 14, 30, 63] [(2, .ptr 4 0), (3, .ptr 5 0), (4, bA false), (5, iA (↑k : Int)), (31, bA (secE p.vars p.arrays d (e.kids.getD k default)))] [(0 : Int) ≤ (↑k : Int), (↑k : Int) < (↑e.kids.length : Int), k < e.kids.length] ⟨(by simp [he, h0, h1, h4]), (by assumption), (by have hp := hp; omega), trivial⟩ fun ρ a w G => th_n ?_; cases h5 : (secE p.vars p.arrays d (e.kids.getD k default))
     · refine rF G (secE p.vars p.arrays d (e.kids.getD k default)) (by assumption) ?_; refine wp_skip ?_; refine bl_n ?_; refine th_n ?_; refine rs1s G ⟨[], [], []⟩ calls_nil trivial [(2, .ptr 4 0), (3, .ptr 5 0), (4, bA false), (5, iA ((↑k : Int) + 1))] [IntKind.i64.wrap ((↑k : Int) + (1 : Int)) = (↑k : Int) + (1 : Int)] ⟨(by exact w64 (by omega) (by omega)), trivial⟩ fun ρ a w G => th_n ?_; exact rx_next G (k + 1) (by exact ⟨by omega, any_next hp.2 (by omega) (by assumption)⟩) (by have hp := hp; omega) (rg 6) [dI p.vars, dI p.arrays, dT p.body, dE e.kids, .box (pL 0), .box (eL e 3)] [(2, .ptr 4 0), (3, .ptr 5 0), (4, bA false), (5, iA (↑(k + 1) : Int))] (by kernel_rfl) (by kernel_rfl) (by kernel_rfl) (by kernel_rfl) (by kernel_rfl)
     · refine rT G (secE p.vars p.arrays d (e.kids.getD k default)) (by assumption) ?_; refine wp_seq ?_; refine rs0s G [(2, .ptr 4 0), (3, .ptr 5 0), (4, bA true), (5, iA (↑k : Int))] fun ρ a w G => th_n (wp_ret (bl_r (th_r (th_r (bl_r (th_r ?_)))))); exact rx_ret (v := bA true) G (rg 4) (by kernel_rfl) (by kernel_rfl) (by kernel_rfl) (by have e1 : (secE p.vars p.arrays (d + 1) e : Bool) = (true) := (by rw [secE, any_hit (k := k) (by omega) (by assumption), Bool.or_true]); (first | rw [e1] | simp only [e1]) <;> rfl)
   · have q1 : ((labOk (labE p.vars p.arrays d (e.kids.getD 0 default))) = true) ∧ (labE p.vars p.arrays d (e.kids.getD 0 default) % 2 = 1) := And.imp (fun hq => (hq)) (fun hq => of_decide_eq_true (hq)) (Bool.and_eq_true_iff.1 h1); refine rT G (labOk (labE p.vars p.arrays d (e.kids.getD (0 : Nat) default)) && decide (labE p.vars p.arrays d (e.kids.getD (0 : Nat) default) % (2 : Int) = (1 : Int))) (by assumption) ?_; refine wp_seq ?_; refine rs0s G [(2, .ptr 4 0), (3, .ptr 5 0), (4, bA true)] fun ρ a w G => th_n (wp_ret (th_r ?_)); exact rx_ret (v := bA true) G (rg 4) (by kernel_rfl) (by kernel_rfl) (by kernel_rfl) (by have e1 : (secE p.vars p.arrays (d + 1) e : Bool) = (true) := (by exact secE_t (by assumption) (by assumption)); (first | rw [e1] | simp only [e1]) <;> rfl)

def flB (x y : Int) : Bool := labOk x && labOk y && (orI x y == y)
abbrev labV (p : LProg) (e : LExpr) : Int := labE p.vars p.arrays 5 e
def secB (x : Int) : Bool := labOk x && decide (x % 2 = 1)
def flowR (p : LProg) (s : LStmt) (pc : Int) : Int :=
  if s.kind = 1 then if flB (orI (labV p s.value) pc) (p.vars.getD s.target.toNat 0) then 0 else 1
  else if s.kind = 2 then if flB (orI (orI (labV p s.value) (labV p s.index)) pc) (p.arrays.getD s.target.toNat 0) then 0 else 1
  else if s.kind = 5 then if (labOk (labV p s.value) && decide (labV p s.value ≤ 1)) && decide (pc = 0) then 0 else 2
  else 0
def leakR (p : LProg) (s : LStmt) : Int :=
  if s.kind = 3 ∧ secB (labV p s.value) = true then 3
  else if (s.kind ≠ 4 ∧ secE p.vars p.arrays 5 s.value = true) ∨ (s.kind = 2 ∧ secB (labV p s.index) = true) then 4 else 0
def ownR (p : LProg) (s : LStmt) (pc : Int) (strict : Bool) : Int := if flowR p s pc = 0 then (if strict then leakR p s else 0) else flowR p s pc
theorem c_l4Label (p : LProg) (e : LExpr) (he : shapeB p.vars.length p.arrays.length 5 e = true) : Ctr.ok Try.prog (fnC 130 [pA 0, eA e 3] (pS p ++ eS e) (iA (labV p e))) := c_l4LabelD p 5 e he
theorem c_l4SecretD (p : LProg) : ∀ (d : Nat) (e : LExpr), shapeB p.vars.length p.arrays.length d e = true → Ctr.ok Try.prog (fnC 162 [pA 0, eA e 3] (pS p ++ eS e) (bA (secE p.vars p.arrays d e))) := by
  intro d
  induction d with
  | zero => intro e h; simp [shapeB] at h
  | succ d ih => intro e h; exact c_l4SecretS p d ih (c_l4LabelD p d) e h
theorem c_l4Secret (p : LProg) (e : LExpr) (he : shapeB p.vars.length p.arrays.length 5 e = true) : Ctr.ok Try.prog (fnC 162 [pA 0, eA e 3] (pS p ++ eS e) (bA (secE p.vars p.arrays 5 e))) := c_l4SecretD p 5 e he
section
variable {nv na : Nat} {s : LStmt}
theorem right_shape {e : LExpr} (h : rightB nv na e = true) : shapeB nv na 5 e = true := by unfold rightB at h; simp only [Bool.and_eq_true] at h; exact h.1
variable (h : headB nv na s = true)
include h
theorem hd_value (k : ¬ s.kind = 4) : shapeB nv na 5 s.value = true := by
  apply right_shape
  by_cases k1 : s.kind = 1 ∨ s.kind = 5
  · rw [head1 k1] at h; simp only [Bool.and_eq_true] at h; exact h.2.2
  by_cases k2 : s.kind = 2
  · rw [head2 k2] at h; simp only [Bool.and_eq_true] at h; exact h.2.2.2
  by_cases k3 : s.kind = 3
  · rw [head3 k3] at h; simp only [Bool.and_eq_true] at h; exact h.2.2
  · rw [head0 (by omega)] at h; cases h
theorem hd_index (k : s.kind = 2) : shapeB nv na 5 s.index = true := by
  rw [head2 k] at h; simp only [Bool.and_eq_true] at h; exact right_shape h.2.1
theorem hd_var (k : s.kind = 1 ∨ s.kind = 5) : 0 ≤ s.target ∧ s.target < nv ∧ s.target.toNat < nv := by
  rw [head1 k] at h; simp only [Bool.and_eq_true, decide_eq_true_eq] at h; omega
theorem hd_arr (k : s.kind = 2) : 0 ≤ s.target ∧ s.target < na ∧ s.target.toNat < na := by
  rw [head2 k] at h; simp only [Bool.and_eq_true, decide_eq_true_eq] at h; omega
end

section
variable {p : LProg} {s : LStmt} {pc : Int} {strict : Bool} {x : Int}
theorem ownR_bad (h : flowR p s pc = x) (hx : x ≠ 0) : ownR p s pc strict = x := by rw [ownR, h, if_neg hx]
theorem ownR_lax (h : flowR p s pc = 0) : ownR p s pc false = 0 := by rw [ownR, h]; rfl
theorem ownR_strict (h : flowR p s pc = 0) (hl : leakR p s = x) : ownR p s pc true = x := by rw [ownR, h, hl]; rfl
theorem fl1t (k : s.kind = 1) (h : (!(labOk (orI (labV p s.value) pc) && labOk (p.vars.getD s.target.toNat 0) && (orI (orI (labV p s.value) pc) (p.vars.getD s.target.toNat 0) == (p.vars.getD s.target.toNat 0)))) = false) : flowR p s pc = 0 := by rw [flowR, if_pos k, if_pos (by unfold flB; first | (rw [Bool.not_eq_false'] at h; exact h) | (rw [Bool.not_eq_true'] at h; rw [h]; simp))]
theorem fl1f (k : s.kind = 1) (h : (!(labOk (orI (labV p s.value) pc) && labOk (p.vars.getD s.target.toNat 0) && (orI (orI (labV p s.value) pc) (p.vars.getD s.target.toNat 0) == (p.vars.getD s.target.toNat 0)))) = true) : flowR p s pc = 1 := by rw [flowR, if_pos k, if_neg (by unfold flB; first | (rw [Bool.not_eq_false'] at h; exact h) | (rw [Bool.not_eq_true'] at h; rw [h]; simp))]
theorem fl2t (k : s.kind = 2) (h : (!(labOk (orI (orI (labV p s.value) (labV p s.index)) pc) && labOk (p.arrays.getD s.target.toNat 0) && (orI (orI (orI (labV p s.value) (labV p s.index)) pc) (p.arrays.getD s.target.toNat 0) == (p.arrays.getD s.target.toNat 0)))) = false) : flowR p s pc = 0 := by rw [flowR, if_neg (by omega), if_pos k, if_pos (by unfold flB; first | (rw [Bool.not_eq_false'] at h; exact h) | (rw [Bool.not_eq_true'] at h; rw [h]; simp))]
theorem fl2f (k : s.kind = 2) (h : (!(labOk (orI (orI (labV p s.value) (labV p s.index)) pc) && labOk (p.arrays.getD s.target.toNat 0) && (orI (orI (orI (labV p s.value) (labV p s.index)) pc) (p.arrays.getD s.target.toNat 0) == (p.arrays.getD s.target.toNat 0)))) = true) : flowR p s pc = 1 := by rw [flowR, if_neg (by omega), if_pos k, if_neg (by unfold flB; first | (rw [Bool.not_eq_false'] at h; exact h) | (rw [Bool.not_eq_true'] at h; rw [h]; simp))]
theorem fl5t (k : s.kind = 5) (h : (!(labOk (labV p s.value) && decide (labV p s.value ≤ 1))) = false) (h2 : pc = 0) : flowR p s pc = 0 := by
  rw [Bool.not_eq_false'] at h
  rw [flowR, if_neg (by omega), if_neg (by omega), if_pos k, h, decide_eq_true h2]; rfl
theorem fl5f (k : s.kind = 5) (h : (!(labOk (labV p s.value) && decide (labV p s.value ≤ 1))) = true ∨ ¬ pc = 0) : flowR p s pc = 2 := by
  rw [flowR, if_neg (by omega), if_neg (by omega), if_pos k]
  rcases h with h | h
  · rw [Bool.not_eq_true'] at h
    rw [h]; rfl
  · rw [decide_eq_false h, Bool.and_false]; rfl
theorem fl0 (k : ¬ s.kind = 1 ∧ ¬ s.kind = 2 ∧ ¬ s.kind = 5) : flowR p s pc = 0 := by rw [flowR, if_neg k.1, if_neg k.2.1, if_neg k.2.2]
theorem lk3 (k : s.kind = 3) (h : (labOk (labV p s.value) && decide (labV p s.value % 2 = 1)) = true) : leakR p s = 3 := by rw [leakR, if_pos ⟨k, (show secB _ = true from h)⟩]
theorem lkv (h3 : ¬ s.kind = 3 ∨ (labOk (labV p s.value) && decide (labV p s.value % 2 = 1)) = false) (k : ¬ s.kind = 4) (h : secE p.vars p.arrays 5 s.value = true) : leakR p s = 4 := by
  rw [leakR, if_neg (by rintro ⟨a, b⟩; exact h3.elim (fun h => h a) (fun h => Bool.false_ne_true (h.symm.trans b))), if_pos (.inl ⟨k, h⟩)]
theorem lki (k : s.kind = 2) (h : (labOk (labV p s.index) && decide (labV p s.index % 2 = 1)) = true) : leakR p s = 4 := by
  rw [leakR, if_neg (by omega), if_pos (.inr ⟨k, (show secB _ = true from h)⟩)]
theorem lk0 (h3 : ¬ s.kind = 3 ∨ (labOk (labV p s.value) && decide (labV p s.value % 2 = 1)) = false) (h4 : s.kind = 4 ∨ secE p.vars p.arrays 5 s.value = false) (h2 : ¬ s.kind = 2 ∨ (labOk (labV p s.index) && decide (labV p s.index % 2 = 1)) = false) : leakR p s = 0 := by
  rw [leakR, if_neg (by rintro ⟨a, b⟩; exact h3.elim (fun h => h a) (fun h => Bool.false_ne_true (h.symm.trans b))), if_neg]
  rintro (⟨a, b⟩ | ⟨a, b⟩)
  · rcases h4 with h | h
    · exact a h
    · rw [h] at b; cases b
  · rcases h2 with h | h
    · exact h a
    · exact Bool.false_ne_true (h.symm.trans b)
end

abbrev yRvI0 (p : LProg) (s : LStmt) : AV := bA (labOk (labV p s.index) && decide (labV p s.index % 2 = 1))
set_option maxHeartbeats 8000000 in
set_option maxRecDepth 100000 in
theorem c_l4Own (p : LProg) (s : LStmt) (pc : Int) (strict : Bool) (h : headB p.vars.length p.arrays.length s = true) : Ctr.ok Try.prog (fnC 143 [pA 0, sA s 3, iA pc, bA strict] (pS p ++ sS s) (iA (ownR p s pc strict))) := by
  refine rx_enter 94 Try.func143 (by rfl) (by kernel_rfl) (by kernel_rfl) ?_; intro ι φ ψ w0 w F ρ0 ρ a G; replace G := Gam.at G [dI p.vars, dI p.arrays, dT p.body, dE s.index.kids, dE s.value.kids, dT s.body, dT s.els] [(0, pA 0), (1, sA s 3), (2, iA pc), (3, bA strict)]; refine wp_seq ?_; refine rs0 G [0, 1, 2, 3, 4, 5, 6, 7, 15] [dI p.vars, dI p.arrays, dT p.body, dE s.index.kids, dE s.value.kids, dT s.body, dT s.els, .box (pL 0), .box (sL s 3)] [(2, iA pc), (3, bA strict), (4, .ptr 7 0), (5, .ptr 8 0), (8, iA 0)] fun ρ a w G => th_n (wp_seq (wp_seq ?_)); refine rs0s G [(2, iA pc), (3, bA strict), (4, .ptr 7 0), (5, .ptr 8 0), (8, iA 0), (10, iA s.kind)] fun ρ a w G => th_n (wp_block (wp_seq ?_)); refine rs0s G [(2, iA pc), (3, bA strict), (4, .ptr 7 0), (5, .ptr 8 0), (8, iA 0), (10, iA s.kind), (11, bA (s.kind == 1))] fun ρ a w G => th_n ?_; cases h0 : (s.kind == (1 : Int))
  ·
   have q0 : ¬ (s.kind = 1) := ne_of_beq_false h0; refine rF G (s.kind == (1 : Int)) (by assumption) ?_; refine wp_seq ?_; refine rs0s G [(2, iA pc), (3, bA strict), (4, .ptr 7 0), (5, .ptr 8 0), (8, iA 0), (10, iA s.kind), (27, bA (s.kind == 2))] fun ρ a w G => th_n ?_; cases h1 : (s.kind == (2 : Int))
   ·
    have q1 : ¬ (s.kind = 2) := ne_of_beq_false h1; refine rF G (s.kind == (2 : Int)) (by assumption) ?_; refine wp_seq ?_; refine rs0s G [(2, iA pc), (3, bA strict), (4, .ptr 7 0), (5, .ptr 8 0), (8, iA 0), (10, iA s.kind), (48, bA (s.kind == 5))] fun ρ a w G => th_n ?_; cases h2 : (s.kind == (5 : Int))
    ·
     have q2 : ¬ (s.kind = 5) := ne_of_beq_false h2; refine rF G (s.kind == (5 : Int)) (by assumption) ?_; refine wp_seq ?_; refine rs0s G [(3, bA strict), (4, .ptr 7 0), (5, .ptr 8 0), (8, iA 0), (60, bA (s.kind == 3))] fun ρ a w G => th_n ?_; cases h3 : (s.kind == (3 : Int))
     ·
      have q3 : ¬ (s.kind = 3) := ne_of_beq_false h3; refine rF G (s.kind == (3 : Int)) (by assumption) ?_; refine wp_skip ?_; refine bl_n ?_; refine th_n (wp_seq (wp_seq ?_)); cases h4 : (strict)
      · refine rs1 (dk := dkP) G ⟨[], [(strict, false)], us [(2, 5, 0), (10, 11, 0), (22, 22, 0), (1023, 1023, 0)]⟩ calls_nil ⟨(by assumption), trivial⟩ (rg 7) [dI p.vars, dI p.arrays, dT p.body, dE s.index.kids, dE s.value.kids, dT s.body, dT s.els] [(8, iA 0), (93, bA false)] [] trivial fun ρ a w G => th_n ?_; refine rF G (false) (by kernel_rfl) ?_; refine wp_skip (th_n (wp_seq ?_)); refine rs0s G [(8, iA 0)] fun ρ a w G => th_n (wp_ret ?_); exact rx_ret (v := iA 0) G (rg 7) (by kernel_rfl) (by kernel_rfl) (by kernel_rfl) (by have e1 : (ownR p s pc false : Int) = (0) := (by exact ownR_lax (by exact fl0 (by omega))); (first | rw [e1] | simp only [e1]) <;> rfl)
      ·
       cases h5 : (s.kind != (4 : Int))
       · have q5 : s.kind = 4 := (by simpa using h5); refine rs1 (dk := dkP) G ⟨[], [(strict, true), (s.kind != (4 : Int), false), (false, false), (s.kind == (2 : Int), false)], us [(2, 5, 0), (6, 9, 1), (10, 10, 0), (1010, 1010, 1), (11, 11, 0), (12, 15, 2), (16, 20, 3), (21, 21, 2), (1021, 1021, 3), (22, 22, 0), (1022, 1022, 2), (1023, 1023, 0)]⟩ calls_nil ⟨(by assumption), (by assumption), (by kernel_rfl), (by assumption), trivial⟩ (rg 7) [dI p.vars, dI p.arrays, dT p.body, dE s.index.kids, dE s.value.kids, dT s.body, dT s.els] [(8, iA 0), (93, bA false)] [] trivial fun ρ a w G => th_n ?_; refine rF G (false) (by kernel_rfl) ?_; refine wp_skip (th_n (wp_seq ?_)); refine rs0s G [(8, iA 0)] fun ρ a w G => th_n (wp_ret ?_); exact rx_ret (v := iA 0) G (rg 7) (by kernel_rfl) (by kernel_rfl) (by kernel_rfl) (by have e1 : (ownR p s pc true : Int) = (0) := (by exact ownR_strict (by exact fl0 (by omega)) (by exact lk0 (by exact .inl (by omega)) (by exact .inl (by omega)) (by exact .inl (by omega)))); (first | rw [e1] | simp only [e1]) <;> rfl)
       ·
        have q5 : ¬ (s.kind = 4) := bne_iff_ne.1 h5; cases h6 : (secE p.vars p.arrays (5 : Nat) s.value)
        · refine rs1 (dk := dkP) G ⟨[(9, _, [0, 1, 2, 4])], [(strict, true), (s.kind != (4 : Int), true), (secE p.vars p.arrays (5 : Nat) s.value, false), (s.kind == (2 : Int), false)], us [(2, 5, 0), (6, 9, 1), (10, 10, 0), (1010, 1010, 1), (11, 11, 0), (12, 15, 2), (16, 20, 3), (21, 21, 2), (1021, 1021, 3), (22, 22, 0), (1022, 1022, 2), (1023, 1023, 0)]⟩ (calls_cons (c_l4Secret (p) (s.value) (by exact hd_value h (by omega))) calls_nil) ⟨(by assumption), (by assumption), (by assumption), (by assumption), trivial⟩ (rg 7) [dI p.vars, dI p.arrays, dT p.body, dE s.index.kids, dE s.value.kids, dT s.body, dT s.els] [(8, iA 0), (93, bA false)] [] trivial fun ρ a w G => th_n ?_; refine rF G (false) (by kernel_rfl) ?_; refine wp_skip (th_n (wp_seq ?_)); refine rs0s G [(8, iA 0)] fun ρ a w G => th_n (wp_ret ?_); exact rx_ret (v := iA 0) G (rg 7) (by kernel_rfl) (by kernel_rfl) (by kernel_rfl) (by have e1 : (ownR p s pc true : Int) = (0) := (by exact ownR_strict (by exact fl0 (by omega)) (by exact lk0 (by exact .inl (by omega)) (by exact .inr (by with_reducible assumption)) (by exact .inl (by omega)))); (first | rw [e1] | simp only [e1]) <;> rfl)
        · refine rs1 (dk := dkP) G ⟨[(9, _, [0, 1, 2, 4])], [(strict, true), (s.kind != (4 : Int), true), (secE p.vars p.arrays (5 : Nat) s.value, true)], us [(2, 5, 0), (6, 9, 1), (10, 10, 0), (1010, 1010, 1), (11, 11, 0), (12, 15, 2), (21, 21, 2), (22, 22, 0), (1022, 1022, 2), (1023, 1023, 0)]⟩ (calls_cons (c_l4Secret (p) (s.value) (by exact hd_value h (by omega))) calls_nil) ⟨(by assumption), (by assumption), (by assumption), trivial⟩ (rg 7) [dI p.vars, dI p.arrays, dT p.body, dE s.index.kids, dE s.value.kids, dT s.body, dT s.els] [(8, iA 0), (93, bA true)] [] trivial fun ρ a w G => th_n ?_; refine rT G (true) (by kernel_rfl) ?_; refine wp_seq ?_; refine rs0s G [(8, iA 4)] fun ρ a w G => th_n (wp_ret (th_r ?_)); exact rx_ret (v := iA 4) G (rg 7) (by kernel_rfl) (by kernel_rfl) (by kernel_rfl) (by have e1 : (ownR p s pc true : Int) = (4) := (by exact ownR_strict (by exact fl0 (by omega)) (by exact lkv (by exact .inl (by omega)) (by omega) (by with_reducible assumption))); (first | rw [e1] | simp only [e1]) <;> rfl)
     ·
      have q3 : s.kind = 3 := eq_of_beq h3; refine rT G (s.kind == (3 : Int)) (by assumption) ?_; refine wp_seq ?_; cases h7 : (strict)
      · refine rs1s G ⟨[], [(strict, false)], us [(2, 6, 0), (1007, 1007, 0)]⟩ calls_nil ⟨(by assumption), trivial⟩ [(3, bA strict), (4, .ptr 7 0), (5, .ptr 8 0), (8, iA 0), (69, bA false)] [] trivial fun ρ a w G => th_n ?_; refine rF G (false) (by kernel_rfl) ?_; refine wp_skip ?_; refine bl_n ?_; refine th_n (wp_seq (wp_seq ?_)); refine rs1 (dk := dkP) G ⟨[], [(strict, false)], us [(2, 5, 0), (10, 11, 0), (22, 22, 0), (1023, 1023, 0)]⟩ calls_nil ⟨(by assumption), trivial⟩ (rg 7) [dI p.vars, dI p.arrays, dT p.body, dE s.index.kids, dE s.value.kids, dT s.body, dT s.els] [(8, iA 0), (93, bA false)] [] trivial fun ρ a w G => th_n ?_; refine rF G (false) (by kernel_rfl) ?_; refine wp_skip (th_n (wp_seq ?_)); refine rs0s G [(8, iA 0)] fun ρ a w G => th_n (wp_ret ?_); exact rx_ret (v := iA 0) G (rg 7) (by kernel_rfl) (by kernel_rfl) (by kernel_rfl) (by have e1 : (ownR p s pc false : Int) = (0) := (by exact ownR_lax (by exact fl0 (by omega))); (first | rw [e1] | simp only [e1]) <;> rfl)
      ·
       refine rs1s G ⟨[(5, _, [0, 1, 2, 4]), (6, _, [])], [(strict, true)], us [(2, 6, 0), (1007, 1007, 0)]⟩ (calls_cons (c_l4Label (p) (s.value) (by exact hd_value h (by omega))) (calls_cons (c_LabelSecret (labV p s.value)) calls_nil)) ⟨(by assumption), trivial⟩ [(3, bA strict), (4, .ptr 7 0), (5, .ptr 8 0), (8, iA 0), (69, bA (labOk (labV p s.value) && decide (labV p s.value % 2 = 1)))] [] trivial fun ρ a w G => th_n ?_; cases h8 : (labOk (labV p s.value) && decide (labV p s.value % (2 : Int) = (1 : Int)))
       ·
        have q8 : ((labOk (labV p s.value)) = false) ∨ (¬ (labV p s.value % 2 = 1)) := Or.imp (fun hq => (hq)) (fun hq => of_decide_eq_false (hq)) (Bool.and_eq_false_iff.1 h8); refine rF G (labOk (labV p s.value) && decide (labV p s.value % (2 : Int) = (1 : Int))) (by assumption) ?_; refine wp_skip ?_; refine bl_n ?_; refine th_n (wp_seq (wp_seq ?_)); cases h9 : (s.kind != (4 : Int))
        · have q9 : s.kind = 4 := (by simpa using h9); refine rs1 (dk := dkP) G ⟨[], [(strict, true), (s.kind != (4 : Int), false), (false, false), (s.kind == (2 : Int), false)], us [(2, 5, 0), (6, 9, 1), (10, 10, 0), (1010, 1010, 1), (11, 11, 0), (12, 15, 2), (16, 20, 3), (21, 21, 2), (1021, 1021, 3), (22, 22, 0), (1022, 1022, 2), (1023, 1023, 0)]⟩ calls_nil ⟨(by assumption), (by assumption), (by kernel_rfl), (by assumption), trivial⟩ (rg 7) [dI p.vars, dI p.arrays, dT p.body, dE s.index.kids, dE s.value.kids, dT s.body, dT s.els] [(8, iA 0), (93, bA false)] [] trivial fun ρ a w G => th_n ?_; refine rF G (false) (by kernel_rfl) ?_; refine wp_skip (th_n (wp_seq ?_)); refine rs0s G [(8, iA 0)] fun ρ a w G => th_n (wp_ret ?_); exact rx_ret (v := iA 0) G (rg 7) (by kernel_rfl) (by kernel_rfl) (by kernel_rfl) (by have e1 : (ownR p s pc true : Int) = (0) := (by exact ownR_strict (by exact fl0 (by omega)) (by exact lk0 (by exact .inl (by omega)) (by exact .inl (by omega)) (by exact .inl (by omega)))); (first | rw [e1] | simp only [e1]) <;> rfl)
        ·
         have q9 : ¬ (s.kind = 4) := bne_iff_ne.1 h9; cases h10 : (secE p.vars p.arrays (5 : Nat) s.value)
         · refine rs1 (dk := dkP) G ⟨[(9, _, [0, 1, 2, 4])], [(strict, true), (s.kind != (4 : Int), true), (secE p.vars p.arrays (5 : Nat) s.value, false), (s.kind == (2 : Int), false)], us [(2, 5, 0), (6, 9, 1), (10, 10, 0), (1010, 1010, 1), (11, 11, 0), (12, 15, 2), (16, 20, 3), (21, 21, 2), (1021, 1021, 3), (22, 22, 0), (1022, 1022, 2), (1023, 1023, 0)]⟩ (calls_cons (c_l4Secret (p) (s.value) (by exact hd_value h (by omega))) calls_nil) ⟨(by assumption), (by assumption), (by assumption), (by assumption), trivial⟩ (rg 7) [dI p.vars, dI p.arrays, dT p.body, dE s.index.kids, dE s.value.kids, dT s.body, dT s.els] [(8, iA 0), (93, bA false)] [] trivial fun ρ a w G => th_n ?_; refine rF G (false) (by kernel_rfl) ?_; refine wp_skip (th_n (wp_seq ?_)); refine rs0s G [(8, iA 0)] fun ρ a w G => th_n (wp_ret ?_); exact rx_ret (v := iA 0) G (rg 7) (by kernel_rfl) (by kernel_rfl) (by kernel_rfl) (by have e1 : (ownR p s pc true : Int) = (0) := (by exact ownR_strict (by exact fl0 (by omega)) (by exact lk0 (by exact .inr (by with_reducible assumption)) (by exact .inr (by with_reducible assumption)) (by exact .inl (by omega)))); (first | rw [e1] | simp only [e1]) <;> rfl)
         · refine rs1 (dk := dkP) G ⟨[(9, _, [0, 1, 2, 4])], [(strict, true), (s.kind != (4 : Int), true), (secE p.vars p.arrays (5 : Nat) s.value, true)], us [(2, 5, 0), (6, 9, 1), (10, 10, 0), (1010, 1010, 1), (11, 11, 0), (12, 15, 2), (21, 21, 2), (22, 22, 0), (1022, 1022, 2), (1023, 1023, 0)]⟩ (calls_cons (c_l4Secret (p) (s.value) (by exact hd_value h (by omega))) calls_nil) ⟨(by assumption), (by assumption), (by assumption), trivial⟩ (rg 7) [dI p.vars, dI p.arrays, dT p.body, dE s.index.kids, dE s.value.kids, dT s.body, dT s.els] [(8, iA 0), (93, bA true)] [] trivial fun ρ a w G => th_n ?_; refine rT G (true) (by kernel_rfl) ?_; refine wp_seq ?_; refine rs0s G [(8, iA 4)] fun ρ a w G => th_n (wp_ret (th_r ?_)); exact rx_ret (v := iA 4) G (rg 7) (by kernel_rfl) (by kernel_rfl) (by kernel_rfl) (by have e1 : (ownR p s pc true : Int) = (4) := (by exact ownR_strict (by exact fl0 (by omega)) (by exact lkv (by exact .inr (by with_reducible assumption)) (by omega) (by with_reducible assumption))); (first | rw [e1] | simp only [e1]) <;> rfl)
       · have q8 : ((labOk (labV p s.value)) = true) ∧ (labV p s.value % 2 = 1) := And.imp (fun hq => (hq)) (fun hq => of_decide_eq_true (hq)) (Bool.and_eq_true_iff.1 h8); refine rT G (labOk (labV p s.value) && decide (labV p s.value % (2 : Int) = (1 : Int))) (by assumption) ?_; refine wp_seq ?_; refine rs0s G [(3, bA strict), (4, .ptr 7 0), (5, .ptr 8 0), (8, iA 3)] fun ρ a w G => th_n (wp_ret (bl_r (th_r ?_))); exact rx_ret (v := iA 3) G (rg 7) (by kernel_rfl) (by kernel_rfl) (by kernel_rfl) (by have e1 : (ownR p s pc true : Int) = (3) := (by exact ownR_strict (by exact fl0 (by omega)) (by exact lk3 (by with_reducible assumption) (by with_reducible assumption))); (first | rw [e1] | simp only [e1]) <;> rfl)
    ·
     have q2 : s.kind = 5 := eq_of_beq h2; refine rT G (s.kind == (5 : Int)) (by assumption) ?_; refine wp_seq ?_; cases h11 : (!(labOk (labV p s.value) && decide (labV p s.value ≤ (1 : Int))))
     ·
      have q11 : ((labOk (labV p s.value)) = true) ∧ (labV p s.value ≤ 1) := (fun hq => And.imp (fun hq => (hq)) (fun hq => of_decide_eq_true (hq)) (Bool.and_eq_true_iff.1 (hq))) (Eq.mp (Bool.not_eq_false' _) h11); refine rs1s G ⟨[(3, _, [0, 1, 2, 4]), (4, _, [])], [(!(labOk (labV p s.value) && decide (labV p s.value ≤ (1 : Int))), false)], [(7, 0), (8, 0), (1009, 0)]⟩ (calls_cons (c_l4Label (p) (s.value) (by exact hd_value h (by omega))) (calls_cons (c_LabelTrusted (labV p s.value)) calls_nil)) ⟨(by assumption), trivial⟩ [(3, bA strict), (4, .ptr 7 0), (5, .ptr 8 0), (8, iA 0), (59, bA (pc != 0))] [] trivial fun ρ a w G => th_n ?_; cases h12 : (pc != (0 : Int))
      ·
       have q12 : pc = 0 := (by simpa using h12); refine rF G (pc != (0 : Int)) (by assumption) ?_; refine wp_skip ?_; refine bl_n ?_; refine th_n (wp_seq (wp_seq ?_)); cases h13 : (strict)
       · refine rs1 (dk := dkP) G ⟨[], [(strict, false)], us [(2, 5, 0), (10, 11, 0), (22, 22, 0), (1023, 1023, 0)]⟩ calls_nil ⟨(by assumption), trivial⟩ (rg 7) [dI p.vars, dI p.arrays, dT p.body, dE s.index.kids, dE s.value.kids, dT s.body, dT s.els] [(8, iA 0), (93, bA false)] [] trivial fun ρ a w G => th_n ?_; refine rF G (false) (by kernel_rfl) ?_; refine wp_skip (th_n (wp_seq ?_)); refine rs0s G [(8, iA 0)] fun ρ a w G => th_n (wp_ret ?_); exact rx_ret (v := iA 0) G (rg 7) (by kernel_rfl) (by kernel_rfl) (by kernel_rfl) (by have e1 : (ownR p s pc false : Int) = (0) := (by exact ownR_lax (by exact fl5t (by with_reducible assumption) (by with_reducible assumption) (by with_reducible assumption))); (first | rw [e1] | simp only [e1]) <;> rfl)
       ·
        cases h14 : (s.kind != (4 : Int))
        · have q14 : s.kind = 4 := (by simpa using h14); refine rs1 (dk := dkP) G ⟨[], [(strict, true), (s.kind != (4 : Int), false), (false, false), (s.kind == (2 : Int), false)], us [(2, 5, 0), (6, 9, 1), (10, 10, 0), (1010, 1010, 1), (11, 11, 0), (12, 15, 2), (16, 20, 3), (21, 21, 2), (1021, 1021, 3), (22, 22, 0), (1022, 1022, 2), (1023, 1023, 0)]⟩ calls_nil ⟨(by assumption), (by assumption), (by kernel_rfl), (by assumption), trivial⟩ (rg 7) [dI p.vars, dI p.arrays, dT p.body, dE s.index.kids, dE s.value.kids, dT s.body, dT s.els] [(8, iA 0), (93, bA false)] [] trivial fun ρ a w G => th_n ?_; refine rF G (false) (by kernel_rfl) ?_; refine wp_skip (th_n (wp_seq ?_)); refine rs0s G [(8, iA 0)] fun ρ a w G => th_n (wp_ret ?_); exact rx_ret (v := iA 0) G (rg 7) (by kernel_rfl) (by kernel_rfl) (by kernel_rfl) (by have e1 : (ownR p s pc true : Int) = (0) := (by exact ownR_strict (by exact fl5t (by with_reducible assumption) (by with_reducible assumption) (by with_reducible assumption)) (by exact lk0 (by exact .inl (by omega)) (by exact .inl (by omega)) (by exact .inl (by omega)))); (first | rw [e1] | simp only [e1]) <;> rfl)
        ·
         have q14 : ¬ (s.kind = 4) := bne_iff_ne.1 h14; cases h15 : (secE p.vars p.arrays (5 : Nat) s.value)
         · refine rs1 (dk := dkP) G ⟨[(9, _, [0, 1, 2, 4])], [(strict, true), (s.kind != (4 : Int), true), (secE p.vars p.arrays (5 : Nat) s.value, false), (s.kind == (2 : Int), false)], us [(2, 5, 0), (6, 9, 1), (10, 10, 0), (1010, 1010, 1), (11, 11, 0), (12, 15, 2), (16, 20, 3), (21, 21, 2), (1021, 1021, 3), (22, 22, 0), (1022, 1022, 2), (1023, 1023, 0)]⟩ (calls_cons (c_l4Secret (p) (s.value) (by exact hd_value h (by omega))) calls_nil) ⟨(by assumption), (by assumption), (by assumption), (by assumption), trivial⟩ (rg 7) [dI p.vars, dI p.arrays, dT p.body, dE s.index.kids, dE s.value.kids, dT s.body, dT s.els] [(8, iA 0), (93, bA false)] [] trivial fun ρ a w G => th_n ?_; refine rF G (false) (by kernel_rfl) ?_; refine wp_skip (th_n (wp_seq ?_)); refine rs0s G [(8, iA 0)] fun ρ a w G => th_n (wp_ret ?_); exact rx_ret (v := iA 0) G (rg 7) (by kernel_rfl) (by kernel_rfl) (by kernel_rfl) (by have e1 : (ownR p s pc true : Int) = (0) := (by exact ownR_strict (by exact fl5t (by with_reducible assumption) (by with_reducible assumption) (by with_reducible assumption)) (by exact lk0 (by exact .inl (by omega)) (by exact .inr (by with_reducible assumption)) (by exact .inl (by omega)))); (first | rw [e1] | simp only [e1]) <;> rfl)
         · refine rs1 (dk := dkP) G ⟨[(9, _, [0, 1, 2, 4])], [(strict, true), (s.kind != (4 : Int), true), (secE p.vars p.arrays (5 : Nat) s.value, true)], us [(2, 5, 0), (6, 9, 1), (10, 10, 0), (1010, 1010, 1), (11, 11, 0), (12, 15, 2), (21, 21, 2), (22, 22, 0), (1022, 1022, 2), (1023, 1023, 0)]⟩ (calls_cons (c_l4Secret (p) (s.value) (by exact hd_value h (by omega))) calls_nil) ⟨(by assumption), (by assumption), (by assumption), trivial⟩ (rg 7) [dI p.vars, dI p.arrays, dT p.body, dE s.index.kids, dE s.value.kids, dT s.body, dT s.els] [(8, iA 0), (93, bA true)] [] trivial fun ρ a w G => th_n ?_; refine rT G (true) (by kernel_rfl) ?_; refine wp_seq ?_; refine rs0s G [(8, iA 4)] fun ρ a w G => th_n (wp_ret (th_r ?_)); exact rx_ret (v := iA 4) G (rg 7) (by kernel_rfl) (by kernel_rfl) (by kernel_rfl) (by have e1 : (ownR p s pc true : Int) = (4) := (by exact ownR_strict (by exact fl5t (by with_reducible assumption) (by with_reducible assumption) (by with_reducible assumption)) (by exact lkv (by exact .inl (by omega)) (by omega) (by with_reducible assumption))); (first | rw [e1] | simp only [e1]) <;> rfl)
      · have q12 : ¬ (pc = 0) := bne_iff_ne.1 h12; refine rT G (pc != (0 : Int)) (by assumption) ?_; refine wp_seq ?_; refine rs0s G [(3, bA strict), (4, .ptr 7 0), (5, .ptr 8 0), (8, iA 2)] fun ρ a w G => th_n (wp_ret (bl_r (th_r ?_))); exact rx_ret (v := iA 2) G (rg 7) (by kernel_rfl) (by kernel_rfl) (by kernel_rfl) (by have e1 : (ownR p s pc strict : Int) = (2) := (by exact ownR_bad (by exact fl5f (by with_reducible assumption) (.inr (by with_reducible assumption))) (by decide)); (first | rw [e1] | simp only [e1]) <;> rfl)
     · have q11 : ((labOk (labV p s.value)) = false) ∨ (¬ (labV p s.value ≤ 1)) := (fun hq => Or.imp (fun hq => (hq)) (fun hq => of_decide_eq_false (hq)) (Bool.and_eq_false_iff.1 (hq))) (Eq.mp (Bool.not_eq_true' _) h11); refine rs1s G ⟨[(3, _, [0, 1, 2, 4]), (4, _, [])], [(!(labOk (labV p s.value) && decide (labV p s.value ≤ (1 : Int))), true)], [(7, 0), (8, 0), (1009, 0)]⟩ (calls_cons (c_l4Label (p) (s.value) (by exact hd_value h (by omega))) (calls_cons (c_LabelTrusted (labV p s.value)) calls_nil)) ⟨(by assumption), trivial⟩ [(3, bA strict), (4, .ptr 7 0), (5, .ptr 8 0), (8, iA 0), (59, bA true)] [] trivial fun ρ a w G => th_n ?_; refine rT G (true) (by kernel_rfl) ?_; refine wp_seq ?_; refine rs0s G [(3, bA strict), (4, .ptr 7 0), (5, .ptr 8 0), (8, iA 2)] fun ρ a w G => th_n (wp_ret (bl_r (th_r ?_))); exact rx_ret (v := iA 2) G (rg 7) (by kernel_rfl) (by kernel_rfl) (by kernel_rfl) (by have e1 : (ownR p s pc strict : Int) = (2) := (by exact ownR_bad (by exact fl5f (by with_reducible assumption) (.inl (by with_reducible assumption))) (by decide)); (first | rw [e1] | simp only [e1]) <;> rfl)
   ·
    have q1 : s.kind = 2 := eq_of_beq h1; refine rT G (s.kind == (2 : Int)) (by assumption) ?_; refine wp_seq ?_; refine rd1s G ⟨[(3, _, [0, 1, 2, 4]), (7, _, (rg 4)), (17, _, [])], [], []⟩ (calls_cons (c_l4Label (p) (s.value) (by exact hd_value h (by omega))) (calls_cons (c_l4Label (p) (s.index) (by exact hd_index h (by with_reducible assumption))) (calls_cons (c_LabelFlows (orI (orI (labV p s.value) (labV p s.index)) pc) (p.arrays.getD s.target.toNat 0)) calls_nil))) trivial [0, 0, 2, 7, 0, 0, 32, 127, 255, 0, 1023, 0, 2048, 0, 8192, 30720, 63488, 131071, 262143] [(3, bA strict), (4, .ptr 7 0), (5, .ptr 8 0), (8, iA 0), (47, .v (.bool !(labOk (orI (orI (labV p s.value) (labV p s.index)) pc) && labOk (p.arrays.getD s.target.toNat 0) && orI (orI (orI (labV p s.value) (labV p s.index)) pc) (p.arrays.getD s.target.toNat 0) == p.arrays.getD s.target.toNat 0)))] [(0 : Int) ≤ s.target, s.target < (↑p.arrays.length : Int), s.target.toNat < p.arrays.length] ⟨(by exact (hd_arr h (by omega)).1), (by exact (hd_arr h (by omega)).2.1), (by exact (hd_arr h (by omega)).2.2), trivial⟩ fun ρ a w G => th_n ?_; cases h16 : (!(labOk (orI (orI (labV p s.value) (labV p s.index)) pc) && labOk (p.arrays.getD s.target.toNat (0 : Int)) && orI (orI (orI (labV p s.value) (labV p s.index)) pc) (p.arrays.getD s.target.toNat (0 : Int)) == p.arrays.getD s.target.toNat (0 : Int)))
    ·
     have q16 : (((labOk (orI (orI (labV p s.value) (labV p s.index)) pc)) = true) ∧ ((labOk (p.arrays.getD s.target.toNat 0)) = true)) ∧ (orI (orI (orI (labV p s.value) (labV p s.index)) pc) (p.arrays.getD s.target.toNat 0) = p.arrays.getD s.target.toNat 0) := (fun hq => And.imp (fun hq => And.imp (fun hq => (hq)) (fun hq => (hq)) (Bool.and_eq_true_iff.1 (hq))) (fun hq => eq_of_beq (hq)) (Bool.and_eq_true_iff.1 (hq))) (Eq.mp (Bool.not_eq_false' _) h16); refine rF G (!(labOk (orI (orI (labV p s.value) (labV p s.index)) pc) && labOk (p.arrays.getD s.target.toNat (0 : Int)) && orI (orI (orI (labV p s.value) (labV p s.index)) pc) (p.arrays.getD s.target.toNat (0 : Int)) == p.arrays.getD s.target.toNat (0 : Int))) (by assumption) ?_; refine wp_skip ?_; refine bl_n ?_; refine th_n (wp_seq (wp_seq ?_)); cases h17 : (strict)
     · refine rs1 (dk := dkP) G ⟨[], [(strict, false)], us [(2, 5, 0), (10, 11, 0), (22, 22, 0), (1023, 1023, 0)]⟩ calls_nil ⟨(by assumption), trivial⟩ (rg 7) [dI p.vars, dI p.arrays, dT p.body, dE s.index.kids, dE s.value.kids, dT s.body, dT s.els] [(8, iA 0), (93, bA false)] [] trivial fun ρ a w G => th_n ?_; refine rF G (false) (by kernel_rfl) ?_; refine wp_skip (th_n (wp_seq ?_)); refine rs0s G [(8, iA 0)] fun ρ a w G => th_n (wp_ret ?_); exact rx_ret (v := iA 0) G (rg 7) (by kernel_rfl) (by kernel_rfl) (by kernel_rfl) (by have e1 : (ownR p s pc false : Int) = (0) := (by exact ownR_lax (by exact fl2t (by with_reducible assumption) (by with_reducible assumption))); (first | rw [e1] | simp only [e1]) <;> rfl)
     ·
      cases h18 : (s.kind != (4 : Int))
      ·
       have q18 : s.kind = 4 := (by simpa using h18); refine rs1 (dk := dkP) G ⟨[(19, _, (rg 4)), (20, _, [])], [(strict, true), (s.kind != (4 : Int), false), (false, false), (s.kind == (2 : Int), true)], us [(2, 5, 0), (6, 9, 1), (10, 10, 0), (1010, 1010, 1), (11, 11, 0), (12, 15, 2), (16, 20, 3), (21, 21, 2), (1021, 1021, 3), (22, 22, 0), (1022, 1022, 2), (1023, 1023, 0)]⟩ (calls_cons (c_l4Label (p) (s.index) (by exact hd_index h (by with_reducible assumption))) (calls_cons (c_LabelSecret (labV p s.index)) calls_nil)) ⟨(by assumption), (by assumption), (by kernel_rfl), (by assumption), trivial⟩ (rg 7) [dI p.vars, dI p.arrays, dT p.body, dE s.index.kids, dE s.value.kids, dT s.body, dT s.els] [(8, iA 0), (93, yRvI0 p s)] [] trivial fun ρ a w G => th_n ?_; cases h19 : (labOk (labV p s.index) && decide (labV p s.index % (2 : Int) = (1 : Int)))
       · have q19 : ((labOk (labV p s.index)) = false) ∨ (¬ (labV p s.index % 2 = 1)) := Or.imp (fun hq => (hq)) (fun hq => of_decide_eq_false (hq)) (Bool.and_eq_false_iff.1 h19); refine rF G (labOk (labV p s.index) && decide (labV p s.index % (2 : Int) = (1 : Int))) (by assumption) ?_; refine wp_skip (th_n (wp_seq ?_)); refine rs0s G [(8, iA 0)] fun ρ a w G => th_n (wp_ret ?_); exact rx_ret (v := iA 0) G (rg 7) (by kernel_rfl) (by kernel_rfl) (by kernel_rfl) (by have e1 : (ownR p s pc true : Int) = (0) := (by exact ownR_strict (by exact fl2t (by with_reducible assumption) (by with_reducible assumption)) (by exact lk0 (by exact .inl (by omega)) (by exact .inl (by omega)) (by exact .inl (by omega)))); (first | rw [e1] | simp only [e1]) <;> rfl)
       · have q19 : ((labOk (labV p s.index)) = true) ∧ (labV p s.index % 2 = 1) := And.imp (fun hq => (hq)) (fun hq => of_decide_eq_true (hq)) (Bool.and_eq_true_iff.1 h19); refine rT G (labOk (labV p s.index) && decide (labV p s.index % (2 : Int) = (1 : Int))) (by assumption) ?_; refine wp_seq ?_; refine rs0s G [(8, iA 4)] fun ρ a w G => th_n (wp_ret (th_r ?_)); exact rx_ret (v := iA 4) G (rg 7) (by kernel_rfl) (by kernel_rfl) (by kernel_rfl) (by have e1 : (ownR p s pc true : Int) = (4) := (by exact ownR_strict (by exact fl2t (by with_reducible assumption) (by with_reducible assumption)) (by exact lki (by with_reducible assumption) (by with_reducible assumption))); (first | rw [e1] | simp only [e1]) <;> rfl)
      ·
       have q18 : ¬ (s.kind = 4) := bne_iff_ne.1 h18; cases h20 : (secE p.vars p.arrays (5 : Nat) s.value)
       ·
        refine rs1 (dk := dkP) G ⟨[(9, _, [0, 1, 2, 4]), (19, _, (rg 4)), (20, _, [])], [(strict, true), (s.kind != (4 : Int), true), (secE p.vars p.arrays (5 : Nat) s.value, false), (s.kind == (2 : Int), true)], us [(2, 5, 0), (6, 9, 1), (10, 10, 0), (1010, 1010, 1), (11, 11, 0), (12, 15, 2), (16, 20, 3), (21, 21, 2), (1021, 1021, 3), (22, 22, 0), (1022, 1022, 2), (1023, 1023, 0)]⟩ (calls_cons (c_l4Secret (p) (s.value) (by exact hd_value h (by omega))) (calls_cons (c_l4Label (p) (s.index) (by exact hd_index h (by with_reducible assumption))) (calls_cons (c_LabelSecret (labV p s.index)) calls_nil))) ⟨(by assumption), (by assumption), (by assumption), (by assumption), trivial⟩ (rg 7) [dI p.vars, dI p.arrays, dT p.body, dE s.index.kids, dE s.value.kids, dT s.body, dT s.els] [(8, iA 0), (93, yRvI0 p s)] [] trivial fun ρ a w G => th_n ?_; cases h21 : (labOk (labV p s.index) && decide (labV p s.index % (2 : Int) = (1 : Int)))
        · have q21 : ((labOk (labV p s.index)) = false) ∨ (¬ (labV p s.index % 2 = 1)) := Or.imp (fun hq => (hq)) (fun hq => of_decide_eq_false (hq)) (Bool.and_eq_false_iff.1 h21); refine rF G (labOk (labV p s.index) && decide (labV p s.index % (2 : Int) = (1 : Int))) (by assumption) ?_; refine wp_skip (th_n (wp_seq ?_)); refine rs0s G [(8, iA 0)] fun ρ a w G => th_n (wp_ret ?_); exact rx_ret (v := iA 0) G (rg 7) (by kernel_rfl) (by kernel_rfl) (by kernel_rfl) (by have e1 : (ownR p s pc true : Int) = (0) := (by exact ownR_strict (by exact fl2t (by with_reducible assumption) (by with_reducible assumption)) (by exact lk0 (by exact .inl (by omega)) (by exact .inr (by with_reducible assumption)) (by exact .inr (by with_reducible assumption)))); (first | rw [e1] | simp only [e1]) <;> rfl)
        · have q21 : ((labOk (labV p s.index)) = true) ∧ (labV p s.index % 2 = 1) := And.imp (fun hq => (hq)) (fun hq => of_decide_eq_true (hq)) (Bool.and_eq_true_iff.1 h21); refine rT G (labOk (labV p s.index) && decide (labV p s.index % (2 : Int) = (1 : Int))) (by assumption) ?_; refine wp_seq ?_; refine rs0s G [(8, iA 4)] fun ρ a w G => th_n (wp_ret (th_r ?_)); exact rx_ret (v := iA 4) G (rg 7) (by kernel_rfl) (by kernel_rfl) (by kernel_rfl) (by have e1 : (ownR p s pc true : Int) = (4) := (by exact ownR_strict (by exact fl2t (by with_reducible assumption) (by with_reducible assumption)) (by exact lki (by with_reducible assumption) (by with_reducible assumption))); (first | rw [e1] | simp only [e1]) <;> rfl)
       · refine rs1 (dk := dkP) G ⟨[(9, _, [0, 1, 2, 4])], [(strict, true), (s.kind != (4 : Int), true), (secE p.vars p.arrays (5 : Nat) s.value, true)], us [(2, 5, 0), (6, 9, 1), (10, 10, 0), (1010, 1010, 1), (11, 11, 0), (12, 15, 2), (21, 21, 2), (22, 22, 0), (1022, 1022, 2), (1023, 1023, 0)]⟩ (calls_cons (c_l4Secret (p) (s.value) (by exact hd_value h (by omega))) calls_nil) ⟨(by assumption), (by assumption), (by assumption), trivial⟩ (rg 7) [dI p.vars, dI p.arrays, dT p.body, dE s.index.kids, dE s.value.kids, dT s.body, dT s.els] [(8, iA 0), (93, bA true)] [] trivial fun ρ a w G => th_n ?_; refine rT G (true) (by kernel_rfl) ?_; refine wp_seq ?_; refine rs0s G [(8, iA 4)] fun ρ a w G => th_n (wp_ret (th_r ?_)); exact rx_ret (v := iA 4) G (rg 7) (by kernel_rfl) (by kernel_rfl) (by kernel_rfl) (by have e1 : (ownR p s pc true : Int) = (4) := (by exact ownR_strict (by exact fl2t (by with_reducible assumption) (by with_reducible assumption)) (by exact lkv (by exact .inl (by omega)) (by omega) (by with_reducible assumption))); (first | rw [e1] | simp only [e1]) <;> rfl)
    · have q16 : (((labOk (orI (orI (labV p s.value) (labV p s.index)) pc)) = false) ∨ ((labOk (p.arrays.getD s.target.toNat 0)) = false)) ∨ (¬ (orI (orI (orI (labV p s.value) (labV p s.index)) pc) (p.arrays.getD s.target.toNat 0) = p.arrays.getD s.target.toNat 0)) := (fun hq => Or.imp (fun hq => Or.imp (fun hq => (hq)) (fun hq => (hq)) (Bool.and_eq_false_iff.1 (hq))) (fun hq => ne_of_beq_false (hq)) (Bool.and_eq_false_iff.1 (hq))) (Eq.mp (Bool.not_eq_true' _) h16); refine rT G (!(labOk (orI (orI (labV p s.value) (labV p s.index)) pc) && labOk (p.arrays.getD s.target.toNat (0 : Int)) && orI (orI (orI (labV p s.value) (labV p s.index)) pc) (p.arrays.getD s.target.toNat (0 : Int)) == p.arrays.getD s.target.toNat (0 : Int))) (by assumption) ?_; refine wp_seq ?_; refine rs0s G [(3, bA strict), (4, .ptr 7 0), (5, .ptr 8 0), (8, iA 1)] fun ρ a w G => th_n (wp_ret (bl_r (th_r ?_))); exact rx_ret (v := iA 1) G (rg 7) (by kernel_rfl) (by kernel_rfl) (by kernel_rfl) (by have e1 : (ownR p s pc strict : Int) = (1) := (by exact ownR_bad (by exact fl2f (by with_reducible assumption) (by with_reducible assumption)) (by decide)); (first | rw [e1] | simp only [e1]) <;> rfl)
  ·
   have q0 : s.kind = 1 := eq_of_beq h0; refine rT G (s.kind == (1 : Int)) (by assumption) ?_; refine wp_seq ?_; refine rd1s G ⟨[(3, _, [0, 1, 2, 4]), (12, _, [])], [], []⟩ (calls_cons (c_l4Label (p) (s.value) (by exact hd_value h (by omega))) (calls_cons (c_LabelFlows (orI (labV p s.value) pc) (p.vars.getD s.target.toNat 0)) calls_nil)) trivial [0, 0, 2, 7, 0, 31, 0, 64, 0, 256, 960, 1984, 4095, 8191] [(3, bA strict), (4, .ptr 7 0), (5, .ptr 8 0), (8, iA 0), (26, .v (.bool !(labOk (orI (labV p s.value) pc) && labOk (p.vars.getD s.target.toNat 0) && orI (orI (labV p s.value) pc) (p.vars.getD s.target.toNat 0) == p.vars.getD s.target.toNat 0)))] [(0 : Int) ≤ s.target, s.target < (↑p.vars.length : Int), s.target.toNat < p.vars.length] ⟨(by exact (hd_var h (by omega)).1), (by exact (hd_var h (by omega)).2.1), (by exact (hd_var h (by omega)).2.2), trivial⟩ fun ρ a w G => th_n ?_; cases h22 : (!(labOk (orI (labV p s.value) pc) && labOk (p.vars.getD s.target.toNat (0 : Int)) && orI (orI (labV p s.value) pc) (p.vars.getD s.target.toNat (0 : Int)) == p.vars.getD s.target.toNat (0 : Int)))
   ·
    have q22 : (((labOk (orI (labV p s.value) pc)) = true) ∧ ((labOk (p.vars.getD s.target.toNat 0)) = true)) ∧ (orI (orI (labV p s.value) pc) (p.vars.getD s.target.toNat 0) = p.vars.getD s.target.toNat 0) := (fun hq => And.imp (fun hq => And.imp (fun hq => (hq)) (fun hq => (hq)) (Bool.and_eq_true_iff.1 (hq))) (fun hq => eq_of_beq (hq)) (Bool.and_eq_true_iff.1 (hq))) (Eq.mp (Bool.not_eq_false' _) h22); refine rF G (!(labOk (orI (labV p s.value) pc) && labOk (p.vars.getD s.target.toNat (0 : Int)) && orI (orI (labV p s.value) pc) (p.vars.getD s.target.toNat (0 : Int)) == p.vars.getD s.target.toNat (0 : Int))) (by assumption) ?_; refine wp_skip ?_; refine bl_n ?_; refine th_n (wp_seq (wp_seq ?_)); cases h23 : (strict)
    · refine rs1 (dk := dkP) G ⟨[], [(strict, false)], us [(2, 5, 0), (10, 11, 0), (22, 22, 0), (1023, 1023, 0)]⟩ calls_nil ⟨(by assumption), trivial⟩ (rg 7) [dI p.vars, dI p.arrays, dT p.body, dE s.index.kids, dE s.value.kids, dT s.body, dT s.els] [(8, iA 0), (93, bA false)] [] trivial fun ρ a w G => th_n ?_; refine rF G (false) (by kernel_rfl) ?_; refine wp_skip (th_n (wp_seq ?_)); refine rs0s G [(8, iA 0)] fun ρ a w G => th_n (wp_ret ?_); exact rx_ret (v := iA 0) G (rg 7) (by kernel_rfl) (by kernel_rfl) (by kernel_rfl) (by have e1 : (ownR p s pc false : Int) = (0) := (by exact ownR_lax (by exact fl1t (by with_reducible assumption) (by with_reducible assumption))); (first | rw [e1] | simp only [e1]) <;> rfl)
    ·
     cases h24 : (s.kind != (4 : Int))
     ·
      have q24 : s.kind = 4 := (by simpa using h24); cases h25 : (s.kind == (2 : Int))
      · have q25 : ¬ (s.kind = 2) := ne_of_beq_false h25; refine rs1 (dk := dkP) G ⟨[], [(strict, true), (s.kind != (4 : Int), false), (false, false), (s.kind == (2 : Int), false)], us [(2, 5, 0), (6, 9, 1), (10, 10, 0), (1010, 1010, 1), (11, 11, 0), (12, 15, 2), (16, 20, 3), (21, 21, 2), (1021, 1021, 3), (22, 22, 0), (1022, 1022, 2), (1023, 1023, 0)]⟩ calls_nil ⟨(by assumption), (by assumption), (by kernel_rfl), (by assumption), trivial⟩ (rg 7) [dI p.vars, dI p.arrays, dT p.body, dE s.index.kids, dE s.value.kids, dT s.body, dT s.els] [(8, iA 0), (93, bA false)] [] trivial fun ρ a w G => th_n ?_; refine rF G (false) (by kernel_rfl) ?_; refine wp_skip (th_n (wp_seq ?_)); refine rs0s G [(8, iA 0)] fun ρ a w G => th_n (wp_ret ?_); exact rx_ret (v := iA 0) G (rg 7) (by kernel_rfl) (by kernel_rfl) (by kernel_rfl) (by have e1 : (ownR p s pc true : Int) = (0) := (by exact ownR_strict (by exact fl1t (by with_reducible assumption) (by with_reducible assumption)) (by exact lk0 (by exact .inl (by omega)) (by exact .inl (by omega)) (by exact .inl (by omega)))); (first | rw [e1] | simp only [e1]) <;> rfl)
      ·
       have q25 : s.kind = 2 := eq_of_beq h25; refine rs1 (dk := dkP) G ⟨[(19, _, (rg 4)), (20, _, [])], [(strict, true), (s.kind != (4 : Int), false), (false, false), (s.kind == (2 : Int), true)], us [(2, 5, 0), (6, 9, 1), (10, 10, 0), (1010, 1010, 1), (11, 11, 0), (12, 15, 2), (16, 20, 3), (21, 21, 2), (1021, 1021, 3), (22, 22, 0), (1022, 1022, 2), (1023, 1023, 0)]⟩ (calls_cons (c_l4Label (p) (s.index) (by exact hd_index h (by with_reducible assumption))) (calls_cons (c_LabelSecret (labV p s.index)) calls_nil)) ⟨(by assumption), (by assumption), (by kernel_rfl), (by assumption), trivial⟩ (rg 7) [dI p.vars, dI p.arrays, dT p.body, dE s.index.kids, dE s.value.kids, dT s.body, dT s.els] [(8, iA 0), (93, yRvI0 p s)] [] trivial fun ρ a w G => th_n ?_; cases h26 : (labOk (labV p s.index) && decide (labV p s.index % (2 : Int) = (1 : Int)))
       · have q26 : ((labOk (labV p s.index)) = false) ∨ (¬ (labV p s.index % 2 = 1)) := Or.imp (fun hq => (hq)) (fun hq => of_decide_eq_false (hq)) (Bool.and_eq_false_iff.1 h26); refine rF G (labOk (labV p s.index) && decide (labV p s.index % (2 : Int) = (1 : Int))) (by assumption) ?_; refine wp_skip (th_n (wp_seq ?_)); refine rs0s G [(8, iA 0)] fun ρ a w G => th_n (wp_ret ?_); exact rx_ret (v := iA 0) G (rg 7) (by kernel_rfl) (by kernel_rfl) (by kernel_rfl) (by have e1 : (ownR p s pc true : Int) = (0) := (by exact ownR_strict (by exact fl1t (by with_reducible assumption) (by with_reducible assumption)) (by exact lk0 (by exact .inl (by omega)) (by exact .inl (by omega)) (by exact .inl (by omega)))); (first | rw [e1] | simp only [e1]) <;> rfl)
       · have q26 : ((labOk (labV p s.index)) = true) ∧ (labV p s.index % 2 = 1) := And.imp (fun hq => (hq)) (fun hq => of_decide_eq_true (hq)) (Bool.and_eq_true_iff.1 h26); refine rT G (labOk (labV p s.index) && decide (labV p s.index % (2 : Int) = (1 : Int))) (by assumption) ?_; refine wp_seq ?_; refine rs0s G [(8, iA 4)] fun ρ a w G => th_n (wp_ret (th_r ?_)); exact rx_ret (v := iA 4) G (rg 7) (by kernel_rfl) (by kernel_rfl) (by kernel_rfl) (by have e1 : (ownR p s pc true : Int) = (4) := (by exact ownR_strict (by exact fl1t (by with_reducible assumption) (by with_reducible assumption)) (by exact lki (by with_reducible assumption) (by with_reducible assumption))); (first | rw [e1] | simp only [e1]) <;> rfl)
     ·
      have q24 : ¬ (s.kind = 4) := bne_iff_ne.1 h24; cases h27 : (secE p.vars p.arrays (5 : Nat) s.value)
      ·
       cases h28 : (s.kind == (2 : Int))
       · have q28 : ¬ (s.kind = 2) := ne_of_beq_false h28; refine rs1 (dk := dkP) G ⟨[(9, _, [0, 1, 2, 4])], [(strict, true), (s.kind != (4 : Int), true), (secE p.vars p.arrays (5 : Nat) s.value, false), (s.kind == (2 : Int), false)], us [(2, 5, 0), (6, 9, 1), (10, 10, 0), (1010, 1010, 1), (11, 11, 0), (12, 15, 2), (16, 20, 3), (21, 21, 2), (1021, 1021, 3), (22, 22, 0), (1022, 1022, 2), (1023, 1023, 0)]⟩ (calls_cons (c_l4Secret (p) (s.value) (by exact hd_value h (by omega))) calls_nil) ⟨(by assumption), (by assumption), (by assumption), (by assumption), trivial⟩ (rg 7) [dI p.vars, dI p.arrays, dT p.body, dE s.index.kids, dE s.value.kids, dT s.body, dT s.els] [(8, iA 0), (93, bA false)] [] trivial fun ρ a w G => th_n ?_; refine rF G (false) (by kernel_rfl) ?_; refine wp_skip (th_n (wp_seq ?_)); refine rs0s G [(8, iA 0)] fun ρ a w G => th_n (wp_ret ?_); exact rx_ret (v := iA 0) G (rg 7) (by kernel_rfl) (by kernel_rfl) (by kernel_rfl) (by have e1 : (ownR p s pc true : Int) = (0) := (by exact ownR_strict (by exact fl1t (by with_reducible assumption) (by with_reducible assumption)) (by exact lk0 (by exact .inl (by omega)) (by exact .inr (by with_reducible assumption)) (by exact .inl (by omega)))); (first | rw [e1] | simp only [e1]) <;> rfl)
       ·
        have q28 : s.kind = 2 := eq_of_beq h28; refine rs1 (dk := dkP) G ⟨[(9, _, [0, 1, 2, 4]), (19, _, (rg 4)), (20, _, [])], [(strict, true), (s.kind != (4 : Int), true), (secE p.vars p.arrays (5 : Nat) s.value, false), (s.kind == (2 : Int), true)], us [(2, 5, 0), (6, 9, 1), (10, 10, 0), (1010, 1010, 1), (11, 11, 0), (12, 15, 2), (16, 20, 3), (21, 21, 2), (1021, 1021, 3), (22, 22, 0), (1022, 1022, 2), (1023, 1023, 0)]⟩ (calls_cons (c_l4Secret (p) (s.value) (by exact hd_value h (by omega))) (calls_cons (c_l4Label (p) (s.index) (by exact hd_index h (by with_reducible assumption))) (calls_cons (c_LabelSecret (labV p s.index)) calls_nil))) ⟨(by assumption), (by assumption), (by assumption), (by assumption), trivial⟩ (rg 7) [dI p.vars, dI p.arrays, dT p.body, dE s.index.kids, dE s.value.kids, dT s.body, dT s.els] [(8, iA 0), (93, yRvI0 p s)] [] trivial fun ρ a w G => th_n ?_; cases h29 : (labOk (labV p s.index) && decide (labV p s.index % (2 : Int) = (1 : Int)))
        · have q29 : ((labOk (labV p s.index)) = false) ∨ (¬ (labV p s.index % 2 = 1)) := Or.imp (fun hq => (hq)) (fun hq => of_decide_eq_false (hq)) (Bool.and_eq_false_iff.1 h29); refine rF G (labOk (labV p s.index) && decide (labV p s.index % (2 : Int) = (1 : Int))) (by assumption) ?_; refine wp_skip (th_n (wp_seq ?_)); refine rs0s G [(8, iA 0)] fun ρ a w G => th_n (wp_ret ?_); exact rx_ret (v := iA 0) G (rg 7) (by kernel_rfl) (by kernel_rfl) (by kernel_rfl) (by have e1 : (ownR p s pc true : Int) = (0) := (by exact ownR_strict (by exact fl1t (by with_reducible assumption) (by with_reducible assumption)) (by exact lk0 (by exact .inl (by omega)) (by exact .inl (by omega)) (by exact .inl (by omega)))); (first | rw [e1] | simp only [e1]) <;> rfl)
        · have q29 : ((labOk (labV p s.index)) = true) ∧ (labV p s.index % 2 = 1) := And.imp (fun hq => (hq)) (fun hq => of_decide_eq_true (hq)) (Bool.and_eq_true_iff.1 h29); refine rT G (labOk (labV p s.index) && decide (labV p s.index % (2 : Int) = (1 : Int))) (by assumption) ?_; refine wp_seq ?_; refine rs0s G [(8, iA 4)] fun ρ a w G => th_n (wp_ret (th_r ?_)); exact rx_ret (v := iA 4) G (rg 7) (by kernel_rfl) (by kernel_rfl) (by kernel_rfl) (by have e1 : (ownR p s pc true : Int) = (4) := (by exact ownR_strict (by exact fl1t (by with_reducible assumption) (by with_reducible assumption)) (by exact lki (by with_reducible assumption) (by with_reducible assumption))); (first | rw [e1] | simp only [e1]) <;> rfl)
      · refine rs1 (dk := dkP) G ⟨[(9, _, [0, 1, 2, 4])], [(strict, true), (s.kind != (4 : Int), true), (secE p.vars p.arrays (5 : Nat) s.value, true)], us [(2, 5, 0), (6, 9, 1), (10, 10, 0), (1010, 1010, 1), (11, 11, 0), (12, 15, 2), (21, 21, 2), (22, 22, 0), (1022, 1022, 2), (1023, 1023, 0)]⟩ (calls_cons (c_l4Secret (p) (s.value) (by exact hd_value h (by omega))) calls_nil) ⟨(by assumption), (by assumption), (by assumption), trivial⟩ (rg 7) [dI p.vars, dI p.arrays, dT p.body, dE s.index.kids, dE s.value.kids, dT s.body, dT s.els] [(8, iA 0), (93, bA true)] [] trivial fun ρ a w G => th_n ?_; refine rT G (true) (by kernel_rfl) ?_; refine wp_seq ?_; refine rs0s G [(8, iA 4)] fun ρ a w G => th_n (wp_ret (th_r ?_)); exact rx_ret (v := iA 4) G (rg 7) (by kernel_rfl) (by kernel_rfl) (by kernel_rfl) (by have e1 : (ownR p s pc true : Int) = (4) := (by exact ownR_strict (by exact fl1t (by with_reducible assumption) (by with_reducible assumption)) (by exact lkv (by exact .inl (by omega)) (by omega) (by with_reducible assumption))); (first | rw [e1] | simp only [e1]) <;> rfl)
   · have q22 : (((labOk (orI (labV p s.value) pc)) = false) ∨ ((labOk (p.vars.getD s.target.toNat 0)) = false)) ∨ (¬ (orI (orI (labV p s.value) pc) (p.vars.getD s.target.toNat 0) = p.vars.getD s.target.toNat 0)) := (fun hq => Or.imp (fun hq => Or.imp (fun hq => (hq)) (fun hq => (hq)) (Bool.and_eq_false_iff.1 (hq))) (fun hq => ne_of_beq_false (hq)) (Bool.and_eq_false_iff.1 (hq))) (Eq.mp (Bool.not_eq_true' _) h22); refine rT G (!(labOk (orI (labV p s.value) pc) && labOk (p.vars.getD s.target.toNat (0 : Int)) && orI (orI (labV p s.value) pc) (p.vars.getD s.target.toNat (0 : Int)) == p.vars.getD s.target.toNat (0 : Int))) (by assumption) ?_; refine wp_seq ?_; refine rs0s G [(3, bA strict), (4, .ptr 7 0), (5, .ptr 8 0), (8, iA 1)] fun ρ a w G => th_n (wp_ret (bl_r (th_r ?_))); exact rx_ret (v := iA 1) G (rg 7) (by kernel_rfl) (by kernel_rfl) (by kernel_rfl) (by have e1 : (ownR p s pc strict : Int) = (1) := (by exact ownR_bad (by exact fl1f (by with_reducible assumption) (by with_reducible assumption)) (by decide)); (first | rw [e1] | simp only [e1]) <;> rfl)


def foldC (F : Nat → LStmt → Int × Nat) : Nat → List LStmt → Int × Nat
  | c, [] => (0, c)
  | c, s :: r => if (F c s).1 = 0 then foldC F (F c s).2 r else F c s
def innR (p : LProg) (s : LStmt) (pc : Int) : Int := if s.kind = 3 then orI pc (labV p s.value) else pc
def stC (p : LProg) (strict : Bool) : Nat → Int → Nat → LStmt → Int × Nat
  | 0, _, c, _ => (0, c)
  | d + 1, pc, c, s => if ownR p s pc strict = 0 then
      (if (foldC (stC p strict d (innR p s pc)) (c + 1) s.body).1 = 0 then foldC (stC p strict d (innR p s pc)) (foldC (stC p strict d (innR p s pc)) (c + 1) s.body).2 s.els
       else foldC (stC p strict d (innR p s pc)) (c + 1) s.body)
    else (ownR p s pc strict, c)
abbrev blC (p : LProg) (strict : Bool) (d : Nat) (pc : Int) (c : Nat) (ss : List LStmt) : Int × Nat := foldC (stC p strict d pc) c ss
theorem foldC_append (F : Nat → LStmt → Int × Nat) : ∀ (a b : List LStmt) (c : Nat), foldC F c (a ++ b) = if (foldC F c a).1 = 0 then foldC F (foldC F c a).2 b else foldC F c a
  | [], b, c => by simp [foldC]
  | x :: r, b, c => by
    simp only [List.cons_append, foldC]
    by_cases h : (F c x).1 = 0
    · simp only [h, if_true]; exact foldC_append F r b _
    · simp [h]
theorem foldC_next {F : Nat → LStmt → Int × Nat} {c k : Nat} {ss : List LStmt} (h : (foldC F c (ss.take k)).1 = 0) (hk : k < ss.length) : foldC F c (ss.take (k + 1)) = F (foldC F c (ss.take k)).2 (ss.getD k default) := by
  rw [take_succ_get _ _ hk, foldC_append, if_pos h, getD_lt hk]
  simp only [foldC]
  split
  · rename_i h; exact Prod.ext h.symm rfl
  · rfl
theorem foldC_stop {F : Nat → LStmt → Int × Nat} {c k : Nat} {ss : List LStmt} (h : (foldC F c (ss.take k)).1 = 0) (hk : k < ss.length) (hf : ¬ (F (foldC F c (ss.take k)).2 (ss.getD k default)).1 = 0) : foldC F c ss = F (foldC F c (ss.take k)).2 (ss.getD k default) := by
  conv => lhs; rw [← List.take_append_drop (k + 1) ss]
  rw [foldC_append, foldC_next h hk, if_neg hf]
theorem foldC_full {F : Nat → LStmt → Int × Nat} {c k : Nat} {ss : List LStmt} (hk : ss.length ≤ k) : foldC F c ss = foldC F c (ss.take k) := by rw [List.take_of_length_le hk]
theorem foldC_le {F : Nat → LStmt → Int × Nat} (hF : ∀ c s, (F c s).2 ≤ c + nS s) : ∀ (ss : List LStmt) (c : Nat), (foldC F c ss).2 ≤ c + nSs ss
  | [], c => by simp [foldC]
  | s :: r, c => by
    simp only [foldC, nSs]
    have h1 := hF c s
    have h2 := foldC_le hF r (F c s).2
    split <;> omega
theorem stC_le {p : LProg} {strict : Bool} : ∀ (d : Nat) (pc : Int) (c : Nat) (s : LStmt), (stC p strict d pc c s).2 ≤ c + nS s
  | 0, _, c, s => by simp [stC]
  | d + 1, pc, c, s => by
    have hs := nS_def s
    have h1 := foldC_le (stC_le (p := p) (strict := strict) d (innR p s pc)) s.body (c + 1)
    have h2 := foldC_le (stC_le (p := p) (strict := strict) d (innR p s pc)) s.els (foldC (stC p strict d (innR p s pc)) (c + 1) s.body).2
    rw [stC]
    split
    · split <;> omega
    · simp only; omega
theorem blC_le {p : LProg} {strict : Bool} {d : Nat} {pc : Int} {c : Nat} {ss : List LStmt} : (blC p strict d pc c ss).2 ≤ c + nSs ss := foldC_le (stC_le d pc) ss c

theorem bl_at {nv na d k : Nat} {ss : List LStmt} (hs : ss.all (stmtB nv na (d + 1)) = true) (hk : k < ss.length) : headB nv na (ss.getD k default) = true ∧ (ss.getD k default).body.all (stmtB nv na d) = true ∧ (ss.getD k default).els.all (stmtB nv na d) = true := by
  have h := List.all_eq_true.1 hs _ (List.getElem_mem hk)
  rw [stmtB_head, Bool.and_eq_true, Bool.and_eq_true] at h
  rw [getD_lt hk]; exact h
theorem blk_n {k : Nat} {ss : List LStmt} (hk : k < ss.length) : nSs (ss.take k) + (1 + nSs (ss.getD k default).body + nSs (ss.getD k default).els) ≤ nSs ss := by
  have h1 := nSs_take1 hk
  have h2 := nSs_take_le ss (k + 1)
  rw [nS_def] at h1
  rw [getD_lt hk]; omega
section
variable {p : LProg} {strict : Bool} {d c : Nat} {pc : Int} {s : LStmt}
theorem stC_own (h : ¬ ownR p s pc strict = 0) : stC p strict (d + 1) pc c s = (ownR p s pc strict, c) := by rw [stC, if_neg h]
theorem stC_body {x : Int} (h : ownR p s pc strict = 0) (hx : innR p s pc = x) (h2 : ¬ (blC p strict d x (c + 1) s.body).1 = 0) : stC p strict (d + 1) pc c s = blC p strict d x (c + 1) s.body := by
  subst hx; rw [stC, if_pos h, if_neg h2]
theorem stC_els {x : Int} (h : ownR p s pc strict = 0) (hx : innR p s pc = x) (h2 : (blC p strict d x (c + 1) s.body).1 = 0) : stC p strict (d + 1) pc c s = blC p strict d x (blC p strict d x (c + 1) s.body).2 s.els := by
  subst hx; rw [stC, if_pos h, if_pos h2]
theorem inn_if (k : s.kind = 3) : innR p s pc = orI pc (labV p s.value) := if_pos k
theorem inn_no (k : ¬ s.kind = 3) : innR p s pc = pc := if_neg k
end

theorem bl_bound {p : LProg} {strict : Bool} {d k c : Nat} {pc : Int} {ss : List LStmt} (hc : c + nSs ss ≤ 4000000) (hk : k < ss.length) : (blC p strict (d + 1) pc c (ss.take k)).2 + 1 + nSs (ss.getD k default).body ≤ 4000000 := by
  have h1 := blk_n (k := k) (ss := ss) hk
  have h2 := blC_le (p := p) (strict := strict) (d := d + 1) (pc := pc) (c := c) (ss := ss.take k)
  omega
theorem bl_bound2 {p : LProg} {strict : Bool} {d k c : Nat} {pc x : Int} {ss : List LStmt} (hc : c + nSs ss ≤ 4000000) (hk : k < ss.length) : (blC p strict d x ((blC p strict (d + 1) pc c (ss.take k)).2 + 1) (ss.getD k default).body).2 + nSs (ss.getD k default).els ≤ 4000000 := by
  have h1 := blk_n (k := k) (ss := ss) hk
  have h2 := blC_le (p := p) (strict := strict) (d := d + 1) (pc := pc) (c := c) (ss := ss.take k)
  have h3 := blC_le (p := p) (strict := strict) (d := d) (pc := x) (c := (blC p strict (d + 1) pc c (ss.take k)).2 + 1) (ss := (ss.getD k default).body)
  omega
theorem bl_wrap {p : LProg} {strict : Bool} {d k c : Nat} {pc : Int} {ss : List LStmt} (hc : c + nSs ss ≤ 4000000) (hk : k < ss.length) : IntKind.i64.wrap (((blC p strict (d + 1) pc c (ss.take k)).2 : Int) + 1) = ((blC p strict (d + 1) pc c (ss.take k)).2 : Int) + 1 := by
  have h1 := bl_bound (p := p) (strict := strict) (d := d) (pc := pc) hc hk
  exact w64 (by omega) (by omega)

abbrev blkC (p : LProg) (d : Nat) (ss : List LStmt) (pc : Int) (c : Nat) (strict : Bool) : Ctr := fnC 118 [pA 0, .ref 3, iA pc, iA c, bA strict] (pS p ++ [.dat (.stmts ss)]) (.tup [iA (blC p strict d pc c ss).1, iA (blC p strict d pc c ss).2])

set_option maxRecDepth 100000 in
theorem c_l4Block0 (p : LProg) (pc : Int) (c : Nat) (strict : Bool) : Ctr.ok Try.prog (blkC p 0 [] pc c strict) := by
  refine rx_enter 74 Try.func118 (by rfl) (by kernel_rfl) (by kernel_rfl) ?_; intro ι φ ψ w0 w F ρ0 ρ a G; replace G := Gam.at G [dI p.vars, dI p.arrays, dT p.body, dT []] [(0, pA 0), (1, .ref 3), (2, iA pc), (3, iA (↑c : Int)), (4, bA strict)]; refine wp_seq ?_; refine rs0 G (rg 5) [dI p.vars, dI p.arrays, dT p.body, dT [], .box (pL 0)] [(1, .ref 3), (2, iA pc), (3, iA (↑c : Int)), (4, bA strict), (5, .ptr 4 0), (10, iA 0), (11, iA 0)] fun ρ a w G => th_n (wp_seq (wp_seq ?_)); refine rs0s G [(1, .ref 3), (2, iA pc), (3, iA (↑c : Int)), (4, bA strict), (5, .ptr 4 0), (10, iA 0), (11, iA 0), (12, iA 0)] fun ρ a w G => th_n (wp_block ?_); refine rx_for (κ := Nat) (fun k => k = 0) (fun k => 0) (fun k => [dI p.vars, dI p.arrays, dT p.body, dT [], .box (pL 0)]) (fun k => [(1, .ref 3), (2, iA pc), (3, iA (↑c : Int)), (4, bA strict), (5, .ptr 4 0), (10, iA 0), (11, iA 0), (12, iA 0)]) (0) (by kernel_rfl) (Gam.at G _ _) ?_; clear G; intro k ρ a w hp G; replace G := Gam.at G [dI p.vars, dI p.arrays, dT p.body, dT [], .box (pL 0)] [(1, .ref 3), (2, iA pc), (3, iA (↑c : Int)), (4, bA strict), (5, .ptr 4 0), (10, iA 0), (11, iA 0), (12, iA 0)]; refine wp_seq (wp_seq ?_); refine rs0s G [(1, .ref 3), (2, iA pc), (3, iA (↑c : Int)), (4, bA strict), (5, .ptr 4 0), (10, iA 0), (11, iA 0), (12, iA 0), (19, bA false)] fun ρ a w G => th_n ?_; refine rF G (false) (by kernel_rfl) ?_; refine wp_exit (th_e (th_e (bl_hit (th_n (wp_seq ?_))))); refine rs0 G (rg 4) [dI p.vars, dI p.arrays, dT p.body, dT []] [(10, iA 0), (11, iA (↑c : Int))] fun ρ a w G => th_n (wp_ret ?_); exact rx_ret (v := .tup [iA 0, iA (↑c : Int)]) G (rg 4) (by kernel_rfl) (by kernel_rfl) (by kernel_rfl) (by kernel_rfl)

abbrev yRvJ0 (p : LProg) (d : Nat) (strict : Bool) (ss : List LStmt) (pc : Int) (c : Nat) (k : Nat) := blC p strict d (orI pc (labV p (ss.getD k default).value)) ((blC p strict (d + 1) pc c (List.take k ss)).snd + 1) (ss.getD k default).body
abbrev yRvJ1 (p : LProg) (d : Nat) (strict : Bool) (ss : List LStmt) (pc : Int) (c : Nat) (k : Nat) := blC p strict d pc ((blC p strict (d + 1) pc c (List.take k ss)).snd + 1) (ss.getD k default).body
abbrev yRvJ2 (p : LProg) (d : Nat) (strict : Bool) (ss : List LStmt) (pc : Int) (c : Nat) (k : Nat) := blC p strict d (orI pc (labV p (ss.getD k default).value)) (yRvJ0 p d strict ss pc c k).snd (ss.getD k default).els
abbrev yRvJ3 (p : LProg) (d : Nat) (strict : Bool) (ss : List LStmt) (pc : Int) (c : Nat) (k : Nat) := blC p strict d pc (yRvJ1 p d strict ss pc c k).snd (ss.getD k default).els
abbrev yRvJ4 (p : LProg) (d : Nat) (strict : Bool) (ss : List LStmt) (pc : Int) (c : Nat) (k : Nat) : AV := iA (↑(blC p strict (d + 1) pc c (List.take k ss)).snd : Int)
set_option maxHeartbeats 4000000 in
set_option maxRecDepth 100000 in
theorem c_l4BlockS (p : LProg) (d : Nat) (strict : Bool) (ih : ∀ (ss : List LStmt) (pc : Int) (c : Nat), ss.all (stmtB p.vars.length p.arrays.length d) = true → c + nSs ss ≤ 4000000 → Ctr.ok Try.prog (blkC p d ss pc c strict))
    (ss : List LStmt) (pc : Int) (c : Nat) (hs : ss.all (stmtB p.vars.length p.arrays.length (d + 1)) = true) (hc : c + nSs ss ≤ 4000000) : Ctr.ok Try.prog (blkC p (d + 1) ss pc c strict) := by
  refine rx_enter 74 Try.func118 (by rfl) (by kernel_rfl) (by kernel_rfl) ?_; intro ι φ ψ w0 w F ρ0 ρ a G; replace G := Gam.at G [dI p.vars, dI p.arrays, dT p.body, dT ss] [(0, pA 0), (1, .ref 3), (2, iA pc), (3, iA (↑c : Int)), (4, bA strict)]; have hlen : ss.length ≤ 9223372036854775807 := G.len 3 (d := .stmts ss) (by kernel_rfl); refine wp_seq ?_; refine rs0 G (rg 5) [dI p.vars, dI p.arrays, dT p.body, dT ss, .box (pL 0)] [(1, .ref 3), (2, iA pc), (3, iA (↑c : Int)), (4, bA strict), (5, .ptr 4 0), (10, iA 0), (11, iA 0)] fun ρ a w G => th_n (wp_seq (wp_seq ?_)); refine rs0s G [(1, .ref 3), (2, iA pc), (3, iA (↑c : Int)), (4, bA strict), (5, .ptr 4 0), (10, iA 0), (11, iA 0), (12, iA 0)] fun ρ a w G => th_n (wp_block ?_); refine rx_for (κ := Nat) (fun k => k ≤ ss.length ∧ (blC p strict (d + 1) pc c (ss.take k)).1 = 0) (fun k => ss.length - k) (fun k => [dI p.vars, dI p.arrays, dT p.body, dT ss, .box (pL 0)]) (fun k => [(1, .ref 3), (2, iA pc), (3, iA (blC p strict (d + 1) pc c (ss.take k)).2), (4, bA strict), (5, .ptr 4 0), (10, iA 0), (11, iA 0), (12, iA k)]) (0) (by exact ⟨Nat.zero_le _, rfl⟩) (Gam.at G _ _) ?_; clear G; intro k ρ a w hp G; replace G := Gam.at G [dI p.vars, dI p.arrays, dT p.body, dT ss, .box (pL 0)] [(1, .ref 3), (2, iA pc), (3, yRvJ4 p d strict ss pc c k), (4, bA strict), (5, .ptr 4 0), (10, iA 0), (11, iA 0), (12, iA (↑k : Int))]; refine wp_seq (wp_seq ?_); refine rs0s G [(1, .ref 3), (2, iA pc), (3, yRvJ4 p d strict ss pc c k), (4, bA strict), (5, .ptr 4 0), (10, iA 0), (11, iA 0), (12, iA (↑k : Int)), (19, bA (decide ((↑k : Int) < (↑ss.length : Int))))] fun ρ a w G => th_n ?_; cases h0 : (decide ((↑k : Int) < (↑ss.length : Int)))
  · have q0 : ¬ ((↑k : Int) < (↑ss.length : Int)) := dFf h0; refine rF G (decide ((↑k : Int) < (↑ss.length : Int))) (by assumption) ?_; refine wp_exit (th_e (th_e (bl_hit (th_n (wp_seq ?_))))); refine rs0 G (rg 4) [dI p.vars, dI p.arrays, dT p.body, dT ss] [(10, iA 0), (11, yRvJ4 p d strict ss pc c k)] fun ρ a w G => th_n (wp_ret ?_); exact rx_ret (v := .tup [iA 0, iA (↑(blC p strict (d + 1) pc c (List.take k ss)).snd : Int)]) G (rg 4) (by kernel_rfl) (by kernel_rfl) (by kernel_rfl) (by have e1 : ((blC p strict (d + 1) pc c ss).fst : Int) = (0) := (by rw [blC, foldC_full (k := k) (by omega)]; exact hp.2); have e2 : ((↑(blC p strict (d + 1) pc c ss).snd : Int) : Int) = ((↑(blC p strict (d + 1) pc c (List.take k ss)).snd : Int)) := (by rw [blC, foldC_full (k := k) (by omega)]); (first | rw [e1, e2] | simp only [e1, e2]) <;> rfl)
  ·
   have q0 : (↑k : Int) < (↑ss.length : Int) := dTt h0; refine rT G (decide ((↑k : Int) < (↑ss.length : Int))) (by assumption) ?_; refine wp_skip (th_n (wp_seq (wp_block (wp_seq ?_)))); refine rs1 (dk := dkP) G ⟨[], [], []⟩ calls_nil trivial [0, 1, 2, 3, 4, 29, 30, 31, 32, 37] [dI p.vars, dI p.arrays, dT p.body, dT ss, .box (pL 0), dE (ss.getD k default).index.kids, dE (ss.getD k default).value.kids, dT (ss.getD k default).body, dT (ss.getD k default).els, .box (sL (ss.getD k default) 5)] [(1, .ref 3), (2, iA pc), (3, yRvJ4 p d strict ss pc c k), (4, bA strict), (5, .ptr 4 0), (10, iA 0), (11, iA 0), (12, iA (↑k : Int)), (13, .ptr 9 0)] [(0 : Int) ≤ (↑k : Int), (↑k : Int) < (↑ss.length : Int), k < ss.length] ⟨(by simp [hs, h0]), (by assumption), (by have hp := hp; omega), trivial⟩ fun ρ a w G => th_n (wp_seq ?_); refine rs1s G ⟨[(4, _, [0, 1, 2, 5, 6, 7, 8])], [], []⟩ (calls_cons (c_l4Own (p) (ss.getD k default) (pc) (strict) (by exact (bl_at hs (by omega)).1)) calls_nil) trivial [(1, .ref 3), (2, iA pc), (3, yRvJ4 p d strict ss pc c k), (4, bA strict), (5, .ptr 4 0), (10, iA 0), (11, iA 0), (12, iA (↑k : Int)), (13, .ptr 9 0), (14, iA (ownR p (ss.getD k default) pc strict))] [] trivial fun ρ a w G => th_n (wp_seq (wp_seq ?_)); refine rs0s G [(1, .ref 3), (2, iA pc), (3, yRvJ4 p d strict ss pc c k), (4, bA strict), (5, .ptr 4 0), (10, iA 0), (11, iA 0), (12, iA (↑k : Int)), (13, .ptr 9 0), (14, iA (ownR p (ss.getD k default) pc strict)), (32, bA (ownR p (ss.getD k default) pc strict != 0))] fun ρ a w G => th_n ?_; cases h1 : (ownR p (ss.getD k default) pc strict != (0 : Int))
   ·
    have q1 : ownR p (ss.getD k default) pc strict = 0 := (by simpa using h1); refine rF G (ownR p (ss.getD k default) pc strict != (0 : Int)) (by assumption) ?_; refine wp_skip (th_n (wp_seq ?_)); refine rs1s G ⟨[], [], []⟩ calls_nil trivial [(1, .ref 3), (2, iA pc), (3, iA ((↑(blC p strict (d + 1) pc c (List.take k ss)).snd : Int) + 1)), (4, bA strict), (5, .ptr 4 0), (10, iA 0), (11, iA 0), (12, iA (↑k : Int)), (13, .ptr 9 0), (14, iA (ownR p (ss.getD k default) pc strict))] [IntKind.i64.wrap ((↑(blC p strict (d + (1 : Nat)) pc c (List.take k ss)).snd : Int) + (1 : Int)) = (↑(blC p strict (d + (1 : Nat)) pc c (List.take k ss)).snd : Int) + (1 : Int)] ⟨(by exact bl_wrap hc (by omega)), trivial⟩ fun ρ a w G => th_n (wp_seq ?_); refine rs0s G [(1, .ref 3), (2, iA pc), (3, iA ((↑(blC p strict (d + 1) pc c (List.take k ss)).snd : Int) + 1)), (4, bA strict), (5, .ptr 4 0), (10, iA 0), (11, iA 0), (12, iA (↑k : Int)), (13, .ptr 9 0), (14, iA (ownR p (ss.getD k default) pc strict)), (15, iA pc)] fun ρ a w G => th_n (wp_seq (wp_seq ?_)); refine rs0s G [(1, .ref 3), (2, iA pc), (3, iA ((↑(blC p strict (d + 1) pc c (List.take k ss)).snd : Int) + 1)), (4, bA strict), (5, .ptr 4 0), (10, iA 0), (11, iA 0), (12, iA (↑k : Int)), (13, .ptr 9 0), (14, iA (ownR p (ss.getD k default) pc strict)), (15, iA pc), (40, bA ((ss.getD k default).kind == 3))] fun ρ a w G => th_n ?_; cases h2 : ((ss.getD k default).kind == (3 : Int))
    ·
     have q2 : ¬ ((ss.getD k default).kind = 3) := ne_of_beq_false h2; refine rF G ((ss.getD k default).kind == (3 : Int)) (by assumption) ?_; refine wp_skip (th_n (wp_seq ?_)); refine rs1s G ⟨[(6, _, [0, 1, 2, 7])], [], []⟩ (calls_cons (ih ((ss.getD k default).body) (pc) ((blC p strict (d + 1) pc c (List.take k ss)).snd + 1) (by exact (bl_at hs (by omega)).2.1) (by exact bl_bound hc (by omega))) calls_nil) trivial [(1, .ref 3), (2, iA pc), (3, iA (↑(yRvJ1 p d strict ss pc c k).snd : Int)), (4, bA strict), (5, .ptr 4 0), (10, iA 0), (11, iA 0), (12, iA (↑k : Int)), (13, .ptr 9 0), (14, iA (yRvJ1 p d strict ss pc c k).fst), (15, iA pc)] [] trivial fun ρ a w G => th_n (wp_seq (wp_seq ?_)); refine rs0s G [(1, .ref 3), (2, iA pc), (3, iA (↑(yRvJ1 p d strict ss pc c k).snd : Int)), (4, bA strict), (5, .ptr 4 0), (10, iA 0), (11, iA 0), (12, iA (↑k : Int)), (13, .ptr 9 0), (14, iA (yRvJ1 p d strict ss pc c k).fst), (15, iA pc), (58, bA ((yRvJ1 p d strict ss pc c k).fst == 0))] fun ρ a w G => th_n ?_; cases h3 : ((blC p strict d pc ((blC p strict (d + (1 : Nat)) pc c (List.take k ss)).snd + (1 : Nat)) (ss.getD k default).body).fst == (0 : Int))
     ·
      have q3 : ¬ ((blC p strict d pc ((blC p strict (d + 1) pc c (List.take k ss)).snd + 1) (ss.getD k default).body).fst = 0) := ne_of_beq_false h3; refine rF G ((blC p strict d pc ((blC p strict (d + (1 : Nat)) pc c (List.take k ss)).snd + (1 : Nat)) (ss.getD k default).body).fst == (0 : Int)) (by assumption) ?_; refine wp_skip (th_n (wp_seq ?_)); refine rs0 G (rg 5) [dI p.vars, dI p.arrays, dT p.body, dT ss, .box (pL 0)] [(1, .ref 3), (2, iA pc), (3, iA (↑(yRvJ1 p d strict ss pc c k).snd : Int)), (4, bA strict), (5, .ptr 4 0), (10, iA 0), (11, iA 0), (12, iA (↑k : Int)), (14, iA (yRvJ1 p d strict ss pc c k).fst), (70, bA ((yRvJ1 p d strict ss pc c k).fst != 0))] fun ρ a w G => th_n ?_; cases h4 : ((blC p strict d pc ((blC p strict (d + (1 : Nat)) pc c (List.take k ss)).snd + (1 : Nat)) (ss.getD k default).body).fst != (0 : Int))
      · have q4 : (blC p strict d pc ((blC p strict (d + 1) pc c (List.take k ss)).snd + 1) (ss.getD k default).body).fst = 0 := (by simpa using h4); refine rF G ((blC p strict d pc ((blC p strict (d + (1 : Nat)) pc c (List.take k ss)).snd + (1 : Nat)) (ss.getD k default).body).fst != (0 : Int)) (by assumption) ?_; refine wp_skip ?_; refine bl_n ?_; refine th_n ?_; refine rs1s G ⟨[], [], []⟩ calls_nil trivial [(1, .ref 3), (2, iA pc), (3, iA (↑(yRvJ1 p d strict ss pc c k).snd : Int)), (4, bA strict), (5, .ptr 4 0), (10, iA 0), (11, iA 0), (12, iA ((↑k : Int) + 1))] [IntKind.i64.wrap ((↑k : Int) + (1 : Int)) = (↑k : Int) + (1 : Int)] ⟨(by have hp := hp; omega), trivial⟩ fun ρ a w G => th_n ?_; exact rx_next G (k + 1) (by exact ⟨by omega, by omega⟩) (by have hp := hp; omega) (rg 5) [dI p.vars, dI p.arrays, dT p.body, dT ss, .box (pL 0)] [(1, .ref 3), (2, iA pc), (3, iA (↑(blC p strict (d + 1) pc c (List.take (k + 1) ss)).snd : Int)), (4, bA strict), (5, .ptr 4 0), (10, iA 0), (11, iA 0), (12, iA (↑(k + 1) : Int))] (by kernel_rfl) (by kernel_rfl) (by kernel_rfl) (by kernel_rfl) (by have e1 : ((↑(blC p strict (d + 1) pc c (List.take (k + 1) ss)).snd : Int) : Int) = ((↑(blC p strict d pc ((blC p strict (d + 1) pc c (List.take k ss)).snd + 1) (ss.getD k default).body).snd : Int)) := (by have hp := hp; omega); (first | rw [e1] | simp only [e1]) <;> rfl)
      · have q4 : ¬ ((blC p strict d pc ((blC p strict (d + 1) pc c (List.take k ss)).snd + 1) (ss.getD k default).body).fst = 0) := bne_iff_ne.1 h4; refine rT G ((blC p strict d pc ((blC p strict (d + (1 : Nat)) pc c (List.take k ss)).snd + (1 : Nat)) (ss.getD k default).body).fst != (0 : Int)) (by assumption) ?_; refine wp_seq ?_; refine rs0s G [(1, .ref 3), (2, iA pc), (3, iA (↑(yRvJ1 p d strict ss pc c k).snd : Int)), (4, bA strict), (5, .ptr 4 0), (10, iA (yRvJ1 p d strict ss pc c k).fst), (11, iA (↑(yRvJ1 p d strict ss pc c k).snd : Int)), (12, iA (↑k : Int))] fun ρ a w G => th_n (wp_ret (bl_r (th_r (th_r (bl_r (th_r ?_)))))); exact rx_ret (v := .tup [iA (blC p strict d pc ((blC p strict (d + 1) pc c (List.take k ss)).snd + 1) (ss.getD k default).body).fst, iA (↑(blC p strict d pc ((blC p strict (d + 1) pc c (List.take k ss)).snd + 1) (ss.getD k default).body).snd : Int)]) G (rg 4) (by kernel_rfl) (by kernel_rfl) (by kernel_rfl) (by have e1 : ((blC p strict (d + 1) pc c ss).fst : Int) = ((blC p strict d pc ((blC p strict (d + 1) pc c (List.take k ss)).snd + 1) (ss.getD k default).body).fst) := (by rw [blC, foldC_stop hp.2 (by omega) (by rw [stC_body (by with_reducible assumption) (by exact inn_no (by with_reducible assumption)) (by with_reducible assumption)]; with_reducible assumption), stC_body (by with_reducible assumption) (by exact inn_no (by with_reducible assumption)) (by with_reducible assumption)]); have e2 : ((↑(blC p strict (d + 1) pc c ss).snd : Int) : Int) = ((↑(blC p strict d pc ((blC p strict (d + 1) pc c (List.take k ss)).snd + 1) (ss.getD k default).body).snd : Int)) := (by rw [blC, foldC_stop hp.2 (by omega) (by rw [stC_body (by with_reducible assumption) (by exact inn_no (by with_reducible assumption)) (by with_reducible assumption)]; with_reducible assumption), stC_body (by with_reducible assumption) (by exact inn_no (by with_reducible assumption)) (by with_reducible assumption)]); (first | rw [e1, e2] | simp only [e1, e2]) <;> rfl)
     ·
      have q3 : (blC p strict d pc ((blC p strict (d + 1) pc c (List.take k ss)).snd + 1) (ss.getD k default).body).fst = 0 := eq_of_beq h3; refine rT G ((blC p strict d pc ((blC p strict (d + (1 : Nat)) pc c (List.take k ss)).snd + (1 : Nat)) (ss.getD k default).body).fst == (0 : Int)) (by assumption) ?_; refine rs1 (dk := dkP) G ⟨[(6, _, [0, 1, 2, 8])], [], []⟩ (calls_cons (ih ((ss.getD k default).els) (pc) ((yRvJ1 p d strict ss pc c k).snd) (by exact (bl_at hs (by omega)).2.2) (by exact bl_bound2 hc (by omega))) calls_nil) trivial (rg 5) [dI p.vars, dI p.arrays, dT p.body, dT ss, .box (pL 0)] [(1, .ref 3), (2, iA pc), (3, iA (↑(yRvJ3 p d strict ss pc c k).snd : Int)), (4, bA strict), (5, .ptr 4 0), (10, iA 0), (11, iA 0), (12, iA (↑k : Int)), (14, iA (yRvJ3 p d strict ss pc c k).fst)] [] trivial fun ρ a w G => th_n (wp_seq ?_); refine rs0s G [(1, .ref 3), (2, iA pc), (3, iA (↑(yRvJ3 p d strict ss pc c k).snd : Int)), (4, bA strict), (5, .ptr 4 0), (10, iA 0), (11, iA 0), (12, iA (↑k : Int)), (14, iA (yRvJ3 p d strict ss pc c k).fst), (70, bA ((yRvJ3 p d strict ss pc c k).fst != 0))] fun ρ a w G => th_n ?_; cases h5 : ((blC p strict d pc (blC p strict d pc ((blC p strict (d + (1 : Nat)) pc c (List.take k ss)).snd + (1 : Nat)) (ss.getD k default).body).snd (ss.getD k default).els).fst != (0 : Int))
      · have q5 : (blC p strict d pc (blC p strict d pc ((blC p strict (d + 1) pc c (List.take k ss)).snd + 1) (ss.getD k default).body).snd (ss.getD k default).els).fst = 0 := (by simpa using h5); refine rF G ((blC p strict d pc (blC p strict d pc ((blC p strict (d + (1 : Nat)) pc c (List.take k ss)).snd + (1 : Nat)) (ss.getD k default).body).snd (ss.getD k default).els).fst != (0 : Int)) (by assumption) ?_; refine wp_skip ?_; refine bl_n ?_; refine th_n ?_; refine rs1s G ⟨[], [], []⟩ calls_nil trivial [(1, .ref 3), (2, iA pc), (3, iA (↑(yRvJ3 p d strict ss pc c k).snd : Int)), (4, bA strict), (5, .ptr 4 0), (10, iA 0), (11, iA 0), (12, iA ((↑k : Int) + 1))] [IntKind.i64.wrap ((↑k : Int) + (1 : Int)) = (↑k : Int) + (1 : Int)] ⟨(by exact w64 (by omega) (by omega)), trivial⟩ fun ρ a w G => th_n ?_; exact rx_next G (k + 1) (by exact ⟨by omega, by rw [blC, foldC_next hp.2 (by omega), stC_els (by with_reducible assumption) (by exact inn_no (by with_reducible assumption)) (by with_reducible assumption)]; with_reducible assumption⟩) (by have hp := hp; omega) (rg 5) [dI p.vars, dI p.arrays, dT p.body, dT ss, .box (pL 0)] [(1, .ref 3), (2, iA pc), (3, iA (↑(blC p strict (d + 1) pc c (List.take (k + 1) ss)).snd : Int)), (4, bA strict), (5, .ptr 4 0), (10, iA 0), (11, iA 0), (12, iA (↑(k + 1) : Int))] (by kernel_rfl) (by kernel_rfl) (by kernel_rfl) (by kernel_rfl) (by have e1 : ((↑(blC p strict (d + 1) pc c (List.take (k + 1) ss)).snd : Int) : Int) = ((↑(blC p strict d pc (blC p strict d pc ((blC p strict (d + 1) pc c (List.take k ss)).snd + 1) (ss.getD k default).body).snd (ss.getD k default).els).snd : Int)) := (by rw [blC, foldC_next hp.2 (by omega), stC_els (by with_reducible assumption) (by exact inn_no (by with_reducible assumption)) (by with_reducible assumption)]); (first | rw [e1] | simp only [e1]) <;> rfl)
      · have q5 : ¬ ((blC p strict d pc (blC p strict d pc ((blC p strict (d + 1) pc c (List.take k ss)).snd + 1) (ss.getD k default).body).snd (ss.getD k default).els).fst = 0) := bne_iff_ne.1 h5; refine rT G ((blC p strict d pc (blC p strict d pc ((blC p strict (d + (1 : Nat)) pc c (List.take k ss)).snd + (1 : Nat)) (ss.getD k default).body).snd (ss.getD k default).els).fst != (0 : Int)) (by assumption) ?_; refine wp_seq ?_; refine rs0s G [(1, .ref 3), (2, iA pc), (3, iA (↑(yRvJ3 p d strict ss pc c k).snd : Int)), (4, bA strict), (5, .ptr 4 0), (10, iA (yRvJ3 p d strict ss pc c k).fst), (11, iA (↑(yRvJ3 p d strict ss pc c k).snd : Int)), (12, iA (↑k : Int))] fun ρ a w G => th_n (wp_ret (bl_r (th_r (th_r (bl_r (th_r ?_)))))); exact rx_ret (v := .tup [iA (blC p strict d pc (blC p strict d pc ((blC p strict (d + 1) pc c (List.take k ss)).snd + 1) (ss.getD k default).body).snd (ss.getD k default).els).fst, iA (↑(blC p strict d pc (blC p strict d pc ((blC p strict (d + 1) pc c (List.take k ss)).snd + 1) (ss.getD k default).body).snd (ss.getD k default).els).snd : Int)]) G (rg 4) (by kernel_rfl) (by kernel_rfl) (by kernel_rfl) (by have e1 : ((blC p strict (d + 1) pc c ss).fst : Int) = ((blC p strict d pc (blC p strict d pc ((blC p strict (d + 1) pc c (List.take k ss)).snd + 1) (ss.getD k default).body).snd (ss.getD k default).els).fst) := (by rw [blC, foldC_stop hp.2 (by omega) (by rw [stC_els (by with_reducible assumption) (by exact inn_no (by with_reducible assumption)) (by with_reducible assumption)]; with_reducible assumption), stC_els (by with_reducible assumption) (by exact inn_no (by with_reducible assumption)) (by with_reducible assumption)]); have e2 : ((↑(blC p strict (d + 1) pc c ss).snd : Int) : Int) = ((↑(blC p strict d pc (blC p strict d pc ((blC p strict (d + 1) pc c (List.take k ss)).snd + 1) (ss.getD k default).body).snd (ss.getD k default).els).snd : Int)) := (by rw [blC, foldC_stop hp.2 (by omega) (by rw [stC_els (by with_reducible assumption) (by exact inn_no (by with_reducible assumption)) (by with_reducible assumption)]; with_reducible assumption), stC_els (by with_reducible assumption) (by exact inn_no (by with_reducible assumption)) (by with_reducible assumption)]); (first | rw [e1, e2] | simp only [e1, e2]) <;> rfl)
    ·
     have q2 : (ss.getD k default).kind = 3 := eq_of_beq h2; refine rT G ((ss.getD k default).kind == (3 : Int)) (by assumption) ?_; refine rs1s G ⟨[(4, _, [0, 1, 2, 6])], [], []⟩ (calls_cons (c_l4Label (p) ((ss.getD k default).value) (by exact hd_value (bl_at hs (by omega)).1 (by omega))) calls_nil) trivial [(1, .ref 3), (2, iA pc), (3, iA ((↑(blC p strict (d + 1) pc c (List.take k ss)).snd : Int) + 1)), (4, bA strict), (5, .ptr 4 0), (10, iA 0), (11, iA 0), (12, iA (↑k : Int)), (13, .ptr 9 0), (14, iA (ownR p (ss.getD k default) pc strict)), (15, iA (orI pc (labV p (ss.getD k default).value)))] [] trivial fun ρ a w G => th_n (wp_seq ?_); refine rs1s G ⟨[(6, _, [0, 1, 2, 7])], [], []⟩ (calls_cons (ih ((ss.getD k default).body) (orI pc (labV p (ss.getD k default).value)) ((blC p strict (d + 1) pc c (List.take k ss)).snd + 1) (by exact (bl_at hs (by omega)).2.1) (by exact bl_bound hc (by omega))) calls_nil) trivial [(1, .ref 3), (2, iA pc), (3, iA (↑(yRvJ0 p d strict ss pc c k).snd : Int)), (4, bA strict), (5, .ptr 4 0), (10, iA 0), (11, iA 0), (12, iA (↑k : Int)), (13, .ptr 9 0), (14, iA (yRvJ0 p d strict ss pc c k).fst), (15, iA (orI pc (labV p (ss.getD k default).value)))] [] trivial fun ρ a w G => th_n (wp_seq (wp_seq ?_)); refine rs0s G [(1, .ref 3), (2, iA pc), (3, iA (↑(yRvJ0 p d strict ss pc c k).snd : Int)), (4, bA strict), (5, .ptr 4 0), (10, iA 0), (11, iA 0), (12, iA (↑k : Int)), (13, .ptr 9 0), (14, iA (yRvJ0 p d strict ss pc c k).fst), (15, iA (orI pc (labV p (ss.getD k default).value))), (58, bA ((yRvJ0 p d strict ss pc c k).fst == 0))] fun ρ a w G => th_n ?_; cases h6 : ((blC p strict d (orI pc (labV p (ss.getD k default).value)) ((blC p strict (d + (1 : Nat)) pc c (List.take k ss)).snd + (1 : Nat)) (ss.getD k default).body).fst == (0 : Int))
     ·
      have q6 : ¬ ((blC p strict d (orI pc (labV p (ss.getD k default).value)) ((blC p strict (d + 1) pc c (List.take k ss)).snd + 1) (ss.getD k default).body).fst = 0) := ne_of_beq_false h6; refine rF G ((blC p strict d (orI pc (labV p (ss.getD k default).value)) ((blC p strict (d + (1 : Nat)) pc c (List.take k ss)).snd + (1 : Nat)) (ss.getD k default).body).fst == (0 : Int)) (by assumption) ?_; refine wp_skip (th_n (wp_seq ?_)); refine rs0 G (rg 5) [dI p.vars, dI p.arrays, dT p.body, dT ss, .box (pL 0)] [(1, .ref 3), (2, iA pc), (3, iA (↑(yRvJ0 p d strict ss pc c k).snd : Int)), (4, bA strict), (5, .ptr 4 0), (10, iA 0), (11, iA 0), (12, iA (↑k : Int)), (14, iA (yRvJ0 p d strict ss pc c k).fst), (70, bA ((yRvJ0 p d strict ss pc c k).fst != 0))] fun ρ a w G => th_n ?_; cases h7 : ((blC p strict d (orI pc (labV p (ss.getD k default).value)) ((blC p strict (d + (1 : Nat)) pc c (List.take k ss)).snd + (1 : Nat)) (ss.getD k default).body).fst != (0 : Int))
      · have q7 : (blC p strict d (orI pc (labV p (ss.getD k default).value)) ((blC p strict (d + 1) pc c (List.take k ss)).snd + 1) (ss.getD k default).body).fst = 0 := (by simpa using h7); refine rF G ((blC p strict d (orI pc (labV p (ss.getD k default).value)) ((blC p strict (d + (1 : Nat)) pc c (List.take k ss)).snd + (1 : Nat)) (ss.getD k default).body).fst != (0 : Int)) (by assumption) ?_; refine wp_skip ?_; refine bl_n ?_; refine th_n ?_; refine rs1s G ⟨[], [], []⟩ calls_nil trivial [(1, .ref 3), (2, iA pc), (3, iA (↑(yRvJ0 p d strict ss pc c k).snd : Int)), (4, bA strict), (5, .ptr 4 0), (10, iA 0), (11, iA 0), (12, iA ((↑k : Int) + 1))] [IntKind.i64.wrap ((↑k : Int) + (1 : Int)) = (↑k : Int) + (1 : Int)] ⟨(by have hp := hp; omega), trivial⟩ fun ρ a w G => th_n ?_; exact rx_next G (k + 1) (by exact ⟨by omega, by omega⟩) (by have hp := hp; omega) (rg 5) [dI p.vars, dI p.arrays, dT p.body, dT ss, .box (pL 0)] [(1, .ref 3), (2, iA pc), (3, iA (↑(blC p strict (d + 1) pc c (List.take (k + 1) ss)).snd : Int)), (4, bA strict), (5, .ptr 4 0), (10, iA 0), (11, iA 0), (12, iA (↑(k + 1) : Int))] (by kernel_rfl) (by kernel_rfl) (by kernel_rfl) (by kernel_rfl) (by have e1 : ((↑(blC p strict (d + 1) pc c (List.take (k + 1) ss)).snd : Int) : Int) = ((↑(blC p strict d (orI pc (labV p (ss.getD k default).value)) ((blC p strict (d + 1) pc c (List.take k ss)).snd + 1) (ss.getD k default).body).snd : Int)) := (by have hp := hp; omega); (first | rw [e1] | simp only [e1]) <;> rfl)
      · have q7 : ¬ ((blC p strict d (orI pc (labV p (ss.getD k default).value)) ((blC p strict (d + 1) pc c (List.take k ss)).snd + 1) (ss.getD k default).body).fst = 0) := bne_iff_ne.1 h7; refine rT G ((blC p strict d (orI pc (labV p (ss.getD k default).value)) ((blC p strict (d + (1 : Nat)) pc c (List.take k ss)).snd + (1 : Nat)) (ss.getD k default).body).fst != (0 : Int)) (by assumption) ?_; refine wp_seq ?_; refine rs0s G [(1, .ref 3), (2, iA pc), (3, iA (↑(yRvJ0 p d strict ss pc c k).snd : Int)), (4, bA strict), (5, .ptr 4 0), (10, iA (yRvJ0 p d strict ss pc c k).fst), (11, iA (↑(yRvJ0 p d strict ss pc c k).snd : Int)), (12, iA (↑k : Int))] fun ρ a w G => th_n (wp_ret (bl_r (th_r (th_r (bl_r (th_r ?_)))))); exact rx_ret (v := .tup [iA (blC p strict d (orI pc (labV p (ss.getD k default).value)) ((blC p strict (d + 1) pc c (List.take k ss)).snd + 1) (ss.getD k default).body).fst, iA (↑(blC p strict d (orI pc (labV p (ss.getD k default).value)) ((blC p strict (d + 1) pc c (List.take k ss)).snd + 1) (ss.getD k default).body).snd : Int)]) G (rg 4) (by kernel_rfl) (by kernel_rfl) (by kernel_rfl) (by have e1 : ((blC p strict (d + 1) pc c ss).fst : Int) = ((blC p strict d (orI pc (labV p (ss.getD k default).value)) ((blC p strict (d + 1) pc c (List.take k ss)).snd + 1) (ss.getD k default).body).fst) := (by rw [blC, foldC_stop hp.2 (by omega) (by rw [stC_body (by with_reducible assumption) (by exact inn_if (by with_reducible assumption)) (by with_reducible assumption)]; with_reducible assumption), stC_body (by with_reducible assumption) (by exact inn_if (by with_reducible assumption)) (by with_reducible assumption)]); have e2 : ((↑(blC p strict (d + 1) pc c ss).snd : Int) : Int) = ((↑(blC p strict d (orI pc (labV p (ss.getD k default).value)) ((blC p strict (d + 1) pc c (List.take k ss)).snd + 1) (ss.getD k default).body).snd : Int)) := (by rw [blC, foldC_stop hp.2 (by omega) (by rw [stC_body (by with_reducible assumption) (by exact inn_if (by with_reducible assumption)) (by with_reducible assumption)]; with_reducible assumption), stC_body (by with_reducible assumption) (by exact inn_if (by with_reducible assumption)) (by with_reducible assumption)]); (first | rw [e1, e2] | simp only [e1, e2]) <;> rfl)
     ·
      have q6 : (blC p strict d (orI pc (labV p (ss.getD k default).value)) ((blC p strict (d + 1) pc c (List.take k ss)).snd + 1) (ss.getD k default).body).fst = 0 := eq_of_beq h6; refine rT G ((blC p strict d (orI pc (labV p (ss.getD k default).value)) ((blC p strict (d + (1 : Nat)) pc c (List.take k ss)).snd + (1 : Nat)) (ss.getD k default).body).fst == (0 : Int)) (by assumption) ?_; refine rs1 (dk := dkP) G ⟨[(6, _, [0, 1, 2, 8])], [], []⟩ (calls_cons (ih ((ss.getD k default).els) (orI pc (labV p (ss.getD k default).value)) ((yRvJ0 p d strict ss pc c k).snd) (by exact (bl_at hs (by omega)).2.2) (by exact bl_bound2 hc (by omega))) calls_nil) trivial (rg 5) [dI p.vars, dI p.arrays, dT p.body, dT ss, .box (pL 0)] [(1, .ref 3), (2, iA pc), (3, iA (↑(yRvJ2 p d strict ss pc c k).snd : Int)), (4, bA strict), (5, .ptr 4 0), (10, iA 0), (11, iA 0), (12, iA (↑k : Int)), (14, iA (yRvJ2 p d strict ss pc c k).fst)] [] trivial fun ρ a w G => th_n (wp_seq ?_); refine rs0s G [(1, .ref 3), (2, iA pc), (3, iA (↑(yRvJ2 p d strict ss pc c k).snd : Int)), (4, bA strict), (5, .ptr 4 0), (10, iA 0), (11, iA 0), (12, iA (↑k : Int)), (14, iA (yRvJ2 p d strict ss pc c k).fst), (70, bA ((yRvJ2 p d strict ss pc c k).fst != 0))] fun ρ a w G => th_n ?_; cases h8 : ((blC p strict d (orI pc (labV p (ss.getD k default).value)) (blC p strict d (orI pc (labV p (ss.getD k default).value)) ((blC p strict (d + (1 : Nat)) pc c (List.take k ss)).snd + (1 : Nat)) (ss.getD k default).body).snd (ss.getD k default).els).fst != (0 : Int))
      · have q8 : (blC p strict d (orI pc (labV p (ss.getD k default).value)) (blC p strict d (orI pc (labV p (ss.getD k default).value)) ((blC p strict (d + 1) pc c (List.take k ss)).snd + 1) (ss.getD k default).body).snd (ss.getD k default).els).fst = 0 := (by simpa using h8); refine rF G ((blC p strict d (orI pc (labV p (ss.getD k default).value)) (blC p strict d (orI pc (labV p (ss.getD k default).value)) ((blC p strict (d + (1 : Nat)) pc c (List.take k ss)).snd + (1 : Nat)) (ss.getD k default).body).snd (ss.getD k default).els).fst != (0 : Int)) (by assumption) ?_; refine wp_skip ?_; refine bl_n ?_; refine th_n ?_; refine rs1s G ⟨[], [], []⟩ calls_nil trivial [(1, .ref 3), (2, iA pc), (3, iA (↑(yRvJ2 p d strict ss pc c k).snd : Int)), (4, bA strict), (5, .ptr 4 0), (10, iA 0), (11, iA 0), (12, iA ((↑k : Int) + 1))] [IntKind.i64.wrap ((↑k : Int) + (1 : Int)) = (↑k : Int) + (1 : Int)] ⟨(by exact w64 (by omega) (by omega)), trivial⟩ fun ρ a w G => th_n ?_; exact rx_next G (k + 1) (by exact ⟨by omega, by rw [blC, foldC_next hp.2 (by omega), stC_els (by with_reducible assumption) (by exact inn_if (by with_reducible assumption)) (by with_reducible assumption)]; with_reducible assumption⟩) (by have hp := hp; omega) (rg 5) [dI p.vars, dI p.arrays, dT p.body, dT ss, .box (pL 0)] [(1, .ref 3), (2, iA pc), (3, iA (↑(blC p strict (d + 1) pc c (List.take (k + 1) ss)).snd : Int)), (4, bA strict), (5, .ptr 4 0), (10, iA 0), (11, iA 0), (12, iA (↑(k + 1) : Int))] (by kernel_rfl) (by kernel_rfl) (by kernel_rfl) (by kernel_rfl) (by have e1 : ((↑(blC p strict (d + 1) pc c (List.take (k + 1) ss)).snd : Int) : Int) = ((↑(blC p strict d (orI pc (labV p (ss.getD k default).value)) (blC p strict d (orI pc (labV p (ss.getD k default).value)) ((blC p strict (d + 1) pc c (List.take k ss)).snd + 1) (ss.getD k default).body).snd (ss.getD k default).els).snd : Int)) := (by rw [blC, foldC_next hp.2 (by omega), stC_els (by with_reducible assumption) (by exact inn_if (by with_reducible assumption)) (by with_reducible assumption)]); (first | rw [e1] | simp only [e1]) <;> rfl)
      · have q8 : ¬ ((blC p strict d (orI pc (labV p (ss.getD k default).value)) (blC p strict d (orI pc (labV p (ss.getD k default).value)) ((blC p strict (d + 1) pc c (List.take k ss)).snd + 1) (ss.getD k default).body).snd (ss.getD k default).els).fst = 0) := bne_iff_ne.1 h8; refine rT G ((blC p strict d (orI pc (labV p (ss.getD k default).value)) (blC p strict d (orI pc (labV p (ss.getD k default).value)) ((blC p strict (d + (1 : Nat)) pc c (List.take k ss)).snd + (1 : Nat)) (ss.getD k default).body).snd (ss.getD k default).els).fst != (0 : Int)) (by assumption) ?_; refine wp_seq ?_; refine rs0s G [(1, .ref 3), (2, iA pc), (3, iA (↑(yRvJ2 p d strict ss pc c k).snd : Int)), (4, bA strict), (5, .ptr 4 0), (10, iA (yRvJ2 p d strict ss pc c k).fst), (11, iA (↑(yRvJ2 p d strict ss pc c k).snd : Int)), (12, iA (↑k : Int))] fun ρ a w G => th_n (wp_ret (bl_r (th_r (th_r (bl_r (th_r ?_)))))); exact rx_ret (v := .tup [iA (blC p strict d (orI pc (labV p (ss.getD k default).value)) (blC p strict d (orI pc (labV p (ss.getD k default).value)) ((blC p strict (d + 1) pc c (List.take k ss)).snd + 1) (ss.getD k default).body).snd (ss.getD k default).els).fst, iA (↑(blC p strict d (orI pc (labV p (ss.getD k default).value)) (blC p strict d (orI pc (labV p (ss.getD k default).value)) ((blC p strict (d + 1) pc c (List.take k ss)).snd + 1) (ss.getD k default).body).snd (ss.getD k default).els).snd : Int)]) G (rg 4) (by kernel_rfl) (by kernel_rfl) (by kernel_rfl) (by have e1 : ((blC p strict (d + 1) pc c ss).fst : Int) = ((blC p strict d (orI pc (labV p (ss.getD k default).value)) (blC p strict d (orI pc (labV p (ss.getD k default).value)) ((blC p strict (d + 1) pc c (List.take k ss)).snd + 1) (ss.getD k default).body).snd (ss.getD k default).els).fst) := (by rw [blC, foldC_stop hp.2 (by omega) (by rw [stC_els (by with_reducible assumption) (by exact inn_if (by with_reducible assumption)) (by with_reducible assumption)]; with_reducible assumption), stC_els (by with_reducible assumption) (by exact inn_if (by with_reducible assumption)) (by with_reducible assumption)]); have e2 : ((↑(blC p strict (d + 1) pc c ss).snd : Int) : Int) = ((↑(blC p strict d (orI pc (labV p (ss.getD k default).value)) (blC p strict d (orI pc (labV p (ss.getD k default).value)) ((blC p strict (d + 1) pc c (List.take k ss)).snd + 1) (ss.getD k default).body).snd (ss.getD k default).els).snd : Int)) := (by rw [blC, foldC_stop hp.2 (by omega) (by rw [stC_els (by with_reducible assumption) (by exact inn_if (by with_reducible assumption)) (by with_reducible assumption)]; with_reducible assumption), stC_els (by with_reducible assumption) (by exact inn_if (by with_reducible assumption)) (by with_reducible assumption)]); (first | rw [e1, e2] | simp only [e1, e2]) <;> rfl)
   · have q1 : ¬ (ownR p (ss.getD k default) pc strict = 0) := bne_iff_ne.1 h1; refine rT G (ownR p (ss.getD k default) pc strict != (0 : Int)) (by assumption) ?_; refine wp_seq ?_; refine rs0s G [(1, .ref 3), (2, iA pc), (3, yRvJ4 p d strict ss pc c k), (4, bA strict), (5, .ptr 4 0), (10, iA (ownR p (ss.getD k default) pc strict)), (11, yRvJ4 p d strict ss pc c k), (12, iA (↑k : Int)), (13, .ptr 9 0), (14, iA (ownR p (ss.getD k default) pc strict))] fun ρ a w G => th_n (wp_ret (th_r (bl_r (th_r (th_r (bl_r (th_r ?_))))))); exact rx_ret (v := .tup [iA (ownR p (ss.getD k default) pc strict), iA (↑(blC p strict (d + 1) pc c (List.take k ss)).snd : Int)]) G (rg 4) (by kernel_rfl) (by kernel_rfl) (by kernel_rfl) (by have e1 : ((blC p strict (d + 1) pc c ss).fst : Int) = (ownR p (ss.getD k default) pc strict) := (by rw [blC, foldC_stop hp.2 (by omega) (by rw [stC_own (by with_reducible assumption)]; with_reducible assumption), stC_own (by with_reducible assumption)]); have e2 : ((↑(blC p strict (d + 1) pc c ss).snd : Int) : Int) = ((↑(blC p strict (d + 1) pc c (List.take k ss)).snd : Int)) := (by rw [blC, foldC_stop hp.2 (by omega) (by rw [stC_own (by with_reducible assumption)]; with_reducible assumption), stC_own (by with_reducible assumption)]); (first | rw [e1, e2] | simp only [e1, e2]) <;> rfl)


theorem c_l4BlockD (p : LProg) (strict : Bool) : ∀ (d : Nat) (ss : List LStmt) (pc : Int) (c : Nat), ss.all (stmtB p.vars.length p.arrays.length d) = true → c + nSs ss ≤ 4000000 → Ctr.ok Try.prog (blkC p d ss pc c strict) := by
  intro d
  induction d with
  | zero =>
    intro ss pc c h hc
    cases ss with
    | nil => exact c_l4Block0 p pc c strict
    | cons s r => simp [stmtB] at h
  | succ d ih => intro ss pc c h hc; exact c_l4BlockS p d strict ih ss pc c h hc
theorem progB_all {p : LProg} (h : progB p = true) : p.body.all (stmtB p.vars.length p.arrays.length 5) = true ∧ nSs p.body ≤ 60 := by
  simp only [progB, blockB, Bool.and_eq_true, decide_eq_true_eq] at h
  exact ⟨h.1.2, h.2⟩
theorem c_l4Body (p : LProg) (strict : Bool) (h : progB p = true) : Ctr.ok Try.prog (fnC 118 [pA 0, .ref 2, iA 0, iA 0, bA strict] (pS p) (.tup [iA (blC p strict 5 0 0 p.body).1, iA (blC p strict 5 0 0 p.body).2])) :=
  Ctr.dup (S := pS p) (S' := pS p) (d := .stmts p.body) (i := 2) (c_l4BlockD p strict 5 p.body 0 0 (progB_all h).1 (by have := (progB_all h).2; omega)) rfl rfl rfl (fun ρ h => by simp only [AV.vals, AV.val]; rw [show ρ 3 = ρ 2 from h]; rfl) rfl

def ckR (p : LProg) (strict : Bool) : Int × Int := if progB p then (if (blC p strict 5 0 0 p.body).1 = 0 then (0, -1) else ((blC p strict 5 0 0 p.body).1, ((blC p strict 5 0 0 p.body).2 : Int))) else (5, -1)
section
variable {p : LProg} {strict : Bool}
theorem ck_no (h : progB p = false) : ckR p strict = (5, -1) := by rw [ckR, h]; rfl
theorem ck_fine (h : progB p = true) (h1 : (blC p strict 5 0 0 p.body).1 = 0) : ckR p strict = (0, -1) := by rw [ckR, h, h1]; rfl
theorem ck_bad (h : progB p = true) (h1 : ¬ (blC p strict 5 0 0 p.body).1 = 0) : ckR p strict = ((blC p strict 5 0 0 p.body).1, ((blC p strict 5 0 0 p.body).2 : Int)) := by rw [ckR, h, if_neg h1]; rfl
end

set_option maxRecDepth 100000 in
theorem c_l4Check (p : LProg) (strict : Bool) (hb : szSs p.body ≤ 1048576) : Ctr.ok Try.prog (fnC 79 [pA 0, bA strict] (pS p) (.tup [iA (ckR p strict).1, iA (ckR p strict).2])) := by
  refine rx_enter 24 Try.func79 (by rfl) (by kernel_rfl) (by kernel_rfl) ?_; intro ι φ ψ w0 w F ρ0 ρ a G; replace G := Gam.at G [dI p.vars, dI p.arrays, dT p.body] [(0, pA 0), (1, bA strict)]; refine wp_seq ?_; refine rs0 G (rg 4) [dI p.vars, dI p.arrays, dT p.body, .box (pL 0)] [(1, bA strict), (2, .ptr 3 0), (4, iA 0), (5, iA 0)] fun ρ a w G => th_n (wp_seq (wp_seq ?_)); refine rs1s G ⟨[(1, _, [0, 1, 2])], [], []⟩ (calls_cons (c_ProgramValid (p) (by assumption)) calls_nil) trivial [(1, bA strict), (2, .ptr 3 0), (4, iA 0), (5, iA 0), (10, .v (.bool !progB p))] [] trivial fun ρ a w G => th_n ?_; cases h0 : (!progB p)
  ·
   have q0 : (progB p) = true := (Eq.mp (Bool.not_eq_false' _) h0); refine rF G (!progB p) (by assumption) ?_; refine wp_skip (th_n (wp_seq ?_)); refine rs1 (dk := dkP) G ⟨[(4, _, [0, 1, 2])], [], []⟩ (calls_cons (c_l4Body (p) (strict) (by assumption)) calls_nil) trivial [0, 1, 2] [dI p.vars, dI p.arrays, dT p.body] [(4, iA 0), (5, iA 0), (6, iA (blC p strict 5 0 0 p.body).fst), (7, iA (↑(blC p strict 5 0 0 p.body).snd : Int))] [] trivial fun ρ a w G => th_n (wp_seq (wp_seq ?_)); refine rs0s G [(4, iA 0), (5, iA 0), (6, iA (blC p strict 5 0 0 p.body).fst), (7, iA (↑(blC p strict 5 0 0 p.body).snd : Int)), (20, bA ((blC p strict 5 0 0 p.body).fst == 0))] fun ρ a w G => th_n ?_; cases h1 : ((blC p strict (5 : Nat) (0 : Int) (0 : Nat) p.body).fst == (0 : Int))
   · have q1 : ¬ ((blC p strict 5 0 0 p.body).fst = 0) := ne_of_beq_false h1; refine rF G ((blC p strict (5 : Nat) (0 : Int) (0 : Nat) p.body).fst == (0 : Int)) (by assumption) ?_; refine wp_skip (th_n (wp_seq ?_)); refine rs0s G [(4, iA (blC p strict 5 0 0 p.body).fst), (5, iA (↑(blC p strict 5 0 0 p.body).snd : Int))] fun ρ a w G => th_n (wp_ret ?_); exact rx_ret (v := .tup [iA (blC p strict 5 0 0 p.body).fst, iA (↑(blC p strict 5 0 0 p.body).snd : Int)]) G [0, 1, 2] (by kernel_rfl) (by kernel_rfl) (by kernel_rfl) (by have e1 : ((ckR p strict).fst : Int) = ((blC p strict 5 0 0 p.body).fst) := (by rw [ck_bad (by assumption) (by assumption)]; done); have e2 : ((ckR p strict).snd : Int) = ((↑(blC p strict 5 0 0 p.body).snd : Int)) := (by rw [ck_bad (by assumption) (by assumption)]; done); (first | rw [e1, e2] | simp only [e1, e2]) <;> rfl)
   · have q1 : (blC p strict 5 0 0 p.body).fst = 0 := eq_of_beq h1; refine rT G ((blC p strict (5 : Nat) (0 : Int) (0 : Nat) p.body).fst == (0 : Int)) (by assumption) ?_; refine wp_seq ?_; refine rs0s G [(4, iA (blC p strict 5 0 0 p.body).fst), (5, iA (-1)), (6, iA (blC p strict 5 0 0 p.body).fst), (7, iA (↑(blC p strict 5 0 0 p.body).snd : Int))] fun ρ a w G => th_n (wp_ret (th_r ?_)); exact rx_ret (v := .tup [iA (blC p strict 5 0 0 p.body).fst, iA (-1)]) G [0, 1, 2] (by kernel_rfl) (by kernel_rfl) (by kernel_rfl) (by have e1 : ((ckR p strict).fst : Int) = ((blC p strict 5 0 0 p.body).fst) := (by exact (congrArg Prod.fst (ck_fine (by assumption) (by assumption))).trans (Eq.symm (by assumption))); have e2 : ((ckR p strict).snd : Int) = (-1) := (by rw [ck_fine (by assumption) (by assumption)]; done); (first | rw [e1, e2] | simp only [e1, e2]) <;> rfl)
  · have q0 : (progB p) = false := (Eq.mp (Bool.not_eq_true' _) h0); refine rT G (!progB p) (by assumption) ?_; refine wp_seq ?_; refine rs0s G [(1, bA strict), (2, .ptr 3 0), (4, iA 5), (5, iA (-1))] fun ρ a w G => th_n (wp_ret (th_r ?_)); exact rx_ret (v := .tup [iA 5, iA (-1)]) G [0, 1, 2] (by kernel_rfl) (by kernel_rfl) (by kernel_rfl) (by have e1 : ((ckR p strict).fst : Int) = (5) := (by rw [ck_no (by assumption)]; done); have e2 : ((ckR p strict).snd : Int) = (-1) := (by rw [ck_no (by assumption)]; done); (first | rw [e1, e2] | simp only [e1, e2]) <;> rfl)

set_option maxRecDepth 100000 in
theorem c_CheckFlow (p : LProg) (hb : szSs p.body ≤ 1048576) : Ctr.ok Try.prog (fnC 38 [pA 0] (pS p) (.tup [iA (ckR p false).1, iA (ckR p false).2])) := by
  refine rx_enter 8 Try.func38 (by rfl) (by kernel_rfl) (by kernel_rfl) ?_; intro ι φ ψ w0 w F ρ0 ρ a G; replace G := Gam.at G [dI p.vars, dI p.arrays, dT p.body] [(0, pA 0)]; refine wp_seq ?_; refine rs0 G (rg 4) [dI p.vars, dI p.arrays, dT p.body, .box (pL 0)] [(1, .ptr 3 0), (2, iA 0), (3, iA 0)] fun ρ a w G => th_n (wp_seq ?_); refine rs1 (dk := dkP) G ⟨[(1, _, [0, 1, 2])], [], []⟩ (calls_cons (c_l4Check (p) (false) (by assumption)) calls_nil) trivial [0, 1, 2] [dI p.vars, dI p.arrays, dT p.body] [(2, iA (ckR p false).fst), (3, iA (ckR p false).snd)] [] trivial fun ρ a w G => th_n (wp_ret ?_); exact rx_ret (v := .tup [iA (ckR p false).fst, iA (ckR p false).snd]) G [0, 1, 2] (by kernel_rfl) (by kernel_rfl) (by kernel_rfl) (by kernel_rfl)


theorem c_label (p : LProg) (e : LExpr) (he : shapeB p.vars.length p.arrays.length 5 e = true) : Ctr.ok Try.prog (fnC 108 [pA 0, eA e 3] (pS p ++ eS e) (iA (labV p e))) := c_labelD p 5 e he
def stoR (p : LProg) (s : LStmt) (cx : Int) : Int := if s.kind = 2 then orI (orI (labV p s.value) cx) (labV p s.index) else orI (labV p s.value) cx
def iflR (p : LProg) (s : LStmt) (cx : Int) : Int :=
  if s.kind = 1 then if anI (orI (labV p s.value) cx) (p.vars.getD s.target.toNat 0) = 0 then 0 else 1
  else if s.kind = 2 then if anI (orI (orI (labV p s.value) cx) (labV p s.index)) (p.arrays.getD s.target.toNat 0) = 0 then 0 else 1
  else if s.kind = 5 then if (labOk (labV p s.value) && decide (labV p s.value ≤ 1)) = true ∧ cx = 0 then 0 else 2
  else 0
theorem sto_1 {p : LProg} {s : LStmt} {cx : Int} (k : ¬ s.kind = 2) : stoR p s cx = orI (labV p s.value) cx := if_neg k
theorem sto_2 {p : LProg} {s : LStmt} {cx : Int} (k : s.kind = 2) : stoR p s cx = orI (orI (labV p s.value) cx) (labV p s.index) := if_pos k

section
variable {p : LProg} {s : LStmt} {cx : Int}
theorem if1t (k : s.kind = 1) (h : (!(anI (stoR p s cx) (p.vars.getD s.target.toNat 0) == 0)) = false) : iflR p s cx = 0 := by
  rw [sto_1 (by omega)] at h
  rw [iflR, if_pos k, if_pos (by simpa using h)]
theorem if1f (k : s.kind = 1) (h : (!(anI (stoR p s cx) (p.vars.getD s.target.toNat 0) == 0)) = true) : iflR p s cx = 1 := by
  rw [sto_1 (by omega)] at h
  rw [iflR, if_pos k, if_neg (by simpa using h)]
theorem if2t (k : s.kind = 2) (h : (!(anI (stoR p s cx) (p.arrays.getD s.target.toNat 0) == 0)) = false) : iflR p s cx = 0 := by
  rw [sto_2 k] at h
  rw [iflR, if_neg (by omega), if_pos k, if_pos (by simpa using h)]
theorem if2f (k : s.kind = 2) (h : (!(anI (stoR p s cx) (p.arrays.getD s.target.toNat 0) == 0)) = true) : iflR p s cx = 1 := by
  rw [sto_2 k] at h
  rw [iflR, if_neg (by omega), if_pos k, if_neg (by simpa using h)]
theorem if5t (k : s.kind = 5) (h : (!(labOk (labV p s.value) && decide (labV p s.value ≤ 1))) = false) (h2 : cx = 0) : iflR p s cx = 0 := by
  rw [Bool.not_eq_false'] at h
  rw [iflR, if_neg (by omega), if_neg (by omega), if_pos k, if_pos ⟨h, h2⟩]
theorem if5f (k : s.kind = 5) (h : (!(labOk (labV p s.value) && decide (labV p s.value ≤ 1))) = true ∨ ¬ cx = 0) : iflR p s cx = 2 := by
  rw [iflR, if_neg (by omega), if_neg (by omega), if_pos k, if_neg]
  rintro ⟨a, b⟩
  rcases h with h | h
  · rw [a] at h; cases h
  · exact h b
theorem if0 (k : ¬ s.kind = 1 ∧ ¬ s.kind = 2 ∧ ¬ s.kind = 5) : iflR p s cx = 0 := by rw [iflR, if_neg k.1, if_neg k.2.1, if_neg k.2.2]
end

set_option maxRecDepth 100000 in
theorem c_stored (p : LProg) (s : LStmt) (cx : Int) (h : headB p.vars.length p.arrays.length s = true) (h4 : ¬ s.kind = 4) : Ctr.ok Try.prog (fnC 94 [pA 0, sA s 3, iA cx] (pS p ++ sS s) (iA (stoR p s cx))) := by
  refine rx_enter 24 Try.func94 (by rfl) (by kernel_rfl) (by kernel_rfl) ?_; intro ι φ ψ w0 w F ρ0 ρ a G; replace G := Gam.at G [dI p.vars, dI p.arrays, dT p.body, dE s.index.kids, dE s.value.kids, dT s.body, dT s.els] [(0, pA 0), (1, sA s 3), (2, iA cx)]; refine wp_seq ?_; refine rs0 G [0, 1, 2, 3, 4, 5, 6, 7, 15] [dI p.vars, dI p.arrays, dT p.body, dE s.index.kids, dE s.value.kids, dT s.body, dT s.els, .box (pL 0), .box (sL s 3)] [(2, iA cx), (3, .ptr 7 0), (4, .ptr 8 0), (6, iA 0)] fun ρ a w G => th_n (wp_seq ?_); refine rs1s G ⟨[(3, _, [0, 1, 2, 4])], [], []⟩ (calls_cons (c_label (p) (s.value) (by exact hd_value h (by omega))) calls_nil) trivial [(3, .ptr 7 0), (4, .ptr 8 0), (6, iA 0), (7, iA (orI (labV p s.value) cx))] [] trivial fun ρ a w G => th_n (wp_seq (wp_seq ?_)); refine rs0s G [(3, .ptr 7 0), (4, .ptr 8 0), (6, iA 0), (7, iA (orI (labV p s.value) cx)), (16, bA (s.kind == 2))] fun ρ a w G => th_n ?_; cases h0 : (s.kind == (2 : Int))
  · have q0 : ¬ (s.kind = 2) := ne_of_beq_false h0; refine rF G (s.kind == (2 : Int)) (by assumption) ?_; refine wp_skip (th_n (wp_seq ?_)); refine rs0 G (rg 7) [dI p.vars, dI p.arrays, dT p.body, dE s.index.kids, dE s.value.kids, dT s.body, dT s.els] [(6, iA (orI (labV p s.value) cx))] fun ρ a w G => th_n (wp_ret ?_); exact rx_ret (v := iA (orI (labV p s.value) cx)) G (rg 7) (by kernel_rfl) (by kernel_rfl) (by kernel_rfl) (by have e1 : (stoR p s cx : Int) = (orI (labV p s.value) cx) := (by exact sto_1 (by assumption)); (first | rw [e1] | simp only [e1]) <;> rfl)
  · have q0 : s.kind = 2 := eq_of_beq h0; refine rT G (s.kind == (2 : Int)) (by assumption) ?_; refine rs1 (dk := dkP) G ⟨[(4, _, (rg 4))], [], []⟩ (calls_cons (c_label (p) (s.index) (by exact hd_index h (by assumption))) calls_nil) trivial (rg 7) [dI p.vars, dI p.arrays, dT p.body, dE s.index.kids, dE s.value.kids, dT s.body, dT s.els] [(6, iA 0), (7, iA (orI (orI (labV p s.value) cx) (labV p s.index)))] [] trivial fun ρ a w G => th_n (wp_seq ?_); refine rs0s G [(6, iA (orI (orI (labV p s.value) cx) (labV p s.index)))] fun ρ a w G => th_n (wp_ret ?_); exact rx_ret (v := iA (orI (orI (labV p s.value) cx) (labV p s.index))) G (rg 7) (by kernel_rfl) (by kernel_rfl) (by kernel_rfl) (by have e1 : (stoR p s cx : Int) = (orI (orI (labV p s.value) cx) (labV p s.index)) := (by exact sto_2 (by assumption)); (first | rw [e1] | simp only [e1]) <;> rfl)

set_option maxHeartbeats 4000000 in
set_option maxRecDepth 100000 in
theorem c_flow (p : LProg) (s : LStmt) (cx : Int) (h : headB p.vars.length p.arrays.length s = true) : Ctr.ok Try.prog (fnC 77 [pA 0, sA s 3, iA cx] (pS p ++ sS s) (iA (iflR p s cx))) := by
  refine rx_enter 59 Try.func77 (by rfl) (by kernel_rfl) (by kernel_rfl) ?_; intro ι φ ψ w0 w F ρ0 ρ a G; replace G := Gam.at G [dI p.vars, dI p.arrays, dT p.body, dE s.index.kids, dE s.value.kids, dT s.body, dT s.els] [(0, pA 0), (1, sA s 3), (2, iA cx)]; refine wp_seq ?_; refine rs0 G [0, 1, 2, 3, 4, 5, 6, 7, 15] [dI p.vars, dI p.arrays, dT p.body, dE s.index.kids, dE s.value.kids, dT s.body, dT s.els, .box (pL 0), .box (sL s 3)] [(2, iA cx), (3, .ptr 7 0), (4, .ptr 8 0), (6, iA 0)] fun ρ a w G => th_n (wp_seq (wp_block (wp_seq ?_))); cases h0 : (s.kind == (1 : Int))
  ·
   have q0 : ¬ (s.kind = 1) := ne_of_beq_false h0; refine rd1s G ⟨[], [(s.kind == (1 : Int), false)], us [(4, 15, 0), (1016, 1016, 0)]⟩ calls_nil ⟨(by assumption), trivial⟩ [0, 1, 3, 7, 15, 15, 15, 127, 15, 271, 15, 1039, 3855, 7951, 16383, 32767, 65535, 131071] [(2, iA cx), (3, .ptr 7 0), (4, .ptr 8 0), (6, iA 0), (7, bA false)] [] trivial fun ρ a w G => th_n ?_; refine rF G (false) (by kernel_rfl) ?_; refine wp_seq ?_; cases h1 : (s.kind == (2 : Int))
   ·
    have q1 : ¬ (s.kind = 2) := ne_of_beq_false h1; refine rd1s G ⟨[], [(s.kind == (2 : Int), false)], us [(4, 15, 0), (1016, 1016, 0)]⟩ calls_nil ⟨(by assumption), trivial⟩ [0, 1, 3, 7, 15, 15, 15, 127, 15, 271, 15, 1039, 3855, 7951, 16383, 32767, 65535, 131071] [(2, iA cx), (3, .ptr 7 0), (4, .ptr 8 0), (6, iA 0), (25, bA false)] [] trivial fun ρ a w G => th_n ?_; refine rF G (false) (by kernel_rfl) ?_; refine wp_seq ?_; cases h2 : (s.kind == (5 : Int))
    · have q2 : ¬ (s.kind = 5) := ne_of_beq_false h2; refine rs1 (dk := dkP) G ⟨[], [(s.kind == (5 : Int), false)], us [(4, 10, 0), (13, 13, 0), (1014, 1014, 0)]⟩ calls_nil ⟨(by assumption), trivial⟩ (rg 7) [dI p.vars, dI p.arrays, dT p.body, dE s.index.kids, dE s.value.kids, dT s.body, dT s.els] [(6, iA 0), (43, bA false)] [] trivial fun ρ a w G => th_n ?_; refine rF G (false) (by kernel_rfl) ?_; refine wp_skip ?_; refine bl_n ?_; refine th_n (wp_seq ?_); refine rs0s G [(6, iA 0)] fun ρ a w G => th_n (wp_ret ?_); exact rx_ret (v := iA 0) G (rg 7) (by kernel_rfl) (by kernel_rfl) (by kernel_rfl) (by have e1 : (iflR p s cx : Int) = (0) := (by exact if0 (by omega)); (first | rw [e1] | simp only [e1]) <;> rfl)
    ·
     have q2 : s.kind = 5 := eq_of_beq h2; cases h3 : (!(labOk (labV p s.value) && decide (labV p s.value ≤ (1 : Int))))
     ·
      have q3 : ((labOk (labV p s.value)) = true) ∧ (labV p s.value ≤ 1) := (fun hq => And.imp (fun hq => (hq)) (fun hq => of_decide_eq_true (hq)) (Bool.and_eq_true_iff.1 (hq))) (Eq.mp (Bool.not_eq_false' _) h3); refine rs1 (dk := dkP) G ⟨[(7, _, [0, 1, 2, 4]), (8, _, [])], [(s.kind == (5 : Int), true), (!(labOk (labV p s.value) && decide (labV p s.value ≤ (1 : Int))), false)], us [(4, 10, 0), (11, 12, 1), (13, 13, 0), (1013, 1013, 1), (1014, 1014, 0)]⟩ (calls_cons (c_label (p) (s.value) (by exact hd_value h (by omega))) (calls_cons (c_iLabelTrusted (labV p s.value)) calls_nil)) ⟨(by assumption), (by assumption), trivial⟩ (rg 7) [dI p.vars, dI p.arrays, dT p.body, dE s.index.kids, dE s.value.kids, dT s.body, dT s.els] [(6, iA 0), (43, bA (cx != 0))] [] trivial fun ρ a w G => th_n ?_; cases h4 : (cx != (0 : Int))
      · have q4 : cx = 0 := (by simpa using h4); refine rF G (cx != (0 : Int)) (by assumption) ?_; refine wp_skip ?_; refine bl_n ?_; refine th_n (wp_seq ?_); refine rs0s G [(6, iA 0)] fun ρ a w G => th_n (wp_ret ?_); exact rx_ret (v := iA 0) G (rg 7) (by kernel_rfl) (by kernel_rfl) (by kernel_rfl) (by have e1 : (iflR p s cx : Int) = (0) := (by exact if5t (by with_reducible assumption) (by with_reducible assumption) (by with_reducible assumption)); (first | rw [e1] | simp only [e1]) <;> rfl)
      · have q4 : ¬ (cx = 0) := bne_iff_ne.1 h4; refine rT G (cx != (0 : Int)) (by assumption) ?_; refine wp_seq ?_; refine rs0s G [(6, iA 2)] fun ρ a w G => th_n (wp_ret (bl_r (th_r ?_))); exact rx_ret (v := iA 2) G (rg 7) (by kernel_rfl) (by kernel_rfl) (by kernel_rfl) (by have e1 : (iflR p s cx : Int) = (2) := (by exact if5f (by with_reducible assumption) (.inr (by with_reducible assumption))); (first | rw [e1] | simp only [e1]) <;> rfl)
     · have q3 : ((labOk (labV p s.value)) = false) ∨ (¬ (labV p s.value ≤ 1)) := (fun hq => Or.imp (fun hq => (hq)) (fun hq => of_decide_eq_false (hq)) (Bool.and_eq_false_iff.1 (hq))) (Eq.mp (Bool.not_eq_true' _) h3); refine rs1 (dk := dkP) G ⟨[(7, _, [0, 1, 2, 4]), (8, _, [])], [(s.kind == (5 : Int), true), (!(labOk (labV p s.value) && decide (labV p s.value ≤ (1 : Int))), true)], us [(4, 10, 0), (11, 12, 1), (13, 13, 0), (1013, 1013, 1), (1014, 1014, 0)]⟩ (calls_cons (c_label (p) (s.value) (by exact hd_value h (by omega))) (calls_cons (c_iLabelTrusted (labV p s.value)) calls_nil)) ⟨(by assumption), (by assumption), trivial⟩ (rg 7) [dI p.vars, dI p.arrays, dT p.body, dE s.index.kids, dE s.value.kids, dT s.body, dT s.els] [(6, iA 0), (43, bA true)] [] trivial fun ρ a w G => th_n ?_; refine rT G (true) (by kernel_rfl) ?_; refine wp_seq ?_; refine rs0s G [(6, iA 2)] fun ρ a w G => th_n (wp_ret (bl_r (th_r ?_))); exact rx_ret (v := iA 2) G (rg 7) (by kernel_rfl) (by kernel_rfl) (by kernel_rfl) (by have e1 : (iflR p s cx : Int) = (2) := (by exact if5f (by with_reducible assumption) (.inl (by with_reducible assumption))); (first | rw [e1] | simp only [e1]) <;> rfl)
   ·
    have q1 : s.kind = 2 := eq_of_beq h1; refine rd1s G ⟨[(7, _, (rg 7)), (14, _, [])], [(s.kind == (2 : Int), true)], us [(4, 15, 0), (1016, 1016, 0)]⟩ (calls_cons (c_stored (p) (s) (cx) (by assumption) (by omega)) (calls_cons (c_flows (stoR p s cx) (p.arrays.getD s.target.toNat 0)) calls_nil)) ⟨(by assumption), trivial⟩ [0, 1, 3, 7, 15, 15, 15, 127, 15, 271, 15, 1039, 3855, 7951, 16383, 32767, 65535, 131071] [(2, iA cx), (3, .ptr 7 0), (4, .ptr 8 0), (6, iA 0), (25, .v (.bool !anI (stoR p s cx) (p.arrays.getD s.target.toNat 0) == 0))] [(0 : Int) ≤ s.target, s.target < (↑p.arrays.length : Int), s.target.toNat < p.arrays.length] ⟨(by exact (hd_arr h (by omega)).1), (by exact (hd_arr h (by omega)).2.1), (by exact (hd_arr h (by omega)).2.2), trivial⟩ fun ρ a w G => th_n ?_; cases h5 : (!anI (stoR p s cx) (p.arrays.getD s.target.toNat (0 : Int)) == (0 : Int))
    ·
     have q5 : anI (stoR p s cx) (p.arrays.getD s.target.toNat 0) = 0 := (fun hq => eq_of_beq (hq)) (Eq.mp (Bool.not_eq_false' _) h5); refine rF G (!anI (stoR p s cx) (p.arrays.getD s.target.toNat (0 : Int)) == (0 : Int)) (by assumption) ?_; refine wp_seq ?_; cases h6 : (s.kind == (5 : Int))
     · have q6 : ¬ (s.kind = 5) := ne_of_beq_false h6; refine rs1 (dk := dkP) G ⟨[], [(s.kind == (5 : Int), false)], us [(4, 10, 0), (13, 13, 0), (1014, 1014, 0)]⟩ calls_nil ⟨(by assumption), trivial⟩ (rg 7) [dI p.vars, dI p.arrays, dT p.body, dE s.index.kids, dE s.value.kids, dT s.body, dT s.els] [(6, iA 0), (43, bA false)] [] trivial fun ρ a w G => th_n ?_; refine rF G (false) (by kernel_rfl) ?_; refine wp_skip ?_; refine bl_n ?_; refine th_n (wp_seq ?_); refine rs0s G [(6, iA 0)] fun ρ a w G => th_n (wp_ret ?_); exact rx_ret (v := iA 0) G (rg 7) (by kernel_rfl) (by kernel_rfl) (by kernel_rfl) (by have e1 : (iflR p s cx : Int) = (0) := (by exact if2t (by with_reducible assumption) (by with_reducible assumption)); (first | rw [e1] | simp only [e1]) <;> rfl)
     ·
      have q6 : s.kind = 5 := eq_of_beq h6; cases h7 : (!(labOk (labV p s.value) && decide (labV p s.value ≤ (1 : Int))))
      ·
       have q7 : ((labOk (labV p s.value)) = true) ∧ (labV p s.value ≤ 1) := (fun hq => And.imp (fun hq => (hq)) (fun hq => of_decide_eq_true (hq)) (Bool.and_eq_true_iff.1 (hq))) (Eq.mp (Bool.not_eq_false' _) h7); refine rs1 (dk := dkP) G ⟨[(7, _, [0, 1, 2, 4]), (8, _, [])], [(s.kind == (5 : Int), true), (!(labOk (labV p s.value) && decide (labV p s.value ≤ (1 : Int))), false)], us [(4, 10, 0), (11, 12, 1), (13, 13, 0), (1013, 1013, 1), (1014, 1014, 0)]⟩ (calls_cons (c_label (p) (s.value) (by exact hd_value h (by omega))) (calls_cons (c_iLabelTrusted (labV p s.value)) calls_nil)) ⟨(by assumption), (by assumption), trivial⟩ (rg 7) [dI p.vars, dI p.arrays, dT p.body, dE s.index.kids, dE s.value.kids, dT s.body, dT s.els] [(6, iA 0), (43, bA (cx != 0))] [] trivial fun ρ a w G => th_n ?_; cases h8 : (cx != (0 : Int))
       · have q8 : cx = 0 := (by simpa using h8); refine rF G (cx != (0 : Int)) (by assumption) ?_; refine wp_skip ?_; refine bl_n ?_; refine th_n (wp_seq ?_); refine rs0s G [(6, iA 0)] fun ρ a w G => th_n (wp_ret ?_); exact rx_ret (v := iA 0) G (rg 7) (by kernel_rfl) (by kernel_rfl) (by kernel_rfl) (by have e1 : (iflR p s cx : Int) = (0) := (by exact if0 (by omega)); (first | rw [e1] | simp only [e1]) <;> rfl)
       · have q8 : ¬ (cx = 0) := bne_iff_ne.1 h8; refine rT G (cx != (0 : Int)) (by assumption) ?_; refine wp_seq ?_; refine rs0s G [(6, iA 2)] fun ρ a w G => th_n (wp_ret (bl_r (th_r ?_))); exact rx_ret (v := iA 2) G (rg 7) (by kernel_rfl) (by kernel_rfl) (by kernel_rfl) (by have e1 : (iflR p s cx : Int) = (2) := (by exact if5f (by with_reducible assumption) (.inr (by with_reducible assumption))); (first | rw [e1] | simp only [e1]) <;> rfl)
      · have q7 : ((labOk (labV p s.value)) = false) ∨ (¬ (labV p s.value ≤ 1)) := (fun hq => Or.imp (fun hq => (hq)) (fun hq => of_decide_eq_false (hq)) (Bool.and_eq_false_iff.1 (hq))) (Eq.mp (Bool.not_eq_true' _) h7); refine rs1 (dk := dkP) G ⟨[(7, _, [0, 1, 2, 4]), (8, _, [])], [(s.kind == (5 : Int), true), (!(labOk (labV p s.value) && decide (labV p s.value ≤ (1 : Int))), true)], us [(4, 10, 0), (11, 12, 1), (13, 13, 0), (1013, 1013, 1), (1014, 1014, 0)]⟩ (calls_cons (c_label (p) (s.value) (by exact hd_value h (by omega))) (calls_cons (c_iLabelTrusted (labV p s.value)) calls_nil)) ⟨(by assumption), (by assumption), trivial⟩ (rg 7) [dI p.vars, dI p.arrays, dT p.body, dE s.index.kids, dE s.value.kids, dT s.body, dT s.els] [(6, iA 0), (43, bA true)] [] trivial fun ρ a w G => th_n ?_; refine rT G (true) (by kernel_rfl) ?_; refine wp_seq ?_; refine rs0s G [(6, iA 2)] fun ρ a w G => th_n (wp_ret (bl_r (th_r ?_))); exact rx_ret (v := iA 2) G (rg 7) (by kernel_rfl) (by kernel_rfl) (by kernel_rfl) (by have e1 : (iflR p s cx : Int) = (2) := (by exact if5f (by with_reducible assumption) (.inl (by with_reducible assumption))); (first | rw [e1] | simp only [e1]) <;> rfl)
    · have q5 : ¬ (anI (stoR p s cx) (p.arrays.getD s.target.toNat 0) = 0) := (fun hq => ne_of_beq_false (hq)) (Eq.mp (Bool.not_eq_true' _) h5); refine rT G (!anI (stoR p s cx) (p.arrays.getD s.target.toNat (0 : Int)) == (0 : Int)) (by assumption) ?_; refine wp_seq ?_; refine rs0 G (rg 7) [dI p.vars, dI p.arrays, dT p.body, dE s.index.kids, dE s.value.kids, dT s.body, dT s.els] [(6, iA 1)] fun ρ a w G => th_n (wp_ret (bl_r (th_r ?_))); exact rx_ret (v := iA 1) G (rg 7) (by kernel_rfl) (by kernel_rfl) (by kernel_rfl) (by have e1 : (iflR p s cx : Int) = (1) := (by exact if2f (by with_reducible assumption) (by with_reducible assumption)); (first | rw [e1] | simp only [e1]) <;> rfl)
  ·
   have q0 : s.kind = 1 := eq_of_beq h0; refine rd1s G ⟨[(7, _, (rg 7)), (14, _, [])], [(s.kind == (1 : Int), true)], us [(4, 15, 0), (1016, 1016, 0)]⟩ (calls_cons (c_stored (p) (s) (cx) (by assumption) (by omega)) (calls_cons (c_flows (stoR p s cx) (p.vars.getD s.target.toNat 0)) calls_nil)) ⟨(by assumption), trivial⟩ [0, 1, 3, 7, 15, 15, 15, 127, 15, 271, 15, 1039, 3855, 7951, 16383, 32767, 65535, 131071] [(2, iA cx), (3, .ptr 7 0), (4, .ptr 8 0), (6, iA 0), (7, .v (.bool !anI (stoR p s cx) (p.vars.getD s.target.toNat 0) == 0))] [(0 : Int) ≤ s.target, s.target < (↑p.vars.length : Int), s.target.toNat < p.vars.length] ⟨(by exact (hd_var h (by omega)).1), (by exact (hd_var h (by omega)).2.1), (by exact (hd_var h (by omega)).2.2), trivial⟩ fun ρ a w G => th_n ?_; cases h9 : (!anI (stoR p s cx) (p.vars.getD s.target.toNat (0 : Int)) == (0 : Int))
   ·
    have q9 : anI (stoR p s cx) (p.vars.getD s.target.toNat 0) = 0 := (fun hq => eq_of_beq (hq)) (Eq.mp (Bool.not_eq_false' _) h9); refine rF G (!anI (stoR p s cx) (p.vars.getD s.target.toNat (0 : Int)) == (0 : Int)) (by assumption) ?_; refine wp_seq ?_; cases h10 : (s.kind == (2 : Int))
    ·
     have q10 : ¬ (s.kind = 2) := ne_of_beq_false h10; refine rd1s G ⟨[], [(s.kind == (2 : Int), false)], us [(4, 15, 0), (1016, 1016, 0)]⟩ calls_nil ⟨(by assumption), trivial⟩ [0, 1, 3, 7, 15, 15, 15, 127, 15, 271, 15, 1039, 3855, 7951, 16383, 32767, 65535, 131071] [(2, iA cx), (3, .ptr 7 0), (4, .ptr 8 0), (6, iA 0), (25, bA false)] [] trivial fun ρ a w G => th_n ?_; refine rF G (false) (by kernel_rfl) ?_; refine wp_seq ?_; cases h11 : (s.kind == (5 : Int))
     · have q11 : ¬ (s.kind = 5) := ne_of_beq_false h11; refine rs1 (dk := dkP) G ⟨[], [(s.kind == (5 : Int), false)], us [(4, 10, 0), (13, 13, 0), (1014, 1014, 0)]⟩ calls_nil ⟨(by assumption), trivial⟩ (rg 7) [dI p.vars, dI p.arrays, dT p.body, dE s.index.kids, dE s.value.kids, dT s.body, dT s.els] [(6, iA 0), (43, bA false)] [] trivial fun ρ a w G => th_n ?_; refine rF G (false) (by kernel_rfl) ?_; refine wp_skip ?_; refine bl_n ?_; refine th_n (wp_seq ?_); refine rs0s G [(6, iA 0)] fun ρ a w G => th_n (wp_ret ?_); exact rx_ret (v := iA 0) G (rg 7) (by kernel_rfl) (by kernel_rfl) (by kernel_rfl) (by have e1 : (iflR p s cx : Int) = (0) := (by exact if1t (by with_reducible assumption) (by with_reducible assumption)); (first | rw [e1] | simp only [e1]) <;> rfl)
     ·
      have q11 : s.kind = 5 := eq_of_beq h11; cases h12 : (!(labOk (labV p s.value) && decide (labV p s.value ≤ (1 : Int))))
      ·
       have q12 : ((labOk (labV p s.value)) = true) ∧ (labV p s.value ≤ 1) := (fun hq => And.imp (fun hq => (hq)) (fun hq => of_decide_eq_true (hq)) (Bool.and_eq_true_iff.1 (hq))) (Eq.mp (Bool.not_eq_false' _) h12); refine rs1 (dk := dkP) G ⟨[(7, _, [0, 1, 2, 4]), (8, _, [])], [(s.kind == (5 : Int), true), (!(labOk (labV p s.value) && decide (labV p s.value ≤ (1 : Int))), false)], us [(4, 10, 0), (11, 12, 1), (13, 13, 0), (1013, 1013, 1), (1014, 1014, 0)]⟩ (calls_cons (c_label (p) (s.value) (by exact hd_value h (by omega))) (calls_cons (c_iLabelTrusted (labV p s.value)) calls_nil)) ⟨(by assumption), (by assumption), trivial⟩ (rg 7) [dI p.vars, dI p.arrays, dT p.body, dE s.index.kids, dE s.value.kids, dT s.body, dT s.els] [(6, iA 0), (43, bA (cx != 0))] [] trivial fun ρ a w G => th_n ?_; cases h13 : (cx != (0 : Int))
       · have q13 : cx = 0 := (by simpa using h13); refine rF G (cx != (0 : Int)) (by assumption) ?_; refine wp_skip ?_; refine bl_n ?_; refine th_n (wp_seq ?_); refine rs0s G [(6, iA 0)] fun ρ a w G => th_n (wp_ret ?_); exact rx_ret (v := iA 0) G (rg 7) (by kernel_rfl) (by kernel_rfl) (by kernel_rfl) (by have e1 : (iflR p s cx : Int) = (0) := (by exact if0 (by omega)); (first | rw [e1] | simp only [e1]) <;> rfl)
       · have q13 : ¬ (cx = 0) := bne_iff_ne.1 h13; refine rT G (cx != (0 : Int)) (by assumption) ?_; refine wp_seq ?_; refine rs0s G [(6, iA 2)] fun ρ a w G => th_n (wp_ret (bl_r (th_r ?_))); exact rx_ret (v := iA 2) G (rg 7) (by kernel_rfl) (by kernel_rfl) (by kernel_rfl) (by have e1 : (iflR p s cx : Int) = (2) := (by exact if5f (by with_reducible assumption) (.inr (by with_reducible assumption))); (first | rw [e1] | simp only [e1]) <;> rfl)
      · have q12 : ((labOk (labV p s.value)) = false) ∨ (¬ (labV p s.value ≤ 1)) := (fun hq => Or.imp (fun hq => (hq)) (fun hq => of_decide_eq_false (hq)) (Bool.and_eq_false_iff.1 (hq))) (Eq.mp (Bool.not_eq_true' _) h12); refine rs1 (dk := dkP) G ⟨[(7, _, [0, 1, 2, 4]), (8, _, [])], [(s.kind == (5 : Int), true), (!(labOk (labV p s.value) && decide (labV p s.value ≤ (1 : Int))), true)], us [(4, 10, 0), (11, 12, 1), (13, 13, 0), (1013, 1013, 1), (1014, 1014, 0)]⟩ (calls_cons (c_label (p) (s.value) (by exact hd_value h (by omega))) (calls_cons (c_iLabelTrusted (labV p s.value)) calls_nil)) ⟨(by assumption), (by assumption), trivial⟩ (rg 7) [dI p.vars, dI p.arrays, dT p.body, dE s.index.kids, dE s.value.kids, dT s.body, dT s.els] [(6, iA 0), (43, bA true)] [] trivial fun ρ a w G => th_n ?_; refine rT G (true) (by kernel_rfl) ?_; refine wp_seq ?_; refine rs0s G [(6, iA 2)] fun ρ a w G => th_n (wp_ret (bl_r (th_r ?_))); exact rx_ret (v := iA 2) G (rg 7) (by kernel_rfl) (by kernel_rfl) (by kernel_rfl) (by have e1 : (iflR p s cx : Int) = (2) := (by exact if5f (by with_reducible assumption) (.inl (by with_reducible assumption))); (first | rw [e1] | simp only [e1]) <;> rfl)
    ·
     have q10 : s.kind = 2 := eq_of_beq h10; refine rd1s G ⟨[(7, _, (rg 7)), (14, _, [])], [(s.kind == (2 : Int), true)], us [(4, 15, 0), (1016, 1016, 0)]⟩ (calls_cons (c_stored (p) (s) (cx) (by assumption) (by omega)) (calls_cons (c_flows (stoR p s cx) (p.arrays.getD s.target.toNat 0)) calls_nil)) ⟨(by assumption), trivial⟩ [0, 1, 3, 7, 15, 15, 15, 127, 15, 271, 15, 1039, 3855, 7951, 16383, 32767, 65535, 131071] [(2, iA cx), (3, .ptr 7 0), (4, .ptr 8 0), (6, iA 0), (25, .v (.bool !anI (stoR p s cx) (p.arrays.getD s.target.toNat 0) == 0))] [(0 : Int) ≤ s.target, s.target < (↑p.arrays.length : Int), s.target.toNat < p.arrays.length] ⟨(by exact (hd_arr h (by omega)).1), (by exact (hd_arr h (by omega)).2.1), (by exact (hd_arr h (by omega)).2.2), trivial⟩ fun ρ a w G => th_n ?_; cases h14 : (!anI (stoR p s cx) (p.arrays.getD s.target.toNat (0 : Int)) == (0 : Int))
     ·
      have q14 : anI (stoR p s cx) (p.arrays.getD s.target.toNat 0) = 0 := (fun hq => eq_of_beq (hq)) (Eq.mp (Bool.not_eq_false' _) h14); refine rF G (!anI (stoR p s cx) (p.arrays.getD s.target.toNat (0 : Int)) == (0 : Int)) (by assumption) ?_; refine wp_seq ?_; cases h15 : (s.kind == (5 : Int))
      · have q15 : ¬ (s.kind = 5) := ne_of_beq_false h15; refine rs1 (dk := dkP) G ⟨[], [(s.kind == (5 : Int), false)], us [(4, 10, 0), (13, 13, 0), (1014, 1014, 0)]⟩ calls_nil ⟨(by assumption), trivial⟩ (rg 7) [dI p.vars, dI p.arrays, dT p.body, dE s.index.kids, dE s.value.kids, dT s.body, dT s.els] [(6, iA 0), (43, bA false)] [] trivial fun ρ a w G => th_n ?_; refine rF G (false) (by kernel_rfl) ?_; refine wp_skip ?_; refine bl_n ?_; refine th_n (wp_seq ?_); refine rs0s G [(6, iA 0)] fun ρ a w G => th_n (wp_ret ?_); exact rx_ret (v := iA 0) G (rg 7) (by kernel_rfl) (by kernel_rfl) (by kernel_rfl) (by have e1 : (iflR p s cx : Int) = (0) := (by exact if0 (by omega)); (first | rw [e1] | simp only [e1]) <;> rfl)
      ·
       have q15 : s.kind = 5 := eq_of_beq h15; cases h16 : (!(labOk (labV p s.value) && decide (labV p s.value ≤ (1 : Int))))
       ·
        have q16 : ((labOk (labV p s.value)) = true) ∧ (labV p s.value ≤ 1) := (fun hq => And.imp (fun hq => (hq)) (fun hq => of_decide_eq_true (hq)) (Bool.and_eq_true_iff.1 (hq))) (Eq.mp (Bool.not_eq_false' _) h16); refine rs1 (dk := dkP) G ⟨[(7, _, [0, 1, 2, 4]), (8, _, [])], [(s.kind == (5 : Int), true), (!(labOk (labV p s.value) && decide (labV p s.value ≤ (1 : Int))), false)], us [(4, 10, 0), (11, 12, 1), (13, 13, 0), (1013, 1013, 1), (1014, 1014, 0)]⟩ (calls_cons (c_label (p) (s.value) (by exact hd_value h (by omega))) (calls_cons (c_iLabelTrusted (labV p s.value)) calls_nil)) ⟨(by assumption), (by assumption), trivial⟩ (rg 7) [dI p.vars, dI p.arrays, dT p.body, dE s.index.kids, dE s.value.kids, dT s.body, dT s.els] [(6, iA 0), (43, bA (cx != 0))] [] trivial fun ρ a w G => th_n ?_; cases h17 : (cx != (0 : Int))
        · have q17 : cx = 0 := (by simpa using h17); refine rF G (cx != (0 : Int)) (by assumption) ?_; refine wp_skip ?_; refine bl_n ?_; refine th_n (wp_seq ?_); refine rs0s G [(6, iA 0)] fun ρ a w G => th_n (wp_ret ?_); exact rx_ret (v := iA 0) G (rg 7) (by kernel_rfl) (by kernel_rfl) (by kernel_rfl) (by have e1 : (iflR p s cx : Int) = (0) := (by exact if0 (by omega)); (first | rw [e1] | simp only [e1]) <;> rfl)
        · have q17 : ¬ (cx = 0) := bne_iff_ne.1 h17; refine rT G (cx != (0 : Int)) (by assumption) ?_; refine wp_seq ?_; refine rs0s G [(6, iA 2)] fun ρ a w G => th_n (wp_ret (bl_r (th_r ?_))); exact rx_ret (v := iA 2) G (rg 7) (by kernel_rfl) (by kernel_rfl) (by kernel_rfl) (by have e1 : (iflR p s cx : Int) = (2) := (by exact if5f (by with_reducible assumption) (.inr (by with_reducible assumption))); (first | rw [e1] | simp only [e1]) <;> rfl)
       · have q16 : ((labOk (labV p s.value)) = false) ∨ (¬ (labV p s.value ≤ 1)) := (fun hq => Or.imp (fun hq => (hq)) (fun hq => of_decide_eq_false (hq)) (Bool.and_eq_false_iff.1 (hq))) (Eq.mp (Bool.not_eq_true' _) h16); refine rs1 (dk := dkP) G ⟨[(7, _, [0, 1, 2, 4]), (8, _, [])], [(s.kind == (5 : Int), true), (!(labOk (labV p s.value) && decide (labV p s.value ≤ (1 : Int))), true)], us [(4, 10, 0), (11, 12, 1), (13, 13, 0), (1013, 1013, 1), (1014, 1014, 0)]⟩ (calls_cons (c_label (p) (s.value) (by exact hd_value h (by omega))) (calls_cons (c_iLabelTrusted (labV p s.value)) calls_nil)) ⟨(by assumption), (by assumption), trivial⟩ (rg 7) [dI p.vars, dI p.arrays, dT p.body, dE s.index.kids, dE s.value.kids, dT s.body, dT s.els] [(6, iA 0), (43, bA true)] [] trivial fun ρ a w G => th_n ?_; refine rT G (true) (by kernel_rfl) ?_; refine wp_seq ?_; refine rs0s G [(6, iA 2)] fun ρ a w G => th_n (wp_ret (bl_r (th_r ?_))); exact rx_ret (v := iA 2) G (rg 7) (by kernel_rfl) (by kernel_rfl) (by kernel_rfl) (by have e1 : (iflR p s cx : Int) = (2) := (by exact if5f (by with_reducible assumption) (.inl (by with_reducible assumption))); (first | rw [e1] | simp only [e1]) <;> rfl)
     · have q14 : ¬ (anI (stoR p s cx) (p.arrays.getD s.target.toNat 0) = 0) := (fun hq => ne_of_beq_false (hq)) (Eq.mp (Bool.not_eq_true' _) h14); refine rT G (!anI (stoR p s cx) (p.arrays.getD s.target.toNat (0 : Int)) == (0 : Int)) (by assumption) ?_; refine wp_seq ?_; refine rs0 G (rg 7) [dI p.vars, dI p.arrays, dT p.body, dE s.index.kids, dE s.value.kids, dT s.body, dT s.els] [(6, iA 1)] fun ρ a w G => th_n (wp_ret (bl_r (th_r ?_))); exact rx_ret (v := iA 1) G (rg 7) (by kernel_rfl) (by kernel_rfl) (by kernel_rfl) (by have e1 : (iflR p s cx : Int) = (1) := (by exact if2f (by with_reducible assumption) (by with_reducible assumption)); (first | rw [e1] | simp only [e1]) <;> rfl)
   · have q9 : ¬ (anI (stoR p s cx) (p.vars.getD s.target.toNat 0) = 0) := (fun hq => ne_of_beq_false (hq)) (Eq.mp (Bool.not_eq_true' _) h9); refine rT G (!anI (stoR p s cx) (p.vars.getD s.target.toNat (0 : Int)) == (0 : Int)) (by assumption) ?_; refine wp_seq ?_; refine rs0 G (rg 7) [dI p.vars, dI p.arrays, dT p.body, dE s.index.kids, dE s.value.kids, dT s.body, dT s.els] [(6, iA 1)] fun ρ a w G => th_n (wp_ret (bl_r (th_r ?_))); exact rx_ret (v := iA 1) G (rg 7) (by kernel_rfl) (by kernel_rfl) (by kernel_rfl) (by have e1 : (iflR p s cx : Int) = (1) := (by exact if1f (by with_reducible assumption) (by with_reducible assumption)); (first | rw [e1] | simp only [e1]) <;> rfl)


def evs (p : LProg) : Nat → Int → List LStmt → List (LStmt × Int)
  | 0, _, _ => []
  | d + 1, cx, ss => ss.flatMap fun s => (s, cx) :: (evs p d (innR p s cx) s.body ++ evs p d (innR p s cx) s.els)
theorem evs_cons (p : LProg) (d : Nat) (cx : Int) (s : LStmt) (r : List LStmt) : evs p (d + 1) cx (s :: r) = (s, cx) :: (evs p d (innR p s cx) s.body ++ evs p d (innR p s cx) s.els) ++ evs p (d + 1) cx r := by
  simp only [evs, List.flatMap_cons]
theorem evs_nil (p : LProg) (d : Nat) (cx : Int) : evs p d cx [] = [] := by cases d <;> rfl
theorem evs_append (p : LProg) (d : Nat) (cx : Int) (a b : List LStmt) : evs p d cx (a ++ b) = evs p d cx a ++ evs p d cx b := by
  cases d with
  | zero => rfl
  | succ d => simp [evs]
theorem evs_take (p : LProg) (d : Nat) (cx : Int) {ss : List LStmt} {k : Nat} (hk : k < ss.length) :
    evs p (d + 1) cx (ss.take (k + 1)) = evs p (d + 1) cx (ss.take k) ++ ((ss.getD k default, cx) :: (evs p d (innR p (ss.getD k default) cx) (ss.getD k default).body ++ evs p d (innR p (ss.getD k default) cx) (ss.getD k default).els)) := by
  rw [take_succ_get _ _ hk, evs_append, getD_lt hk, evs_cons, evs_nil, List.append_nil]
theorem evs_len (p : LProg) : ∀ (d : Nat) (cx : Int) (ss : List LStmt), (evs p d cx ss).length ≤ nSs ss
  | 0, _, _ => Nat.zero_le _
  | d + 1, cx, [] => by simp [evs]
  | d + 1, cx, s :: r => by
    rw [evs_cons, List.length_append, List.length_cons, List.length_append, nSs, nS_def]
    have h1 := evs_len p d (innR p s cx) s.body
    have h2 := evs_len p d (innR p s cx) s.els
    have h3 := evs_len p (d + 1) cx r
    omega

def firstN (R : LStmt × Int → Int) : Nat → List (LStmt × Int) → Int × Nat
  | c, [] => (0, c)
  | c, x :: r => if R x = 0 then firstN R (c + 1) r else (R x, c)
theorem firstN_append (R : LStmt × Int → Int) : ∀ (a b : List (LStmt × Int)) (c : Nat), firstN R c (a ++ b) = if (firstN R c a).1 = 0 then firstN R (firstN R c a).2 b else firstN R c a
  | [], b, c => by simp [firstN]
  | x :: r, b, c => by
    simp only [List.cons_append, firstN]
    by_cases h : R x = 0
    · simp only [h, if_true]; exact firstN_append R r b _
    · simp [h]
theorem firstN_congr {R R' : LStmt × Int → Int} : ∀ {l : List (LStmt × Int)} {c : Nat}, (∀ x ∈ l, R x = R' x) → firstN R c l = firstN R' c l
  | [], c, _ => rfl
  | x :: r, c, h => by
    simp only [firstN]
    rw [h x List.mem_cons_self, firstN_congr fun y hy => h y (List.mem_cons_of_mem _ hy)]
theorem stC_evs (p : LProg) (strict : Bool) (d : Nat) (ih : ∀ (cx : Int) (c : Nat) (ss : List LStmt), blC p strict d cx c ss = firstN (fun x => ownR p x.1 x.2 strict) c (evs p d cx ss)) (cx : Int) (c : Nat) (s : LStmt) :
    stC p strict (d + 1) cx c s = firstN (fun x => ownR p x.1 x.2 strict) c ((s, cx) :: (evs p d (innR p s cx) s.body ++ evs p d (innR p s cx) s.els)) := by
  have h1 := ih (innR p s cx) (c + 1) s.body
  unfold blC at h1
  rw [stC, firstN]
  simp only
  split
  · rw [firstN_append, h1]
    split
    · exact ih _ _ _
    · rfl
  · rfl
theorem blC_evs (p : LProg) (strict : Bool) : ∀ (d : Nat) (cx : Int) (c : Nat) (ss : List LStmt), blC p strict d cx c ss = firstN (fun x => ownR p x.1 x.2 strict) c (evs p d cx ss)
  | 0, cx, c, ss => by
    induction ss with
    | nil => rfl
    | cons s r ih => unfold blC at ih ⊢; rw [foldC]; simp only [stC, if_true]; exact ih
  | d + 1, cx, c, ss => by
    induction ss generalizing c with
    | nil => simp [foldC, evs, firstN]
    | cons s r ih =>
      unfold blC at ih ⊢
      rw [foldC, evs_cons, firstN_append, ← stC_evs p strict d (blC_evs p strict d)]
      split
      · exact ih _
      · rfl

def stepF (R : LStmt × Int → Int) (σ : Int × Int × Nat) (x : LStmt × Int) : Int × Int × Nat :=
  if σ.1 = 0 then (R x, if R x = 0 then σ.2.1 else (σ.2.2 : Int), σ.2.2 + 1) else (σ.1, σ.2.1, σ.2.2 + 1)
theorem stepF_len (R : LStmt × Int → Int) : ∀ (l : List (LStmt × Int)) (σ : Int × Int × Nat), (l.foldl (stepF R) σ).2.2 = σ.2.2 + l.length
  | [], σ => rfl
  | x :: r, σ => by
    rw [List.foldl_cons, stepF_len R r, List.length_cons]
    unfold stepF
    split <;> simp only <;> omega
theorem stepF_stop {R : LStmt × Int → Int} : ∀ (l : List (LStmt × Int)) {σ : Int × Int × Nat}, ¬ σ.1 = 0 → (l.foldl (stepF R) σ).1 = σ.1 ∧ (l.foldl (stepF R) σ).2.1 = σ.2.1
  | [], σ, h => ⟨rfl, rfl⟩
  | x :: r, σ, h => by
    rw [List.foldl_cons]
    have e : stepF R σ x = (σ.1, σ.2.1, σ.2.2 + 1) := by unfold stepF; rw [if_neg h]
    rw [e]
    exact stepF_stop r (σ := (σ.1, σ.2.1, σ.2.2 + 1)) h
theorem stepF_first {R : LStmt × Int → Int} : ∀ (l : List (LStmt × Int)) (n : Nat), ((l.foldl (stepF R) (0, -1, n)).1, (l.foldl (stepF R) (0, -1, n)).2.1) = if (firstN R n l).1 = 0 then ((0 : Int), (-1 : Int)) else ((firstN R n l).1, ((firstN R n l).2 : Int))
  | [], n => rfl
  | x :: r, n => by
    rw [List.foldl_cons, firstN]
    by_cases h : R x = 0
    · have e : stepF R (0, -1, n) x = (0, -1, n + 1) := by unfold stepF; simp [h]
      rw [e, if_pos h]; exact stepF_first r (n + 1)
    · have e : stepF R (0, -1, n) x = (R x, (n : Int), n + 1) := by unfold stepF; simp [h]
      rw [e, if_neg h, if_neg h]
      obtain ⟨h1, h2⟩ := stepF_stop (R := R) r (σ := (R x, (n : Int), n + 1)) h
      rw [h1, h2]
theorem stepF_run {R : LStmt × Int → Int} {p : LProg} {d : Nat} {cx : Int} {ss : List LStmt} {k : Nat} (hk : k < ss.length) (σ : Int × Int × Nat) :
    (evs p (d + 1) cx (ss.take (k + 1))).foldl (stepF R) σ =
      (evs p d (innR p (ss.getD k default) cx) (ss.getD k default).els).foldl (stepF R) ((evs p d (innR p (ss.getD k default) cx) (ss.getD k default).body).foldl (stepF R) (stepF R ((evs p (d + 1) cx (ss.take k)).foldl (stepF R) σ) (ss.getD k default, cx))) := by
  rw [evs_take p d cx hk, List.foldl_append, List.foldl_cons, List.foldl_append]

theorem or_fin : ∀ x : Fin 4, ∀ y : Fin 4, ∃ z : Fin 4, orI x.val y.val = (z.val : Int) := by decide +kernel
theorem or_ok {x y : Int} (hx : labOk x = true) (hy : labOk y = true) : labOk (orI x y) = true := by
  obtain ⟨a, rfl⟩ := lab_fin hx
  obtain ⟨b, rfl⟩ := lab_fin hy
  obtain ⟨c, h⟩ := or_fin a b
  rw [h]
  simp [labOk]; omega
theorem or_comm_fin : ∀ x : Fin 4, ∀ y : Fin 4, orI x.val y.val = orI y.val x.val := by decide +kernel
theorem or_assoc_fin : ∀ x : Fin 4, ∀ y : Fin 4, ∀ z : Fin 4, orI (orI x.val y.val) z.val = orI x.val (orI y.val z.val) := by decide +kernel
theorem or_comm {x y : Int} (hx : labOk x = true) (hy : labOk y = true) : orI x y = orI y x := by
  obtain ⟨a, rfl⟩ := lab_fin hx
  obtain ⟨b, rfl⟩ := lab_fin hy
  exact or_comm_fin a b
theorem or_assoc {x y z : Int} (hx : labOk x = true) (hy : labOk y = true) (hz : labOk z = true) : orI (orI x y) z = orI x (orI y z) := by
  obtain ⟨a, rfl⟩ := lab_fin hx
  obtain ⟨b, rfl⟩ := lab_fin hy
  obtain ⟨c, rfl⟩ := lab_fin hz
  exact or_assoc_fin a b c
theorem getD_ok {l : List Int} (h : l.all labOk = true) (i : Nat) : labOk (l.getD i 0) = true := by
  rcases Nat.lt_or_ge i l.length with hi | hi
  · rw [getD_lt hi]; exact List.all_eq_true.1 h _ (List.getElem_mem hi)
  · rw [List.getD_eq_getElem?_getD, List.getElem?_eq_none hi]; rfl
theorem labE_ok {vs ars : List Int} (h1 : vs.all labOk = true) (h2 : ars.all labOk = true) : ∀ (d : Nat) (e : LExpr), labOk (labE vs ars d e) = true
  | 0, _ => rfl
  | d + 1, e => by
    rw [labE]
    have key : ∀ (ks : List LExpr) (a : Int), labOk a = true → labOk (ks.foldl (fun a k => orI a (labE vs ars d k)) a) = true := by
      intro ks
      induction ks with
      | nil => intro a ha; exact ha
      | cons x r ih => intro a ha; rw [List.foldl_cons]; exact ih _ (or_ok ha (labE_ok h1 h2 d x))
    refine key _ _ ?_
    unfold ownL
    split
    · exact getD_ok h1 _
    · split
      · exact getD_ok h2 _
      · rfl
def labsB (p : LProg) : Bool := p.vars.all labOk && p.arrays.all labOk
theorem progB_labs {p : LProg} (h : progB p = true) : labsB p = true := by
  unfold progB headsB at h
  simp only [Bool.and_eq_true] at h
  unfold labsB
  rw [h.1.1.1.1.1.1, h.1.1.1.1.1.2]; rfl
theorem labV_ok {p : LProg} (h : labsB p = true) (e : LExpr) : labOk (labV p e) = true := by
  simp only [labsB, Bool.and_eq_true] at h
  exact labE_ok h.1 h.2 5 e
theorem innR_ok {p : LProg} (h : labsB p = true) {cx : Int} (hc : labOk cx = true) (s : LStmt) : labOk (innR p s cx) = true := by
  unfold innR
  split
  · exact or_ok hc (labV_ok h _)
  · exact hc
theorem evs_mem {p : LProg} (hp : labsB p = true) : ∀ (d : Nat) (cx : Int) (ss : List LStmt), labOk cx = true → ss.all (stmtB p.vars.length p.arrays.length d) = true → ∀ x ∈ evs p d cx ss, headB p.vars.length p.arrays.length x.1 = true ∧ labOk x.2 = true ∧ (x.1.kind = 4 → x.1.value.kind = 0 ∧ x.1.value.kids = [])
  | 0, cx, ss, _, _, x, hx => by simp [evs] at hx
  | d + 1, cx, ss, hc, hs, x, hx => by
    rw [evs] at hx
    obtain ⟨s, hss, hx⟩ := List.mem_flatMap.1 hx
    have h0 := List.all_eq_true.1 hs s hss
    have h1 := h0
    rw [stmtB_head, Bool.and_eq_true, Bool.and_eq_true] at h1
    rw [List.mem_cons, List.mem_append] at hx
    rcases hx with rfl | hx | hx
    · refine ⟨h1.1, hc, fun k4 => ?_⟩
      rw [stmtB, Bool.and_eq_true] at h0
      have h2 := h0.1
      unfold partsB at h2
      rw [if_pos (.inr k4), if_pos k4] at h2
      simp only [Bool.and_eq_true, decide_eq_true_eq, noneB] at h2
      exact ⟨h2.2.2.1.1, List.eq_nil_of_length_eq_zero h2.2.2.2⟩
    · exact evs_mem hp d _ _ (innR_ok hp hc s) h1.2.1 x hx
    · exact evs_mem hp d _ _ (innR_ok hp hc s) h1.2.2 x hx

theorem iflR_eq {p : LProg} (hp : labsB p = true) {s : LStmt} {cx : Int} (hc : labOk cx = true) : iflR p s cx = flowR p s cx := by
  have hv := labV_ok hp s.value
  have hi := labV_ok hp s.index
  simp only [labsB, Bool.and_eq_true] at hp
  unfold iflR flowR
  by_cases k1 : s.kind = 1
  · rw [if_pos k1, if_pos k1]
    have hx := or_ok hv hc
    have hy := getD_ok hp.1 s.target.toNat
    have := flows_eq hx hy
    unfold flB
    rw [hx, hy]
    by_cases h : anI (orI (labV p s.value) cx) (p.vars.getD s.target.toNat 0) = 0
    · rw [if_pos h, if_pos]
      rw [beq_iff_eq.2 h] at this
      rw [← this]; rfl
    · rw [if_neg h, if_neg]
      rw [beq_eq_false_iff_ne.2 h] at this
      rw [← this]; simp
  rw [if_neg k1, if_neg k1]
  by_cases k2 : s.kind = 2
  · rw [if_pos k2, if_pos k2]
    have e : orI (orI (labV p s.value) cx) (labV p s.index) = orI (orI (labV p s.value) (labV p s.index)) cx := by
      rw [or_assoc hv hc hi, or_comm hc hi, ← or_assoc hv hi hc]
    rw [e]
    have hx := or_ok (or_ok hv hi) hc
    have hy := getD_ok hp.2 s.target.toNat
    have := flows_eq hx hy
    unfold flB
    rw [hx, hy]
    by_cases h : anI (orI (orI (labV p s.value) (labV p s.index)) cx) (p.arrays.getD s.target.toNat 0) = 0
    · rw [if_pos h, if_pos]
      rw [beq_iff_eq.2 h] at this
      rw [← this]; rfl
    · rw [if_neg h, if_neg]
      rw [beq_eq_false_iff_ne.2 h] at this
      rw [← this]; simp
  rw [if_neg k2, if_neg k2]
  by_cases k5 : s.kind = 5
  · rw [if_pos k5, if_pos k5]
    by_cases h : (labOk (labV p s.value) && decide (labV p s.value ≤ 1)) = true ∧ cx = 0
    · rw [if_pos h, if_pos]
      rw [h.1, decide_eq_true h.2]; rfl
    · rw [if_neg h, if_neg]
      rw [Bool.and_eq_true, decide_eq_true_eq]; exact h
  · rw [if_neg k5, if_neg k5]
theorem ck_flow {p : LProg} (h : progB p = true) : ((evs p 5 0 p.body).foldl (stepF fun x => iflR p x.1 x.2) (0, -1, 0)).1 = (ckR p false).1 ∧ ((evs p 5 0 p.body).foldl (stepF fun x => iflR p x.1 x.2) (0, -1, 0)).2.1 = (ckR p false).2 := by
  have h1 := stepF_first (R := fun x => iflR p x.1 x.2) (evs p 5 0 p.body) 0
  have hl := progB_labs h
  have e : firstN (fun x => iflR p x.1 x.2) 0 (evs p 5 0 p.body) = blC p false 5 0 0 p.body := by
    rw [blC_evs]
    refine firstN_congr fun x hx => ?_
    have hm := evs_mem hl 5 0 p.body rfl (progB_all h).1 x hx
    rw [iflR_eq hl hm.2.1]
    unfold ownR
    simp only [Bool.false_eq_true, if_false]
    split
    · rename_i h; exact h
    · rfl
  rw [e] at h1
  have h2 := Prod.mk.inj h1
  unfold ckR
  rw [if_pos h]
  split
  · rename_i h3
    rw [if_pos h3] at h1
    exact Prod.mk.inj h1
  · rename_i h3
    rw [if_neg h3] at h1
    exact Prod.mk.inj h1


abbrev Lab : Type := List Int × List Int
def bv (x : Int) : BitVec 64 := BitVec.ofInt 64 x
def ofb (b : BitVec 64) : Int := IntKind.i64.wrap (b.toNat : Int)
theorem bv_ofb (b : BitVec 64) : bv (ofb b) = b := by
  apply BitVec.eq_of_toNat_eq
  unfold bv ofb
  rw [BitVec.toNat_ofInt]
  have h := b.isLt
  unfold IntKind.wrap
  simp only [IntKind.bits, IntKind.signed, Bool.true_and, decide_eq_true_eq]
  split <;> omega
theorem orI_ofb (x y : Int) : orI x y = ofb (bv x ||| bv y) := rfl
theorem bv_or (x y : Int) : bv (orI x y) = bv x ||| bv y := by rw [orI_ofb, bv_ofb]
def leI (x y : Int) : Prop := bv x ||| bv y = bv y
theorem leI.refl (x : Int) : leI x x := BitVec.or_self
theorem leI.trans {x y z : Int} (h : leI x y) (k : leI y z) : leI x z := by
  unfold leI at *
  rw [← k, ← BitVec.or_assoc, h]
theorem le_or1 (x y : Int) : leI x (orI x y) := by unfold leI; rw [bv_or, ← BitVec.or_assoc, BitVec.or_self]
theorem or_mono {x y a b : Int} (h : leI x a) (k : leI y b) : leI (orI x y) (orI a b) := by
  unfold leI at *
  rw [bv_or, bv_or, BitVec.or_assoc, ← BitVec.or_assoc (bv y), BitVec.or_comm (bv y) (bv a), BitVec.or_assoc (bv a), k, ← BitVec.or_assoc, h]
theorem bv_fin : ∀ x : Fin 4, ∀ y : Fin 4, bv x.val = bv y.val → x = y := by decide +kernel
theorem le_fin : ∀ x : Fin 4, ∀ y : Fin 4, bv x.val ||| bv y.val = bv y.val → x.val ≤ y.val := by decide +kernel
theorem leI.anti {x y : Int} (h : leI x y) (k : leI y x) (hx : labOk x = true) (hy : labOk y = true) : x = y := by
  obtain ⟨a, rfl⟩ := lab_fin hx
  obtain ⟨b, rfl⟩ := lab_fin hy
  unfold leI at *
  rw [BitVec.or_comm, h] at k
  rw [bv_fin b a k]
theorem leI.nat {x y : Int} (h : leI x y) (hx : labOk x = true) (hy : labOk y = true) : x.toNat ≤ y.toNat := by
  obtain ⟨a, rfl⟩ := lab_fin hx
  obtain ⟨b, rfl⟩ := lab_fin hy
  have := le_fin a b h
  omega

def leP (q r : Lab) : Prop := (∀ i, leI (q.1.getD i 0) (r.1.getD i 0)) ∧ ∀ i, leI (q.2.getD i 0) (r.2.getD i 0)
def shP (q r : Lab) : Prop := r.1.length = q.1.length ∧ r.2.length = q.2.length
def okP (q : Lab) : Prop := q.1.all labOk = true ∧ q.2.all labOk = true
theorem leP.refl (q : Lab) : leP q q := ⟨fun _ => leI.refl _, fun _ => leI.refl _⟩
theorem leP.trans {q r s : Lab} (h : leP q r) (k : leP r s) : leP q s := ⟨fun i => (h.1 i).trans (k.1 i), fun i => (h.2 i).trans (k.2 i)⟩
theorem shP.refl (q : Lab) : shP q q := ⟨rfl, rfl⟩
theorem shP.trans {q r s : Lab} (h : shP q r) (k : shP r s) : shP q s := ⟨k.1.trans h.1, k.2.trans h.2⟩
theorem shP.symm {q r : Lab} (h : shP q r) : shP r q := ⟨h.1.symm, h.2.symm⟩
theorem list_anti {a b : List Int} (hl : b.length = a.length) (h : ∀ i, leI (a.getD i 0) (b.getD i 0)) (k : ∀ i, leI (b.getD i 0) (a.getD i 0)) (ha : a.all labOk = true) (hb : b.all labOk = true) : a = b := by
  apply List.ext_getElem (by omega)
  intro i h1 h2
  have := (h i).anti (k i) (getD_ok ha i) (getD_ok hb i)
  rw [getD_lt h1, getD_lt h2] at this
  exact this
theorem leP.anti {q r : Lab} (h : leP q r) (k : leP r q) (hs : shP q r) (hq : okP q) (hr : okP r) : q = r :=
  Prod.ext (list_anti hs.1 h.1 k.1 hq.1 hr.1) (list_anti hs.2 h.2 k.2 hq.2 hr.2)

theorem own_mono {q r : Lab} (h : leP q r) (e : LExpr) : leI (ownL q.1 q.2 e) (ownL r.1 r.2 e) := by
  unfold ownL
  split
  · exact h.1 _
  · split
    · exact h.2 _
    · exact leI.refl _
theorem lab_mono {q r : Lab} (h : leP q r) : ∀ (d : Nat) (e : LExpr), leI (labE q.1 q.2 d e) (labE r.1 r.2 d e)
  | 0, _ => leI.refl _
  | d + 1, e => by
    rw [labE, labE]
    have key : ∀ (ks : List LExpr) (a b : Int), leI a b → leI (ks.foldl (fun a k => orI a (labE q.1 q.2 d k)) a) (ks.foldl (fun a k => orI a (labE r.1 r.2 d k)) b) := by
      intro ks
      induction ks with
      | nil => intro a b hab; exact hab
      | cons x t ih => intro a b hab; rw [List.foldl_cons, List.foldl_cons]; exact ih _ _ (or_mono hab (lab_mono h d x))
    exact key _ _ _ (own_mono h e)

def oneL (q : Lab) (s : LStmt) (cx : Int) : Lab :=
  if s.kind = 1 then (q.1.set s.target.toNat (orI (orI (q.1.getD s.target.toNat 0) (labE q.1 q.2 5 s.value)) cx), q.2)
  else if s.kind = 2 then (q.1, q.2.set s.target.toNat (orI (orI (orI (q.2.getD s.target.toNat 0) (labE q.1 q.2 5 s.value)) (labE q.1 q.2 5 s.index)) cx))
  else q
def innL (q : Lab) (s : LStmt) (cx : Int) : Int := if s.kind = 3 then orI cx (labE q.1 q.2 5 s.value) else cx
def upS (b : Bool) : Nat → Lab → Int → LStmt → Lab
  | 0, q, _, _ => q
  | d + 1, q, cx, s => s.els.foldl (fun r t => upS b d r (innL (if b then s.body.foldl (fun r t => upS b d r (innL (oneL q s cx) s cx) t) (oneL q s cx) else oneL q s cx) s cx) t) (s.body.foldl (fun r t => upS b d r (innL (oneL q s cx) s cx) t) (oneL q s cx))
abbrev upB (b : Bool) (d : Nat) (q : Lab) (cx : Int) (ss : List LStmt) : Lab := ss.foldl (fun r t => upS b d r cx t) q
theorem upS_eq (b : Bool) (d : Nat) (q : Lab) (cx : Int) (s : LStmt) : upS b (d + 1) q cx s = upB b d (upB b d (oneL q s cx) (innL (oneL q s cx) s cx) s.body) (innL (if b then upB b d (oneL q s cx) (innL (oneL q s cx) s cx) s.body else oneL q s cx) s cx) s.els := by rw [upS]

theorem set_getD (l : List Int) (t i : Nat) (x : Int) : (l.set t x).getD i 0 = if t = i ∧ t < l.length then x else l.getD i 0 := by
  simp only [List.getD_eq_getElem?_getD, List.getElem?_set]
  by_cases h : t = i
  · subst h
    by_cases h2 : t < l.length
    · simp [h2]
    · simp [h2]
  · simp [h]
theorem set_all {l : List Int} {t : Nat} {x : Int} (h : l.all labOk = true) (hx : labOk x = true) : (l.set t x).all labOk = true := by
  rw [List.all_eq_true] at *
  intro y hy
  rcases List.mem_or_eq_of_mem_set hy with h1 | h1
  · exact h y h1
  · rw [h1]; exact hx
theorem one_sh (q : Lab) (s : LStmt) (cx : Int) : shP q (oneL q s cx) := by
  unfold oneL
  split
  · exact ⟨by simp, rfl⟩
  · split
    · exact ⟨rfl, by simp⟩
    · exact shP.refl _
theorem set_infl {l : List Int} {t : Nat} {x : Int} (h : leI (l.getD t 0) x) (i : Nat) : leI (l.getD i 0) ((l.set t x).getD i 0) := by
  rw [set_getD]
  split
  · rename_i h1; rw [← h1.1]; exact h
  · exact leI.refl _
theorem set_mono {l m : List Int} {t : Nat} {x y : Int} (hl : m.length = l.length) (h : ∀ i, leI (l.getD i 0) (m.getD i 0)) (hx : leI x y) (i : Nat) : leI ((l.set t x).getD i 0) ((m.set t y).getD i 0) := by
  rw [set_getD, set_getD, hl]
  split
  · exact hx
  · exact h i
theorem one_infl (q : Lab) (s : LStmt) (cx : Int) : leP q (oneL q s cx) := by
  unfold oneL
  split
  · exact ⟨set_infl ((le_or1 _ _).trans (le_or1 _ _)), fun _ => leI.refl _⟩
  · split
    · exact ⟨fun _ => leI.refl _, set_infl (((le_or1 _ _).trans (le_or1 _ _)).trans (le_or1 _ _))⟩
    · exact leP.refl _
theorem one_mono {q r : Lab} (h : leP q r) (hs : shP q r) {cx cy : Int} (hc : leI cx cy) (s : LStmt) : leP (oneL q s cx) (oneL r s cy) := by
  unfold oneL
  split
  · exact ⟨set_mono hs.1 h.1 (or_mono (or_mono (h.1 _) (lab_mono h 5 _)) hc), h.2⟩
  · split
    · exact ⟨h.1, set_mono hs.2 h.2 (or_mono (or_mono (or_mono (h.2 _) (lab_mono h 5 _)) (lab_mono h 5 _)) hc)⟩
    · exact h
theorem one_ok {q : Lab} (h : okP q) {cx : Int} (hc : labOk cx = true) (s : LStmt) : okP (oneL q s cx) := by
  unfold oneL
  split
  · exact ⟨set_all h.1 (or_ok (or_ok (getD_ok h.1 _) (labE_ok h.1 h.2 5 _)) hc), h.2⟩
  · split
    · exact ⟨h.1, set_all h.2 (or_ok (or_ok (or_ok (getD_ok h.2 _) (labE_ok h.1 h.2 5 _)) (labE_ok h.1 h.2 5 _)) hc)⟩
    · exact h
theorem inn_mono {q r : Lab} (h : leP q r) {cx cy : Int} (hc : leI cx cy) (s : LStmt) : leI (innL q s cx) (innL r s cy) := by
  unfold innL
  split
  · exact or_mono hc (lab_mono h 5 _)
  · exact hc
theorem inn_ok {q : Lab} (h : okP q) {cx : Int} (hc : labOk cx = true) (s : LStmt) : labOk (innL q s cx) = true := by
  unfold innL
  split
  · exact or_ok hc (labE_ok h.1 h.2 5 _)
  · exact hc

theorem fold_sh {F : Lab → LStmt → Lab} (hF : ∀ q s, shP q (F q s)) : ∀ (ss : List LStmt) (q : Lab), shP q (ss.foldl F q)
  | [], q => shP.refl q
  | s :: r, q => (hF q s).trans (fold_sh hF r _)
theorem fold_infl {F : Lab → LStmt → Lab} (hF : ∀ q s, leP q (F q s)) : ∀ (ss : List LStmt) (q : Lab), leP q (ss.foldl F q)
  | [], q => leP.refl q
  | s :: r, q => (hF q s).trans (fold_infl hF r _)
theorem fold_ok {F : Lab → LStmt → Lab} (hF : ∀ q s, okP q → okP (F q s)) : ∀ (ss : List LStmt) (q : Lab), okP q → okP (ss.foldl F q)
  | [], _, h => h
  | s :: r, q, h => fold_ok hF r _ (hF q s h)
theorem fold_mono {F G : Lab → LStmt → Lab} (hF : ∀ q s, shP q (F q s)) (hG : ∀ q s, shP q (G q s)) (h : ∀ q r s, shP q r → leP q r → leP (F q s) (G r s)) : ∀ (ss : List LStmt) (q r : Lab), shP q r → leP q r → leP (ss.foldl F q) (ss.foldl G r)
  | [], _, _, _, hl => hl
  | s :: t, q, r, hs, hl => fold_mono hF hG h t _ _ (((hF q s).symm.trans hs).trans (hG r s)) (h q r s hs hl)
theorem fold_fix {F : Lab → LStmt → Lab} (h1 : ∀ q s, leP q (F q s)) (h2 : ∀ q s, shP q (F q s)) (h3 : ∀ q s, okP q → okP (F q s)) : ∀ (ss : List LStmt) (q : Lab), okP q → ss.foldl F q = q → ∀ s ∈ ss, F q s = q
  | [], _, _, _, s, hs => by cases hs
  | x :: r, q, hq, h, s, hs => by
    rw [List.foldl_cons] at h
    have e : F q x = q := ((h1 q x).anti (by have := fold_infl h1 r (F q x); rw [h] at this; exact this) (h2 q x) hq (h3 q x hq)).symm
    rw [e] at h
    rcases List.mem_cons.1 hs with rfl | hs
    · exact e
    · exact fold_fix h1 h2 h3 r q hq h s hs
theorem fold_id {F : Lab → LStmt → Lab} : ∀ (ss : List LStmt) (q : Lab), (∀ s ∈ ss, F q s = q) → ss.foldl F q = q
  | [], _, _ => rfl
  | x :: r, q, h => by
    rw [List.foldl_cons, h x List.mem_cons_self]
    exact fold_id r q fun s hs => h s (List.mem_cons_of_mem _ hs)

theorem up_sh (b : Bool) : ∀ (d : Nat) (cx : Int) (q : Lab) (s : LStmt), shP q (upS b d q cx s)
  | 0, _, q, _ => shP.refl q
  | d + 1, cx, q, s => by
    rw [upS_eq]
    exact ((one_sh q s cx).trans (fold_sh (fun q s => up_sh b d _ q s) _ _)).trans (fold_sh (fun q s => up_sh b d _ q s) _ _)
theorem up_infl (b : Bool) : ∀ (d : Nat) (cx : Int) (q : Lab) (s : LStmt), leP q (upS b d q cx s)
  | 0, _, q, _ => leP.refl q
  | d + 1, cx, q, s => by
    rw [upS_eq]
    exact ((one_infl q s cx).trans (fold_infl (fun q s => up_infl b d _ q s) _ _)).trans (fold_infl (fun q s => up_infl b d _ q s) _ _)
theorem up_ok (b : Bool) : ∀ (d : Nat) (cx : Int) (q : Lab) (s : LStmt), labOk cx = true → okP q → okP (upS b d q cx s)
  | 0, _, _, _, _, h => h
  | d + 1, cx, q, s, hc, h => by
    rw [upS_eq]
    have h1 := one_ok h hc s
    have h2 : okP (upB b d (oneL q s cx) (innL (oneL q s cx) s cx) s.body) := fold_ok (fun q t hq => up_ok b d _ q t (inn_ok h1 hc s) hq) _ _ h1
    refine fold_ok (fun q t hq => up_ok b d _ q t (inn_ok ?_ hc s) hq) _ _ h2
    split
    · exact h2
    · exact h1
theorem up_mono {b b' : Bool} (hb : b = true → b' = true) : ∀ (d : Nat) (cx cy : Int) (q r : Lab) (s : LStmt), leI cx cy → shP q r → leP q r → leP (upS b d q cx s) (upS b' d r cy s)
  | 0, _, _, _, _, _, _, _, h => h
  | d + 1, cx, cy, q, r, s, hc, hs, h => by
    rw [upS_eq, upS_eq]
    have h1 := one_mono h hs hc s
    have s1 : shP (oneL q s cx) (oneL r s cy) := ((one_sh q s cx).symm.trans hs).trans (one_sh r s cy)
    have hi := inn_mono h1 hc s
    have h2 : leP (upB b d (oneL q s cx) (innL (oneL q s cx) s cx) s.body) (upB b' d (oneL r s cy) (innL (oneL r s cy) s cy) s.body) := fold_mono (fun q t => up_sh b d _ q t) (fun q t => up_sh b' d _ q t) (fun q r t hs hl => up_mono hb d _ _ q r t hi hs hl) _ _ _ s1 h1
    have s2 : shP (upB b d (oneL q s cx) (innL (oneL q s cx) s cx) s.body) (upB b' d (oneL r s cy) (innL (oneL r s cy) s cy) s.body) := ((fold_sh (fun q t => up_sh b d _ q t) _ _).symm.trans s1).trans (fold_sh (fun q t => up_sh b' d _ q t) _ _)
    refine fold_mono (fun q t => up_sh b d _ q t) (fun q t => up_sh b' d _ q t) (fun q r t hs hl => up_mono hb d _ _ q r t ?_ hs hl) _ _ _ s2 h2
    refine inn_mono ?_ hc s
    cases b with
    | true =>
      have e := hb rfl
      subst e
      exact h2
    | false =>
      simp only [Bool.false_eq_true, if_false]
      split
      · exact h1.trans (fold_infl (fun q t => up_infl b' d _ q t) _ _)
      · exact h1
section
variable {b : Bool} {d : Nat} {cx : Int} {q r : Lab} {ss : List LStmt}
theorem upB_sh : shP q (upB b d q cx ss) := fold_sh (fun q t => up_sh b d _ q t) _ _
theorem upB_infl : leP q (upB b d q cx ss) := fold_infl (fun q t => up_infl b d _ q t) _ _
theorem upB_ok (hc : labOk cx = true) (h : okP q) : okP (upB b d q cx ss) := fold_ok (fun q t hq => up_ok b d _ q t hc hq) _ _ h
theorem upB_fix (hc : labOk cx = true) (h : okP q) (hf : upB b d q cx ss = q) : ∀ s ∈ ss, upS b d q cx s = q := fold_fix (fun q t => up_infl b d _ q t) (fun q t => up_sh b d _ q t) (fun q t hq => up_ok b d _ q t hc hq) _ _ h hf
end
theorem fix_both : ∀ (d : Nat) (cx : Int) (q : Lab) (s : LStmt), labOk cx = true → okP q → upS false d q cx s = q → upS true d q cx s = q
  | 0, _, _, _, _, _, _ => rfl
  | d + 1, cx, q, s, hc, hq, h => by
    rw [upS_eq] at h ⊢
    have o1 := one_ok hq hc s
    have hi := inn_ok o1 hc s
    have i1 := one_infl q s cx
    have i2 : leP (oneL q s cx) (upB false d (oneL q s cx) (innL (oneL q s cx) s cx) s.body) := upB_infl
    have i3 : leP (upB false d (oneL q s cx) (innL (oneL q s cx) s cx) s.body) q := by
      have := upB_infl (b := false) (d := d) (q := upB false d (oneL q s cx) (innL (oneL q s cx) s cx) s.body) (cx := innL (oneL q s cx) s cx) (ss := s.els)
      simp only [Bool.false_eq_true, if_false] at h
      rw [h] at this; exact this
    have e1 : oneL q s cx = q := (i1.anti (i2.trans i3) (one_sh q s cx) hq o1).symm
    simp only [e1, Bool.false_eq_true, if_false, if_true] at h i2 i3 hi ⊢
    have e2 : upB false d q (innL q s cx) s.body = q := (upB_infl.anti i3 upB_sh hq (upB_ok hi hq)).symm
    rw [e2] at h
    have f1 := upB_fix hi hq e2
    have f2 := upB_fix hi hq h
    have g1 : upB true d q (innL q s cx) s.body = q := fold_id _ _ fun t ht => fix_both d _ q t hi hq (f1 t ht)
    rw [g1]
    exact fold_id _ _ fun t ht => fix_both d _ q t hi hq (f2 t ht)
theorem fixB_both {d : Nat} {cx : Int} {q : Lab} {ss : List LStmt} (hc : labOk cx = true) (hq : okP q) (h : upB false d q cx ss = q) : upB true d q cx ss = q :=
  fold_id _ _ fun t ht => fix_both d _ q t hc hq (upB_fix hc hq h t ht)

def sumL (l : List Int) : Nat := (l.map Int.toNat).sum
def sumP (q : Lab) : Nat := sumL q.1 + sumL q.2
theorem sumL_le : ∀ {a b : List Int}, b.length = a.length → a.all labOk = true → b.all labOk = true → (∀ i, leI (a.getD i 0) (b.getD i 0)) → sumL a ≤ sumL b ∧ (sumL a = sumL b → a = b)
  | [], b, hl, _, _, _ => by rw [List.eq_nil_of_length_eq_zero hl]; exact ⟨Nat.le_refl _, fun _ => rfl⟩
  | x :: r, [], hl, _, _, _ => by cases hl
  | x :: r, y :: t, hl, ha, hb, h => by
    simp only [List.all_cons, Bool.and_eq_true] at ha hb
    have h0 := h 0
    simp at h0
    obtain ⟨k1, k2⟩ := sumL_le (a := r) (b := t) (by simpa using hl) ha.2 hb.2 fun i => by have := h (i + 1); simpa using this
    have k3 := h0.nat ha.1 hb.1
    simp only [sumL, List.map_cons, List.sum_cons] at k1 k2 ⊢
    refine ⟨by omega, fun e => ?_⟩
    obtain ⟨a, rfl⟩ := lab_fin ha.1
    obtain ⟨b, rfl⟩ := lab_fin hb.1
    rw [k2 (by omega)]
    congr 1
    omega
theorem sumL_max : ∀ {l : List Int}, l.all labOk = true → sumL l ≤ 3 * l.length
  | [], _ => Nat.zero_le _
  | x :: r, h => by
    simp only [List.all_cons, Bool.and_eq_true] at h
    have h1 := sumL_max h.2
    obtain ⟨a, rfl⟩ := lab_fin h.1
    simp only [sumL, List.map_cons, List.sum_cons, List.length_cons] at h1 ⊢
    omega
theorem sumP_lt {q r : Lab} (hs : shP q r) (hq : okP q) (hr : okP r) (h : leP q r) (hne : ¬ r = q) : sumP q < sumP r := by
  obtain ⟨a1, a2⟩ := sumL_le hs.1 hq.1 hr.1 h.1
  obtain ⟨b1, b2⟩ := sumL_le hs.2 hq.2 hr.2 h.2
  unfold sumP
  refine Nat.lt_of_not_le fun hle => hne (Prod.ext (a2 (by omega)).symm (b2 (by omega)).symm)
theorem sumP_max {q : Lab} (hq : okP q) : sumP q ≤ 3 * (q.1.length + q.2.length) := by
  have h1 := sumL_max hq.1
  have h2 := sumL_max hq.2
  unfold sumP; omega

def InfW (b : List LStmt) (p q : Lab) : Prop := shP p q ∧ okP q ∧ leP p q ∧ ∀ r, shP p r → okP r → leP p r → upB true 5 r 0 b = r → leP q r
theorem infW_start {b : List LStmt} {p : Lab} (h : okP p) : InfW b p p := ⟨shP.refl _, h, leP.refl _, fun _ _ _ h _ => h⟩
theorem infW_step {b : List LStmt} {p q : Lab} {f : Bool} (h : InfW b p q) : InfW b p (upB f 5 q 0 b) :=
  ⟨h.1.trans upB_sh, upB_ok rfl h.2.1, h.2.2.1.trans upB_infl, fun r h1 h2 h3 h4 => by
    have h5 := h.2.2.2 r h1 h2 h3 h4
    have := fold_mono (fun q t => up_sh f 5 0 q t) (fun q t => up_sh true 5 0 q t) (fun q r t hs hl => up_mono (b := f) (b' := true) (fun _ => rfl) 5 0 0 q r t (leI.refl _) hs hl) b q r (h.1.symm.trans h1) h5
    rw [show b.foldl (fun q t => upS true 5 q 0 t) r = r from h4] at this
    exact this⟩
theorem infW_unique {b : List LStmt} {p q r : Lab} (hq : InfW b p q) (hr : InfW b p r) (fq : upB true 5 q 0 b = q) (fr : upB true 5 r 0 b = r) : q = r :=
  (hq.2.2.2 r hr.1 hr.2.1 hr.2.2.1 fr).anti (hr.2.2.2 q hq.1 hq.2.1 hq.2.2.1 fq) (hq.1.symm.trans hr.1) hq.2.1 hr.2.1
def infF (b : List LStmt) : Nat → Lab → Lab
  | 0, q => q
  | n + 1, q => infF b n (upB true 5 q 0 b)
def infL (p : LProg) : Lab := infF p.body 64 (p.vars, p.arrays)
theorem infF_way {b : List LStmt} {p : Lab} : ∀ (n : Nat) (q : Lab), InfW b p q → InfW b p (infF b n q)
  | 0, _, h => h
  | n + 1, q, h => infF_way n _ (infW_step h)
theorem infF_fix {b : List LStmt} : ∀ (n : Nat) {q : Lab}, upB true 5 q 0 b = q → infF b n q = q
  | 0, _, _ => rfl
  | n + 1, q, h => by rw [infF, h]; exact infF_fix n h
theorem infF_end {b : List LStmt} {p : Lab} : ∀ (n : Nat) (q : Lab), InfW b p q → upB true 5 (infF b n q) 0 b = infF b n q ∨ sumP q + n ≤ sumP (infF b n q)
  | 0, _, _ => .inr (Nat.le_refl _)
  | n + 1, q, h => by
    rw [infF]
    by_cases e : upB true 5 q 0 b = q
    · left
      rw [e, infF_fix n e, e]
    · have h1 := sumP_lt upB_sh h.2.1 (upB_ok rfl h.2.1) upB_infl e
      rcases infF_end n _ (infW_step (f := true) h) with h2 | h2
      · exact .inl h2
      · right; omega
theorem labs_ok {p : LProg} (h : progB p = true) : okP (p.vars, p.arrays) := by
  have := progB_labs h
  simp only [labsB, Bool.and_eq_true] at this
  exact this
theorem infL_way {p : LProg} (h : progB p = true) : InfW p.body (p.vars, p.arrays) (infL p) := infF_way 64 _ (infW_start (labs_ok h))
theorem infL_fix {p : LProg} (h : progB p = true) (hl : p.vars.length + p.arrays.length ≤ 14) : upB true 5 (infL p) 0 p.body = infL p := by
  rcases infF_end (b := p.body) 64 (p.vars, p.arrays) (infW_start (labs_ok h)) with h1 | h1
  · exact h1
  · have h2 := infL_way h
    have h3 := sumP_max h2.2.1
    have h4 := h2.1
    have h5 : infF p.body 64 (p.vars, p.arrays) = infL p := rfl
    rw [h5] at h1
    rw [h4.1, h4.2] at h3
    simp only at h3
    omega
theorem infL_is {p : LProg} {q : Lab} (h : progB p = true) (hl : p.vars.length + p.arrays.length ≤ 14) (hq : InfW p.body (p.vars, p.arrays) q) (hf : upB true 5 q 0 p.body = q) : infL p = q :=
  infW_unique (infL_way h) hq (infL_fix h hl) hf

theorem ofb_bv {x : Int} (h : labOk x = true) : ofb (bv x) = x := by
  obtain ⟨c, rfl⟩ := lab_fin h
  have key : ∀ c : Fin 4, ofb (bv (c.val : Int)) = (c.val : Int) := by decide +kernel
  exact key c
theorem or_of_le {x y : Int} (h : leI x y) (hy : labOk y = true) : orI x y = y := by
  rw [orI_ofb, h]; exact ofb_bv hy
section
variable {vs ars : List Int} {l : Int} {s : LStmt} {pc pd : Int}
end
theorem prog_labs {p : LProg} (h : progB p = true) : p.vars.all labOk = true ∧ p.arrays.all labOk = true ∧ 1 ≤ p.vars.length ∧ p.body.all (stmtB p.vars.length p.arrays.length 5) = true := by
  unfold progB headsB at h
  simp only [Bool.and_eq_true, decide_eq_true_eq] at h
  exact ⟨h.1.1.1.1.1.1, h.1.1.1.1.1.2, h.1.1.1.1.2, h.1.2⟩


mutual
/-- The number n read as nil: as a slice, or (t) as a slice with all that hangs on it. -/
def AV.den (t : Bool) (n : Nat) : AV → AV
  | .v x => .v x
  | .ptr a b => .ptr a b
  | .ea a b c d => .ea a b c d
  | .ref i => if !t && natEq i n then .v (.slice none 0 0) else .ref i
  | .agg l => .agg (AV.denL t n l)
  | .tup l => .tup (AV.denL t n l)
  | .fn f l => .fn f (AV.denL t n l)
  | .bm f l => .bm f (AV.denL t n l)
  | .tref i => if t && natEq i n then .v (.slice none 0 0) else .tref i
def AV.denL (t : Bool) (n : Nat) : List AV → List AV
  | [] => []
  | x :: r => x.den t n :: AV.denL t n r
end
def It.den (t : Bool) (n : Nat) : It → It
  | .box cs => .box (AV.denL t n cs)
  | x => x
mutual
theorem AV.val_den {ρ : Nat → Value} {t : Bool} {n : Nat} {z : Value} (hz : if t then valOf z = .slice none 0 0 else z = .slice none 0 0) : ∀ (x : AV), (∀ i ∈ (x.den t n).ids, i < n) → x.val (fun j => if j = n then z else ρ j) = (x.den t n).val ρ ∧ ∀ i ∈ x.ids, i < n + 1
  | .v _, _ => ⟨rfl, fun i hi => by simp [AV.ids] at hi⟩
  | .ptr a b, h => by
    have ha : a < n := h a (by simp [AV.den, AV.ids])
    refine ⟨?_, fun i hi => by simp [AV.ids] at hi; omega⟩
    simp only [AV.den, AV.val]
    rw [if_neg (by omega)]
  | .ea a b c d, h => by
    have ha : a < n := h a (by simp [AV.den, AV.ids])
    refine ⟨?_, fun i hi => by simp [AV.ids] at hi; omega⟩
    simp only [AV.den, AV.val]
    rw [if_neg (by omega)]
  | .ref a, h => by
    by_cases e : t = false ∧ a = n
    · obtain ⟨rfl, rfl⟩ := e
      refine ⟨?_, fun i hi => by simp [AV.ids] at hi; omega⟩
      simp only [Bool.false_eq_true, if_false] at hz
      simp [AV.den, AV.val, natEq, hz]
    · have hd : (AV.ref a).den t n = .ref a := by
        simp only [AV.den]
        rw [if_neg]
        simp [natEq]; intro h1 h2; exact e ⟨h1, h2⟩
      rw [hd] at h ⊢
      have ha : a < n := h a (by simp [AV.ids])
      refine ⟨?_, fun i hi => by simp [AV.ids] at hi; omega⟩
      simp only [AV.val]
      rw [if_neg (by omega)]
  | .tref a, h => by
    by_cases e : t = true ∧ a = n
    · obtain ⟨rfl, rfl⟩ := e
      refine ⟨?_, fun i hi => by simp [AV.ids] at hi; omega⟩
      simp only [if_true] at hz
      simp [AV.den, AV.val, natEq, hz]
    · have hd : (AV.tref a).den t n = .tref a := by
        simp only [AV.den]
        rw [if_neg]
        simp [natEq]; intro h1 h2; exact e ⟨h1, h2⟩
      rw [hd] at h ⊢
      have ha : a < n := h a (by simp [AV.ids])
      refine ⟨?_, fun i hi => by simp [AV.ids] at hi; omega⟩
      simp only [AV.val]
      rw [if_neg (by omega)]
  | .agg l, h => by
    obtain ⟨h1, h2⟩ := AV.vals_den hz l (by simpa [AV.den, AV.ids] using h)
    exact ⟨by simp only [AV.den, AV.val]; rw [h1], by simpa [AV.ids] using h2⟩
  | .tup l, h => by
    obtain ⟨h1, h2⟩ := AV.vals_den hz l (by simpa [AV.den, AV.ids] using h)
    exact ⟨by simp only [AV.den, AV.val]; rw [h1], by simpa [AV.ids] using h2⟩
  | .fn f l, h => by
    obtain ⟨h1, h2⟩ := AV.vals_den hz l (by simpa [AV.den, AV.ids] using h)
    exact ⟨by simp only [AV.den, AV.val]; rw [h1], by simpa [AV.ids] using h2⟩
  | .bm f l, h => by
    obtain ⟨h1, h2⟩ := AV.vals_den hz l (by simpa [AV.den, AV.ids] using h)
    exact ⟨by simp only [AV.den, AV.val]; rw [h1], by simpa [AV.ids] using h2⟩
theorem AV.vals_den {ρ : Nat → Value} {t : Bool} {n : Nat} {z : Value} (hz : if t then valOf z = .slice none 0 0 else z = .slice none 0 0) : ∀ (l : List AV), (∀ i ∈ AV.idsL (AV.denL t n l), i < n) → AV.vals (fun j => if j = n then z else ρ j) l = AV.vals ρ (AV.denL t n l) ∧ ∀ i ∈ AV.idsL l, i < n + 1
  | [], _ => ⟨rfl, fun i hi => by simp [AV.idsL] at hi⟩
  | x :: r, h => by
    obtain ⟨h1, h2⟩ := AV.val_den hz x fun i hi => h i (by simp only [AV.denL, AV.idsL, List.mem_append]; exact .inl hi)
    obtain ⟨h3, h4⟩ := AV.vals_den hz r fun i hi => h i (by simp only [AV.denL, AV.idsL, List.mem_append]; exact .inr hi)
    refine ⟨by simp only [AV.denL, AV.vals]; rw [h1, h3], fun i hi => ?_⟩
    simp only [AV.idsL, List.mem_append] at hi
    rcases hi with hi | hi
    · exact h2 i hi
    · exact h4 i hi
end
theorem look_den {m : Bool} {n : Nat} {t : Nat} {x : AV} : ∀ {tm : List (Nat × AV)}, look tm t = some x → look (tm.map fun p => (p.1, p.2.den m n)) t = some (x.den m n)
  | [], h => by cases h
  | (k, y) :: r, h => by
    simp only [look, List.map_cons] at h ⊢
    split at h
    · rename_i e; cases h; rw [if_pos e]
    · rename_i e; rw [if_neg e]; exact look_den h

section
variable {P : Program} {ι : Type} {φ ψ : Nat → Prop} {w0 w : World} {F : ι → Rs} {ρ ρ0 : Nat → Value} {N m n : Nat} {S : List It} {tm : List (Nat × AV)} {a : Act}
theorem Gam.nilW (G : Gam φ ψ w0 F N m ρ0 ρ S tm a w) (n : Nat) (hn : S.length = n) (b : Bool) (x : It) (z : Value) (hz : if b then valOf z = .slice none 0 0 else z = .slice none 0 0) (hids : x.ids = []) (hb : ∀ g, ¬ (x.res (fun j => if j = n then z else ρ j) n).blk g)
    (hx : ∀ φ', (x.res (fun j => if j = n then z else ρ j) n).holds w φ') (S1 : List It) (tm1 : List (Nat × AV)) (hS : S = S1.map (It.den b n)) (ht : tm = tm1.map fun p => (p.1, p.2.den b n)) :
    ∃ ρ', Gam φ ψ w0 F N m ρ0 ρ' (S1 ++ [x]) tm1 a w := by
  have hl : S1.length = n := by rw [← hn, hS, List.length_map]
  have hat : ∀ j (hj : j < n), lst S j = (S1[j]'(by omega)).den b n := fun j hj => by
    rw [lst_at (show j < S.length by omega)]
    have h1 := congrArg (·[j]?) hS
    simp only [List.getElem?_map, List.getElem?_eq_getElem (show j < S.length by omega), List.getElem?_eq_getElem (show j < S1.length by omega), Option.map_some, Option.some.injEq] at h1
    exact h1
  have hnew : ∀ j (hj : j < n), lst (S1 ++ [x]) j = S1[j]'(by omega) := fun j hj => by
    simp [lst, List.getD_eq_getElem?_getD, List.getElem?_append_left (show j < S1.length by omega), List.getElem?_eq_getElem (show j < S1.length by omega)]
  have hlast : lst (S1 ++ [x]) n = x := by
    simp [lst, List.getD_eq_getElem?_getD, ← hl]
  have hout : ∀ j, n < j → lst (S1 ++ [x]) j = .none := fun j hj => lst_out (by simp; omega)
  have hbx : ∀ j (hj : j < n), ((S1[j]'(by omega)).res (fun j => if j = n then z else ρ j) j = (lst S j).res ρ j) ∧ ∀ i ∈ (S1[j]'(by omega)).ids, i < n + 1 := fun j hj => by
    rw [hat j hj]
    have hb := (G.bd j).1
    rw [hat j hj, hn] at hb
    generalize S1[j]'(by omega) = x at *
    cases x with
    | box cs =>
      obtain ⟨h1, h2⟩ := AV.vals_den (ρ := ρ) (n := n) hz cs hb
      refine ⟨?_, h2⟩
      simp only [It.res, It.den]
      rw [h1, if_neg (show ¬ j = n by omega)]
    | none => exact ⟨rfl, fun i hi => by cases hi⟩
    | dead => exact ⟨rfl, fun i hi => by cases hi⟩
    | dat d' => exact ⟨by simp only [It.res, It.den]; rw [if_neg (show ¬ j = n by omega)], fun i hi => by cases hi⟩
    | row e' d' => exact ⟨by simp only [It.res, It.den]; rw [if_neg (show ¬ j = n by omega)], fun i hi => by cases hi⟩
    | tree d' => exact ⟨by simp only [It.res, It.den]; rw [if_neg (show ¬ j = n by omega)], fun i hi => by cases hi⟩
    | kept e' d' => exact ⟨by cases e' <;> (simp only [It.res, It.den]; rw [if_neg (show ¬ j = n by omega)]), fun i hi => by cases hi⟩
  have hw : ∀ t x, look tm1 t = some x → x.val (fun j => if j = n then z else ρ j) = (x.den b n).val ρ ∧ ∀ i ∈ x.ids, i < n + 1 := fun t x hx => by
    refine AV.val_den hz x fun i hi => ?_
    have h1 : look tm t = some (x.den b n) := by rw [ht]; exact look_den hx
    have := G.tmi t _ h1 i hi
    omega
  refine ⟨fun j => if j = n then z else ρ j, ?_⟩
  refine ⟨G.size, G.defs, fun t x hx => ?_, fun t x hx i hi => ?_, fun j => ⟨fun i hi => ?_, fun hj => lst_out hj⟩, ?_, ?_, fun i hi => ?_⟩
  · have h1 : look tm t = some (x.den b n) := by rw [ht]; exact look_den hx
    rw [(hw t x hx).1]; exact G.tmv t _ h1
  · have := (hw t x hx).2 i hi
    simp; omega
  · rcases Nat.lt_trichotomy j n with h | h | h
    · rw [hnew j h] at hi
      have := (hbx j h).2 i hi
      simp; omega
    · subst h; rw [hlast, hids] at hi; cases hi
    · rw [hout j h] at hi; cases hi
  · refine MemF.put G.mem (.inr n) (fun k hk => ?_) (Kept.refl _ _) ?_ ?_
    · cases k with
      | inl i => rfl
      | inr j =>
        simp only [lay]
        rcases Nat.lt_trichotomy j n with h | h | h
        · rw [hnew j h]; exact (hbx j h).1
        · exact absurd (by rw [h]) hk
        · rw [hout j h, lst_out (show S.length ≤ j by omega)]; rfl
    · simp only [lay, hlast]; exact hx _
    · intro g hg
      simp only [lay, hlast] at hg
      exact absurd hg (hb g)
  · have := G.le; simp; omega
  · show (if i = n then _ else ρ i) = ρ0 i
    have := G.le
    rw [if_neg (by omega)]; exact G.old i hi
theorem Gam.nil (G : Gam φ ψ w0 F N m ρ0 ρ S tm a w) (n : Nat) (e : TypeId) (d : D) (k : Nat) (S1 : List It) (tm1 : List (Nat × AV)) (hn : S.length = n := by kernel_rfl) (hd : D.nil k = some d := by kernel_rfl) (hS : S = S1.map (It.den false n) := by kernel_rfl) (ht : tm = tm1.map (fun p => (p.1, p.2.den false n)) := by kernel_rfl) :
    ∃ ρ', Gam φ ψ w0 F N m ρ0 ρ' (S1 ++ [.row e d]) tm1 a w := by
  have hz := D.nil_len hd
  refine G.nilW n hn false (.row e d) (.slice none 0 0) (by simp) rfl (fun g hg => ?_) (fun φ' => ?_) S1 tm1 hS ht
  · simp only [It.res, if_true] at hg
    cases hg
  · simp only [It.res, if_true]
    refine ⟨fun xs => RW.nice d xs, [], ?_, RW.nil hz _⟩
    rw [hz]; exact World.ownsRow_nil _ _ _ _
theorem Gam.nilT (G : Gam φ ψ w0 F N m ρ0 ρ S tm a w) (n : Nat) (d : D) (S1 : List It) (tm1 : List (Nat × AV)) (hn : S.length = n := by kernel_rfl) (hd : ((treeE d).isSome && natEq d.len 0) = true := by kernel_rfl) (hS : S = S1.map (It.den true n) := by kernel_rfl) (ht : tm = tm1.map (fun p => (p.1, p.2.den true n)) := by kernel_rfl) :
    ∃ ρ', Gam φ ψ w0 F N m ρ0 ρ' (S1 ++ [.tree d]) tm1 a w := by
  simp only [Bool.and_eq_true, natEq, beq_iff_eq] at hd
  obtain ⟨e, he⟩ := Option.isSome_iff_exists.1 hd.1
  obtain ⟨z, h1, h2⟩ := enc_exists (.slice none 0 0) (fun _ => False) 0 fun b h => h.elim
  refine G.nilW n hn true (.tree d) z (by simp [h1]) rfl (fun g hg => ?_) (fun φ' => ?_) S1 tm1 hS ht
  · simp only [It.res, if_true] at hg
    exact ((h2 g).1 hg).elim
  · simp only [It.res, if_true]
    rw [h1]
    refine ⟨fun _ _ h hs => h.same hs, ⟨e, [], fun _ => False, he, ?_, (fun g hg => by cases hg), (fun b hb => hb.elim), ?_⟩, fun b hb => ((h2 b).1 hb).elim⟩
    · rw [hd.2]; exact World.ownsRow_nil _ _ _ _
    · have h0 := hd.2
      cases d <;> simp only [treeE] at he <;> first | cases he | skip
      all_goals (simp only [D.len] at h0; rw [List.eq_nil_of_length_eq_zero h0]; rfl)
end

inductive Ln where
  | no
  | row (e : TypeId)
  | tree
def lnAt (M : List Ln) (i : Nat) : Ln := M.getD i .no
def Ln.isT : Ln → Bool
  | .tree => true
  | _ => false
mutual
def AV.tr (M : List Ln) : AV → AV
  | .v x => .v x
  | .ptr a b => .ptr a b
  | .ea a b c d => .ea a b c d
  | .ref i => if (lnAt M i).isT then .tref i else .ref i
  | .agg l => .agg (AV.trL M l)
  | .tup l => .tup (AV.trL M l)
  | .fn f l => .fn f (AV.trL M l)
  | .bm f l => .bm f (AV.trL M l)
  | .tref i => .tref i
def AV.trL (M : List Ln) : List AV → List AV
  | [] => []
  | x :: r => x.tr M :: AV.trL M r
end
mutual
/-- No address of, and no other word for, what is lent as a tree. -/
def AV.trOk (M : List Ln) : AV → Bool
  | .v _ => true
  | .ptr a _ => !(lnAt M a).isT
  | .ea a _ _ _ => !(lnAt M a).isT
  | .ref _ => true
  | .agg l => AV.trOkL M l
  | .tup l => AV.trOkL M l
  | .fn _ l => AV.trOkL M l
  | .bm _ l => AV.trOkL M l
  | .tref i => !(lnAt M i).isT
def AV.trOkL (M : List Ln) : List AV → Bool
  | [] => true
  | x :: r => x.trOk M && AV.trOkL M r
end
mutual
theorem AV.val_tr {ρ ρ' : Nat → Value} {M : List Ln} (h : ∀ i, ρ' i = if (lnAt M i).isT then valOf (ρ i) else ρ i) : ∀ (x : AV), x.trOk M = true → (x.tr M).val ρ = x.val ρ'
  | .v _, _ => rfl
  | .ptr a _, hx => by
    simp only [AV.trOk, Bool.not_eq_true'] at hx
    simp only [AV.tr, AV.val]; rw [h a, hx]; rfl
  | .ea a _ _ _, hx => by
    simp only [AV.trOk, Bool.not_eq_true'] at hx
    simp only [AV.tr, AV.val]; rw [h a, hx]; rfl
  | .ref i, _ => by
    simp only [AV.tr]
    cases hm : (lnAt M i).isT
    · simp only [Bool.false_eq_true, if_false, AV.val]; rw [h i, hm]; rfl
    · simp only [if_true, AV.val]; rw [h i, hm]; rfl
  | .agg l, hx => by simp only [AV.tr, AV.val]; rw [AV.vals_tr h l (by simpa [AV.trOk] using hx)]
  | .tup l, hx => by simp only [AV.tr, AV.val]; rw [AV.vals_tr h l (by simpa [AV.trOk] using hx)]
  | .fn _ l, hx => by simp only [AV.tr, AV.val]; rw [AV.vals_tr h l (by simpa [AV.trOk] using hx)]
  | .bm _ l, hx => by simp only [AV.tr, AV.val]; rw [AV.vals_tr h l (by simpa [AV.trOk] using hx)]
  | .tref i, hx => by
    simp only [AV.trOk, Bool.not_eq_true'] at hx
    simp only [AV.tr, AV.val]; rw [h i, hx]; rfl
theorem AV.vals_tr {ρ ρ' : Nat → Value} {M : List Ln} (h : ∀ i, ρ' i = if (lnAt M i).isT then valOf (ρ i) else ρ i) : ∀ (l : List AV), AV.trOkL M l = true → AV.vals ρ (AV.trL M l) = AV.vals ρ' l
  | [], _ => rfl
  | x :: r, hx => by
    simp only [AV.trOkL, Bool.and_eq_true] at hx
    simp only [AV.trL, AV.vals]; rw [AV.val_tr h x hx.1, AV.vals_tr h r hx.2]
end
def lendIt (M : List Ln) : Ln → It → It
  | .row e, .dat d => .row e d
  | .tree, .dat d => .tree d
  | .no, .box cs => .box (AV.trL M cs)
  | _, x => x
def lendL (M : List Ln) (S : List It) : List It := (List.range S.length).map fun i => lendIt M (lnAt M i) (lst S i)
theorem lst_lend (M : List Ln) (S : List It) (i : Nat) : lst (lendL M S) i = lendIt M (lnAt M i) (lst S i) := by
  unfold lendL
  rcases Nat.lt_or_ge i S.length with h | h
  · conv => lhs; rw [lst, List.getD_eq_getElem?_getD, List.getElem?_map, List.getElem?_range h]
    rfl
  · rw [lst_out (by simpa using h), lst_out h]
    cases lnAt M i <;> rfl
def flatD : D → Bool
  | .rows _ => false
  | .brows _ => false
  | .exprs _ => false
  | .stmts _ => false
  | _ => true
theorem flat_rw {w w' : World} {φ φ' : Nat → Prop} {d : D} {xs : List Value} (hd : flatD d = true) (h : RW w φ d xs) : RW w' φ' d xs := by
  intro i hi j x hx
  obtain ⟨u, h1, h2⟩ := h i hi j x hx
  refine ⟨u, h1, ?_⟩
  have : ∃ y, x = .v y := by
    have hm := List.mem_of_getElem? hx
    cases d <;> simp only [flatD, Bool.false_eq_true] at hd <;> simp [D.elem, insX, eventX] at hm
    · exact ⟨_, hm⟩
    · exact ⟨_, hm⟩
    · exact ⟨_, hm⟩
    · exact ⟨_, hm⟩
    · rcases hm with h | h | h | h | h <;> exact ⟨_, h⟩
    · rcases hm with h | h <;> exact ⟨_, h⟩
  obtain ⟨y, rfl⟩ := this
  exact h2
def lnOk (M : List Ln) (l : Ln) (p x : It) : Bool :=
  match l with
  | .no => match x with
    | .dat _ => (match p with | .dat _ => true | _ => false)
    | .row _ d => flatD d
    | .box cs => AV.trOkL M cs
    | .kept _ _ => false
    | _ => true
  | .row _ => (match p, x with | .dat d, .dat _ => flatD d | _, _ => false)
  | .tree => (match p, x with | .dat d, .dat _ => (treeE d).isSome | _, _ => false)
def preLn (M : List Ln) (l : Ln) (p : It) : Bool :=
  match l, p with
  | .no, .box cs => AV.trOkL M cs
  | _, _ => true
def lendB (M : List Ln) (c : Ctr) : Bool :=
  decide (M.length ≤ c.pre.length) && decide (c.pre.length ≤ c.post.length) && AV.trOkL M c.args && c.res.trOk M && (List.range c.post.length).all (fun i => lnOk M (lnAt M i) (lst c.pre i) (lst c.post i)) && (List.range c.pre.length).all fun i => preLn M (lnAt M i) (lst c.pre i)

def Rs.snap (w : World) (r : Rs) : Rs := .own r.blk fun w' => ∀ b, r.blk b → b < w.heap.size → w'.heap[b]? = w.heap[b]?
theorem Rs.snap_holds {w : World} {φ φ' : Nat → Prop} {r : Rs} (h : r.holds w φ) : (r.snap w).holds w φ' := by
  refine ⟨fun w1 w2 h1 h2 b hb hlt => ?_, fun b _ _ => rfl, fun b hb => Rs.lt h hb⟩
  have h3 := h1 b hb hlt
  rw [h2 b hb, h3]
  have : (w1.heap[b]?).isSome = true := by rw [h3, Array.getElem?_eq_getElem hlt]; rfl
  obtain ⟨o, ho⟩ := Option.isSome_iff_exists.1 this
  exact (Array.getElem?_eq_some_iff.1 ho).1
theorem datP_at : ∀ {P X : List It} {i : Nat} {d e : D}, datP P X = datQ P X → lst P i = .dat d → lst X i = .dat e → d = e
  | P, X, i, d, e, h, h1, h2 => by
    have hp : P[i]? = some (.dat d) := by
      rcases Nat.lt_or_ge i P.length with hl | hl
      · rw [lst_at hl] at h1; rw [List.getElem?_eq_getElem hl, h1]
      · rw [lst_out hl] at h1; cases h1
    have hx : X[i]? = some (.dat e) := by
      rcases Nat.lt_or_ge i X.length with hl | hl
      · rw [lst_at hl] at h2; rw [List.getElem?_eq_getElem hl, h2]
      · rw [lst_out hl] at h2; cases h2
    exact dat_eq h hp hx

theorem Ctr.lend0 {P : Program} {c : Ctr} (hc : c.ok P) (M : List Ln) (hb : lendB M c = true) (he : datP c.pre c.post = datQ c.pre c.post) : Ctr.ok P ⟨c.f, AV.trL M c.args, lendL M c.pre, lendL M c.post, c.res.tr M⟩ := by
  simp only [lendB, Bool.and_eq_true, decide_eq_true_eq] at hb
  obtain ⟨⟨⟨⟨⟨hM, hle⟩, hargs⟩, hres⟩, hpost⟩, hpre⟩ := hb
  have hno : ∀ i, c.pre.length ≤ i → lnAt M i = .no := fun i hi => by
    unfold lnAt; rw [List.getD_eq_getElem?_getD, List.getElem?_eq_none (by omega)]; rfl
  have hpo : ∀ i, lnOk M (lnAt M i) (lst c.pre i) (lst c.post i) = true := fun i => by
    rcases Nat.lt_or_ge i c.post.length with h | h
    · exact List.all_eq_true.1 hpost i (List.mem_range.2 h)
    · rw [hno i (by omega), lst_out h]; rfl
  have hpr : ∀ i, preLn M (lnAt M i) (lst c.pre i) = true := fun i => by
    rcases Nat.lt_or_ge i c.pre.length with h | h
    · exact List.all_eq_true.1 hpre i (List.mem_range.2 h)
    · rw [hno i h, lst_out h]; rfl
  intro ι φ ψ w0 w F ρ MM
  -- what the call sees
  let ρ1 : Nat → Value := fun i => if (lnAt M i).isT then valOf (ρ i) else ρ i
  have hρ1 : ∀ i, ρ1 i = if (lnAt M i).isT then valOf (ρ i) else ρ i := fun _ => rfl
  let F1 : ι → Rs := fun i => (F i).snap w
  have hLi : ∀ i, lay F ρ (lst (lendL M c.pre)) (.inl i) = F i := fun _ => rfl
  have hLj : ∀ j, lay F ρ (lst (lendL M c.pre)) (.inr j) = (lendIt M (lnAt M j) (lst c.pre j)).res ρ j := fun j => by simp only [lay]; rw [lst_lend]
  generalize hL : lay F ρ (lst (lendL M c.pre)) = L at MM hLi hLj
  have h1j : ∀ j, lnAt M j = .no → (lst c.pre j).res ρ1 j = L (.inr j) := fun j hl => by
    rw [hLj, hl]
    have hp := hpr j
    have e : ρ1 j = ρ j := by rw [hρ1, hl]; rfl
    cases hx : lst c.pre j with
    | none => rfl
    | dead => rfl
    | dat d => simp only [lendIt, It.res]; rw [e]
    | row e' d => simp only [lendIt, It.res]; rw [e]
    | tree d => simp only [lendIt, It.res]; rw [e]
    | kept e' d => cases e' <;> (simp only [lendIt, It.res]; rw [e])
    | box cs =>
      rw [hl, hx] at hp
      simp only [preLn] at hp
      simp only [lendIt, It.res]
      rw [e, AV.vals_tr hρ1 cs hp]
  -- lent things own nothing in the call's eyes
  have hlent : ∀ j, lnAt M j ≠ .no → (∃ d, lst c.pre j = .dat d ∧ lst c.post j = .dat d ∧ ((∃ e, lnAt M j = .row e ∧ flatD d = true) ∨ lnAt M j = .tree)) := fun j hj => by
    have h := hpo j
    cases hl : lnAt M j with
    | no => exact absurd hl hj
    | row e =>
      rw [hl] at h
      simp only [lnOk] at h
      split at h
      · rename_i d d' h1 h2
        exact ⟨d, h1, by rw [h2, ← datP_at he h1 h2], .inl ⟨e, rfl, h⟩⟩
      · cases h
    | tree =>
      rw [hl] at h
      simp only [lnOk] at h
      split at h
      · rename_i d d' h1 h2
        exact ⟨d, h1, by rw [h2, ← datP_at he h1 h2], .inr rfl⟩
      · cases h
  have hsub : ∀ k b, (lay F1 ρ1 (lst c.pre) k).blk b → (L k).blk b ∧ ∀ j, k = .inr j → lnAt M j = .no := fun k b hb => by
    cases k with
    | inl i => rw [hLi]; exact ⟨hb, fun j h => by cases h⟩
    | inr j =>
      by_cases hl : lnAt M j = .no
      · simp only [lay] at hb
        rw [h1j j hl] at hb
        exact ⟨hb, fun j' h => by cases h; exact hl⟩
      · obtain ⟨d, h1, _⟩ := hlent j hl
        simp only [lay, h1, It.res] at hb
        exact hb.elim
  have hfr1 : ∀ b, FrF φ L b → FrF φ (lay F1 ρ1 (lst c.pre)) b := fun b hb => ⟨hb.1, fun k hk => hb.2 k (hsub k b hk).1⟩
  let ψ1 : Nat → Prop := fun b => ∀ k, ¬ (lay F1 ρ1 (lst c.pre) k).blk b
  have M1 : MemF φ ψ1 w w (lay F1 ρ1 (lst c.pre)) := by
    refine ⟨Kept.refl _ _, fun b hb => MM.fresh b (Nat.le_trans MM.size hb), fun k => ?_, fun k k' b hkk h1 h2 => MM.dis k k' b hkk (hsub k b h1).1 (hsub k' b h2).1, fun k b h1 => .inr fun h => h k h1, fun k b h1 => MM.ph k b (hsub k b h1).1⟩
    cases k with
    | inl i => exact Rs.snap_holds (show (F i).holds w _ from by rw [← hLi i]; exact MM.holds (.inl i))
    | inr j =>
      by_cases hl : lnAt M j = .no
      · simp only [lay]
        rw [h1j j hl]
        exact Rs.keep (MM.holds (.inr j)) (Agr.mono fun b _ hf => hfr1 b hf) fun _ _ => rfl
      · obtain ⟨d, h1, h2, h3⟩ := hlent j hl
        have hh := MM.holds (.inr j)
        have hown : ∀ b, (L (.inr j)).blk b → FrF φ (lay F1 ρ1 (lst c.pre)) b := fun b hb => ⟨MM.ph _ _ hb, fun k hk => by
          obtain ⟨q1, q2⟩ := hsub k b hk
          by_cases e : k = .inr j
          · exact hl (q2 j e)
          · exact MM.dis k (.inr j) b e q1 hb⟩
        simp only [lay, h1, It.res]
        refine ⟨RD.nice _ _, ?_⟩
        rcases h3 with ⟨e, h3, hflat⟩ | h3
        · rw [hLj, h3, h1] at hh
          simp only [lendIt, It.res] at hh
          obtain ⟨_, xs, o1, o2⟩ := hh
          have e1 : ρ1 j = ρ j := by rw [hρ1, h3]; rfl
          rw [e1]
          refine RD.make (owns_rowF o1 fun g hg => hown g ?_) (flat_rw hflat o2)
          rw [hLj, h3, h1]; exact hg
        · rw [hLj, h3, h1] at hh
          simp only [lendIt, It.res] at hh
          have e1 : ρ1 j = valOf (ρ j) := by rw [hρ1, h3]; rfl
          rw [e1]
          refine TreeO.read hh.2.1 fun b hb => hown b ?_
          rw [hLj, h3, h1]; exact hb
  simp only
  rw [AV.vals_tr hρ1 c.args hargs]
  refine (hc ι φ ψ1 w w F1 ρ1 M1).mono ?_
  rintro x w' ⟨ρ2, g1, g2, M2⟩
  have hplen : (lendL M c.pre).length = c.pre.length := by simp [lendL]
  let ρ' : Nat → Value := fun j => if j < c.pre.length then ρ j else ρ2 j
  have hρ' : ∀ j, ρ2 j = if (lnAt M j).isT then valOf (ρ' j) else ρ' j := fun j => by
    show _ = if (lnAt M j).isT then valOf (if j < c.pre.length then ρ j else ρ2 j) else (if j < c.pre.length then ρ j else ρ2 j)
    rcases Nat.lt_or_ge j c.pre.length with h | h
    · rw [if_pos h, g1 j h]
    · rw [hno j h]
      exact (if_neg (Nat.not_lt.2 h)).symm
  have hρo : ∀ j, lnAt M j ≠ .no → ρ' j = ρ j := fun j hj => by
    rcases Nat.lt_or_ge j c.pre.length with h | h
    · exact if_pos h
    · exact absurd (hno j h) hj
  refine ⟨ρ', fun i hi => if_pos (by rw [hplen] at hi; exact hi), by rw [AV.val_tr hρ' c.res hres]; exact g2, ?_⟩
  have hL'j : ∀ j, lay F ρ' (lst (lendL M c.post)) (.inr j) = (lendIt M (lnAt M j) (lst c.post j)).res ρ' j := fun j => by simp only [lay]; rw [lst_lend]
  have hL'i : ∀ i, lay F ρ' (lst (lendL M c.post)) (.inl i) = F i := fun _ => rfl
  generalize hL' : lay F ρ' (lst (lendL M c.post)) = L' at hL'j hL'i
  have hL2j : ∀ j, lnAt M j = .no → L' (.inr j) = lay F1 ρ2 (lst c.post) (.inr j) := fun j hl => by
    rw [hL'j, hl]
    have hp := hpo j
    have e : ρ2 j = ρ' j := by rw [hρ', hl]; rfl
    simp only [lay]
    cases hx : lst c.post j with
    | none => rfl
    | dead => rfl
    | dat d => simp only [lendIt, It.res]; rw [e]
    | row e' d => simp only [lendIt, It.res]; rw [e]
    | tree d => simp only [lendIt, It.res]; rw [e]
    | kept e' d => cases e' <;> (simp only [lendIt, It.res]; rw [e])
    | box cs =>
      rw [hl, hx] at hp
      simp only [lnOk] at hp
      simp only [lendIt, It.res]
      rw [e, AV.vals_tr hρ' cs hp]
  have hlj : ∀ j, lnAt M j ≠ .no → L' (.inr j) = L (.inr j) := fun j hl => by
    obtain ⟨d, h1, h2, h3⟩ := hlent j hl
    rw [hL'j, hLj, h1, h2]
    rcases h3 with ⟨e, h3, _⟩ | h3
    · rw [h3]; simp only [lendIt, It.res]; rw [hρo j hl]
    · rw [h3]; simp only [lendIt, It.res]; rw [hρo j hl]
  -- where what stands behind lies
  have hin : ∀ b, b < w.heap.size → ¬ ψ1 b → ∃ k, (L k).blk b ∧ ∀ j, k = .inr j → lnAt M j = .no := fun b _ hn => by
    obtain ⟨k, hk⟩ := Classical.not_forall.1 hn
    exact ⟨k, hsub k b (Classical.not_not.1 hk)⟩
  have hnew : ∀ k b, (∀ j, k = .inr j → lnAt M j = .no) → (lay F1 ρ2 (lst c.post) k).blk b → b < w.heap.size → ∃ k', (L k').blk b ∧ ∀ j, k' = .inr j → lnAt M j = .no := fun k b _ hb hlt => by
    rcases M2.ge k b hb with h | h
    · omega
    · exact hin b hlt h
  have hback : ∀ k b, (L' k).blk b → b < w.heap.size → ∃ k', (L k').blk b := fun k b hb hlt => by
    cases k with
    | inl i => rw [hL'i] at hb; exact ⟨.inl i, by rw [hLi]; exact hb⟩
    | inr j =>
      by_cases hl : lnAt M j = .no
      · rw [hL2j j hl] at hb
        obtain ⟨k', h1, _⟩ := hnew (.inr j) b (fun j' h => by cases h; exact hl) hb hlt
        exact ⟨k', h1⟩
      · rw [hlj j hl] at hb; exact ⟨_, hb⟩
  have hsame : ∀ b, b < w.heap.size → ψ1 b → w'.heap[b]? = w.heap[b]? := fun b h1 h2 => M2.kept.block b h1 h2
  have hagr : Agr (FrF φ L) (FrF φ L') w w' := ⟨M2.kept.size, fun b hb hf => ⟨⟨hf.1, fun k hk => let ⟨k', h1⟩ := hback k b hk hb; hf.2 k' h1⟩, hsame b hb fun k hk => (hfr1 b hf).2 k hk⟩⟩
  have hlsame : ∀ j, lnAt M j ≠ .no → ∀ b, (L (.inr j)).blk b → w'.heap[b]? = w.heap[b]? := fun j hl b hb => hsame b (MM.lt hb) fun k hk => by
    obtain ⟨q1, q2⟩ := hsub k b hk
    by_cases e : k = .inr j
    · exact hl (q2 j e)
    · exact MM.dis k (.inr j) b e q1 hb
  have hcross : ∀ j k b, lnAt M j ≠ .no → (∀ j, k = .inr j → lnAt M j = .no) → (L (.inr j)).blk b → ¬ (lay F1 ρ2 (lst c.post) k).blk b := fun j k b hl hk h1 h2 => by
    obtain ⟨k', h3, h4⟩ := hnew k b hk h2 (MM.lt h1)
    exact MM.dis k' (.inr j) b (fun e => hl (h4 j e)) h3 h1
  refine ⟨⟨M2.kept.os.trans MM.kept.os, M2.kept.tape.trans MM.kept.tape, M2.kept.output.trans MM.kept.output, Nat.le_trans MM.size M2.kept.size, fun b hb hp => (hsame b (Nat.lt_of_lt_of_le hb MM.size) fun k hk => ?_).trans (MM.kept.block b hb hp)⟩, MM.fresh, fun k => ?_, fun k k' b hkk h1 h2 => ?_, fun k b h1 => ?_, fun k b h1 => ?_⟩
  · rcases MM.ge k b (hsub k b hk).1 with h | h
    · omega
    · exact h hp
  · cases k with
    | inl i =>
      rw [hL'i, ← hLi i]
      refine Rs.keep (MM.holds (.inl i)) hagr fun b hb => ?_
      have := (M2.holds (.inl i)).2.1 b (by rw [← hLi i]; exact hb) (MM.lt hb)
      exact this
    | inr j =>
      by_cases hl : lnAt M j = .no
      · have hh := M2.holds (.inr j)
        rw [← hL2j j hl] at hh
        have hp := hpo j
        rw [hl] at hp
        cases hx : lst c.post j with
        | none => rw [hL'j, hl, hx]; exact Rs.none_holds _ _
        | dead => rw [hL'j, hl, hx]; exact Rs.none_holds _ _
        | box cs => rw [hL'j, hl, hx] at hh ⊢; exact hh
        | tree d => rw [hL'j, hl, hx] at hh ⊢; exact hh
        | kept e' d => rw [hx] at hp; exact absurd hp (by simp [lnOk])
        | row e d =>
          rw [hx] at hp
          simp only [lnOk] at hp
          rw [hL'j, hl, hx] at hh ⊢
          simp only [lendIt, It.res] at hh ⊢
          obtain ⟨_, xs, o1, o2⟩ := hh
          exact ⟨fun xs => RW.nice d xs, xs, o1, flat_rw hp o2⟩
        | dat d =>
          rw [hx] at hp
          simp only [lnOk] at hp
          split at hp
          · rename_i d' hpx
            have hd : d' = d := datP_at he hpx hx
            subst hd
            have e : L' (.inr j) = L (.inr j) := by
              rw [hL'j, hLj, hl, hx, hpx]
              simp only [lendIt, It.res]
              have : j < c.pre.length := by
                rcases Nat.lt_or_ge j c.pre.length with h | h
                · exact h
                · rw [lst_out h] at hpx; cases hpx
              rw [show ρ' j = ρ j from if_pos this]
            rw [e]
            refine Rs.keep (MM.holds (.inr j)) hagr fun b hb => ?_
            rw [hLj, hl, hpx] at hb
            exact hb.elim
          · cases hp
      · rw [hlj j hl]
        exact Rs.keep (MM.holds (.inr j)) hagr fun b hb => hlsame j hl b hb
  · have key : ∀ k, (∃ j, k = .inr j ∧ lnAt M j ≠ .no ∧ (L' k) = L k) ∨ ((∀ j, k = .inr j → lnAt M j = .no) ∧ ∀ b, (L' k).blk b → (lay F1 ρ2 (lst c.post) k).blk b) := fun k => by
      cases k with
      | inl i => exact .inr ⟨(fun j h => by cases h), fun b hb => by rw [hL'i] at hb; exact hb⟩
      | inr j =>
        by_cases hl : lnAt M j = .no
        · exact .inr ⟨fun j' h => by cases h; exact hl, fun b hb => by rw [hL2j j hl] at hb; exact hb⟩
        · exact .inl ⟨j, rfl, hl, hlj j hl⟩
    rcases key k with ⟨j, rfl, k1, k2⟩ | ⟨k1, k2⟩ <;> rcases key k' with ⟨j', rfl, k3, k4⟩ | ⟨k3, k4⟩
    · rw [k2] at h1; rw [k4] at h2; exact MM.dis _ _ b hkk h1 h2
    · rw [k2] at h1; exact hcross j k' b k1 k3 h1 (k4 b h2)
    · rw [k4] at h2; exact hcross j' k b k3 k1 h2 (k2 b h1)
    · exact M2.dis k k' b hkk (k2 b h1) (k4 b h2)
  · cases k with
    | inl i => rw [hL'i, ← hLi i] at h1; exact MM.ge _ b h1
    | inr j =>
      by_cases hl : lnAt M j = .no
      · rw [hL2j j hl] at h1
        rcases Nat.lt_or_ge b w.heap.size with hlt | hge
        · obtain ⟨k', h2, _⟩ := hnew (.inr j) b (fun j' h => by cases h; exact hl) h1 hlt
          exact MM.ge k' b h2
        · exact .inl (Nat.le_trans MM.size hge)
      · rw [hlj j hl] at h1; exact MM.ge _ b h1
  · cases k with
    | inl i => rw [hL'i, ← hLi i] at h1; exact MM.ph _ b h1
    | inr j =>
      by_cases hl : lnAt M j = .no
      · rw [hL2j j hl] at h1; exact M2.ph _ b h1
      · rw [hlj j hl] at h1; exact MM.ph _ b h1

def keepIt (M : List Ln) : Ln → It → It
  | .row e, .dat d => .kept (some e) d
  | .tree, .dat d => .kept none d
  | .no, .box cs => .box (AV.trL M cs)
  | _, x => x
def keepL (M : List Ln) (S : List It) : List It := (List.range S.length).map fun i => keepIt M (lnAt M i) (lst S i)
theorem lst_keep (M : List Ln) (S : List It) (i : Nat) : lst (keepL M S) i = keepIt M (lnAt M i) (lst S i) := by
  unfold keepL
  rcases Nat.lt_or_ge i S.length with h | h
  · conv => lhs; rw [lst, List.getD_eq_getElem?_getD, List.getElem?_map, List.getElem?_range h]
    rfl
  · rw [lst_out (by simpa using h), lst_out h]
    cases lnAt M i <;> rfl
theorem Ctr.lend {P : Program} {c : Ctr} (hc : c.ok P) (M : List Ln) (hb : lendB M c = true := by kernel_rfl) (he : datP c.pre c.post = datQ c.pre c.post := by kernel_rfl) : Ctr.ok P ⟨c.f, AV.trL M c.args, lendL M c.pre, keepL M c.post, c.res.tr M⟩ :=
  Ctr.okPost (Ctr.lend0 hc M hb he) _ fun ρ i => by
    simp only
    rw [lst_keep, lst_lend]
    cases lnAt M i <;> cases lst c.post i <;> rfl


section
variable {P : Program} {ι κ : Type} {φ ψ : Nat → Prop} {w0 w : World} {F : ι → Rs} {ρ ρ0 : Nat → Value} {N m n : Nat} {S : List It} {tm : List (Nat × AV)} {a : Act}

end




section
variable {P : Program} {ι κ : Type} {φ ψ : Nat → Prop} {w0 w w' : World} {F : ι → Rs} {ρ ρ0 : Nat → Value}
theorem MemF.grow {L L' : κ → Rs} (M : MemF φ ψ w0 w L) (hb : Below w.heap.size w w') (K : κ → Prop) (ho : ∀ k, ¬ K k → L' k = L k) (hg : ∀ k, K k → ∀ b, (L' k).blk b → w.heap.size ≤ b) (hd : ∀ j k b, j ≠ k → K j → K k → (L' j).blk b → ¬ (L' k).blk b) (h : ∀ k, K k → (L' k).holds w' (FrF φ L')) : MemF φ ψ w0 w' L' := by
  have M1 := M.call hb
  have old : ∀ k, ¬ K k → ∀ b, (L' k).blk b → b < w.heap.size := fun k hk b h1 => by rw [ho k hk] at h1; exact M.lt h1
  refine ⟨M1.kept, M.fresh, fun k => ?_, fun i j g hij h1 h2 => ?_, fun i b h1 => ?_, fun i b h1 => ?_⟩
  · by_cases e : K k
    · exact h k e
    · rw [ho k e]
      refine Rs.keep (M.holds k) ⟨hb.size, fun b hl hf => ⟨⟨hf.1, fun j hj => ?_⟩, hb.block b hl⟩⟩ fun g hgx => hb.block g (M.lt hgx)
      by_cases e2 : K j
      · have := hg j e2 b hj; omega
      · rw [ho j e2] at hj; exact hf.2 j hj
  · by_cases e1 : K i <;> by_cases e2 : K j
    · exact hd i j g hij e1 e2 h1 h2
    · have := hg i e1 g h1; have := old j e2 g h2; omega
    · have := hg j e2 g h2; have := old i e1 g h1; omega
    · rw [ho i e1] at h1; rw [ho j e2] at h2; exact M.dis i j g hij h1 h2
  · by_cases e : K i
    · exact .inl (Nat.le_trans M.size (hg i e b h1))
    · rw [ho i e] at h1; exact M.ge i b h1
  · by_cases e : K i
    · exact M.fresh b (Nat.le_trans M.size (hg i e b h1))
    · rw [ho i e] at h1; exact M.ph i b h1
end

abbrev oP (p : LProg) : List It := [.row 3 (.ints p.vars), .row 3 (.ints p.arrays), .tree (.stmts p.body)]
abbrev oA (r : Nat) : AV := .agg [.ref r, .ref (r + 1), .tref (r + 2)]
theorem row_holds {w : World} {φ : Nat → Prop} {v : Value} {l : List Int} (h : w.ownsRow 0 3 1 v l.length (ints l)) : (Rs.row 3 (D.ints l).sz v (D.ints l).len fun xs w φ => RW w φ (.ints l) xs).holds w φ := by
  refine ⟨fun xs => RW.nice (.ints l) xs, ints l, h, fun i hi j x hx => ?_⟩
  have hi' : i < l.length := hi
  simp only [D.elem] at hx
  have hj : j = 0 := by
    cases j with
    | zero => rfl
    | succ j => simp at hx
  subst hj
  simp at hx
  subst hx
  refine ⟨_, ?_, rfl⟩
  simp only [D.sz]
  rw [Nat.mul_one, Nat.add_zero]
  simp [ints, hi']


set_option maxRecDepth 100000 in
theorem clone_ints (v : Value) (t : List Int) (w : World) (h : Row w v t.length 1 (ints t)) (hb : t.length ≤ 1000000000000) :
    Calls Try.prog 62 #[v] w fun e w' => ∃ u, e = .returned u ∧ Own w' w.heap.size w'.heap.size 3 1 u t.length (ints t) ∧ Below w.heap.size w w' := by
  obtain ⟨a, cap, rfl, hc1, hc2, hc3, -⟩ := h.open
  have hnil := fun w => Lib.run_eql_slice_nil (P := Try.prog) w 22 3 a t.length cap 0 0 Try.underlying22
  rcases a with _ | a
  · have hn : t.length = 0 := by
      rcases Nat.eq_zero_or_pos t.length with h0 | h0
      · exact h0
      · obtain ⟨_, a, c, he, _, _, hx⟩ := h
        cases he
        obtain ⟨_, _, he, _⟩ := hx h0
        cases he
    have ht : t = [] := List.eq_nil_of_length_eq_zero hn
    subst ht
    simp only [List.length_nil, Option.isNone_none] at hnil
    go_enter Try.func62, Try.ntmps62
    go_wp2_with fail
    go_ret
    exact ⟨_, rfl, ⟨World.ownsRow_nil _ _ _ _, fun g hg => by cases hg⟩, Below.refl _ _⟩
  · go_enter Try.func62, Try.ntmps62
    simp only [Option.isNone_some] at hnil
    have ba := (Below.refl w.heap.size w).alloc (Nat.le_refl _) (.cells #[] 3)
    go_wp2_with (at_builtin; refine wpList_app rfl _ _ rfl Try.underlying22 infoI rfl (by omega) rfl (own_built w #[] 0 1 _ rfl rfl (by omega)).1 rfl (h.below ba) ints_one (by omega) (by omega) (by simp) ?_; rintro a4 q4 w4 o4 b4 - -)
    go_ret
    refine ⟨_, rfl, Own.mk' (by simpa using o4), ba.trans b4⟩

theorem c_cloneInts (l : List Int) (hb : l.length ≤ 1000000000000) : Ctr.ok Try.prog ⟨62, [.ref 0], [.dat (.ints l)], [.dat (.ints l), .row 3 (.ints l)], .ref 1⟩ := by
  intro ι φ ψ w0 w F ρ M
  have hr := M.datAt (id := 0) (d := .ints l) rfl
  refine (clone_ints (ρ 0) l w (RowF.row hr) hb).mono ?_
  rintro e w' ⟨u, rfl, ⟨ho, hg⟩, hbl⟩
  refine ⟨fun i => if i = 1 then u else ρ i, fun i hi => if_neg (show ¬ i = 1 by have : i < 1 := hi; omega), by simp [AV.val], ?_⟩
  refine M.grow hbl (fun k => k = .inr 1) (fun k hk => ?_) ?_ ?_ ?_
  · cases k with
    | inl i => rfl
    | inr j =>
      match j, hk with
      | 0, _ => rfl
      | 1, h => exact absurd rfl h
      | j + 2, _ => rfl
  · rintro k rfl b hb; exact (World.ownsRow.lt ho b hb).1
  · rintro j k b hjk rfl rfl; exact absurd rfl hjk
  · rintro k rfl; exact row_holds (owns_base ho (Nat.zero_le _))

theorem takeE {l : List LExpr} {k : Nat} (hk : k < l.length) : l.take k ++ [⟨(l.getD k default).kind, (l.getD k default).value, (l.getD k default).kids⟩] = l.take (k + 1) := by
  rw [LExpr.eta, take_succ_get _ _ hk, getD_lt hk]
theorem takeS {l : List LStmt} {k : Nat} (hk : k < l.length) : l.take k ++ [⟨(l.getD k default).kind, (l.getD k default).target, ⟨(l.getD k default).index.kind, (l.getD k default).index.value, (l.getD k default).index.kids⟩, ⟨(l.getD k default).value.kind, (l.getD k default).value.value, (l.getD k default).value.kids⟩, (l.getD k default).count, (l.getD k default).body, (l.getD k default).els⟩] = l.take (k + 1) := by
  rw [LExpr.eta, LExpr.eta, LStmt.eta, take_succ_get _ _ hk, getD_lt hk]
theorem take_is {α : Type} {l : List α} {k : Nat} (h1 : k ≤ l.length) (h2 : ¬ (k : Int) < l.length) : l.take k = l := by rw [List.take_of_length_le (by omega)]
theorem len_take {α : Type} {l : List α} {k n : Nat} (h1 : k ≤ l.length) (h : l.length ≤ n) : (l.take k).length ≤ n := by rw [List.length_take]; omega
theorem kids_fit {e : LExpr} (h : szE e ≤ 1048576) : e.kids.length ≤ 1048576 := by
  have h1 := szEs_len e.kids
  have h2 : szE e = szEs e.kids := by cases e; rfl
  omega
theorem block_fit {l : List LStmt} (h : szSs l ≤ 1048576) : l.length ≤ 1048576 := Nat.le_trans (szSs_len l) h
theorem len1 {α : Type} {l : List α} {x : α} {k : Nat} (h1 : k ≤ l.length) (h : l.length ≤ 1048576) : (l.take k).length + [x].length ≤ 1048577 := by
  have := len_take (k := k) h1 h
  simp only [List.length_cons, List.length_nil]; omega
theorem fitB {a b : Nat} (ha : a ≤ 1048577) (hb : Nat.ble b 1000 = true) : a * b ≤ 140737488355328 := by
  have h1 := Nat.le_of_ble_eq_true hb
  have h2 := Nat.mul_le_mul ha h1
  omega
theorem getE_mem {l : List LExpr} {k : Nat} (h : (k : Int) < l.length) : l.getD k default ∈ l := by rw [getD_lt (by omega)]; exact List.getElem_mem (by omega)
theorem getS_mem {l : List LStmt} {k : Nat} (h : (k : Int) < l.length) : l.getD k default ∈ l := by rw [getD_lt (by omega)]; exact List.getElem_mem (by omega)

abbrev cpC (e : LExpr) : Ctr := ⟨149, [eA e 0], eS e, eS e ++ [.tree (.exprs e.kids)], .agg [iA e.kind, iA e.value, .tref 1]⟩
abbrev yRvP0 : It := .box [iA 0, iA 0, .v (.slice none 0 0)]
abbrev yRvP1 (e : LExpr) : It := .box [iA e.kind, iA e.value, .tref 4]
set_option maxRecDepth 100000 in
theorem s_copyES (e : LExpr) (hb : szE e ≤ 1048576) (ih : ∀ (x : LExpr), x ∈ e.kids → Ctr.ok Try.prog (cpC x)) : Ctr.ok Try.prog (cpC e) := by
  refine rx_enter 29 Try.func149 (by rfl) (by kernel_rfl) (by kernel_rfl) ?_; intro ι φ ψ w0 w F ρ0 ρ a G; replace G := Gam.at G [dE e.kids] [(0, eA e 0)]; have hl := kids_fit hb; refine wp_seq ?_; refine rs0 G [0, 1, 9] [dE e.kids, .box (eL e 0), yRvP0] [(1, .ptr 1 0), (2, .ptr 2 0)] fun ρ a w G => th_n (wp_seq ?_); refine rs0 G [0, 1, 2, 43] [dE e.kids, .box (eL e 0), yRvP0, .box [iA e.kind, iA e.value, .v (.slice none 0 0)]] [(1, .ptr 1 0), (2, .ptr 2 0), (3, .ptr 3 0)] fun ρ a w G => th_n (wp_seq (wp_seq ?_)); refine rs0s G [(1, .ptr 1 0), (2, .ptr 2 0), (3, .ptr 3 0), (4, iA 0)] fun ρ a w G => th_n (wp_block ?_); have Gx := G.nilT 4 (.exprs []) [dE e.kids, .box (eL e 0), yRvP0, yRvP1 e] [(1, .ptr 1 0), (2, .ptr 2 0), (3, .ptr 3 0), (4, iA 0)]; clear G; obtain ⟨ρ, G⟩ := Gx; replace G := Gam.at G [dE e.kids, .box (eL e 0), yRvP0, yRvP1 e, .tree (D.exprs [])] [(1, .ptr 1 0), (2, .ptr 2 0), (3, .ptr 3 0), (4, iA 0)]; refine rx_for (κ := Nat) (fun k => k ≤ e.kids.length) (fun k => e.kids.length - k) (fun k => [dE e.kids, .box (eL e 0), yRvP0, yRvP1 e, .tree (.exprs (e.kids.take k))]) (fun k => [(1, .ptr 1 0), (2, .ptr 2 0), (3, .ptr 3 0), (4, iA k)]) (0) (by omega) (Gam.at G _ _) ?_; clear G; intro k ρ a w hp G; replace G := Gam.at G [dE e.kids, .box (eL e 0), yRvP0, yRvP1 e, .tree (D.exprs (List.take k e.kids))] [(1, .ptr 1 0), (2, .ptr 2 0), (3, .ptr 3 0), (4, iA (↑k : Int))]; refine wp_seq (wp_seq ?_); refine rs0s G [(1, .ptr 1 0), (2, .ptr 2 0), (3, .ptr 3 0), (4, iA (↑k : Int)), (14, bA (decide ((↑k : Int) < (↑e.kids.length : Int))))] fun ρ a w G => th_n ?_; cases h0 : (decide ((↑k : Int) < (↑e.kids.length : Int)))
  · have q0 : ¬ ((↑k : Int) < (↑e.kids.length : Int)) := dFf h0; refine rF G (decide ((↑k : Int) < (↑e.kids.length : Int))) (by assumption) ?_; refine wp_exit (th_e (th_e (bl_hit (th_n (wp_seq ?_))))); refine rs0 G [0, 2, 4] [dE e.kids, .box [iA e.kind, iA e.value, .tref 2], .tree (D.exprs (List.take k e.kids))] [(2, .ptr 1 0)] fun ρ a w G => th_n (wp_ret ?_); exact rx_ret (v := .agg [iA e.kind, iA e.value, .tref 2]) G [0, 2] (by kernel_rfl) (by kernel_rfl) (by show _ = List.map (It.ren (nth [0, 2])) [dE e.kids, .tree (D.exprs e.kids)]; have e1 : (List.take k e.kids : List LExpr) = (e.kids) := (by exact take_is hp (by assumption)); (first | rw [e1] | simp only [e1]) <;> rfl) (by kernel_rfl)
  · have q0 : (↑k : Int) < (↑e.kids.length : Int) := dTt h0; refine rT G (decide ((↑k : Int) < (↑e.kids.length : Int))) (by assumption) ?_; refine wp_skip (th_n (wp_seq (wp_block ?_))); refine rd1 (dk := dkP) G ⟨[(7, _, [53])], [], []⟩ (calls_cons (ih (e.kids.getD k default) (by exact getE_mem (by assumption))) calls_nil) trivial [0, 1, 0, 4, 0, 28, 60, 124, 252, 511, 1023, 2047] [0, 1, 2, 3, 77] [dE e.kids, .box (eL e 0), yRvP0, yRvP1 e, .tree (D.exprs (List.take k e.kids ++ [LExpr.mk (e.kids.getD k default).kind (e.kids.getD k default).value (e.kids.getD k default).kids]))] [(1, .ptr 1 0), (2, .ptr 2 0), (3, .ptr 3 0), (4, iA (↑k : Int))] [(0 : Int) ≤ (↑k : Int), (↑k : Int) < (↑e.kids.length : Int), k < e.kids.length, (List.take k e.kids).length + [LExpr.mk (e.kids.getD k default).kind (e.kids.getD k default).value (e.kids.getD k default).kids].length ≤ (9223372036854775807 : Nat), ((List.take k e.kids).length + [LExpr.mk (e.kids.getD k default).kind (e.kids.getD k default).value (e.kids.getD k default).kids].length) * (40 : Nat) ≤ (140737488355328 : Nat)] ⟨(by simp [h0]), (by assumption), (by have := len1 (x := (default : LExpr)) hp hl; simp only [List.length_cons, List.length_nil] at this ⊢; omega), (by have := len1 (x := (default : LExpr)) hp hl; simp only [List.length_cons, List.length_nil] at this ⊢; omega), (by exact fitB (len1 hp hl) (by kernel_rfl)), trivial⟩ ?_; intro ρ a w G; refine bl_n ?_; refine th_n ?_; refine rs1s G ⟨[], [], []⟩ calls_nil trivial [(1, .ptr 1 0), (2, .ptr 2 0), (3, .ptr 3 0), (4, iA ((↑k : Int) + 1))] [IntKind.i64.wrap ((↑k : Int) + (1 : Int)) = (↑k : Int) + (1 : Int)] ⟨(by exact w64 (by omega) (by omega)), trivial⟩ fun ρ a w G => th_n ?_; exact rx_next G (k + 1) (by have := len1 (x := (default : LExpr)) hp hl; simp only [List.length_cons, List.length_nil] at this ⊢; omega) (by have := len1 (x := (default : LExpr)) hp hl; simp only [List.length_cons, List.length_nil] at this ⊢; omega) (rg 5) [dE e.kids, .box (eL e 0), .box [iA 0, iA 0, .v (.slice none 0 0)], .box [iA e.kind, iA e.value, .tref 4], .tree (D.exprs (List.take (k + 1) e.kids))] [(1, .ptr 1 0), (2, .ptr 2 0), (3, .ptr 3 0), (4, iA (↑(k + 1) : Int))] (by kernel_rfl) (by kernel_rfl) (by kernel_rfl) (by have e1 : (List.take (k + 1) e.kids : List LExpr) = (List.take k e.kids ++ [LExpr.mk (e.kids.getD k default).kind (e.kids.getD k default).value (e.kids.getD k default).kids]) := (by exact (takeE (by omega)).symm); (first | rw [e1] | simp only [e1]) <;> rfl) (by kernel_rfl)

theorem c_copyE (e : LExpr) : szE e ≤ 1048576 → Ctr.ok Try.prog (cpC e) :=
  LExpr.ind (P := fun e => szE e ≤ 1048576 → Ctr.ok Try.prog (cpC e)) (fun k n ks ih hb => s_copyES ⟨k, n, ks⟩ hb fun x hx => ih x hx (by
    have h1 := szE_mem (show x ∈ ks from hx)
    have h2 : szE ⟨k, n, ks⟩ = szEs ks := rfl
    omega)) e

abbrev cpsC (l : List LStmt) : Ctr := ⟨126, [.ref 0], [dT l], [dT l, .tree (.stmts l)], .tref 1⟩
theorem fit_sub {l : List LStmt} {k : Nat} (hb : szSs l ≤ 1048576) (h : (k : Int) < l.length) : szE (l.getD k default).index ≤ 1048576 ∧ szE (l.getD k default).value ≤ 1048576 ∧ szSs (l.getD k default).body ≤ 1048576 ∧ szSs (l.getD k default).els ≤ 1048576 := by
  have h1 := szS_mem (getS_mem h)
  generalize l.getD k default = s at *
  rcases s with ⟨_, _, i, v, _, b, e⟩
  simp only [szS] at h1
  simp only [LStmt.index, LStmt.value, LStmt.body, LStmt.els]
  omega
set_option maxRecDepth 100000 in
theorem s_copySS (l : List LStmt) (hb : szSs l ≤ 1048576) (ih1 : ∀ (s : LStmt), s ∈ l → Ctr.ok Try.prog (cpsC s.body)) (ih2 : ∀ (s : LStmt), s ∈ l → Ctr.ok Try.prog (cpsC s.els)) : Ctr.ok Try.prog (cpsC l) := by
  refine rx_enter 38 Try.func126 (by rfl) (by kernel_rfl) (by kernel_rfl) ?_; intro ι φ ψ w0 w F ρ0 ρ a G; replace G := Gam.at G [dT l] [(0, .ref 0)]; have hl := block_fit hb; refine wp_seq ?_; refine rs0s G [(0, .ref 0), (2, .v (.slice none 0 0))] fun ρ a w G => th_n (wp_seq ?_); refine rs0 G [0, 1] [dT l, .tree (D.stmts [])] [(0, .ref 0), (2, .v (.slice none 0 0)), (3, .tref 1)] fun ρ a w G => th_n (wp_seq (wp_seq ?_)); refine rs0s G [(0, .ref 0), (2, .v (.slice none 0 0)), (3, .tref 1), (4, iA 0)] fun ρ a w G => th_n (wp_block ?_); refine rx_for (κ := Nat) (fun k => k ≤ l.length) (fun k => l.length - k) (fun k => [dT l, .tree (.stmts (l.take k))]) (fun k => [(0, .ref 0), (2, .v (.slice none 0 0)), (3, .tref 1), (4, iA k)]) (0) (by omega) (Gam.at G _ _) ?_; clear G; intro k ρ a w hp G; replace G := Gam.at G [dT l, .tree (D.stmts (List.take k l))] [(0, .ref 0), (2, .v (.slice none 0 0)), (3, .tref 1), (4, iA (↑k : Int))]; refine wp_seq (wp_seq ?_); refine rs0s G [(0, .ref 0), (2, .v (.slice none 0 0)), (3, .tref 1), (4, iA (↑k : Int)), (10, bA (decide ((↑k : Int) < (↑l.length : Int))))] fun ρ a w G => th_n ?_; cases h0 : (decide ((↑k : Int) < (↑l.length : Int)))
  · have q0 : ¬ ((↑k : Int) < (↑l.length : Int)) := dFf h0; refine rF G (decide ((↑k : Int) < (↑l.length : Int))) (by assumption) ?_; refine wp_exit (th_e (th_e (bl_hit (th_n (wp_seq ?_))))); refine rs0s G [(2, .tref 1)] fun ρ a w G => th_n (wp_ret ?_); exact rx_ret (v := .tref 1) G [0, 1] (by kernel_rfl) (by kernel_rfl) (by show _ = List.map (It.ren (nth [0, 1])) [dT l, .tree (D.stmts l)]; have e1 : (List.take k l : List LStmt) = (l) := (by exact take_is hp (by assumption)); (first | rw [e1] | simp only [e1]) <;> rfl) (by kernel_rfl)
  ·
   have q0 : (↑k : Int) < (↑l.length : Int) := dTt h0; refine rT G (decide ((↑k : Int) < (↑l.length : Int))) (by assumption) ?_; refine wp_skip (th_n (wp_seq (wp_block (wp_seq ?_)))); refine rs1 (dk := dkP) G ⟨[], [], []⟩ calls_nil trivial [0, 1, 26, 27, 28, 29, 34] [dT l, .tree (D.stmts (List.take k l)), dE (l.getD k default).index.kids, dE (l.getD k default).value.kids, dT (l.getD k default).body, dT (l.getD k default).els, .box (sL (l.getD k default) 2)] [(0, .ref 0), (2, .v (.slice none 0 0)), (3, .tref 1), (4, iA (↑k : Int)), (5, .ptr 6 0)] [(0 : Int) ≤ (↑k : Int), (↑k : Int) < (↑l.length : Int), k < l.length] ⟨(by simp [h0]), (by assumption), (by have := len1 (x := (default : LStmt)) hp hl; simp only [List.length_cons, List.length_nil] at this ⊢; omega), trivial⟩ fun ρ a w G => th_n (wp_seq ?_); refine rs1 (dk := dkP) G ⟨[(2, _, [2])], [], []⟩ (calls_cons (c_copyE ((l.getD k default).index) (by exact (fit_sub hb (by assumption)).1)) calls_nil) trivial [0, 1, 3, 4, 5, 6, 23] [dT l, .tree (D.stmts (List.take k l)), dE (l.getD k default).value.kids, dT (l.getD k default).body, dT (l.getD k default).els, .box [iA (l.getD k default).kind, iA (l.getD k default).target, iA (l.getD k default).index.kind, iA (l.getD k default).index.value, .tref 6, iA (l.getD k default).value.kind, iA (l.getD k default).value.value, .ref 2, iA (l.getD k default).count, .ref 3, .ref 4], .tree (D.exprs (l.getD k default).index.kids)] [(0, .ref 0), (2, .v (.slice none 0 0)), (3, .tref 1), (4, iA (↑k : Int)), (5, .ptr 5 0)] [] trivial fun ρ a w G => th_n (wp_seq ?_); refine rs1 (dk := dkP) G ⟨[(2, _, [2])], [], []⟩ (calls_cons (c_copyE ((l.getD k default).value) (by exact (fit_sub hb (by assumption)).2.1)) calls_nil) trivial [0, 1, 3, 4, 5, 6, 23] [dT l, .tree (D.stmts (List.take k l)), dT (l.getD k default).body, dT (l.getD k default).els, .box [iA (l.getD k default).kind, iA (l.getD k default).target, iA (l.getD k default).index.kind, iA (l.getD k default).index.value, .tref 5, iA (l.getD k default).value.kind, iA (l.getD k default).value.value, .tref 6, iA (l.getD k default).count, .ref 2, .ref 3], .tree (D.exprs (l.getD k default).index.kids), .tree (D.exprs (l.getD k default).value.kids)] [(0, .ref 0), (2, .v (.slice none 0 0)), (3, .tref 1), (4, iA (↑k : Int)), (5, .ptr 4 0)] [] trivial fun ρ a w G => th_n (wp_seq ?_); refine rs1 (dk := dkP) G ⟨[(2, _, [2])], [], []⟩ (calls_cons (ih1 (l.getD k default) (by exact getS_mem (by assumption))) calls_nil) trivial [0, 1, 3, 4, 5, 6, 23] [dT l, .tree (D.stmts (List.take k l)), dT (l.getD k default).els, .box [iA (l.getD k default).kind, iA (l.getD k default).target, iA (l.getD k default).index.kind, iA (l.getD k default).index.value, .tref 4, iA (l.getD k default).value.kind, iA (l.getD k default).value.value, .tref 5, iA (l.getD k default).count, .tref 6, .ref 2], .tree (D.exprs (l.getD k default).index.kids), .tree (D.exprs (l.getD k default).value.kids), .tree (D.stmts (l.getD k default).body)] [(0, .ref 0), (2, .v (.slice none 0 0)), (3, .tref 1), (4, iA (↑k : Int)), (5, .ptr 3 0)] [] trivial fun ρ a w G => th_n (wp_seq ?_); refine rs1 (dk := dkP) G ⟨[(2, _, [2])], [], []⟩ (calls_cons (ih2 (l.getD k default) (by exact getS_mem (by assumption))) calls_nil) trivial [0, 1, 3, 4, 5, 6, 23] [dT l, .tree (D.stmts (List.take k l)), .box [iA (l.getD k default).kind, iA (l.getD k default).target, iA (l.getD k default).index.kind, iA (l.getD k default).index.value, .tref 3, iA (l.getD k default).value.kind, iA (l.getD k default).value.value, .tref 4, iA (l.getD k default).count, .tref 5, .tref 6], .tree (D.exprs (l.getD k default).index.kids), .tree (D.exprs (l.getD k default).value.kids), .tree (D.stmts (l.getD k default).body), .tree (D.stmts (l.getD k default).els)] [(0, .ref 0), (2, .v (.slice none 0 0)), (3, .tref 1), (4, iA (↑k : Int)), (5, .ptr 2 0)] [] trivial ?_
   clear G; intro ρ a w G; refine th_n ?_; refine rs1 (dk := dkP) G ⟨[], [], []⟩ calls_nil trivial [0, 31] [dT l, .tree (D.stmts (List.take k l ++ [LStmt.mk (l.getD k default).kind (l.getD k default).target (LExpr.mk (l.getD k default).index.kind (l.getD k default).index.value (l.getD k default).index.kids) (LExpr.mk (l.getD k default).value.kind (l.getD k default).value.value (l.getD k default).value.kids) (l.getD k default).count (l.getD k default).body (l.getD k default).els]))] [(0, .ref 0), (2, .v (.slice none 0 0)), (3, .tref 1), (4, iA (↑k : Int))] [(List.take k l).length + [LStmt.mk (l.getD k default).kind (l.getD k default).target (LExpr.mk (l.getD k default).index.kind (l.getD k default).index.value (l.getD k default).index.kids) (LExpr.mk (l.getD k default).value.kind (l.getD k default).value.value (l.getD k default).value.kids) (l.getD k default).count (l.getD k default).body (l.getD k default).els].length ≤ (9223372036854775807 : Nat), ((List.take k l).length + [LStmt.mk (l.getD k default).kind (l.getD k default).target (LExpr.mk (l.getD k default).index.kind (l.getD k default).index.value (l.getD k default).index.kids) (LExpr.mk (l.getD k default).value.kind (l.getD k default).value.value (l.getD k default).value.kids) (l.getD k default).count (l.getD k default).body (l.getD k default).els].length) * (152 : Nat) ≤ (140737488355328 : Nat)] ⟨(by have := len1 (x := (default : LStmt)) hp hl; simp only [List.length_cons, List.length_nil] at this ⊢; omega), (by exact fitB (len1 hp hl) (by kernel_rfl)), trivial⟩ ?_; intro ρ a w G; refine bl_n ?_; refine th_n ?_; refine rs1s G ⟨[], [], []⟩ calls_nil trivial [(0, .ref 0), (2, .v (.slice none 0 0)), (3, .tref 1), (4, iA ((↑k : Int) + 1))] [IntKind.i64.wrap ((↑k : Int) + (1 : Int)) = (↑k : Int) + (1 : Int)] ⟨(by exact w64 (by omega) (by omega)), trivial⟩ fun ρ a w G => th_n ?_; exact rx_next G (k + 1) (by have := len1 (x := (default : LStmt)) hp hl; simp only [List.length_cons, List.length_nil] at this ⊢; omega) (by have := len1 (x := (default : LStmt)) hp hl; simp only [List.length_cons, List.length_nil] at this ⊢; omega) [0, 1] [dT l, .tree (D.stmts (List.take (k + 1) l))] [(0, .ref 0), (2, .v (.slice none 0 0)), (3, .tref 1), (4, iA (↑(k + 1) : Int))] (by kernel_rfl) (by kernel_rfl) (by kernel_rfl) (by have e1 : (List.take (k + 1) l : List LStmt) = (List.take k l ++ [LStmt.mk (l.getD k default).kind (l.getD k default).target (LExpr.mk (l.getD k default).index.kind (l.getD k default).index.value (l.getD k default).index.kids) (LExpr.mk (l.getD k default).value.kind (l.getD k default).value.value (l.getD k default).value.kids) (l.getD k default).count (l.getD k default).body (l.getD k default).els]) := (by exact (takeS (by omega)).symm); (first | rw [e1] | simp only [e1]) <;> rfl) (by kernel_rfl)

theorem c_copyS (l : List LStmt) : szSs l ≤ 1048576 → Ctr.ok Try.prog (cpsC l) := fun hb => s_copySS l hb
  (fun s hs => (c_copyS2 s).1 (Nat.le_trans (Nat.le_of_lt (szS_mem hs)) hb)) fun s hs => (c_copyS2 s).2 (Nat.le_trans (Nat.le_of_lt (szS_mem hs)) hb)
where
  c_copyS2 (s : LStmt) : (szS s ≤ 1048576 → Ctr.ok Try.prog (cpsC s.body)) ∧ (szS s ≤ 1048576 → Ctr.ok Try.prog (cpsC s.els)) :=
    LStmt.ind (P := fun s => (szS s ≤ 1048576 → Ctr.ok Try.prog (cpsC s.body)) ∧ (szS s ≤ 1048576 → Ctr.ok Try.prog (cpsC s.els))) (fun k t i v c b e h1 h2 => by
      have hz : szS ⟨k, t, i, v, c, b, e⟩ = szE i + szE v + szSs b + szSs e := rfl
      constructor
      · intro hb
        refine s_copySS b (by omega) (fun s hs => (h1 s hs).1 ?_) fun s hs => (h1 s hs).2 ?_
        · have := szS_mem hs; omega
        · have := szS_mem hs; omega
      · intro hb
        refine s_copySS e (by omega) (fun s hs => (h2 s hs).1 ?_) fun s hs => (h2 s hs).2 ?_
        · have := szS_mem hs; omega
        · have := szS_mem hs; omega) s

set_option maxRecDepth 100000 in
theorem c_l2Copy (p : LProg) (hb : p.size ≤ 1048576) : Ctr.ok Try.prog ⟨91, [pA 0], pS p, pS p ++ oP p, oA 3⟩ := by
  refine rx_enter 15 Try.func91 (by rfl) (by kernel_rfl) (by kernel_rfl) ?_; intro ι φ ψ w0 w F ρ0 ρ a G; replace G := Gam.at G [dI p.vars, dI p.arrays, dT p.body] [(0, pA 0)]
  have hb1 : p.vars.length ≤ 1048576 ∧ p.arrays.length ≤ 1048576 ∧ szSs p.body ≤ 1048576 := by unfold LProg.size at hb; omega
  refine wp_seq ?_; refine rs0 G [0, 1, 2, 3, 11] [dI p.vars, dI p.arrays, dT p.body, .box (pL 0), .box [.v (.slice none 0 0), .v (.slice none 0 0), .v (.slice none 0 0)]] [(1, .ptr 3 0), (2, .ptr 4 0)] fun ρ a w G => th_n (wp_seq ?_); refine rd1 (dk := dkP) G ⟨[(10, _, [2])], [], []⟩ (calls_cons (c_copyS (p.body) (by exact hb1.2.2)) calls_nil) trivial [0, 0, 2, 7, 0, 0, 32, 127, 0, 256, 1023, 2047, 4095] [0, 1, 2, 4, 29, 61, 85] [dI p.vars, dI p.arrays, dT p.body, .box [.ref 4, .ref 5, .tref 6], .row 3 (D.ints ([] ++ p.vars)), .row 3 (D.ints ([] ++ p.arrays)), .tree (D.stmts p.body)] [(2, .ptr 3 0)] [(0 : Nat) + p.vars.length ≤ (9223372036854775807 : Nat), ((0 : Nat) + p.vars.length) * (8 : Nat) ≤ (140737488355328 : Nat), (0 : Nat) + p.arrays.length ≤ (9223372036854775807 : Nat), ((0 : Nat) + p.arrays.length) * (8 : Nat) ≤ (140737488355328 : Nat)] ⟨(by omega), (by omega), (by omega), (by omega), trivial⟩ fun ρ a w G => th_n (wp_ret ?_); exact rx_ret (v := .agg [.ref 4, .ref 5, .tref 6]) G [0, 1, 2, 4, 5, 6] (by kernel_rfl) (by kernel_rfl) (by kernel_rfl) (by kernel_rfl)


abbrev owC (e : LExpr) : Ctr := ⟨148, [eA e 0], eS e, eS e ++ [.tree (.exprs e.kids)], .agg [iA e.kind, iA e.value, .tref 1]⟩
abbrev yRvQ0 : It := .box [iA 0, iA 0, .v (.slice none 0 0)]
abbrev yRvQ1 (e : LExpr) : It := .box [iA e.kind, iA e.value, .tref 3]
set_option maxRecDepth 100000 in
theorem s_ownE (e : LExpr) (hb : szE e ≤ 1048576) (ih : ∀ (x : LExpr), x ∈ e.kids → Ctr.ok Try.prog (owC x)) : Ctr.ok Try.prog (owC e) := by
  refine rx_enter 27 Try.func148 (by rfl) (by kernel_rfl) (by kernel_rfl) ?_; intro ι φ ψ w0 w F ρ0 ρ a G; replace G := Gam.at G [dE e.kids] [(0, eA e 0)]; have hl := kids_fit hb; refine wp_seq ?_; refine rs0 G [0, 1, 9] [dE e.kids, .box (eL e 0), yRvQ0] [(1, .ptr 1 0), (2, .ptr 2 0)] fun ρ a w G => th_n (wp_seq ?_); refine rs0 G [0, 1, 2, 43] [dE e.kids, .box (eL e 0), yRvQ0, .box [iA e.kind, iA e.value, .v (.slice none 0 0)]] [(1, .ptr 1 0), (2, .ptr 2 0), (3, .ptr 3 0)] fun ρ a w G => th_n (wp_seq (wp_seq ?_)); refine rs0 G [0, 2, 3] [dE e.kids, yRvQ0, .box [iA e.kind, iA e.value, .v (.slice none 0 0)]] [(2, .ptr 1 0), (3, .ptr 2 0), (12, .ref 0), (13, iA (↑e.kids.length : Int)), (14, iA 0)] fun ρ a w G => th_n (wp_block ?_); have Gx := G.nilT 3 (.exprs []) [dE e.kids, yRvQ0, yRvQ1 e] [(2, .ptr 1 0), (3, .ptr 2 0), (12, .ref 0), (13, iA (↑e.kids.length : Int)), (14, iA 0)]; clear G; obtain ⟨ρ, G⟩ := Gx; replace G := Gam.at G [dE e.kids, yRvQ0, yRvQ1 e, .tree (D.exprs [])] [(2, .ptr 1 0), (3, .ptr 2 0), (12, .ref 0), (13, iA (↑e.kids.length : Int)), (14, iA 0)]; refine rx_for (κ := Nat) (fun k => k ≤ e.kids.length) (fun k => e.kids.length - k) (fun k => [dE e.kids, yRvQ0, yRvQ1 e, .tree (.exprs (e.kids.take k))]) (fun k => [(2, .ptr 1 0), (3, .ptr 2 0), (12, .ref 0), (13, iA (↑e.kids.length : Int)), (14, iA k)]) (0) (by omega) (Gam.at G _ _) ?_; clear G; intro k ρ a w hp G; replace G := Gam.at G [dE e.kids, yRvQ0, yRvQ1 e, .tree (D.exprs (List.take k e.kids))] [(2, .ptr 1 0), (3, .ptr 2 0), (12, .ref 0), (13, iA (↑e.kids.length : Int)), (14, iA (↑k : Int))]; refine wp_seq ?_; refine rs0s G [(2, .ptr 1 0), (3, .ptr 2 0), (12, .ref 0), (13, iA (↑e.kids.length : Int)), (14, iA (↑k : Int)), (15, bA (decide ((↑k : Int) < (↑e.kids.length : Int))))] fun ρ a w G => th_n (wp_seq ?_); cases h0 : (decide ((↑k : Int) < (↑e.kids.length : Int)))
  · have q0 : ¬ ((↑k : Int) < (↑e.kids.length : Int)) := dFf h0; refine rF G (decide ((↑k : Int) < (↑e.kids.length : Int))) (by assumption) ?_; refine wp_exit (th_e (th_e (bl_hit (th_n (wp_seq ?_))))); refine rs0 G [0, 1, 3] [dE e.kids, .box [iA e.kind, iA e.value, .tref 2], .tree (D.exprs (List.take k e.kids))] [(2, .ptr 1 0)] fun ρ a w G => th_n (wp_ret ?_); exact rx_ret (v := .agg [iA e.kind, iA e.value, .tref 2]) G [0, 2] (by kernel_rfl) (by kernel_rfl) (by show _ = List.map (It.ren (nth [0, 2])) [dE e.kids, .tree (D.exprs e.kids)]; have e1 : (List.take k e.kids : List LExpr) = (e.kids) := (by exact take_is hp (by assumption)); (first | rw [e1] | simp only [e1]) <;> rfl) (by kernel_rfl)
  · have q0 : (↑k : Int) < (↑e.kids.length : Int) := dTt h0; refine rT G (decide ((↑k : Int) < (↑e.kids.length : Int))) (by assumption) ?_; refine wp_skip (th_n (wp_seq (wp_block (wp_seq ?_)))); refine rs1 (dk := dkP) G ⟨[], [], []⟩ calls_nil trivial [0, 1, 2, 3, 12, 20] [dE e.kids, yRvQ0, yRvQ1 e, .tree (D.exprs (List.take k e.kids)), dE (e.kids.getD k default).kids, .box (eL (e.kids.getD k default) 4)] [(2, .ptr 1 0), (3, .ptr 2 0), (5, .ptr 5 0), (12, .ref 0), (13, iA (↑e.kids.length : Int)), (14, iA (↑k : Int))] [(0 : Int) ≤ (↑k : Int), (↑k : Int) < (↑e.kids.length : Int), k < e.kids.length] ⟨(by simp [h0]), (by assumption), (by have := len1 (x := (default : LExpr)) hp hl; simp only [List.length_cons, List.length_nil] at this ⊢; omega), trivial⟩ fun ρ a w G => th_n ?_; refine rd1 (dk := dkP) G ⟨[(3, _, [4])], [], []⟩ (calls_cons (ih (e.kids.getD k default) (by exact getE_mem (by assumption))) calls_nil) trivial [0, 1, 0, 4, 12, 31, 63, 127] [0, 1, 2, 46] [dE e.kids, yRvQ0, yRvQ1 e, .tree (D.exprs (List.take k e.kids ++ [LExpr.mk (e.kids.getD k default).kind (e.kids.getD k default).value (e.kids.getD k default).kids]))] [(2, .ptr 1 0), (3, .ptr 2 0), (12, .ref 0), (13, iA (↑e.kids.length : Int)), (14, iA (↑k : Int))] [(List.take k e.kids).length + [LExpr.mk (e.kids.getD k default).kind (e.kids.getD k default).value (e.kids.getD k default).kids].length ≤ (9223372036854775807 : Nat), ((List.take k e.kids).length + [LExpr.mk (e.kids.getD k default).kind (e.kids.getD k default).value (e.kids.getD k default).kids].length) * (40 : Nat) ≤ (140737488355328 : Nat)] ⟨(by have := len1 (x := (default : LExpr)) hp hl; simp only [List.length_cons, List.length_nil] at this ⊢; omega), (by exact fitB (len1 hp hl) (by kernel_rfl)), trivial⟩ ?_; intro ρ a w G; refine bl_n ?_; refine th_n ?_; refine rs1s G ⟨[], [], []⟩ calls_nil trivial [(2, .ptr 1 0), (3, .ptr 2 0), (12, .ref 0), (13, iA (↑e.kids.length : Int)), (14, iA ((↑k : Int) + 1))] [IntKind.i64.wrap ((↑k : Int) + (1 : Int)) = (↑k : Int) + (1 : Int)] ⟨(by exact w64 (by omega) (by omega)), trivial⟩ fun ρ a w G => th_n ?_; exact rx_next G (k + 1) (by have := len1 (x := (default : LExpr)) hp hl; simp only [List.length_cons, List.length_nil] at this ⊢; omega) (by have := len1 (x := (default : LExpr)) hp hl; simp only [List.length_cons, List.length_nil] at this ⊢; omega) (rg 4) [dE e.kids, .box [iA 0, iA 0, .v (.slice none 0 0)], .box [iA e.kind, iA e.value, .tref 3], .tree (D.exprs (List.take (k + 1) e.kids))] [(2, .ptr 1 0), (3, .ptr 2 0), (12, .ref 0), (13, iA (↑e.kids.length : Int)), (14, iA (↑(k + 1) : Int))] (by kernel_rfl) (by kernel_rfl) (by kernel_rfl) (by have e1 : (List.take (k + 1) e.kids : List LExpr) = (List.take k e.kids ++ [LExpr.mk (e.kids.getD k default).kind (e.kids.getD k default).value (e.kids.getD k default).kids]) := (by exact (takeE (by omega)).symm); (first | rw [e1] | simp only [e1]) <;> rfl) (by kernel_rfl)

theorem c_ownE (e : LExpr) : szE e ≤ 1048576 → Ctr.ok Try.prog (owC e) :=
  LExpr.ind (P := fun e => szE e ≤ 1048576 → Ctr.ok Try.prog (owC e)) (fun k n ks ih hb => s_ownE ⟨k, n, ks⟩ hb fun x hx => ih x hx (by
    have h1 := szE_mem (show x ∈ ks from hx)
    have h2 : szE ⟨k, n, ks⟩ = szEs ks := rfl
    omega)) e

abbrev owsC (l : List LStmt) : Ctr := ⟨125, [.ref 0], [dT l], [dT l, .tree (.stmts l)], .tref 1⟩
set_option maxRecDepth 100000 in
theorem s_ownS (l : List LStmt) (hb : szSs l ≤ 1048576) (ih1 : ∀ (s : LStmt), s ∈ l → Ctr.ok Try.prog (owsC s.body)) (ih2 : ∀ (s : LStmt), s ∈ l → Ctr.ok Try.prog (owsC s.els)) : Ctr.ok Try.prog (owsC l) := by
  refine rx_enter 36 Try.func125 (by rfl) (by kernel_rfl) (by kernel_rfl) ?_; intro ι φ ψ w0 w F ρ0 ρ a G; replace G := Gam.at G [dT l] [(0, .ref 0)]; have hl := block_fit hb; refine wp_seq ?_; refine rs0s G [(0, .ref 0), (2, .v (.slice none 0 0))] fun ρ a w G => th_n (wp_seq ?_); refine rs0s G [(0, .ref 0), (2, .v (.slice none 0 0)), (3, .v (.slice none 0 0))] fun ρ a w G => th_n (wp_seq (wp_seq ?_)); refine rs0s G [(2, .v (.slice none 0 0)), (3, .v (.slice none 0 0)), (6, .ref 0), (7, iA (↑l.length : Int)), (8, iA 0)] fun ρ a w G => th_n (wp_block ?_); have Gx := G.nilT 1 (.stmts []) [dT l] [(2, .v (.slice none 0 0)), (3, .tref 1), (6, .ref 0), (7, iA (↑l.length : Int)), (8, iA 0)]; clear G; obtain ⟨ρ, G⟩ := Gx; replace G := Gam.at G [dT l, .tree (D.stmts [])] [(2, .v (.slice none 0 0)), (3, .tref 1), (6, .ref 0), (7, iA (↑l.length : Int)), (8, iA 0)]; refine rx_for (κ := Nat) (fun k => k ≤ l.length) (fun k => l.length - k) (fun k => [dT l, .tree (.stmts (l.take k))]) (fun k => [(2, .v (.slice none 0 0)), (3, .tref 1), (6, .ref 0), (7, iA (↑l.length : Int)), (8, iA k)]) (0) (by omega) (Gam.at G _ _) ?_; clear G; intro k ρ a w hp G; replace G := Gam.at G [dT l, .tree (D.stmts (List.take k l))] [(2, .v (.slice none 0 0)), (3, .tref 1), (6, .ref 0), (7, iA (↑l.length : Int)), (8, iA (↑k : Int))]; refine wp_seq ?_; refine rs0s G [(2, .v (.slice none 0 0)), (3, .tref 1), (6, .ref 0), (7, iA (↑l.length : Int)), (8, iA (↑k : Int)), (9, bA (decide ((↑k : Int) < (↑l.length : Int))))] fun ρ a w G => th_n (wp_seq ?_); cases h0 : (decide ((↑k : Int) < (↑l.length : Int)))
  · have q0 : ¬ ((↑k : Int) < (↑l.length : Int)) := dFf h0; refine rF G (decide ((↑k : Int) < (↑l.length : Int))) (by assumption) ?_; refine wp_exit (th_e (th_e (bl_hit (th_n (wp_seq ?_))))); refine rs0s G [(2, .tref 1)] fun ρ a w G => th_n (wp_ret ?_); exact rx_ret (v := .tref 1) G [0, 1] (by kernel_rfl) (by kernel_rfl) (by show _ = List.map (It.ren (nth [0, 1])) [dT l, .tree (D.stmts l)]; have e1 : (List.take k l : List LStmt) = (l) := (by exact take_is hp (by assumption)); (first | rw [e1] | simp only [e1]) <;> rfl) (by kernel_rfl)
  · have q0 : (↑k : Int) < (↑l.length : Int) := dTt h0; refine rT G (decide ((↑k : Int) < (↑l.length : Int))) (by assumption) ?_; refine wp_skip (th_n (wp_seq (wp_block (wp_seq ?_)))); refine rs1 (dk := dkP) G ⟨[], [], []⟩ calls_nil trivial [0, 1, 10, 11, 12, 13, 18] [dT l, .tree (D.stmts (List.take k l)), dE (l.getD k default).index.kids, dE (l.getD k default).value.kids, dT (l.getD k default).body, dT (l.getD k default).els, .box (sL (l.getD k default) 2)] [(2, .v (.slice none 0 0)), (3, .tref 1), (5, .ptr 6 0), (6, .ref 0), (7, iA (↑l.length : Int)), (8, iA (↑k : Int))] [(0 : Int) ≤ (↑k : Int), (↑k : Int) < (↑l.length : Int), k < l.length] ⟨(by simp [h0]), (by assumption), (by have := len1 (x := (default : LStmt)) hp hl; simp only [List.length_cons, List.length_nil] at this ⊢; omega), trivial⟩ fun ρ a w G => th_n ?_; refine rd1 (dk := dkP) G ⟨[(7, _, [2]), (10, _, [3]), (15, _, [4]), (18, _, [5])], [], []⟩ (calls_cons (c_ownE ((l.getD k default).index) (by exact (fit_sub hb (by assumption)).1)) (calls_cons (c_ownE ((l.getD k default).value) (by exact (fit_sub hb (by assumption)).2.1)) (calls_cons (ih1 (l.getD k default) (by exact getS_mem (by assumption))) (calls_cons (ih2 (l.getD k default) (by exact getS_mem (by assumption))) calls_nil)))) trivial [0, 0, 2, 0, 8, 0, 32, 96, 0, 256, 992, 0, 2048, 0, 8192, 26592, 0, 65536, 255968, 524286, 1048574, 2097151, 4194303] [0, 175] [dT l, .tree (D.stmts (List.take k l ++ [LStmt.mk (l.getD k default).kind (l.getD k default).target (LExpr.mk (l.getD k default).index.kind (l.getD k default).index.value (l.getD k default).index.kids) (LExpr.mk (l.getD k default).value.kind (l.getD k default).value.value (l.getD k default).value.kids) (l.getD k default).count (l.getD k default).body (l.getD k default).els]))] [(2, .v (.slice none 0 0)), (3, .tref 1), (6, .ref 0), (7, iA (↑l.length : Int)), (8, iA (↑k : Int))] [(List.take k l).length + [LStmt.mk (l.getD k default).kind (l.getD k default).target (LExpr.mk (l.getD k default).index.kind (l.getD k default).index.value (l.getD k default).index.kids) (LExpr.mk (l.getD k default).value.kind (l.getD k default).value.value (l.getD k default).value.kids) (l.getD k default).count (l.getD k default).body (l.getD k default).els].length ≤ (9223372036854775807 : Nat), ((List.take k l).length + [LStmt.mk (l.getD k default).kind (l.getD k default).target (LExpr.mk (l.getD k default).index.kind (l.getD k default).index.value (l.getD k default).index.kids) (LExpr.mk (l.getD k default).value.kind (l.getD k default).value.value (l.getD k default).value.kids) (l.getD k default).count (l.getD k default).body (l.getD k default).els].length) * (152 : Nat) ≤ (140737488355328 : Nat)] ⟨(by have := len1 (x := (default : LStmt)) hp hl; simp only [List.length_cons, List.length_nil] at this ⊢; omega), (by exact fitB (len1 hp hl) (by kernel_rfl)), trivial⟩ ?_; intro ρ a w G; refine bl_n ?_; refine th_n ?_; refine rs1s G ⟨[], [], []⟩ calls_nil trivial [(2, .v (.slice none 0 0)), (3, .tref 1), (6, .ref 0), (7, iA (↑l.length : Int)), (8, iA ((↑k : Int) + 1))] [IntKind.i64.wrap ((↑k : Int) + (1 : Int)) = (↑k : Int) + (1 : Int)] ⟨(by exact w64 (by omega) (by omega)), trivial⟩ fun ρ a w G => th_n ?_; exact rx_next G (k + 1) (by have := len1 (x := (default : LStmt)) hp hl; simp only [List.length_cons, List.length_nil] at this ⊢; omega) (by have := len1 (x := (default : LStmt)) hp hl; simp only [List.length_cons, List.length_nil] at this ⊢; omega) [0, 1] [dT l, .tree (D.stmts (List.take (k + 1) l))] [(2, .v (.slice none 0 0)), (3, .tref 1), (6, .ref 0), (7, iA (↑l.length : Int)), (8, iA (↑(k + 1) : Int))] (by kernel_rfl) (by kernel_rfl) (by kernel_rfl) (by have e1 : (List.take (k + 1) l : List LStmt) = (List.take k l ++ [LStmt.mk (l.getD k default).kind (l.getD k default).target (LExpr.mk (l.getD k default).index.kind (l.getD k default).index.value (l.getD k default).index.kids) (LExpr.mk (l.getD k default).value.kind (l.getD k default).value.value (l.getD k default).value.kids) (l.getD k default).count (l.getD k default).body (l.getD k default).els]) := (by exact (takeS (by omega)).symm); (first | rw [e1] | simp only [e1]) <;> rfl) (by kernel_rfl)

theorem c_ownS (l : List LStmt) : szSs l ≤ 1048576 → Ctr.ok Try.prog (owsC l) := fun hb => s_ownS l hb
  (fun s hs => (own2 s).1 (Nat.le_trans (Nat.le_of_lt (szS_mem hs)) hb)) fun s hs => (own2 s).2 (Nat.le_trans (Nat.le_of_lt (szS_mem hs)) hb)
where
  own2 (s : LStmt) : (szS s ≤ 1048576 → Ctr.ok Try.prog (owsC s.body)) ∧ (szS s ≤ 1048576 → Ctr.ok Try.prog (owsC s.els)) :=
    LStmt.ind (P := fun s => (szS s ≤ 1048576 → Ctr.ok Try.prog (owsC s.body)) ∧ (szS s ≤ 1048576 → Ctr.ok Try.prog (owsC s.els))) (fun k t i v c b e h1 h2 => by
      have hz : szS ⟨k, t, i, v, c, b, e⟩ = szE i + szE v + szSs b + szSs e := rfl
      constructor
      · intro hb
        refine s_ownS b (by omega) (fun s hs => (h1 s hs).1 ?_) fun s hs => (h1 s hs).2 ?_
        · have := szS_mem hs; omega
        · have := szS_mem hs; omega
      · intro hb
        refine s_ownS e (by omega) (fun s hs => (h2 s hs).1 ?_) fun s hs => (h2 s hs).2 ?_
        · have := szS_mem hs; omega
        · have := szS_mem hs; omega) s

set_option maxRecDepth 100000 in
theorem c_own (p : LProg) (hb : p.size ≤ 1048576) : Ctr.ok Try.prog ⟨89, [pA 0], pS p, pS p ++ oP p, oA 3⟩ := by
  refine rx_enter 13 Try.func89 (by rfl) (by kernel_rfl) (by kernel_rfl) ?_; intro ι φ ψ w0 w F ρ0 ρ a G; replace G := Gam.at G [dI p.vars, dI p.arrays, dT p.body] [(0, pA 0)]
  have hb1 : p.vars.length ≤ 1048576 ∧ p.arrays.length ≤ 1048576 ∧ szSs p.body ≤ 1048576 := by unfold LProg.size at hb; omega
  refine wp_seq ?_; refine rs0 G [0, 1, 2, 3, 11] [dI p.vars, dI p.arrays, dT p.body, .box (pL 0), .box [.v (.slice none 0 0), .v (.slice none 0 0), .v (.slice none 0 0)]] [(1, .ptr 3 0), (2, .ptr 4 0)] fun ρ a w G => th_n (wp_seq ?_); refine rd1 (dk := dkP) G ⟨[(2, _, [0]), (5, _, [1]), (8, _, [2])], [], []⟩ (calls_cons (c_cloneInts (p.vars) (by omega)) (calls_cons (c_cloneInts (p.arrays) (by omega)) (calls_cons (c_ownS (p.body) (by exact hb1.2.2)) calls_nil))) trivial [0, 1, 3, 0, 8, 31, 0, 64, 255, 511, 1023] [0, 1, 2, 4, 21, 45, 69] [dI p.vars, dI p.arrays, dT p.body, .box [.ref 4, .ref 5, .tref 6], .row 3 (D.ints p.vars), .row 3 (D.ints p.arrays), .tree (D.stmts p.body)] [(2, .ptr 3 0)] [] trivial fun ρ a w G => th_n (wp_ret ?_); exact rx_ret (v := .agg [.ref 4, .ref 5, .tref 6]) G [0, 1, 2, 4, 5, 6] (by kernel_rfl) (by kernel_rfl) (by kernel_rfl) (by kernel_rfl)



section
variable {p : LProg} {s : LStmt}
end

end Go.Proofs.Ytimmlkmpbmbgdaa
