/-
  Texts of this claim, part 5: what the functions on the way do, and plain laws. Conditions: as each statement says.
-/
import Derived.Test.YtgpkdfefgcpbiaaK4

namespace Go.Proofs.Ytgpkdfefgcpbiaa
set_option linter.unusedVariables false
set_option linter.unusedSimpArgs false
open Go Go.RowKit

/-- Statements one after another, until one is not fine. -/
def foldC (F : Nat → LStmt → Int × Nat) : Nat → List LStmt → Int × Nat
  | c, [] => (0, c)
  | c, s :: r => if (F c s).1 = 0 then foldC F (F c s).2 r else F c s
def innR (p : LProg) (s : LStmt) (pc : Int) : Int := if s.kind = 3 then orI pc (labV p s.value) else pc
def stC (p : LProg) (strict : Bool) : Nat → Int → Nat → LStmt → Int × Nat
  | 0, _, c, _ => (0, c)
  | d + 1, pc, c, s => if ownR p s pc strict = 0 then
      (if (foldC (stC p strict d (innR p s pc)) (c + 1) s.body).1 = 0 then foldC (stC p strict d (innR p s pc)) (foldC (stC p strict d (innR p s pc)) (c + 1) s.body).2 s.els
       else foldC (stC p strict d (innR p s pc)) (c + 1) s.body)
    else (ownR p s pc strict, c)
abbrev blC (p : LProg) (strict : Bool) (d : Nat) (pc : Int) (c : Nat) (ss : List LStmt) : Int × Nat := foldC (stC p strict d pc) c ss
theorem foldC_append (F : Nat → LStmt → Int × Nat) : ∀ (a b : List LStmt) (c : Nat), foldC F c (a ++ b) = if (foldC F c a).1 = 0 then foldC F (foldC F c a).2 b else foldC F c a
  | [], b, c => by simp [foldC]
  | x :: r, b, c => by
    simp only [List.cons_append, foldC]
    by_cases h : (F c x).1 = 0
    · simp only [h, if_true]; exact foldC_append F r b _
    · simp [h]
theorem foldC_next {F : Nat → LStmt → Int × Nat} {c k : Nat} {ss : List LStmt} (h : (foldC F c (ss.take k)).1 = 0) (hk : k < ss.length) : foldC F c (ss.take (k + 1)) = F (foldC F c (ss.take k)).2 (ss.getD k default) := by
  rw [take_succ_get _ _ hk, foldC_append, if_pos h, getD_lt hk]
  simp only [foldC]
  split
  · rename_i h; exact Prod.ext h.symm rfl
  · rfl
theorem foldC_stop {F : Nat → LStmt → Int × Nat} {c k : Nat} {ss : List LStmt} (h : (foldC F c (ss.take k)).1 = 0) (hk : k < ss.length) (hf : ¬ (F (foldC F c (ss.take k)).2 (ss.getD k default)).1 = 0) : foldC F c ss = F (foldC F c (ss.take k)).2 (ss.getD k default) := by
  conv => lhs; rw [← List.take_append_drop (k + 1) ss]
  rw [foldC_append, foldC_next h hk, if_neg hf]
theorem foldC_full {F : Nat → LStmt → Int × Nat} {c k : Nat} {ss : List LStmt} (hk : ss.length ≤ k) : foldC F c ss = foldC F c (ss.take k) := by rw [List.take_of_length_le hk]
theorem foldC_le {F : Nat → LStmt → Int × Nat} (hF : ∀ c s, (F c s).2 ≤ c + nS s) : ∀ (ss : List LStmt) (c : Nat), (foldC F c ss).2 ≤ c + nSs ss
  | [], c => by simp [foldC]
  | s :: r, c => by
    simp only [foldC, nSs]
    have h1 := hF c s
    have h2 := foldC_le hF r (F c s).2
    split <;> omega
theorem stC_le {p : LProg} {strict : Bool} : ∀ (d : Nat) (pc : Int) (c : Nat) (s : LStmt), (stC p strict d pc c s).2 ≤ c + nS s
  | 0, _, c, s => by simp [stC]
  | d + 1, pc, c, s => by
    have hs := nS_def s
    have h1 := foldC_le (stC_le (p := p) (strict := strict) d (innR p s pc)) s.body (c + 1)
    have h2 := foldC_le (stC_le (p := p) (strict := strict) d (innR p s pc)) s.els (foldC (stC p strict d (innR p s pc)) (c + 1) s.body).2
    rw [stC]
    split
    · split <;> omega
    · simp only; omega
theorem blC_le {p : LProg} {strict : Bool} {d : Nat} {pc : Int} {c : Nat} {ss : List LStmt} : (blC p strict d pc c ss).2 ≤ c + nSs ss := foldC_le (stC_le d pc) ss c

theorem bl_at {nv na d k : Nat} {ss : List LStmt} (hs : ss.all (stmtB nv na (d + 1)) = true) (hk : k < ss.length) : headB nv na (ss.getD k default) = true ∧ (ss.getD k default).body.all (stmtB nv na d) = true ∧ (ss.getD k default).els.all (stmtB nv na d) = true := by
  have h := List.all_eq_true.1 hs _ (List.getElem_mem hk)
  rw [stmtB_head, Bool.and_eq_true, Bool.and_eq_true] at h
  rw [getD_lt hk]; exact h
theorem blk_n {k : Nat} {ss : List LStmt} (hk : k < ss.length) : nSs (ss.take k) + (1 + nSs (ss.getD k default).body + nSs (ss.getD k default).els) ≤ nSs ss := by
  have h1 := nSs_take1 hk
  have h2 := nSs_take_le ss (k + 1)
  rw [nS_def] at h1
  rw [getD_lt hk]; omega
section
variable {p : LProg} {strict : Bool} {d c : Nat} {pc : Int} {s : LStmt}
theorem stC_own (h : ¬ ownR p s pc strict = 0) : stC p strict (d + 1) pc c s = (ownR p s pc strict, c) := by rw [stC, if_neg h]
theorem stC_body {x : Int} (h : ownR p s pc strict = 0) (hx : innR p s pc = x) (h2 : ¬ (blC p strict d x (c + 1) s.body).1 = 0) : stC p strict (d + 1) pc c s = blC p strict d x (c + 1) s.body := by
  subst hx; rw [stC, if_pos h, if_neg h2]
theorem stC_els {x : Int} (h : ownR p s pc strict = 0) (hx : innR p s pc = x) (h2 : (blC p strict d x (c + 1) s.body).1 = 0) : stC p strict (d + 1) pc c s = blC p strict d x (blC p strict d x (c + 1) s.body).2 s.els := by
  subst hx; rw [stC, if_pos h, if_pos h2]
theorem inn_if (k : s.kind = 3) : innR p s pc = orI pc (labV p s.value) := if_pos k
theorem inn_no (k : ¬ s.kind = 3) : innR p s pc = pc := if_neg k
end

theorem bl_bound {p : LProg} {strict : Bool} {d k c : Nat} {pc : Int} {ss : List LStmt} (hc : c + nSs ss ≤ 4000000) (hk : k < ss.length) : (blC p strict (d + 1) pc c (ss.take k)).2 + 1 + nSs (ss.getD k default).body ≤ 4000000 := by
  have h1 := blk_n (k := k) (ss := ss) hk
  have h2 := blC_le (p := p) (strict := strict) (d := d + 1) (pc := pc) (c := c) (ss := ss.take k)
  omega
theorem bl_bound2 {p : LProg} {strict : Bool} {d k c : Nat} {pc x : Int} {ss : List LStmt} (hc : c + nSs ss ≤ 4000000) (hk : k < ss.length) : (blC p strict d x ((blC p strict (d + 1) pc c (ss.take k)).2 + 1) (ss.getD k default).body).2 + nSs (ss.getD k default).els ≤ 4000000 := by
  have h1 := blk_n (k := k) (ss := ss) hk
  have h2 := blC_le (p := p) (strict := strict) (d := d + 1) (pc := pc) (c := c) (ss := ss.take k)
  have h3 := blC_le (p := p) (strict := strict) (d := d) (pc := x) (c := (blC p strict (d + 1) pc c (ss.take k)).2 + 1) (ss := (ss.getD k default).body)
  omega
theorem bl_wrap {p : LProg} {strict : Bool} {d k c : Nat} {pc : Int} {ss : List LStmt} (hc : c + nSs ss ≤ 4000000) (hk : k < ss.length) : IntKind.i64.wrap (((blC p strict (d + 1) pc c (ss.take k)).2 : Int) + 1) = ((blC p strict (d + 1) pc c (ss.take k)).2 : Int) + 1 := by
  have h1 := bl_bound (p := p) (strict := strict) (d := d) (pc := pc) hc hk
  exact w64 (by omega) (by omega)

abbrev blkC (p : LProg) (d : Nat) (ss : List LStmt) (pc : Int) (c : Nat) (strict : Bool) : Ctr := fnC 129 [pA 0, .ref 3, iA pc, iA c, bA strict] (pS p ++ [.dat (.stmts ss)]) (.tup [iA (blC p strict d pc c ss).1, iA (blC p strict d pc c ss).2])

set_option maxRecDepth 100000 in
theorem c_l4Block0 (p : LProg) (pc : Int) (c : Nat) (strict : Bool) : Ctr.ok Try.prog (blkC p 0 [] pc c strict) := by
  refine rx_enter 74 Try.func129 (by rfl) (by kernel_rfl) (by kernel_rfl) ?_
  intro ι φ ψ w0 w F ρ0 ρ a G
  replace G := Gam.at G [dI p.vars, dI p.arrays, dT p.body, dT []] [(0, pA 0), (1, .ref 3), (2, iA pc), (3, iA (↑c : Int)), (4, bA strict)]
  refine wp_seq ?_
  refine rs0 G [0, 1, 2, 3, 4] [dI p.vars, dI p.arrays, dT p.body, dT [], .box (pL 0)] [(1, .ref 3), (2, iA pc), (3, iA (↑c : Int)), (4, bA strict), (5, .ptr 4 0), (10, iA 0), (11, iA 0)] ?_
  clear G; intro ρ a w G
  refine th_n ?_
  refine wp_seq ?_
  refine wp_seq ?_
  refine rs0s G [(1, .ref 3), (2, iA pc), (3, iA (↑c : Int)), (4, bA strict), (5, .ptr 4 0), (10, iA 0), (11, iA 0), (12, iA 0)] ?_
  clear G; intro ρ a w G
  refine th_n ?_
  refine wp_block ?_
  refine rx_for (κ := Nat) (fun k => k = 0) (fun k => 0) (fun k => [dI p.vars, dI p.arrays, dT p.body, dT [], .box (pL 0)]) (fun k => [(1, .ref 3), (2, iA pc), (3, iA (↑c : Int)), (4, bA strict), (5, .ptr 4 0), (10, iA 0), (11, iA 0), (12, iA 0)]) (0) (by kernel_rfl) (Gam.at G _ _) ?_
  clear G
  intro k ρ a w hp G
  replace G := Gam.at G [dI p.vars, dI p.arrays, dT p.body, dT [], .box (pL 0)] [(1, .ref 3), (2, iA pc), (3, iA (↑c : Int)), (4, bA strict), (5, .ptr 4 0), (10, iA 0), (11, iA 0), (12, iA 0)]
  refine wp_seq ?_
  refine wp_seq ?_
  refine rs0s G [(1, .ref 3), (2, iA pc), (3, iA (↑c : Int)), (4, bA strict), (5, .ptr 4 0), (10, iA 0), (11, iA 0), (12, iA 0), (19, bA false)] ?_
  clear G; intro ρ a w G
  refine th_n ?_
  refine rF G (false) (by kernel_rfl) ?_
  refine wp_exit ?_
  refine th_e ?_
  refine th_e ?_
  refine bl_hit ?_
  refine th_n ?_
  refine wp_seq ?_
  refine rs0 G [0, 1, 2, 3] [dI p.vars, dI p.arrays, dT p.body, dT []] [(10, iA 0), (11, iA (↑c : Int))] ?_
  clear G; intro ρ a w G
  refine th_n ?_
  refine wp_ret ?_
  exact rx_ret (v := .tup [iA 0, iA (↑c : Int)]) G [0, 1, 2, 3] (by kernel_rfl) (by kernel_rfl) (by kernel_rfl) (by kernel_rfl)

set_option maxHeartbeats 4000000 in
set_option maxRecDepth 100000 in
theorem c_l4BlockS (p : LProg) (d : Nat) (strict : Bool) (ih : ∀ (ss : List LStmt) (pc : Int) (c : Nat), ss.all (stmtB p.vars.length p.arrays.length d) = true → c + nSs ss ≤ 4000000 → Ctr.ok Try.prog (blkC p d ss pc c strict))
    (ss : List LStmt) (pc : Int) (c : Nat) (hs : ss.all (stmtB p.vars.length p.arrays.length (d + 1)) = true) (hc : c + nSs ss ≤ 4000000) : Ctr.ok Try.prog (blkC p (d + 1) ss pc c strict) := by
  refine rx_enter 74 Try.func129 (by rfl) (by kernel_rfl) (by kernel_rfl) ?_
  intro ι φ ψ w0 w F ρ0 ρ a G
  replace G := Gam.at G [dI p.vars, dI p.arrays, dT p.body, dT ss] [(0, pA 0), (1, .ref 3), (2, iA pc), (3, iA (↑c : Int)), (4, bA strict)]
  have hlen : ss.length ≤ 9223372036854775807 := G.len 3 (d := .stmts ss) (by kernel_rfl)
  refine wp_seq ?_
  refine rs0 G [0, 1, 2, 3, 4] [dI p.vars, dI p.arrays, dT p.body, dT ss, .box (pL 0)] [(1, .ref 3), (2, iA pc), (3, iA (↑c : Int)), (4, bA strict), (5, .ptr 4 0), (10, iA 0), (11, iA 0)] ?_
  clear G; intro ρ a w G
  refine th_n ?_
  refine wp_seq ?_
  refine wp_seq ?_
  refine rs0s G [(1, .ref 3), (2, iA pc), (3, iA (↑c : Int)), (4, bA strict), (5, .ptr 4 0), (10, iA 0), (11, iA 0), (12, iA 0)] ?_
  clear G; intro ρ a w G
  refine th_n ?_
  refine wp_block ?_
  refine rx_for (κ := Nat) (fun k => k ≤ ss.length ∧ (blC p strict (d + 1) pc c (ss.take k)).1 = 0) (fun k => ss.length - k) (fun k => [dI p.vars, dI p.arrays, dT p.body, dT ss, .box (pL 0)]) (fun k => [(1, .ref 3), (2, iA pc), (3, iA (blC p strict (d + 1) pc c (ss.take k)).2), (4, bA strict), (5, .ptr 4 0), (10, iA 0), (11, iA 0), (12, iA k)]) (0) (by exact ⟨Nat.zero_le _, rfl⟩) (Gam.at G _ _) ?_
  clear G
  intro k ρ a w hp G
  replace G := Gam.at G [dI p.vars, dI p.arrays, dT p.body, dT ss, .box (pL 0)] [(1, .ref 3), (2, iA pc), (3, iA (↑(blC p strict (d + 1) pc c (List.take k ss)).snd : Int)), (4, bA strict), (5, .ptr 4 0), (10, iA 0), (11, iA 0), (12, iA (↑k : Int))]
  refine wp_seq ?_
  refine wp_seq ?_
  refine rs0s G [(1, .ref 3), (2, iA pc), (3, iA (↑(blC p strict (d + 1) pc c (List.take k ss)).snd : Int)), (4, bA strict), (5, .ptr 4 0), (10, iA 0), (11, iA 0), (12, iA (↑k : Int)), (19, bA (decide ((↑k : Int) < (↑ss.length : Int))))] ?_
  clear G; intro ρ a w G
  refine th_n ?_
  cases h0 : (decide ((↑k : Int) < (↑ss.length : Int)))
  ·
   have q0 : ¬ ((↑k : Int) < (↑ss.length : Int)) := of_decide_eq_false h0
   refine rF G (decide ((↑k : Int) < (↑ss.length : Int))) (by assumption) ?_
   refine wp_exit ?_
   refine th_e ?_
   refine th_e ?_
   refine bl_hit ?_
   refine th_n ?_
   refine wp_seq ?_
   refine rs0 G [0, 1, 2, 3] [dI p.vars, dI p.arrays, dT p.body, dT ss] [(10, iA 0), (11, iA (↑(blC p strict (d + 1) pc c (List.take k ss)).snd : Int))] ?_
   clear G; intro ρ a w G
   refine th_n ?_
   refine wp_ret ?_
   exact rx_ret (v := .tup [iA 0, iA (↑(blC p strict (d + 1) pc c (List.take k ss)).snd : Int)]) G [0, 1, 2, 3] (by kernel_rfl) (by kernel_rfl) (by kernel_rfl) (by have e1 : ((blC p strict (d + 1) pc c ss).fst : Int) = (0) := (by rw [blC, foldC_full (k := k) (by omega)]; exact hp.2); have e2 : ((↑(blC p strict (d + 1) pc c ss).snd : Int) : Int) = ((↑(blC p strict (d + 1) pc c (List.take k ss)).snd : Int)) := (by rw [blC, foldC_full (k := k) (by omega)]); first | (rw [e1, e2]; done) | (rw [e1, e2]; rfl) | (simp only [e1, e2]; done) | (simp only [e1, e2]; rfl))
  ·
   have q0 : (↑k : Int) < (↑ss.length : Int) := of_decide_eq_true h0
   refine rT G (decide ((↑k : Int) < (↑ss.length : Int))) (by assumption) ?_
   refine wp_skip ?_
   refine th_n ?_
   refine wp_seq ?_
   refine wp_block ?_
   refine wp_seq ?_
   refine rs1 (dk := dkP) G ⟨[], [], []⟩ calls_nil trivial [0, 1, 2, 3, 4, 29, 30, 31, 32, 37] [dI p.vars, dI p.arrays, dT p.body, dT ss, .box (pL 0), dE (ss.getD k default).index.kids, dE (ss.getD k default).value.kids, dT (ss.getD k default).body, dT (ss.getD k default).els, .box (sL (ss.getD k default) 5)] [(1, .ref 3), (2, iA pc), (3, iA (↑(blC p strict (d + 1) pc c (List.take k ss)).snd : Int)), (4, bA strict), (5, .ptr 4 0), (10, iA 0), (11, iA 0), (12, iA (↑k : Int)), (13, .ptr 9 0)] [(0 : Int) ≤ (↑k : Int), (↑k : Int) < (↑ss.length : Int), k < ss.length] ⟨(by simp [hs, h0]), (by assumption), (by have hp := hp; omega), trivial⟩ ?_
   clear G; intro ρ a w G
   refine th_n ?_
   refine wp_seq ?_
   refine rs1s G ⟨[(4, _, [0, 1, 2, 5, 6, 7, 8])], [], []⟩ (calls_cons (c_l4Own (p) (ss.getD k default) (pc) (strict) (by exact (bl_at hs (by omega)).1)) calls_nil) trivial [(1, .ref 3), (2, iA pc), (3, iA (↑(blC p strict (d + 1) pc c (List.take k ss)).snd : Int)), (4, bA strict), (5, .ptr 4 0), (10, iA 0), (11, iA 0), (12, iA (↑k : Int)), (13, .ptr 9 0), (14, iA (ownR p (ss.getD k default) pc strict))] [] trivial ?_
   clear G; intro ρ a w G
   refine th_n ?_
   refine wp_seq ?_
   refine wp_seq ?_
   refine rs0s G [(1, .ref 3), (2, iA pc), (3, iA (↑(blC p strict (d + 1) pc c (List.take k ss)).snd : Int)), (4, bA strict), (5, .ptr 4 0), (10, iA 0), (11, iA 0), (12, iA (↑k : Int)), (13, .ptr 9 0), (14, iA (ownR p (ss.getD k default) pc strict)), (32, bA (ownR p (ss.getD k default) pc strict != 0))] ?_
   clear G; intro ρ a w G
   refine th_n ?_
   cases h1 : (ownR p (ss.getD k default) pc strict != (0 : Int))
   ·
    have q1 : ownR p (ss.getD k default) pc strict = 0 := (by simpa using h1)
    refine rF G (ownR p (ss.getD k default) pc strict != (0 : Int)) (by assumption) ?_
    refine wp_skip ?_
    refine th_n ?_
    refine wp_seq ?_
    refine rs1s G ⟨[], [], []⟩ calls_nil trivial [(1, .ref 3), (2, iA pc), (3, iA ((↑(blC p strict (d + 1) pc c (List.take k ss)).snd : Int) + 1)), (4, bA strict), (5, .ptr 4 0), (10, iA 0), (11, iA 0), (12, iA (↑k : Int)), (13, .ptr 9 0), (14, iA (ownR p (ss.getD k default) pc strict))] [IntKind.i64.wrap ((↑(blC p strict (d + (1 : Nat)) pc c (List.take k ss)).snd : Int) + (1 : Int)) = (↑(blC p strict (d + (1 : Nat)) pc c (List.take k ss)).snd : Int) + (1 : Int)] ⟨(by exact bl_wrap hc (by omega)), trivial⟩ ?_
    clear G; intro ρ a w G
    refine th_n ?_
    refine wp_seq ?_
    refine rs0s G [(1, .ref 3), (2, iA pc), (3, iA ((↑(blC p strict (d + 1) pc c (List.take k ss)).snd : Int) + 1)), (4, bA strict), (5, .ptr 4 0), (10, iA 0), (11, iA 0), (12, iA (↑k : Int)), (13, .ptr 9 0), (14, iA (ownR p (ss.getD k default) pc strict)), (15, iA pc)] ?_
    clear G; intro ρ a w G
    refine th_n ?_
    refine wp_seq ?_
    refine wp_seq ?_
    refine rs0s G [(1, .ref 3), (2, iA pc), (3, iA ((↑(blC p strict (d + 1) pc c (List.take k ss)).snd : Int) + 1)), (4, bA strict), (5, .ptr 4 0), (10, iA 0), (11, iA 0), (12, iA (↑k : Int)), (13, .ptr 9 0), (14, iA (ownR p (ss.getD k default) pc strict)), (15, iA pc), (40, bA ((ss.getD k default).kind == 3))] ?_
    clear G; intro ρ a w G
    refine th_n ?_
    cases h2 : ((ss.getD k default).kind == (3 : Int))
    ·
     have q2 : ¬ ((ss.getD k default).kind = 3) := ne_of_beq_false h2
     refine rF G ((ss.getD k default).kind == (3 : Int)) (by assumption) ?_
     refine wp_skip ?_
     refine th_n ?_
     refine wp_seq ?_
     refine rs1s G ⟨[(6, _, [0, 1, 2, 7])], [], []⟩ (calls_cons (ih ((ss.getD k default).body) (pc) ((blC p strict (d + 1) pc c (List.take k ss)).snd + 1) (by exact (bl_at hs (by omega)).2.1) (by exact bl_bound hc (by omega))) calls_nil) trivial [(1, .ref 3), (2, iA pc), (3, iA (↑(blC p strict d pc ((blC p strict (d + 1) pc c (List.take k ss)).snd + 1) (ss.getD k default).body).snd : Int)), (4, bA strict), (5, .ptr 4 0), (10, iA 0), (11, iA 0), (12, iA (↑k : Int)), (13, .ptr 9 0), (14, iA (blC p strict d pc ((blC p strict (d + 1) pc c (List.take k ss)).snd + 1) (ss.getD k default).body).fst), (15, iA pc)] [] trivial ?_
     clear G; intro ρ a w G
     refine th_n ?_
     refine wp_seq ?_
     refine wp_seq ?_
     refine rs0s G [(1, .ref 3), (2, iA pc), (3, iA (↑(blC p strict d pc ((blC p strict (d + 1) pc c (List.take k ss)).snd + 1) (ss.getD k default).body).snd : Int)), (4, bA strict), (5, .ptr 4 0), (10, iA 0), (11, iA 0), (12, iA (↑k : Int)), (13, .ptr 9 0), (14, iA (blC p strict d pc ((blC p strict (d + 1) pc c (List.take k ss)).snd + 1) (ss.getD k default).body).fst), (15, iA pc), (58, bA ((blC p strict d pc ((blC p strict (d + 1) pc c (List.take k ss)).snd + 1) (ss.getD k default).body).fst == 0))] ?_
     clear G; intro ρ a w G
     refine th_n ?_
     cases h3 : ((blC p strict d pc ((blC p strict (d + (1 : Nat)) pc c (List.take k ss)).snd + (1 : Nat)) (ss.getD k default).body).fst == (0 : Int))
     ·
      have q3 : ¬ ((blC p strict d pc ((blC p strict (d + 1) pc c (List.take k ss)).snd + 1) (ss.getD k default).body).fst = 0) := ne_of_beq_false h3
      refine rF G ((blC p strict d pc ((blC p strict (d + (1 : Nat)) pc c (List.take k ss)).snd + (1 : Nat)) (ss.getD k default).body).fst == (0 : Int)) (by assumption) ?_
      refine wp_skip ?_
      refine th_n ?_
      refine wp_seq ?_
      refine rs0 G [0, 1, 2, 3, 4] [dI p.vars, dI p.arrays, dT p.body, dT ss, .box (pL 0)] [(1, .ref 3), (2, iA pc), (3, iA (↑(blC p strict d pc ((blC p strict (d + 1) pc c (List.take k ss)).snd + 1) (ss.getD k default).body).snd : Int)), (4, bA strict), (5, .ptr 4 0), (10, iA 0), (11, iA 0), (12, iA (↑k : Int)), (14, iA (blC p strict d pc ((blC p strict (d + 1) pc c (List.take k ss)).snd + 1) (ss.getD k default).body).fst), (70, bA ((blC p strict d pc ((blC p strict (d + 1) pc c (List.take k ss)).snd + 1) (ss.getD k default).body).fst != 0))] ?_
      clear G; intro ρ a w G
      refine th_n ?_
      cases h4 : ((blC p strict d pc ((blC p strict (d + (1 : Nat)) pc c (List.take k ss)).snd + (1 : Nat)) (ss.getD k default).body).fst != (0 : Int))
      ·
       have q4 : (blC p strict d pc ((blC p strict (d + 1) pc c (List.take k ss)).snd + 1) (ss.getD k default).body).fst = 0 := (by simpa using h4)
       refine rF G ((blC p strict d pc ((blC p strict (d + (1 : Nat)) pc c (List.take k ss)).snd + (1 : Nat)) (ss.getD k default).body).fst != (0 : Int)) (by assumption) ?_
       refine wp_skip ?_
       refine bl_n ?_
       refine th_n ?_
       refine rs1s G ⟨[], [], []⟩ calls_nil trivial [(1, .ref 3), (2, iA pc), (3, iA (↑(blC p strict d pc ((blC p strict (d + 1) pc c (List.take k ss)).snd + 1) (ss.getD k default).body).snd : Int)), (4, bA strict), (5, .ptr 4 0), (10, iA 0), (11, iA 0), (12, iA ((↑k : Int) + 1))] [IntKind.i64.wrap ((↑k : Int) + (1 : Int)) = (↑k : Int) + (1 : Int)] ⟨(by have hp := hp; omega), trivial⟩ ?_
       clear G; intro ρ a w G
       refine th_n ?_
       exact rx_next G (k + 1) (by exact ⟨by omega, by omega⟩) (by have hp := hp; omega) [0, 1, 2, 3, 4] [dI p.vars, dI p.arrays, dT p.body, dT ss, .box (pL 0)] [(1, .ref 3), (2, iA pc), (3, iA (↑(blC p strict (d + 1) pc c (List.take (k + 1) ss)).snd : Int)), (4, bA strict), (5, .ptr 4 0), (10, iA 0), (11, iA 0), (12, iA (↑(k + 1) : Int))] (by kernel_rfl) (by kernel_rfl) (by kernel_rfl) (by kernel_rfl) (by have e1 : ((↑(blC p strict (d + 1) pc c (List.take (k + 1) ss)).snd : Int) : Int) = ((↑(blC p strict d pc ((blC p strict (d + 1) pc c (List.take k ss)).snd + 1) (ss.getD k default).body).snd : Int)) := (by have hp := hp; omega); first | (rw [e1]; done) | (rw [e1]; rfl) | (simp only [e1]; done) | (simp only [e1]; rfl))
      ·
       have q4 : ¬ ((blC p strict d pc ((blC p strict (d + 1) pc c (List.take k ss)).snd + 1) (ss.getD k default).body).fst = 0) := bne_iff_ne.1 h4
       refine rT G ((blC p strict d pc ((blC p strict (d + (1 : Nat)) pc c (List.take k ss)).snd + (1 : Nat)) (ss.getD k default).body).fst != (0 : Int)) (by assumption) ?_
       refine wp_seq ?_
       refine rs0s G [(1, .ref 3), (2, iA pc), (3, iA (↑(blC p strict d pc ((blC p strict (d + 1) pc c (List.take k ss)).snd + 1) (ss.getD k default).body).snd : Int)), (4, bA strict), (5, .ptr 4 0), (10, iA (blC p strict d pc ((blC p strict (d + 1) pc c (List.take k ss)).snd + 1) (ss.getD k default).body).fst), (11, iA (↑(blC p strict d pc ((blC p strict (d + 1) pc c (List.take k ss)).snd + 1) (ss.getD k default).body).snd : Int)), (12, iA (↑k : Int))] ?_
       clear G; intro ρ a w G
       refine th_n ?_
       refine wp_ret ?_
       refine bl_r ?_
       refine th_r ?_
       refine th_r ?_
       refine bl_r ?_
       refine th_r ?_
       exact rx_ret (v := .tup [iA (blC p strict d pc ((blC p strict (d + 1) pc c (List.take k ss)).snd + 1) (ss.getD k default).body).fst, iA (↑(blC p strict d pc ((blC p strict (d + 1) pc c (List.take k ss)).snd + 1) (ss.getD k default).body).snd : Int)]) G [0, 1, 2, 3] (by kernel_rfl) (by kernel_rfl) (by kernel_rfl) (by have e1 : ((blC p strict (d + 1) pc c ss).fst : Int) = ((blC p strict d pc ((blC p strict (d + 1) pc c (List.take k ss)).snd + 1) (ss.getD k default).body).fst) := (by rw [blC, foldC_stop hp.2 (by omega) (by rw [stC_body (by with_reducible assumption) (by exact inn_no (by with_reducible assumption)) (by with_reducible assumption)]; with_reducible assumption), stC_body (by with_reducible assumption) (by exact inn_no (by with_reducible assumption)) (by with_reducible assumption)]); have e2 : ((↑(blC p strict (d + 1) pc c ss).snd : Int) : Int) = ((↑(blC p strict d pc ((blC p strict (d + 1) pc c (List.take k ss)).snd + 1) (ss.getD k default).body).snd : Int)) := (by rw [blC, foldC_stop hp.2 (by omega) (by rw [stC_body (by with_reducible assumption) (by exact inn_no (by with_reducible assumption)) (by with_reducible assumption)]; with_reducible assumption), stC_body (by with_reducible assumption) (by exact inn_no (by with_reducible assumption)) (by with_reducible assumption)]); first | (rw [e1, e2]; done) | (rw [e1, e2]; rfl) | (simp only [e1, e2]; done) | (simp only [e1, e2]; rfl))
     ·
      have q3 : (blC p strict d pc ((blC p strict (d + 1) pc c (List.take k ss)).snd + 1) (ss.getD k default).body).fst = 0 := eq_of_beq h3
      refine rT G ((blC p strict d pc ((blC p strict (d + (1 : Nat)) pc c (List.take k ss)).snd + (1 : Nat)) (ss.getD k default).body).fst == (0 : Int)) (by assumption) ?_
      refine rs1 (dk := dkP) G ⟨[(6, _, [0, 1, 2, 8])], [], []⟩ (calls_cons (ih ((ss.getD k default).els) (pc) ((blC p strict d pc ((blC p strict (d + 1) pc c (List.take k ss)).snd + 1) (ss.getD k default).body).snd) (by exact (bl_at hs (by omega)).2.2) (by exact bl_bound2 hc (by omega))) calls_nil) trivial [0, 1, 2, 3, 4] [dI p.vars, dI p.arrays, dT p.body, dT ss, .box (pL 0)] [(1, .ref 3), (2, iA pc), (3, iA (↑(blC p strict d pc (blC p strict d pc ((blC p strict (d + 1) pc c (List.take k ss)).snd + 1) (ss.getD k default).body).snd (ss.getD k default).els).snd : Int)), (4, bA strict), (5, .ptr 4 0), (10, iA 0), (11, iA 0), (12, iA (↑k : Int)), (14, iA (blC p strict d pc (blC p strict d pc ((blC p strict (d + 1) pc c (List.take k ss)).snd + 1) (ss.getD k default).body).snd (ss.getD k default).els).fst)] [] trivial ?_
      clear G; intro ρ a w G
      refine th_n ?_
      refine wp_seq ?_
      refine rs0s G [(1, .ref 3), (2, iA pc), (3, iA (↑(blC p strict d pc (blC p strict d pc ((blC p strict (d + 1) pc c (List.take k ss)).snd + 1) (ss.getD k default).body).snd (ss.getD k default).els).snd : Int)), (4, bA strict), (5, .ptr 4 0), (10, iA 0), (11, iA 0), (12, iA (↑k : Int)), (14, iA (blC p strict d pc (blC p strict d pc ((blC p strict (d + 1) pc c (List.take k ss)).snd + 1) (ss.getD k default).body).snd (ss.getD k default).els).fst), (70, bA ((blC p strict d pc (blC p strict d pc ((blC p strict (d + 1) pc c (List.take k ss)).snd + 1) (ss.getD k default).body).snd (ss.getD k default).els).fst != 0))] ?_
      clear G; intro ρ a w G
      refine th_n ?_
      cases h5 : ((blC p strict d pc (blC p strict d pc ((blC p strict (d + (1 : Nat)) pc c (List.take k ss)).snd + (1 : Nat)) (ss.getD k default).body).snd (ss.getD k default).els).fst != (0 : Int))
      ·
       have q5 : (blC p strict d pc (blC p strict d pc ((blC p strict (d + 1) pc c (List.take k ss)).snd + 1) (ss.getD k default).body).snd (ss.getD k default).els).fst = 0 := (by simpa using h5)
       refine rF G ((blC p strict d pc (blC p strict d pc ((blC p strict (d + (1 : Nat)) pc c (List.take k ss)).snd + (1 : Nat)) (ss.getD k default).body).snd (ss.getD k default).els).fst != (0 : Int)) (by assumption) ?_
       refine wp_skip ?_
       refine bl_n ?_
       refine th_n ?_
       refine rs1s G ⟨[], [], []⟩ calls_nil trivial [(1, .ref 3), (2, iA pc), (3, iA (↑(blC p strict d pc (blC p strict d pc ((blC p strict (d + 1) pc c (List.take k ss)).snd + 1) (ss.getD k default).body).snd (ss.getD k default).els).snd : Int)), (4, bA strict), (5, .ptr 4 0), (10, iA 0), (11, iA 0), (12, iA ((↑k : Int) + 1))] [IntKind.i64.wrap ((↑k : Int) + (1 : Int)) = (↑k : Int) + (1 : Int)] ⟨(by exact w64 (by omega) (by omega)), trivial⟩ ?_
       clear G; intro ρ a w G
       refine th_n ?_
       exact rx_next G (k + 1) (by exact ⟨by omega, by rw [blC, foldC_next hp.2 (by omega), stC_els (by with_reducible assumption) (by exact inn_no (by with_reducible assumption)) (by with_reducible assumption)]; with_reducible assumption⟩) (by have hp := hp; omega) [0, 1, 2, 3, 4] [dI p.vars, dI p.arrays, dT p.body, dT ss, .box (pL 0)] [(1, .ref 3), (2, iA pc), (3, iA (↑(blC p strict (d + 1) pc c (List.take (k + 1) ss)).snd : Int)), (4, bA strict), (5, .ptr 4 0), (10, iA 0), (11, iA 0), (12, iA (↑(k + 1) : Int))] (by kernel_rfl) (by kernel_rfl) (by kernel_rfl) (by kernel_rfl) (by have e1 : ((↑(blC p strict (d + 1) pc c (List.take (k + 1) ss)).snd : Int) : Int) = ((↑(blC p strict d pc (blC p strict d pc ((blC p strict (d + 1) pc c (List.take k ss)).snd + 1) (ss.getD k default).body).snd (ss.getD k default).els).snd : Int)) := (by rw [blC, foldC_next hp.2 (by omega), stC_els (by with_reducible assumption) (by exact inn_no (by with_reducible assumption)) (by with_reducible assumption)]); first | (rw [e1]; done) | (rw [e1]; rfl) | (simp only [e1]; done) | (simp only [e1]; rfl))
      ·
       have q5 : ¬ ((blC p strict d pc (blC p strict d pc ((blC p strict (d + 1) pc c (List.take k ss)).snd + 1) (ss.getD k default).body).snd (ss.getD k default).els).fst = 0) := bne_iff_ne.1 h5
       refine rT G ((blC p strict d pc (blC p strict d pc ((blC p strict (d + (1 : Nat)) pc c (List.take k ss)).snd + (1 : Nat)) (ss.getD k default).body).snd (ss.getD k default).els).fst != (0 : Int)) (by assumption) ?_
       refine wp_seq ?_
       refine rs0s G [(1, .ref 3), (2, iA pc), (3, iA (↑(blC p strict d pc (blC p strict d pc ((blC p strict (d + 1) pc c (List.take k ss)).snd + 1) (ss.getD k default).body).snd (ss.getD k default).els).snd : Int)), (4, bA strict), (5, .ptr 4 0), (10, iA (blC p strict d pc (blC p strict d pc ((blC p strict (d + 1) pc c (List.take k ss)).snd + 1) (ss.getD k default).body).snd (ss.getD k default).els).fst), (11, iA (↑(blC p strict d pc (blC p strict d pc ((blC p strict (d + 1) pc c (List.take k ss)).snd + 1) (ss.getD k default).body).snd (ss.getD k default).els).snd : Int)), (12, iA (↑k : Int))] ?_
       clear G; intro ρ a w G
       refine th_n ?_
       refine wp_ret ?_
       refine bl_r ?_
       refine th_r ?_
       refine th_r ?_
       refine bl_r ?_
       refine th_r ?_
       exact rx_ret (v := .tup [iA (blC p strict d pc (blC p strict d pc ((blC p strict (d + 1) pc c (List.take k ss)).snd + 1) (ss.getD k default).body).snd (ss.getD k default).els).fst, iA (↑(blC p strict d pc (blC p strict d pc ((blC p strict (d + 1) pc c (List.take k ss)).snd + 1) (ss.getD k default).body).snd (ss.getD k default).els).snd : Int)]) G [0, 1, 2, 3] (by kernel_rfl) (by kernel_rfl) (by kernel_rfl) (by have e1 : ((blC p strict (d + 1) pc c ss).fst : Int) = ((blC p strict d pc (blC p strict d pc ((blC p strict (d + 1) pc c (List.take k ss)).snd + 1) (ss.getD k default).body).snd (ss.getD k default).els).fst) := (by rw [blC, foldC_stop hp.2 (by omega) (by rw [stC_els (by with_reducible assumption) (by exact inn_no (by with_reducible assumption)) (by with_reducible assumption)]; with_reducible assumption), stC_els (by with_reducible assumption) (by exact inn_no (by with_reducible assumption)) (by with_reducible assumption)]); have e2 : ((↑(blC p strict (d + 1) pc c ss).snd : Int) : Int) = ((↑(blC p strict d pc (blC p strict d pc ((blC p strict (d + 1) pc c (List.take k ss)).snd + 1) (ss.getD k default).body).snd (ss.getD k default).els).snd : Int)) := (by rw [blC, foldC_stop hp.2 (by omega) (by rw [stC_els (by with_reducible assumption) (by exact inn_no (by with_reducible assumption)) (by with_reducible assumption)]; with_reducible assumption), stC_els (by with_reducible assumption) (by exact inn_no (by with_reducible assumption)) (by with_reducible assumption)]); first | (rw [e1, e2]; done) | (rw [e1, e2]; rfl) | (simp only [e1, e2]; done) | (simp only [e1, e2]; rfl))
    ·
     have q2 : (ss.getD k default).kind = 3 := eq_of_beq h2
     refine rT G ((ss.getD k default).kind == (3 : Int)) (by assumption) ?_
     refine rs1s G ⟨[(4, _, [0, 1, 2, 6])], [], []⟩ (calls_cons (c_l4Label (p) ((ss.getD k default).value) (by exact hd_value (bl_at hs (by omega)).1 (by omega))) calls_nil) trivial [(1, .ref 3), (2, iA pc), (3, iA ((↑(blC p strict (d + 1) pc c (List.take k ss)).snd : Int) + 1)), (4, bA strict), (5, .ptr 4 0), (10, iA 0), (11, iA 0), (12, iA (↑k : Int)), (13, .ptr 9 0), (14, iA (ownR p (ss.getD k default) pc strict)), (15, iA (orI pc (labV p (ss.getD k default).value)))] [] trivial ?_
     clear G; intro ρ a w G
     refine th_n ?_
     refine wp_seq ?_
     refine rs1s G ⟨[(6, _, [0, 1, 2, 7])], [], []⟩ (calls_cons (ih ((ss.getD k default).body) (orI pc (labV p (ss.getD k default).value)) ((blC p strict (d + 1) pc c (List.take k ss)).snd + 1) (by exact (bl_at hs (by omega)).2.1) (by exact bl_bound hc (by omega))) calls_nil) trivial [(1, .ref 3), (2, iA pc), (3, iA (↑(blC p strict d (orI pc (labV p (ss.getD k default).value)) ((blC p strict (d + 1) pc c (List.take k ss)).snd + 1) (ss.getD k default).body).snd : Int)), (4, bA strict), (5, .ptr 4 0), (10, iA 0), (11, iA 0), (12, iA (↑k : Int)), (13, .ptr 9 0), (14, iA (blC p strict d (orI pc (labV p (ss.getD k default).value)) ((blC p strict (d + 1) pc c (List.take k ss)).snd + 1) (ss.getD k default).body).fst), (15, iA (orI pc (labV p (ss.getD k default).value)))] [] trivial ?_
     clear G; intro ρ a w G
     refine th_n ?_
     refine wp_seq ?_
     refine wp_seq ?_
     refine rs0s G [(1, .ref 3), (2, iA pc), (3, iA (↑(blC p strict d (orI pc (labV p (ss.getD k default).value)) ((blC p strict (d + 1) pc c (List.take k ss)).snd + 1) (ss.getD k default).body).snd : Int)), (4, bA strict), (5, .ptr 4 0), (10, iA 0), (11, iA 0), (12, iA (↑k : Int)), (13, .ptr 9 0), (14, iA (blC p strict d (orI pc (labV p (ss.getD k default).value)) ((blC p strict (d + 1) pc c (List.take k ss)).snd + 1) (ss.getD k default).body).fst), (15, iA (orI pc (labV p (ss.getD k default).value))), (58, bA ((blC p strict d (orI pc (labV p (ss.getD k default).value)) ((blC p strict (d + 1) pc c (List.take k ss)).snd + 1) (ss.getD k default).body).fst == 0))] ?_
     clear G; intro ρ a w G
     refine th_n ?_
     cases h6 : ((blC p strict d (orI pc (labV p (ss.getD k default).value)) ((blC p strict (d + (1 : Nat)) pc c (List.take k ss)).snd + (1 : Nat)) (ss.getD k default).body).fst == (0 : Int))
     ·
      have q6 : ¬ ((blC p strict d (orI pc (labV p (ss.getD k default).value)) ((blC p strict (d + 1) pc c (List.take k ss)).snd + 1) (ss.getD k default).body).fst = 0) := ne_of_beq_false h6
      refine rF G ((blC p strict d (orI pc (labV p (ss.getD k default).value)) ((blC p strict (d + (1 : Nat)) pc c (List.take k ss)).snd + (1 : Nat)) (ss.getD k default).body).fst == (0 : Int)) (by assumption) ?_
      refine wp_skip ?_
      refine th_n ?_
      refine wp_seq ?_
      refine rs0 G [0, 1, 2, 3, 4] [dI p.vars, dI p.arrays, dT p.body, dT ss, .box (pL 0)] [(1, .ref 3), (2, iA pc), (3, iA (↑(blC p strict d (orI pc (labV p (ss.getD k default).value)) ((blC p strict (d + 1) pc c (List.take k ss)).snd + 1) (ss.getD k default).body).snd : Int)), (4, bA strict), (5, .ptr 4 0), (10, iA 0), (11, iA 0), (12, iA (↑k : Int)), (14, iA (blC p strict d (orI pc (labV p (ss.getD k default).value)) ((blC p strict (d + 1) pc c (List.take k ss)).snd + 1) (ss.getD k default).body).fst), (70, bA ((blC p strict d (orI pc (labV p (ss.getD k default).value)) ((blC p strict (d + 1) pc c (List.take k ss)).snd + 1) (ss.getD k default).body).fst != 0))] ?_
      clear G; intro ρ a w G
      refine th_n ?_
      cases h7 : ((blC p strict d (orI pc (labV p (ss.getD k default).value)) ((blC p strict (d + (1 : Nat)) pc c (List.take k ss)).snd + (1 : Nat)) (ss.getD k default).body).fst != (0 : Int))
      ·
       have q7 : (blC p strict d (orI pc (labV p (ss.getD k default).value)) ((blC p strict (d + 1) pc c (List.take k ss)).snd + 1) (ss.getD k default).body).fst = 0 := (by simpa using h7)
       refine rF G ((blC p strict d (orI pc (labV p (ss.getD k default).value)) ((blC p strict (d + (1 : Nat)) pc c (List.take k ss)).snd + (1 : Nat)) (ss.getD k default).body).fst != (0 : Int)) (by assumption) ?_
       refine wp_skip ?_
       refine bl_n ?_
       refine th_n ?_
       refine rs1s G ⟨[], [], []⟩ calls_nil trivial [(1, .ref 3), (2, iA pc), (3, iA (↑(blC p strict d (orI pc (labV p (ss.getD k default).value)) ((blC p strict (d + 1) pc c (List.take k ss)).snd + 1) (ss.getD k default).body).snd : Int)), (4, bA strict), (5, .ptr 4 0), (10, iA 0), (11, iA 0), (12, iA ((↑k : Int) + 1))] [IntKind.i64.wrap ((↑k : Int) + (1 : Int)) = (↑k : Int) + (1 : Int)] ⟨(by have hp := hp; omega), trivial⟩ ?_
       clear G; intro ρ a w G
       refine th_n ?_
       exact rx_next G (k + 1) (by exact ⟨by omega, by omega⟩) (by have hp := hp; omega) [0, 1, 2, 3, 4] [dI p.vars, dI p.arrays, dT p.body, dT ss, .box (pL 0)] [(1, .ref 3), (2, iA pc), (3, iA (↑(blC p strict (d + 1) pc c (List.take (k + 1) ss)).snd : Int)), (4, bA strict), (5, .ptr 4 0), (10, iA 0), (11, iA 0), (12, iA (↑(k + 1) : Int))] (by kernel_rfl) (by kernel_rfl) (by kernel_rfl) (by kernel_rfl) (by have e1 : ((↑(blC p strict (d + 1) pc c (List.take (k + 1) ss)).snd : Int) : Int) = ((↑(blC p strict d (orI pc (labV p (ss.getD k default).value)) ((blC p strict (d + 1) pc c (List.take k ss)).snd + 1) (ss.getD k default).body).snd : Int)) := (by have hp := hp; omega); first | (rw [e1]; done) | (rw [e1]; rfl) | (simp only [e1]; done) | (simp only [e1]; rfl))
      ·
       have q7 : ¬ ((blC p strict d (orI pc (labV p (ss.getD k default).value)) ((blC p strict (d + 1) pc c (List.take k ss)).snd + 1) (ss.getD k default).body).fst = 0) := bne_iff_ne.1 h7
       refine rT G ((blC p strict d (orI pc (labV p (ss.getD k default).value)) ((blC p strict (d + (1 : Nat)) pc c (List.take k ss)).snd + (1 : Nat)) (ss.getD k default).body).fst != (0 : Int)) (by assumption) ?_
       refine wp_seq ?_
       refine rs0s G [(1, .ref 3), (2, iA pc), (3, iA (↑(blC p strict d (orI pc (labV p (ss.getD k default).value)) ((blC p strict (d + 1) pc c (List.take k ss)).snd + 1) (ss.getD k default).body).snd : Int)), (4, bA strict), (5, .ptr 4 0), (10, iA (blC p strict d (orI pc (labV p (ss.getD k default).value)) ((blC p strict (d + 1) pc c (List.take k ss)).snd + 1) (ss.getD k default).body).fst), (11, iA (↑(blC p strict d (orI pc (labV p (ss.getD k default).value)) ((blC p strict (d + 1) pc c (List.take k ss)).snd + 1) (ss.getD k default).body).snd : Int)), (12, iA (↑k : Int))] ?_
       clear G; intro ρ a w G
       refine th_n ?_
       refine wp_ret ?_
       refine bl_r ?_
       refine th_r ?_
       refine th_r ?_
       refine bl_r ?_
       refine th_r ?_
       exact rx_ret (v := .tup [iA (blC p strict d (orI pc (labV p (ss.getD k default).value)) ((blC p strict (d + 1) pc c (List.take k ss)).snd + 1) (ss.getD k default).body).fst, iA (↑(blC p strict d (orI pc (labV p (ss.getD k default).value)) ((blC p strict (d + 1) pc c (List.take k ss)).snd + 1) (ss.getD k default).body).snd : Int)]) G [0, 1, 2, 3] (by kernel_rfl) (by kernel_rfl) (by kernel_rfl) (by have e1 : ((blC p strict (d + 1) pc c ss).fst : Int) = ((blC p strict d (orI pc (labV p (ss.getD k default).value)) ((blC p strict (d + 1) pc c (List.take k ss)).snd + 1) (ss.getD k default).body).fst) := (by rw [blC, foldC_stop hp.2 (by omega) (by rw [stC_body (by with_reducible assumption) (by exact inn_if (by with_reducible assumption)) (by with_reducible assumption)]; with_reducible assumption), stC_body (by with_reducible assumption) (by exact inn_if (by with_reducible assumption)) (by with_reducible assumption)]); have e2 : ((↑(blC p strict (d + 1) pc c ss).snd : Int) : Int) = ((↑(blC p strict d (orI pc (labV p (ss.getD k default).value)) ((blC p strict (d + 1) pc c (List.take k ss)).snd + 1) (ss.getD k default).body).snd : Int)) := (by rw [blC, foldC_stop hp.2 (by omega) (by rw [stC_body (by with_reducible assumption) (by exact inn_if (by with_reducible assumption)) (by with_reducible assumption)]; with_reducible assumption), stC_body (by with_reducible assumption) (by exact inn_if (by with_reducible assumption)) (by with_reducible assumption)]); first | (rw [e1, e2]; done) | (rw [e1, e2]; rfl) | (simp only [e1, e2]; done) | (simp only [e1, e2]; rfl))
     ·
      have q6 : (blC p strict d (orI pc (labV p (ss.getD k default).value)) ((blC p strict (d + 1) pc c (List.take k ss)).snd + 1) (ss.getD k default).body).fst = 0 := eq_of_beq h6
      refine rT G ((blC p strict d (orI pc (labV p (ss.getD k default).value)) ((blC p strict (d + (1 : Nat)) pc c (List.take k ss)).snd + (1 : Nat)) (ss.getD k default).body).fst == (0 : Int)) (by assumption) ?_
      refine rs1 (dk := dkP) G ⟨[(6, _, [0, 1, 2, 8])], [], []⟩ (calls_cons (ih ((ss.getD k default).els) (orI pc (labV p (ss.getD k default).value)) ((blC p strict d (orI pc (labV p (ss.getD k default).value)) ((blC p strict (d + 1) pc c (List.take k ss)).snd + 1) (ss.getD k default).body).snd) (by exact (bl_at hs (by omega)).2.2) (by exact bl_bound2 hc (by omega))) calls_nil) trivial [0, 1, 2, 3, 4] [dI p.vars, dI p.arrays, dT p.body, dT ss, .box (pL 0)] [(1, .ref 3), (2, iA pc), (3, iA (↑(blC p strict d (orI pc (labV p (ss.getD k default).value)) (blC p strict d (orI pc (labV p (ss.getD k default).value)) ((blC p strict (d + 1) pc c (List.take k ss)).snd + 1) (ss.getD k default).body).snd (ss.getD k default).els).snd : Int)), (4, bA strict), (5, .ptr 4 0), (10, iA 0), (11, iA 0), (12, iA (↑k : Int)), (14, iA (blC p strict d (orI pc (labV p (ss.getD k default).value)) (blC p strict d (orI pc (labV p (ss.getD k default).value)) ((blC p strict (d + 1) pc c (List.take k ss)).snd + 1) (ss.getD k default).body).snd (ss.getD k default).els).fst)] [] trivial ?_
      clear G; intro ρ a w G
      refine th_n ?_
      refine wp_seq ?_
      refine rs0s G [(1, .ref 3), (2, iA pc), (3, iA (↑(blC p strict d (orI pc (labV p (ss.getD k default).value)) (blC p strict d (orI pc (labV p (ss.getD k default).value)) ((blC p strict (d + 1) pc c (List.take k ss)).snd + 1) (ss.getD k default).body).snd (ss.getD k default).els).snd : Int)), (4, bA strict), (5, .ptr 4 0), (10, iA 0), (11, iA 0), (12, iA (↑k : Int)), (14, iA (blC p strict d (orI pc (labV p (ss.getD k default).value)) (blC p strict d (orI pc (labV p (ss.getD k default).value)) ((blC p strict (d + 1) pc c (List.take k ss)).snd + 1) (ss.getD k default).body).snd (ss.getD k default).els).fst), (70, bA ((blC p strict d (orI pc (labV p (ss.getD k default).value)) (blC p strict d (orI pc (labV p (ss.getD k default).value)) ((blC p strict (d + 1) pc c (List.take k ss)).snd + 1) (ss.getD k default).body).snd (ss.getD k default).els).fst != 0))] ?_
      clear G; intro ρ a w G
      refine th_n ?_
      cases h8 : ((blC p strict d (orI pc (labV p (ss.getD k default).value)) (blC p strict d (orI pc (labV p (ss.getD k default).value)) ((blC p strict (d + (1 : Nat)) pc c (List.take k ss)).snd + (1 : Nat)) (ss.getD k default).body).snd (ss.getD k default).els).fst != (0 : Int))
      ·
       have q8 : (blC p strict d (orI pc (labV p (ss.getD k default).value)) (blC p strict d (orI pc (labV p (ss.getD k default).value)) ((blC p strict (d + 1) pc c (List.take k ss)).snd + 1) (ss.getD k default).body).snd (ss.getD k default).els).fst = 0 := (by simpa using h8)
       refine rF G ((blC p strict d (orI pc (labV p (ss.getD k default).value)) (blC p strict d (orI pc (labV p (ss.getD k default).value)) ((blC p strict (d + (1 : Nat)) pc c (List.take k ss)).snd + (1 : Nat)) (ss.getD k default).body).snd (ss.getD k default).els).fst != (0 : Int)) (by assumption) ?_
       refine wp_skip ?_
       refine bl_n ?_
       refine th_n ?_
       refine rs1s G ⟨[], [], []⟩ calls_nil trivial [(1, .ref 3), (2, iA pc), (3, iA (↑(blC p strict d (orI pc (labV p (ss.getD k default).value)) (blC p strict d (orI pc (labV p (ss.getD k default).value)) ((blC p strict (d + 1) pc c (List.take k ss)).snd + 1) (ss.getD k default).body).snd (ss.getD k default).els).snd : Int)), (4, bA strict), (5, .ptr 4 0), (10, iA 0), (11, iA 0), (12, iA ((↑k : Int) + 1))] [IntKind.i64.wrap ((↑k : Int) + (1 : Int)) = (↑k : Int) + (1 : Int)] ⟨(by exact w64 (by omega) (by omega)), trivial⟩ ?_
       clear G; intro ρ a w G
       refine th_n ?_
       exact rx_next G (k + 1) (by exact ⟨by omega, by rw [blC, foldC_next hp.2 (by omega), stC_els (by with_reducible assumption) (by exact inn_if (by with_reducible assumption)) (by with_reducible assumption)]; with_reducible assumption⟩) (by have hp := hp; omega) [0, 1, 2, 3, 4] [dI p.vars, dI p.arrays, dT p.body, dT ss, .box (pL 0)] [(1, .ref 3), (2, iA pc), (3, iA (↑(blC p strict (d + 1) pc c (List.take (k + 1) ss)).snd : Int)), (4, bA strict), (5, .ptr 4 0), (10, iA 0), (11, iA 0), (12, iA (↑(k + 1) : Int))] (by kernel_rfl) (by kernel_rfl) (by kernel_rfl) (by kernel_rfl) (by have e1 : ((↑(blC p strict (d + 1) pc c (List.take (k + 1) ss)).snd : Int) : Int) = ((↑(blC p strict d (orI pc (labV p (ss.getD k default).value)) (blC p strict d (orI pc (labV p (ss.getD k default).value)) ((blC p strict (d + 1) pc c (List.take k ss)).snd + 1) (ss.getD k default).body).snd (ss.getD k default).els).snd : Int)) := (by rw [blC, foldC_next hp.2 (by omega), stC_els (by with_reducible assumption) (by exact inn_if (by with_reducible assumption)) (by with_reducible assumption)]); first | (rw [e1]; done) | (rw [e1]; rfl) | (simp only [e1]; done) | (simp only [e1]; rfl))
      ·
       have q8 : ¬ ((blC p strict d (orI pc (labV p (ss.getD k default).value)) (blC p strict d (orI pc (labV p (ss.getD k default).value)) ((blC p strict (d + 1) pc c (List.take k ss)).snd + 1) (ss.getD k default).body).snd (ss.getD k default).els).fst = 0) := bne_iff_ne.1 h8
       refine rT G ((blC p strict d (orI pc (labV p (ss.getD k default).value)) (blC p strict d (orI pc (labV p (ss.getD k default).value)) ((blC p strict (d + (1 : Nat)) pc c (List.take k ss)).snd + (1 : Nat)) (ss.getD k default).body).snd (ss.getD k default).els).fst != (0 : Int)) (by assumption) ?_
       refine wp_seq ?_
       refine rs0s G [(1, .ref 3), (2, iA pc), (3, iA (↑(blC p strict d (orI pc (labV p (ss.getD k default).value)) (blC p strict d (orI pc (labV p (ss.getD k default).value)) ((blC p strict (d + 1) pc c (List.take k ss)).snd + 1) (ss.getD k default).body).snd (ss.getD k default).els).snd : Int)), (4, bA strict), (5, .ptr 4 0), (10, iA (blC p strict d (orI pc (labV p (ss.getD k default).value)) (blC p strict d (orI pc (labV p (ss.getD k default).value)) ((blC p strict (d + 1) pc c (List.take k ss)).snd + 1) (ss.getD k default).body).snd (ss.getD k default).els).fst), (11, iA (↑(blC p strict d (orI pc (labV p (ss.getD k default).value)) (blC p strict d (orI pc (labV p (ss.getD k default).value)) ((blC p strict (d + 1) pc c (List.take k ss)).snd + 1) (ss.getD k default).body).snd (ss.getD k default).els).snd : Int)), (12, iA (↑k : Int))] ?_
       clear G; intro ρ a w G
       refine th_n ?_
       refine wp_ret ?_
       refine bl_r ?_
       refine th_r ?_
       refine th_r ?_
       refine bl_r ?_
       refine th_r ?_
       exact rx_ret (v := .tup [iA (blC p strict d (orI pc (labV p (ss.getD k default).value)) (blC p strict d (orI pc (labV p (ss.getD k default).value)) ((blC p strict (d + 1) pc c (List.take k ss)).snd + 1) (ss.getD k default).body).snd (ss.getD k default).els).fst, iA (↑(blC p strict d (orI pc (labV p (ss.getD k default).value)) (blC p strict d (orI pc (labV p (ss.getD k default).value)) ((blC p strict (d + 1) pc c (List.take k ss)).snd + 1) (ss.getD k default).body).snd (ss.getD k default).els).snd : Int)]) G [0, 1, 2, 3] (by kernel_rfl) (by kernel_rfl) (by kernel_rfl) (by have e1 : ((blC p strict (d + 1) pc c ss).fst : Int) = ((blC p strict d (orI pc (labV p (ss.getD k default).value)) (blC p strict d (orI pc (labV p (ss.getD k default).value)) ((blC p strict (d + 1) pc c (List.take k ss)).snd + 1) (ss.getD k default).body).snd (ss.getD k default).els).fst) := (by rw [blC, foldC_stop hp.2 (by omega) (by rw [stC_els (by with_reducible assumption) (by exact inn_if (by with_reducible assumption)) (by with_reducible assumption)]; with_reducible assumption), stC_els (by with_reducible assumption) (by exact inn_if (by with_reducible assumption)) (by with_reducible assumption)]); have e2 : ((↑(blC p strict (d + 1) pc c ss).snd : Int) : Int) = ((↑(blC p strict d (orI pc (labV p (ss.getD k default).value)) (blC p strict d (orI pc (labV p (ss.getD k default).value)) ((blC p strict (d + 1) pc c (List.take k ss)).snd + 1) (ss.getD k default).body).snd (ss.getD k default).els).snd : Int)) := (by rw [blC, foldC_stop hp.2 (by omega) (by rw [stC_els (by with_reducible assumption) (by exact inn_if (by with_reducible assumption)) (by with_reducible assumption)]; with_reducible assumption), stC_els (by with_reducible assumption) (by exact inn_if (by with_reducible assumption)) (by with_reducible assumption)]); first | (rw [e1, e2]; done) | (rw [e1, e2]; rfl) | (simp only [e1, e2]; done) | (simp only [e1, e2]; rfl))
   ·
    have q1 : ¬ (ownR p (ss.getD k default) pc strict = 0) := bne_iff_ne.1 h1
    refine rT G (ownR p (ss.getD k default) pc strict != (0 : Int)) (by assumption) ?_
    refine wp_seq ?_
    refine rs0s G [(1, .ref 3), (2, iA pc), (3, iA (↑(blC p strict (d + 1) pc c (List.take k ss)).snd : Int)), (4, bA strict), (5, .ptr 4 0), (10, iA (ownR p (ss.getD k default) pc strict)), (11, iA (↑(blC p strict (d + 1) pc c (List.take k ss)).snd : Int)), (12, iA (↑k : Int)), (13, .ptr 9 0), (14, iA (ownR p (ss.getD k default) pc strict))] ?_
    clear G; intro ρ a w G
    refine th_n ?_
    refine wp_ret ?_
    refine th_r ?_
    refine bl_r ?_
    refine th_r ?_
    refine th_r ?_
    refine bl_r ?_
    refine th_r ?_
    exact rx_ret (v := .tup [iA (ownR p (ss.getD k default) pc strict), iA (↑(blC p strict (d + 1) pc c (List.take k ss)).snd : Int)]) G [0, 1, 2, 3] (by kernel_rfl) (by kernel_rfl) (by kernel_rfl) (by have e1 : ((blC p strict (d + 1) pc c ss).fst : Int) = (ownR p (ss.getD k default) pc strict) := (by rw [blC, foldC_stop hp.2 (by omega) (by rw [stC_own (by with_reducible assumption)]; with_reducible assumption), stC_own (by with_reducible assumption)]); have e2 : ((↑(blC p strict (d + 1) pc c ss).snd : Int) : Int) = ((↑(blC p strict (d + 1) pc c (List.take k ss)).snd : Int)) := (by rw [blC, foldC_stop hp.2 (by omega) (by rw [stC_own (by with_reducible assumption)]; with_reducible assumption), stC_own (by with_reducible assumption)]); first | (rw [e1, e2]; done) | (rw [e1, e2]; rfl) | (simp only [e1, e2]; done) | (simp only [e1, e2]; rfl))

end Go.Proofs.Ytgpkdfefgcpbiaa

namespace Go.Proofs.Ytgpkdfefgcpbiaa
set_option linter.unusedVariables false
set_option linter.unusedSimpArgs false
open Go Go.RowKit

theorem c_l4BlockD (p : LProg) (strict : Bool) : ∀ (d : Nat) (ss : List LStmt) (pc : Int) (c : Nat), ss.all (stmtB p.vars.length p.arrays.length d) = true → c + nSs ss ≤ 4000000 → Ctr.ok Try.prog (blkC p d ss pc c strict) := by
  intro d
  induction d with
  | zero =>
    intro ss pc c h hc
    cases ss with
    | nil => exact c_l4Block0 p pc c strict
    | cons s r => simp [stmtB] at h
  | succ d ih => intro ss pc c h hc; exact c_l4BlockS p d strict ih ss pc c h hc
theorem progB_all {p : LProg} (h : progB p = true) : p.body.all (stmtB p.vars.length p.arrays.length 5) = true ∧ nSs p.body ≤ 60 := by
  simp only [progB, blockB, Bool.and_eq_true, decide_eq_true_eq] at h
  exact ⟨h.1.2, h.2⟩
theorem c_l4Body (p : LProg) (strict : Bool) (h : progB p = true) : Ctr.ok Try.prog (fnC 129 [pA 0, .ref 2, iA 0, iA 0, bA strict] (pS p) (.tup [iA (blC p strict 5 0 0 p.body).1, iA (blC p strict 5 0 0 p.body).2])) :=
  Ctr.dup (S := pS p) (S' := pS p) (d := .stmts p.body) (i := 2) (c_l4BlockD p strict 5 p.body 0 0 (progB_all h).1 (by have := (progB_all h).2; omega)) rfl rfl rfl (fun ρ h => by simp only [AV.vals, AV.val]; rw [show ρ 3 = ρ 2 from h]; rfl) rfl

/-- What a check answers. -/
def ckR (p : LProg) (strict : Bool) : Int × Int := if progB p then (if (blC p strict 5 0 0 p.body).1 = 0 then (0, -1) else ((blC p strict 5 0 0 p.body).1, ((blC p strict 5 0 0 p.body).2 : Int))) else (5, -1)
def ctR (p : LProg) : Int × Int := if (ckR p false).1 = 0 then ckR p true else ckR p false
section
variable {p : LProg} {strict : Bool}
theorem ck_no (h : progB p = false) : ckR p strict = (5, -1) := by rw [ckR, h]; rfl
theorem ck_fine (h : progB p = true) (h1 : (blC p strict 5 0 0 p.body).1 = 0) : ckR p strict = (0, -1) := by rw [ckR, h, h1]; rfl
theorem ck_bad (h : progB p = true) (h1 : ¬ (blC p strict 5 0 0 p.body).1 = 0) : ckR p strict = ((blC p strict 5 0 0 p.body).1, ((blC p strict 5 0 0 p.body).2 : Int)) := by rw [ckR, h, if_neg h1]; rfl
theorem ct_a (h : (ckR p false).1 = 0) : ctR p = ckR p true := if_pos h
theorem ct_b (h : ¬ (ckR p false).1 = 0) : ctR p = ckR p false := if_neg h
end

set_option maxRecDepth 100000 in
theorem c_l4Check (p : LProg) (strict : Bool) (hb : szSs p.body ≤ 1048576) : Ctr.ok Try.prog (fnC 65 [pA 0, bA strict] (pS p) (.tup [iA (ckR p strict).1, iA (ckR p strict).2])) := by
  refine rx_enter 24 Try.func65 (by rfl) (by kernel_rfl) (by kernel_rfl) ?_
  intro ι φ ψ w0 w F ρ0 ρ a G
  replace G := Gam.at G [dI p.vars, dI p.arrays, dT p.body] [(0, pA 0), (1, bA strict)]
  refine wp_seq ?_
  refine rs0 G [0, 1, 2, 3] [dI p.vars, dI p.arrays, dT p.body, .box (pL 0)] [(1, bA strict), (2, .ptr 3 0), (4, iA 0), (5, iA 0)] ?_
  clear G; intro ρ a w G
  refine th_n ?_
  refine wp_seq ?_
  refine wp_seq ?_
  refine rs1s G ⟨[(1, _, [0, 1, 2])], [], []⟩ (calls_cons (c_ProgramValid (p) (by assumption)) calls_nil) trivial [(1, bA strict), (2, .ptr 3 0), (4, iA 0), (5, iA 0), (10, .v (.bool !progB p))] [] trivial ?_
  clear G; intro ρ a w G
  refine th_n ?_
  cases h0 : (!progB p)
  ·
   have q0 : (progB p) = true := (fun hq => (hq)) (Eq.mp (Bool.not_eq_false' _) h0)
   refine rF G (!progB p) (by assumption) ?_
   refine wp_skip ?_
   refine th_n ?_
   refine wp_seq ?_
   refine rs1 (dk := dkP) G ⟨[(4, _, [0, 1, 2])], [], []⟩ (calls_cons (c_l4Body (p) (strict) (by assumption)) calls_nil) trivial [0, 1, 2] [dI p.vars, dI p.arrays, dT p.body] [(4, iA 0), (5, iA 0), (6, iA (blC p strict 5 0 0 p.body).fst), (7, iA (↑(blC p strict 5 0 0 p.body).snd : Int))] [] trivial ?_
   clear G; intro ρ a w G
   refine th_n ?_
   refine wp_seq ?_
   refine wp_seq ?_
   refine rs0s G [(4, iA 0), (5, iA 0), (6, iA (blC p strict 5 0 0 p.body).fst), (7, iA (↑(blC p strict 5 0 0 p.body).snd : Int)), (20, bA ((blC p strict 5 0 0 p.body).fst == 0))] ?_
   clear G; intro ρ a w G
   refine th_n ?_
   cases h1 : ((blC p strict (5 : Nat) (0 : Int) (0 : Nat) p.body).fst == (0 : Int))
   ·
    have q1 : ¬ ((blC p strict 5 0 0 p.body).fst = 0) := ne_of_beq_false h1
    refine rF G ((blC p strict (5 : Nat) (0 : Int) (0 : Nat) p.body).fst == (0 : Int)) (by assumption) ?_
    refine wp_skip ?_
    refine th_n ?_
    refine wp_seq ?_
    refine rs0s G [(4, iA (blC p strict 5 0 0 p.body).fst), (5, iA (↑(blC p strict 5 0 0 p.body).snd : Int))] ?_
    clear G; intro ρ a w G
    refine th_n ?_
    refine wp_ret ?_
    exact rx_ret (v := .tup [iA (blC p strict 5 0 0 p.body).fst, iA (↑(blC p strict 5 0 0 p.body).snd : Int)]) G [0, 1, 2] (by kernel_rfl) (by kernel_rfl) (by kernel_rfl) (by have e1 : ((ckR p strict).fst : Int) = ((blC p strict 5 0 0 p.body).fst) := (by rw [ck_bad (by assumption) (by assumption)]; done); have e2 : ((ckR p strict).snd : Int) = ((↑(blC p strict 5 0 0 p.body).snd : Int)) := (by rw [ck_bad (by assumption) (by assumption)]; done); first | (rw [e1, e2]; done) | (rw [e1, e2]; rfl) | (simp only [e1, e2]; done) | (simp only [e1, e2]; rfl))
   ·
    have q1 : (blC p strict 5 0 0 p.body).fst = 0 := eq_of_beq h1
    refine rT G ((blC p strict (5 : Nat) (0 : Int) (0 : Nat) p.body).fst == (0 : Int)) (by assumption) ?_
    refine wp_seq ?_
    refine rs0s G [(4, iA (blC p strict 5 0 0 p.body).fst), (5, iA (-1)), (6, iA (blC p strict 5 0 0 p.body).fst), (7, iA (↑(blC p strict 5 0 0 p.body).snd : Int))] ?_
    clear G; intro ρ a w G
    refine th_n ?_
    refine wp_ret ?_
    refine th_r ?_
    exact rx_ret (v := .tup [iA (blC p strict 5 0 0 p.body).fst, iA (-1)]) G [0, 1, 2] (by kernel_rfl) (by kernel_rfl) (by kernel_rfl) (by have e1 : ((ckR p strict).fst : Int) = ((blC p strict 5 0 0 p.body).fst) := (by exact (congrArg Prod.fst (ck_fine (by assumption) (by assumption))).trans (Eq.symm (by assumption))); have e2 : ((ckR p strict).snd : Int) = (-1) := (by rw [ck_fine (by assumption) (by assumption)]; done); first | (rw [e1, e2]; done) | (rw [e1, e2]; rfl) | (simp only [e1, e2]; done) | (simp only [e1, e2]; rfl))
  ·
   have q0 : (progB p) = false := (fun hq => (hq)) (Eq.mp (Bool.not_eq_true' _) h0)
   refine rT G (!progB p) (by assumption) ?_
   refine wp_seq ?_
   refine rs0s G [(1, bA strict), (2, .ptr 3 0), (4, iA 5), (5, iA (-1))] ?_
   clear G; intro ρ a w G
   refine th_n ?_
   refine wp_ret ?_
   refine th_r ?_
   exact rx_ret (v := .tup [iA 5, iA (-1)]) G [0, 1, 2] (by kernel_rfl) (by kernel_rfl) (by kernel_rfl) (by have e1 : ((ckR p strict).fst : Int) = (5) := (by rw [ck_no (by assumption)]; done); have e2 : ((ckR p strict).snd : Int) = (-1) := (by rw [ck_no (by assumption)]; done); first | (rw [e1, e2]; done) | (rw [e1, e2]; rfl) | (simp only [e1, e2]; done) | (simp only [e1, e2]; rfl))

set_option maxRecDepth 100000 in
theorem c_CheckFlow (p : LProg) (hb : szSs p.body ≤ 1048576) : Ctr.ok Try.prog (fnC 124 [pA 0] (pS p) (.tup [iA (ckR p false).1, iA (ckR p false).2])) := by
  refine rx_enter 8 Try.func124 (by rfl) (by kernel_rfl) (by kernel_rfl) ?_
  intro ι φ ψ w0 w F ρ0 ρ a G
  replace G := Gam.at G [dI p.vars, dI p.arrays, dT p.body] [(0, pA 0)]
  refine wp_seq ?_
  refine rs0 G [0, 1, 2, 3] [dI p.vars, dI p.arrays, dT p.body, .box (pL 0)] [(1, .ptr 3 0), (2, iA 0), (3, iA 0)] ?_
  clear G; intro ρ a w G
  refine th_n ?_
  refine wp_seq ?_
  refine rs1 (dk := dkP) G ⟨[(1, _, [0, 1, 2])], [], []⟩ (calls_cons (c_l4Check (p) (false) (by assumption)) calls_nil) trivial [0, 1, 2] [dI p.vars, dI p.arrays, dT p.body] [(2, iA (ckR p false).fst), (3, iA (ckR p false).snd)] [] trivial ?_
  clear G; intro ρ a w G
  refine th_n ?_
  refine wp_ret ?_
  exact rx_ret (v := .tup [iA (ckR p false).fst, iA (ckR p false).snd]) G [0, 1, 2] (by kernel_rfl) (by kernel_rfl) (by kernel_rfl) (by kernel_rfl)

set_option maxRecDepth 100000 in
theorem c_CheckConstantTime (p : LProg) (hb : szSs p.body ≤ 1048576) : Ctr.ok Try.prog (fnC 16 [pA 0] (pS p) (.tup [iA (ctR p).1, iA (ctR p).2])) := by
  refine rx_enter 19 Try.func16 (by rfl) (by kernel_rfl) (by kernel_rfl) ?_
  intro ι φ ψ w0 w F ρ0 ρ a G
  replace G := Gam.at G [dI p.vars, dI p.arrays, dT p.body] [(0, pA 0)]
  refine wp_seq ?_
  refine rs0 G [0, 1, 2, 3] [dI p.vars, dI p.arrays, dT p.body, .box (pL 0)] [(1, .ptr 3 0), (2, iA 0), (3, iA 0)] ?_
  clear G; intro ρ a w G
  refine th_n ?_
  refine wp_seq ?_
  refine rs1s G ⟨[(1, _, [0, 1, 2])], [], []⟩ (calls_cons (c_l4Check (p) (false) (by assumption)) calls_nil) trivial [(1, .ptr 3 0), (2, iA 0), (3, iA 0), (4, iA (ckR p false).fst), (5, iA (ckR p false).snd)] [] trivial ?_
  clear G; intro ρ a w G
  refine th_n ?_
  refine wp_seq ?_
  refine wp_seq ?_
  refine rs0s G [(1, .ptr 3 0), (2, iA 0), (3, iA 0), (4, iA (ckR p false).fst), (5, iA (ckR p false).snd), (12, bA ((ckR p false).fst != 0))] ?_
  clear G; intro ρ a w G
  refine th_n ?_
  cases h0 : ((ckR p false).fst != (0 : Int))
  ·
   have q0 : (ckR p false).fst = 0 := (by simpa using h0)
   refine rF G ((ckR p false).fst != (0 : Int)) (by assumption) ?_
   refine wp_skip ?_
   refine th_n ?_
   refine wp_seq ?_
   refine rs1 (dk := dkP) G ⟨[(1, _, [0, 1, 2])], [], []⟩ (calls_cons (c_l4Check (p) (true) (by assumption)) calls_nil) trivial [0, 1, 2] [dI p.vars, dI p.arrays, dT p.body] [(2, iA (ckR p true).fst), (3, iA (ckR p true).snd)] [] trivial ?_
   clear G; intro ρ a w G
   refine th_n ?_
   refine wp_ret ?_
   exact rx_ret (v := .tup [iA (ckR p true).fst, iA (ckR p true).snd]) G [0, 1, 2] (by kernel_rfl) (by kernel_rfl) (by kernel_rfl) (by have e1 : ((ctR p).fst : Int) = ((ckR p true).fst) := (by rw [ct_a (by assumption)]; done); have e2 : ((ctR p).snd : Int) = ((ckR p true).snd) := (by rw [ct_a (by assumption)]; done); first | (rw [e1, e2]; done) | (rw [e1, e2]; rfl) | (simp only [e1, e2]; done) | (simp only [e1, e2]; rfl))
  ·
   have q0 : ¬ ((ckR p false).fst = 0) := bne_iff_ne.1 h0
   refine rT G ((ckR p false).fst != (0 : Int)) (by assumption) ?_
   refine wp_seq ?_
   refine rs0s G [(1, .ptr 3 0), (2, iA (ckR p false).fst), (3, iA (ckR p false).snd)] ?_
   clear G; intro ρ a w G
   refine th_n ?_
   refine wp_ret ?_
   refine th_r ?_
   exact rx_ret (v := .tup [iA (ckR p false).fst, iA (ckR p false).snd]) G [0, 1, 2] (by kernel_rfl) (by kernel_rfl) (by kernel_rfl) (by have e1 : ((ctR p).fst : Int) = ((ckR p false).fst) := (by rw [ct_b (by assumption)]; done); have e2 : ((ctR p).snd : Int) = ((ckR p false).snd) := (by rw [ct_b (by assumption)]; done); first | (rw [e1, e2]; done) | (rw [e1, e2]; rfl) | (simp only [e1, e2]; done) | (simp only [e1, e2]; rfl))

end Go.Proofs.Ytgpkdfefgcpbiaa

namespace Go.Proofs.Ytgpkdfefgcpbiaa
set_option linter.unusedVariables false
set_option linter.unusedSimpArgs false
open Go Go.RowKit

theorem c_label (p : LProg) (e : LExpr) (he : shapeB p.vars.length p.arrays.length 5 e = true) : Ctr.ok Try.prog (fnC 133 [pA 0, eA e 3] (pS p ++ eS e) (iA (labV p e))) := c_labelD p 5 e he
/-- What a statement writes, impl's order. -/
def stoR (p : LProg) (s : LStmt) (cx : Int) : Int := if s.kind = 2 then orI (orI (labV p s.value) cx) (labV p s.index) else orI (labV p s.value) cx
def iflR (p : LProg) (s : LStmt) (cx : Int) : Int :=
  if s.kind = 1 then if anI (orI (labV p s.value) cx) (p.vars.getD s.target.toNat 0) = 0 then 0 else 1
  else if s.kind = 2 then if anI (orI (orI (labV p s.value) cx) (labV p s.index)) (p.arrays.getD s.target.toNat 0) = 0 then 0 else 1
  else if s.kind = 5 then if (labOk (labV p s.value) && decide (labV p s.value ≤ 1)) = true ∧ cx = 0 then 0 else 2
  else 0
theorem sto_1 {p : LProg} {s : LStmt} {cx : Int} (k : ¬ s.kind = 2) : stoR p s cx = orI (labV p s.value) cx := if_neg k
theorem sto_2 {p : LProg} {s : LStmt} {cx : Int} (k : s.kind = 2) : stoR p s cx = orI (orI (labV p s.value) cx) (labV p s.index) := if_pos k

section
variable {p : LProg} {s : LStmt} {cx : Int}
theorem if1t (k : s.kind = 1) (h : (!(anI (stoR p s cx) (p.vars.getD s.target.toNat 0) == 0)) = false) : iflR p s cx = 0 := by
  rw [sto_1 (by omega)] at h
  rw [iflR, if_pos k, if_pos (by simpa using h)]
theorem if1f (k : s.kind = 1) (h : (!(anI (stoR p s cx) (p.vars.getD s.target.toNat 0) == 0)) = true) : iflR p s cx = 1 := by
  rw [sto_1 (by omega)] at h
  rw [iflR, if_pos k, if_neg (by simpa using h)]
theorem if2t (k : s.kind = 2) (h : (!(anI (stoR p s cx) (p.arrays.getD s.target.toNat 0) == 0)) = false) : iflR p s cx = 0 := by
  rw [sto_2 k] at h
  rw [iflR, if_neg (by omega), if_pos k, if_pos (by simpa using h)]
theorem if2f (k : s.kind = 2) (h : (!(anI (stoR p s cx) (p.arrays.getD s.target.toNat 0) == 0)) = true) : iflR p s cx = 1 := by
  rw [sto_2 k] at h
  rw [iflR, if_neg (by omega), if_pos k, if_neg (by simpa using h)]
theorem if5t (k : s.kind = 5) (h : (!(labOk (labV p s.value) && decide (labV p s.value ≤ 1))) = false) (h2 : cx = 0) : iflR p s cx = 0 := by
  rw [Bool.not_eq_false'] at h
  rw [iflR, if_neg (by omega), if_neg (by omega), if_pos k, if_pos ⟨h, h2⟩]
theorem if5f (k : s.kind = 5) (h : (!(labOk (labV p s.value) && decide (labV p s.value ≤ 1))) = true ∨ ¬ cx = 0) : iflR p s cx = 2 := by
  rw [iflR, if_neg (by omega), if_neg (by omega), if_pos k, if_neg]
  rintro ⟨a, b⟩
  rcases h with h | h
  · rw [a] at h; cases h
  · exact h b
theorem if0 (k : ¬ s.kind = 1 ∧ ¬ s.kind = 2 ∧ ¬ s.kind = 5) : iflR p s cx = 0 := by rw [iflR, if_neg k.1, if_neg k.2.1, if_neg k.2.2]
end

set_option maxRecDepth 100000 in
theorem c_stored (p : LProg) (s : LStmt) (cx : Int) (h : headB p.vars.length p.arrays.length s = true) (h4 : ¬ s.kind = 4) : Ctr.ok Try.prog (fnC 127 [pA 0, sA s 3, iA cx] (pS p ++ sS s) (iA (stoR p s cx))) := by
  refine rx_enter 24 Try.func127 (by rfl) (by kernel_rfl) (by kernel_rfl) ?_
  intro ι φ ψ w0 w F ρ0 ρ a G
  replace G := Gam.at G [dI p.vars, dI p.arrays, dT p.body, dE s.index.kids, dE s.value.kids, dT s.body, dT s.els] [(0, pA 0), (1, sA s 3), (2, iA cx)]
  refine wp_seq ?_
  refine rs0 G [0, 1, 2, 3, 4, 5, 6, 7, 15] [dI p.vars, dI p.arrays, dT p.body, dE s.index.kids, dE s.value.kids, dT s.body, dT s.els, .box (pL 0), .box (sL s 3)] [(2, iA cx), (3, .ptr 7 0), (4, .ptr 8 0), (6, iA 0)] ?_
  clear G; intro ρ a w G
  refine th_n ?_
  refine wp_seq ?_
  refine rs1s G ⟨[(3, _, [0, 1, 2, 4])], [], []⟩ (calls_cons (c_label (p) (s.value) (by exact hd_value h (by omega))) calls_nil) trivial [(3, .ptr 7 0), (4, .ptr 8 0), (6, iA 0), (7, iA (orI (labV p s.value) cx))] [] trivial ?_
  clear G; intro ρ a w G
  refine th_n ?_
  refine wp_seq ?_
  refine wp_seq ?_
  refine rs0s G [(3, .ptr 7 0), (4, .ptr 8 0), (6, iA 0), (7, iA (orI (labV p s.value) cx)), (16, bA (s.kind == 2))] ?_
  clear G; intro ρ a w G
  refine th_n ?_
  cases h0 : (s.kind == (2 : Int))
  ·
   have q0 : ¬ (s.kind = 2) := ne_of_beq_false h0
   refine rF G (s.kind == (2 : Int)) (by assumption) ?_
   refine wp_skip ?_
   refine th_n ?_
   refine wp_seq ?_
   refine rs0 G [0, 1, 2, 3, 4, 5, 6] [dI p.vars, dI p.arrays, dT p.body, dE s.index.kids, dE s.value.kids, dT s.body, dT s.els] [(6, iA (orI (labV p s.value) cx))] ?_
   clear G; intro ρ a w G
   refine th_n ?_
   refine wp_ret ?_
   exact rx_ret (v := iA (orI (labV p s.value) cx)) G [0, 1, 2, 3, 4, 5, 6] (by kernel_rfl) (by kernel_rfl) (by kernel_rfl) (by have e1 : (stoR p s cx : Int) = (orI (labV p s.value) cx) := (by exact sto_1 (by assumption)); first | (rw [e1]; done) | (rw [e1]; rfl) | (simp only [e1]; done) | (simp only [e1]; rfl))
  ·
   have q0 : s.kind = 2 := eq_of_beq h0
   refine rT G (s.kind == (2 : Int)) (by assumption) ?_
   refine rs1 (dk := dkP) G ⟨[(4, _, [0, 1, 2, 3])], [], []⟩ (calls_cons (c_label (p) (s.index) (by exact hd_index h (by assumption))) calls_nil) trivial [0, 1, 2, 3, 4, 5, 6] [dI p.vars, dI p.arrays, dT p.body, dE s.index.kids, dE s.value.kids, dT s.body, dT s.els] [(6, iA 0), (7, iA (orI (orI (labV p s.value) cx) (labV p s.index)))] [] trivial ?_
   clear G; intro ρ a w G
   refine th_n ?_
   refine wp_seq ?_
   refine rs0s G [(6, iA (orI (orI (labV p s.value) cx) (labV p s.index)))] ?_
   clear G; intro ρ a w G
   refine th_n ?_
   refine wp_ret ?_
   exact rx_ret (v := iA (orI (orI (labV p s.value) cx) (labV p s.index))) G [0, 1, 2, 3, 4, 5, 6] (by kernel_rfl) (by kernel_rfl) (by kernel_rfl) (by have e1 : (stoR p s cx : Int) = (orI (orI (labV p s.value) cx) (labV p s.index)) := (by exact sto_2 (by assumption)); first | (rw [e1]; done) | (rw [e1]; rfl) | (simp only [e1]; done) | (simp only [e1]; rfl))

set_option maxHeartbeats 4000000 in
set_option maxRecDepth 100000 in
theorem c_flow (p : LProg) (s : LStmt) (cx : Int) (h : headB p.vars.length p.arrays.length s = true) : Ctr.ok Try.prog (fnC 131 [pA 0, sA s 3, iA cx] (pS p ++ sS s) (iA (iflR p s cx))) := by
  refine rx_enter 59 Try.func131 (by rfl) (by kernel_rfl) (by kernel_rfl) ?_
  intro ι φ ψ w0 w F ρ0 ρ a G
  replace G := Gam.at G [dI p.vars, dI p.arrays, dT p.body, dE s.index.kids, dE s.value.kids, dT s.body, dT s.els] [(0, pA 0), (1, sA s 3), (2, iA cx)]
  refine wp_seq ?_
  refine rs0 G [0, 1, 2, 3, 4, 5, 6, 7, 15] [dI p.vars, dI p.arrays, dT p.body, dE s.index.kids, dE s.value.kids, dT s.body, dT s.els, .box (pL 0), .box (sL s 3)] [(2, iA cx), (3, .ptr 7 0), (4, .ptr 8 0), (6, iA 0)] ?_
  clear G; intro ρ a w G
  refine th_n ?_
  refine wp_seq ?_
  refine wp_block ?_
  refine wp_seq ?_
  cases h0 : (s.kind == (1 : Int))
  ·
   have q0 : ¬ (s.kind = 1) := ne_of_beq_false h0
   refine rd1s G ⟨[], [(s.kind == (1 : Int), false)], [(4, 0), (5, 0), (6, 0), (7, 0), (8, 0), (9, 0), (10, 0), (11, 0), (12, 0), (13, 0), (14, 0), (15, 0), (1016, 0)]⟩ calls_nil ⟨(by assumption), trivial⟩ [0, 1, 3, 7, 15, 15, 15, 127, 15, 271, 15, 1039, 3855, 7951, 16383, 32767, 65535, 131071] [(2, iA cx), (3, .ptr 7 0), (4, .ptr 8 0), (6, iA 0), (7, bA false)] [] trivial ?_
   clear G; intro ρ a w G
   refine th_n ?_
   refine rF G (false) (by kernel_rfl) ?_
   refine wp_seq ?_
   cases h1 : (s.kind == (2 : Int))
   ·
    have q1 : ¬ (s.kind = 2) := ne_of_beq_false h1
    refine rd1s G ⟨[], [(s.kind == (2 : Int), false)], [(4, 0), (5, 0), (6, 0), (7, 0), (8, 0), (9, 0), (10, 0), (11, 0), (12, 0), (13, 0), (14, 0), (15, 0), (1016, 0)]⟩ calls_nil ⟨(by assumption), trivial⟩ [0, 1, 3, 7, 15, 15, 15, 127, 15, 271, 15, 1039, 3855, 7951, 16383, 32767, 65535, 131071] [(2, iA cx), (3, .ptr 7 0), (4, .ptr 8 0), (6, iA 0), (25, bA false)] [] trivial ?_
    clear G; intro ρ a w G
    refine th_n ?_
    refine rF G (false) (by kernel_rfl) ?_
    refine wp_seq ?_
    cases h2 : (s.kind == (5 : Int))
    ·
     have q2 : ¬ (s.kind = 5) := ne_of_beq_false h2
     refine rs1 (dk := dkP) G ⟨[], [(s.kind == (5 : Int), false)], [(4, 0), (5, 0), (6, 0), (7, 0), (8, 0), (9, 0), (10, 0), (13, 0), (1014, 0)]⟩ calls_nil ⟨(by assumption), trivial⟩ [0, 1, 2, 3, 4, 5, 6] [dI p.vars, dI p.arrays, dT p.body, dE s.index.kids, dE s.value.kids, dT s.body, dT s.els] [(6, iA 0), (43, bA false)] [] trivial ?_
     clear G; intro ρ a w G
     refine th_n ?_
     refine rF G (false) (by kernel_rfl) ?_
     refine wp_skip ?_
     refine bl_n ?_
     refine th_n ?_
     refine wp_seq ?_
     refine rs0s G [(6, iA 0)] ?_
     clear G; intro ρ a w G
     refine th_n ?_
     refine wp_ret ?_
     exact rx_ret (v := iA 0) G [0, 1, 2, 3, 4, 5, 6] (by kernel_rfl) (by kernel_rfl) (by kernel_rfl) (by have e1 : (iflR p s cx : Int) = (0) := (by exact if0 (by omega)); first | (rw [e1]; done) | (rw [e1]; rfl) | (simp only [e1]; done) | (simp only [e1]; rfl))
    ·
     have q2 : s.kind = 5 := eq_of_beq h2
     cases h3 : (!(labOk (labV p s.value) && decide (labV p s.value ≤ (1 : Int))))
     ·
      have q3 : ((labOk (labV p s.value)) = true) ∧ (labV p s.value ≤ 1) := (fun hq => And.imp (fun hq => (hq)) (fun hq => of_decide_eq_true (hq)) (Bool.and_eq_true_iff.1 (hq))) (Eq.mp (Bool.not_eq_false' _) h3)
      refine rs1 (dk := dkP) G ⟨[(7, _, [0, 1, 2, 4]), (8, _, [])], [(s.kind == (5 : Int), true), (!(labOk (labV p s.value) && decide (labV p s.value ≤ (1 : Int))), false)], [(4, 0), (5, 0), (6, 0), (7, 0), (8, 0), (9, 0), (10, 0), (11, 1), (12, 1), (13, 0), (1013, 1), (1014, 0)]⟩ (calls_cons (c_label (p) (s.value) (by exact hd_value h (by omega))) (calls_cons (c_iLabelTrusted (labV p s.value)) calls_nil)) ⟨(by assumption), (by assumption), trivial⟩ [0, 1, 2, 3, 4, 5, 6] [dI p.vars, dI p.arrays, dT p.body, dE s.index.kids, dE s.value.kids, dT s.body, dT s.els] [(6, iA 0), (43, bA (cx != 0))] [] trivial ?_
      clear G; intro ρ a w G
      refine th_n ?_
      cases h4 : (cx != (0 : Int))
      ·
       have q4 : cx = 0 := (by simpa using h4)
       refine rF G (cx != (0 : Int)) (by assumption) ?_
       refine wp_skip ?_
       refine bl_n ?_
       refine th_n ?_
       refine wp_seq ?_
       refine rs0s G [(6, iA 0)] ?_
       clear G; intro ρ a w G
       refine th_n ?_
       refine wp_ret ?_
       exact rx_ret (v := iA 0) G [0, 1, 2, 3, 4, 5, 6] (by kernel_rfl) (by kernel_rfl) (by kernel_rfl) (by have e1 : (iflR p s cx : Int) = (0) := (by exact if5t (by with_reducible assumption) (by with_reducible assumption) (by with_reducible assumption)); first | (rw [e1]; done) | (rw [e1]; rfl) | (simp only [e1]; done) | (simp only [e1]; rfl))
      ·
       have q4 : ¬ (cx = 0) := bne_iff_ne.1 h4
       refine rT G (cx != (0 : Int)) (by assumption) ?_
       refine wp_seq ?_
       refine rs0s G [(6, iA 2)] ?_
       clear G; intro ρ a w G
       refine th_n ?_
       refine wp_ret ?_
       refine bl_r ?_
       refine th_r ?_
       exact rx_ret (v := iA 2) G [0, 1, 2, 3, 4, 5, 6] (by kernel_rfl) (by kernel_rfl) (by kernel_rfl) (by have e1 : (iflR p s cx : Int) = (2) := (by exact if5f (by with_reducible assumption) (.inr (by with_reducible assumption))); first | (rw [e1]; done) | (rw [e1]; rfl) | (simp only [e1]; done) | (simp only [e1]; rfl))
     ·
      have q3 : ((labOk (labV p s.value)) = false) ∨ (¬ (labV p s.value ≤ 1)) := (fun hq => Or.imp (fun hq => (hq)) (fun hq => of_decide_eq_false (hq)) (Bool.and_eq_false_iff.1 (hq))) (Eq.mp (Bool.not_eq_true' _) h3)
      refine rs1 (dk := dkP) G ⟨[(7, _, [0, 1, 2, 4]), (8, _, [])], [(s.kind == (5 : Int), true), (!(labOk (labV p s.value) && decide (labV p s.value ≤ (1 : Int))), true)], [(4, 0), (5, 0), (6, 0), (7, 0), (8, 0), (9, 0), (10, 0), (11, 1), (12, 1), (13, 0), (1013, 1), (1014, 0)]⟩ (calls_cons (c_label (p) (s.value) (by exact hd_value h (by omega))) (calls_cons (c_iLabelTrusted (labV p s.value)) calls_nil)) ⟨(by assumption), (by assumption), trivial⟩ [0, 1, 2, 3, 4, 5, 6] [dI p.vars, dI p.arrays, dT p.body, dE s.index.kids, dE s.value.kids, dT s.body, dT s.els] [(6, iA 0), (43, bA true)] [] trivial ?_
      clear G; intro ρ a w G
      refine th_n ?_
      refine rT G (true) (by kernel_rfl) ?_
      refine wp_seq ?_
      refine rs0s G [(6, iA 2)] ?_
      clear G; intro ρ a w G
      refine th_n ?_
      refine wp_ret ?_
      refine bl_r ?_
      refine th_r ?_
      exact rx_ret (v := iA 2) G [0, 1, 2, 3, 4, 5, 6] (by kernel_rfl) (by kernel_rfl) (by kernel_rfl) (by have e1 : (iflR p s cx : Int) = (2) := (by exact if5f (by with_reducible assumption) (.inl (by with_reducible assumption))); first | (rw [e1]; done) | (rw [e1]; rfl) | (simp only [e1]; done) | (simp only [e1]; rfl))
   ·
    have q1 : s.kind = 2 := eq_of_beq h1
    refine rd1s G ⟨[(7, _, [0, 1, 2, 3, 4, 5, 6]), (14, _, [])], [(s.kind == (2 : Int), true)], [(4, 0), (5, 0), (6, 0), (7, 0), (8, 0), (9, 0), (10, 0), (11, 0), (12, 0), (13, 0), (14, 0), (15, 0), (1016, 0)]⟩ (calls_cons (c_stored (p) (s) (cx) (by assumption) (by omega)) (calls_cons (c_flows (stoR p s cx) (p.arrays.getD s.target.toNat 0)) calls_nil)) ⟨(by assumption), trivial⟩ [0, 1, 3, 7, 15, 15, 15, 127, 15, 271, 15, 1039, 3855, 7951, 16383, 32767, 65535, 131071] [(2, iA cx), (3, .ptr 7 0), (4, .ptr 8 0), (6, iA 0), (25, .v (.bool !anI (stoR p s cx) (p.arrays.getD s.target.toNat 0) == 0))] [(0 : Int) ≤ s.target, s.target < (↑p.arrays.length : Int), s.target.toNat < p.arrays.length] ⟨(by exact (hd_arr h (by omega)).1), (by exact (hd_arr h (by omega)).2.1), (by exact (hd_arr h (by omega)).2.2), trivial⟩ ?_
    clear G; intro ρ a w G
    refine th_n ?_
    cases h5 : (!anI (stoR p s cx) (p.arrays.getD s.target.toNat (0 : Int)) == (0 : Int))
    ·
     have q5 : anI (stoR p s cx) (p.arrays.getD s.target.toNat 0) = 0 := (fun hq => eq_of_beq (hq)) (Eq.mp (Bool.not_eq_false' _) h5)
     refine rF G (!anI (stoR p s cx) (p.arrays.getD s.target.toNat (0 : Int)) == (0 : Int)) (by assumption) ?_
     refine wp_seq ?_
     cases h6 : (s.kind == (5 : Int))
     ·
      have q6 : ¬ (s.kind = 5) := ne_of_beq_false h6
      refine rs1 (dk := dkP) G ⟨[], [(s.kind == (5 : Int), false)], [(4, 0), (5, 0), (6, 0), (7, 0), (8, 0), (9, 0), (10, 0), (13, 0), (1014, 0)]⟩ calls_nil ⟨(by assumption), trivial⟩ [0, 1, 2, 3, 4, 5, 6] [dI p.vars, dI p.arrays, dT p.body, dE s.index.kids, dE s.value.kids, dT s.body, dT s.els] [(6, iA 0), (43, bA false)] [] trivial ?_
      clear G; intro ρ a w G
      refine th_n ?_
      refine rF G (false) (by kernel_rfl) ?_
      refine wp_skip ?_
      refine bl_n ?_
      refine th_n ?_
      refine wp_seq ?_
      refine rs0s G [(6, iA 0)] ?_
      clear G; intro ρ a w G
      refine th_n ?_
      refine wp_ret ?_
      exact rx_ret (v := iA 0) G [0, 1, 2, 3, 4, 5, 6] (by kernel_rfl) (by kernel_rfl) (by kernel_rfl) (by have e1 : (iflR p s cx : Int) = (0) := (by exact if2t (by with_reducible assumption) (by with_reducible assumption)); first | (rw [e1]; done) | (rw [e1]; rfl) | (simp only [e1]; done) | (simp only [e1]; rfl))
     ·
      have q6 : s.kind = 5 := eq_of_beq h6
      cases h7 : (!(labOk (labV p s.value) && decide (labV p s.value ≤ (1 : Int))))
      ·
       have q7 : ((labOk (labV p s.value)) = true) ∧ (labV p s.value ≤ 1) := (fun hq => And.imp (fun hq => (hq)) (fun hq => of_decide_eq_true (hq)) (Bool.and_eq_true_iff.1 (hq))) (Eq.mp (Bool.not_eq_false' _) h7)
       refine rs1 (dk := dkP) G ⟨[(7, _, [0, 1, 2, 4]), (8, _, [])], [(s.kind == (5 : Int), true), (!(labOk (labV p s.value) && decide (labV p s.value ≤ (1 : Int))), false)], [(4, 0), (5, 0), (6, 0), (7, 0), (8, 0), (9, 0), (10, 0), (11, 1), (12, 1), (13, 0), (1013, 1), (1014, 0)]⟩ (calls_cons (c_label (p) (s.value) (by exact hd_value h (by omega))) (calls_cons (c_iLabelTrusted (labV p s.value)) calls_nil)) ⟨(by assumption), (by assumption), trivial⟩ [0, 1, 2, 3, 4, 5, 6] [dI p.vars, dI p.arrays, dT p.body, dE s.index.kids, dE s.value.kids, dT s.body, dT s.els] [(6, iA 0), (43, bA (cx != 0))] [] trivial ?_
       clear G; intro ρ a w G
       refine th_n ?_
       cases h8 : (cx != (0 : Int))
       ·
        have q8 : cx = 0 := (by simpa using h8)
        refine rF G (cx != (0 : Int)) (by assumption) ?_
        refine wp_skip ?_
        refine bl_n ?_
        refine th_n ?_
        refine wp_seq ?_
        refine rs0s G [(6, iA 0)] ?_
        clear G; intro ρ a w G
        refine th_n ?_
        refine wp_ret ?_
        exact rx_ret (v := iA 0) G [0, 1, 2, 3, 4, 5, 6] (by kernel_rfl) (by kernel_rfl) (by kernel_rfl) (by have e1 : (iflR p s cx : Int) = (0) := (by exact if0 (by omega)); first | (rw [e1]; done) | (rw [e1]; rfl) | (simp only [e1]; done) | (simp only [e1]; rfl))
       ·
        have q8 : ¬ (cx = 0) := bne_iff_ne.1 h8
        refine rT G (cx != (0 : Int)) (by assumption) ?_
        refine wp_seq ?_
        refine rs0s G [(6, iA 2)] ?_
        clear G; intro ρ a w G
        refine th_n ?_
        refine wp_ret ?_
        refine bl_r ?_
        refine th_r ?_
        exact rx_ret (v := iA 2) G [0, 1, 2, 3, 4, 5, 6] (by kernel_rfl) (by kernel_rfl) (by kernel_rfl) (by have e1 : (iflR p s cx : Int) = (2) := (by exact if5f (by with_reducible assumption) (.inr (by with_reducible assumption))); first | (rw [e1]; done) | (rw [e1]; rfl) | (simp only [e1]; done) | (simp only [e1]; rfl))
      ·
       have q7 : ((labOk (labV p s.value)) = false) ∨ (¬ (labV p s.value ≤ 1)) := (fun hq => Or.imp (fun hq => (hq)) (fun hq => of_decide_eq_false (hq)) (Bool.and_eq_false_iff.1 (hq))) (Eq.mp (Bool.not_eq_true' _) h7)
       refine rs1 (dk := dkP) G ⟨[(7, _, [0, 1, 2, 4]), (8, _, [])], [(s.kind == (5 : Int), true), (!(labOk (labV p s.value) && decide (labV p s.value ≤ (1 : Int))), true)], [(4, 0), (5, 0), (6, 0), (7, 0), (8, 0), (9, 0), (10, 0), (11, 1), (12, 1), (13, 0), (1013, 1), (1014, 0)]⟩ (calls_cons (c_label (p) (s.value) (by exact hd_value h (by omega))) (calls_cons (c_iLabelTrusted (labV p s.value)) calls_nil)) ⟨(by assumption), (by assumption), trivial⟩ [0, 1, 2, 3, 4, 5, 6] [dI p.vars, dI p.arrays, dT p.body, dE s.index.kids, dE s.value.kids, dT s.body, dT s.els] [(6, iA 0), (43, bA true)] [] trivial ?_
       clear G; intro ρ a w G
       refine th_n ?_
       refine rT G (true) (by kernel_rfl) ?_
       refine wp_seq ?_
       refine rs0s G [(6, iA 2)] ?_
       clear G; intro ρ a w G
       refine th_n ?_
       refine wp_ret ?_
       refine bl_r ?_
       refine th_r ?_
       exact rx_ret (v := iA 2) G [0, 1, 2, 3, 4, 5, 6] (by kernel_rfl) (by kernel_rfl) (by kernel_rfl) (by have e1 : (iflR p s cx : Int) = (2) := (by exact if5f (by with_reducible assumption) (.inl (by with_reducible assumption))); first | (rw [e1]; done) | (rw [e1]; rfl) | (simp only [e1]; done) | (simp only [e1]; rfl))
    ·
     have q5 : ¬ (anI (stoR p s cx) (p.arrays.getD s.target.toNat 0) = 0) := (fun hq => ne_of_beq_false (hq)) (Eq.mp (Bool.not_eq_true' _) h5)
     refine rT G (!anI (stoR p s cx) (p.arrays.getD s.target.toNat (0 : Int)) == (0 : Int)) (by assumption) ?_
     refine wp_seq ?_
     refine rs0 G [0, 1, 2, 3, 4, 5, 6] [dI p.vars, dI p.arrays, dT p.body, dE s.index.kids, dE s.value.kids, dT s.body, dT s.els] [(6, iA 1)] ?_
     clear G; intro ρ a w G
     refine th_n ?_
     refine wp_ret ?_
     refine bl_r ?_
     refine th_r ?_
     exact rx_ret (v := iA 1) G [0, 1, 2, 3, 4, 5, 6] (by kernel_rfl) (by kernel_rfl) (by kernel_rfl) (by have e1 : (iflR p s cx : Int) = (1) := (by exact if2f (by with_reducible assumption) (by with_reducible assumption)); first | (rw [e1]; done) | (rw [e1]; rfl) | (simp only [e1]; done) | (simp only [e1]; rfl))
  ·
   have q0 : s.kind = 1 := eq_of_beq h0
   refine rd1s G ⟨[(7, _, [0, 1, 2, 3, 4, 5, 6]), (14, _, [])], [(s.kind == (1 : Int), true)], [(4, 0), (5, 0), (6, 0), (7, 0), (8, 0), (9, 0), (10, 0), (11, 0), (12, 0), (13, 0), (14, 0), (15, 0), (1016, 0)]⟩ (calls_cons (c_stored (p) (s) (cx) (by assumption) (by omega)) (calls_cons (c_flows (stoR p s cx) (p.vars.getD s.target.toNat 0)) calls_nil)) ⟨(by assumption), trivial⟩ [0, 1, 3, 7, 15, 15, 15, 127, 15, 271, 15, 1039, 3855, 7951, 16383, 32767, 65535, 131071] [(2, iA cx), (3, .ptr 7 0), (4, .ptr 8 0), (6, iA 0), (7, .v (.bool !anI (stoR p s cx) (p.vars.getD s.target.toNat 0) == 0))] [(0 : Int) ≤ s.target, s.target < (↑p.vars.length : Int), s.target.toNat < p.vars.length] ⟨(by exact (hd_var h (by omega)).1), (by exact (hd_var h (by omega)).2.1), (by exact (hd_var h (by omega)).2.2), trivial⟩ ?_
   clear G; intro ρ a w G
   refine th_n ?_
   cases h9 : (!anI (stoR p s cx) (p.vars.getD s.target.toNat (0 : Int)) == (0 : Int))
   ·
    have q9 : anI (stoR p s cx) (p.vars.getD s.target.toNat 0) = 0 := (fun hq => eq_of_beq (hq)) (Eq.mp (Bool.not_eq_false' _) h9)
    refine rF G (!anI (stoR p s cx) (p.vars.getD s.target.toNat (0 : Int)) == (0 : Int)) (by assumption) ?_
    refine wp_seq ?_
    cases h10 : (s.kind == (2 : Int))
    ·
     have q10 : ¬ (s.kind = 2) := ne_of_beq_false h10
     refine rd1s G ⟨[], [(s.kind == (2 : Int), false)], [(4, 0), (5, 0), (6, 0), (7, 0), (8, 0), (9, 0), (10, 0), (11, 0), (12, 0), (13, 0), (14, 0), (15, 0), (1016, 0)]⟩ calls_nil ⟨(by assumption), trivial⟩ [0, 1, 3, 7, 15, 15, 15, 127, 15, 271, 15, 1039, 3855, 7951, 16383, 32767, 65535, 131071] [(2, iA cx), (3, .ptr 7 0), (4, .ptr 8 0), (6, iA 0), (25, bA false)] [] trivial ?_
     clear G; intro ρ a w G
     refine th_n ?_
     refine rF G (false) (by kernel_rfl) ?_
     refine wp_seq ?_
     cases h11 : (s.kind == (5 : Int))
     ·
      have q11 : ¬ (s.kind = 5) := ne_of_beq_false h11
      refine rs1 (dk := dkP) G ⟨[], [(s.kind == (5 : Int), false)], [(4, 0), (5, 0), (6, 0), (7, 0), (8, 0), (9, 0), (10, 0), (13, 0), (1014, 0)]⟩ calls_nil ⟨(by assumption), trivial⟩ [0, 1, 2, 3, 4, 5, 6] [dI p.vars, dI p.arrays, dT p.body, dE s.index.kids, dE s.value.kids, dT s.body, dT s.els] [(6, iA 0), (43, bA false)] [] trivial ?_
      clear G; intro ρ a w G
      refine th_n ?_
      refine rF G (false) (by kernel_rfl) ?_
      refine wp_skip ?_
      refine bl_n ?_
      refine th_n ?_
      refine wp_seq ?_
      refine rs0s G [(6, iA 0)] ?_
      clear G; intro ρ a w G
      refine th_n ?_
      refine wp_ret ?_
      exact rx_ret (v := iA 0) G [0, 1, 2, 3, 4, 5, 6] (by kernel_rfl) (by kernel_rfl) (by kernel_rfl) (by have e1 : (iflR p s cx : Int) = (0) := (by exact if1t (by with_reducible assumption) (by with_reducible assumption)); first | (rw [e1]; done) | (rw [e1]; rfl) | (simp only [e1]; done) | (simp only [e1]; rfl))
     ·
      have q11 : s.kind = 5 := eq_of_beq h11
      cases h12 : (!(labOk (labV p s.value) && decide (labV p s.value ≤ (1 : Int))))
      ·
       have q12 : ((labOk (labV p s.value)) = true) ∧ (labV p s.value ≤ 1) := (fun hq => And.imp (fun hq => (hq)) (fun hq => of_decide_eq_true (hq)) (Bool.and_eq_true_iff.1 (hq))) (Eq.mp (Bool.not_eq_false' _) h12)
       refine rs1 (dk := dkP) G ⟨[(7, _, [0, 1, 2, 4]), (8, _, [])], [(s.kind == (5 : Int), true), (!(labOk (labV p s.value) && decide (labV p s.value ≤ (1 : Int))), false)], [(4, 0), (5, 0), (6, 0), (7, 0), (8, 0), (9, 0), (10, 0), (11, 1), (12, 1), (13, 0), (1013, 1), (1014, 0)]⟩ (calls_cons (c_label (p) (s.value) (by exact hd_value h (by omega))) (calls_cons (c_iLabelTrusted (labV p s.value)) calls_nil)) ⟨(by assumption), (by assumption), trivial⟩ [0, 1, 2, 3, 4, 5, 6] [dI p.vars, dI p.arrays, dT p.body, dE s.index.kids, dE s.value.kids, dT s.body, dT s.els] [(6, iA 0), (43, bA (cx != 0))] [] trivial ?_
       clear G; intro ρ a w G
       refine th_n ?_
       cases h13 : (cx != (0 : Int))
       ·
        have q13 : cx = 0 := (by simpa using h13)
        refine rF G (cx != (0 : Int)) (by assumption) ?_
        refine wp_skip ?_
        refine bl_n ?_
        refine th_n ?_
        refine wp_seq ?_
        refine rs0s G [(6, iA 0)] ?_
        clear G; intro ρ a w G
        refine th_n ?_
        refine wp_ret ?_
        exact rx_ret (v := iA 0) G [0, 1, 2, 3, 4, 5, 6] (by kernel_rfl) (by kernel_rfl) (by kernel_rfl) (by have e1 : (iflR p s cx : Int) = (0) := (by exact if0 (by omega)); first | (rw [e1]; done) | (rw [e1]; rfl) | (simp only [e1]; done) | (simp only [e1]; rfl))
       ·
        have q13 : ¬ (cx = 0) := bne_iff_ne.1 h13
        refine rT G (cx != (0 : Int)) (by assumption) ?_
        refine wp_seq ?_
        refine rs0s G [(6, iA 2)] ?_
        clear G; intro ρ a w G
        refine th_n ?_
        refine wp_ret ?_
        refine bl_r ?_
        refine th_r ?_
        exact rx_ret (v := iA 2) G [0, 1, 2, 3, 4, 5, 6] (by kernel_rfl) (by kernel_rfl) (by kernel_rfl) (by have e1 : (iflR p s cx : Int) = (2) := (by exact if5f (by with_reducible assumption) (.inr (by with_reducible assumption))); first | (rw [e1]; done) | (rw [e1]; rfl) | (simp only [e1]; done) | (simp only [e1]; rfl))
      ·
       have q12 : ((labOk (labV p s.value)) = false) ∨ (¬ (labV p s.value ≤ 1)) := (fun hq => Or.imp (fun hq => (hq)) (fun hq => of_decide_eq_false (hq)) (Bool.and_eq_false_iff.1 (hq))) (Eq.mp (Bool.not_eq_true' _) h12)
       refine rs1 (dk := dkP) G ⟨[(7, _, [0, 1, 2, 4]), (8, _, [])], [(s.kind == (5 : Int), true), (!(labOk (labV p s.value) && decide (labV p s.value ≤ (1 : Int))), true)], [(4, 0), (5, 0), (6, 0), (7, 0), (8, 0), (9, 0), (10, 0), (11, 1), (12, 1), (13, 0), (1013, 1), (1014, 0)]⟩ (calls_cons (c_label (p) (s.value) (by exact hd_value h (by omega))) (calls_cons (c_iLabelTrusted (labV p s.value)) calls_nil)) ⟨(by assumption), (by assumption), trivial⟩ [0, 1, 2, 3, 4, 5, 6] [dI p.vars, dI p.arrays, dT p.body, dE s.index.kids, dE s.value.kids, dT s.body, dT s.els] [(6, iA 0), (43, bA true)] [] trivial ?_
       clear G; intro ρ a w G
       refine th_n ?_
       refine rT G (true) (by kernel_rfl) ?_
       refine wp_seq ?_
       refine rs0s G [(6, iA 2)] ?_
       clear G; intro ρ a w G
       refine th_n ?_
       refine wp_ret ?_
       refine bl_r ?_
       refine th_r ?_
       exact rx_ret (v := iA 2) G [0, 1, 2, 3, 4, 5, 6] (by kernel_rfl) (by kernel_rfl) (by kernel_rfl) (by have e1 : (iflR p s cx : Int) = (2) := (by exact if5f (by with_reducible assumption) (.inl (by with_reducible assumption))); first | (rw [e1]; done) | (rw [e1]; rfl) | (simp only [e1]; done) | (simp only [e1]; rfl))
    ·
     have q10 : s.kind = 2 := eq_of_beq h10
     refine rd1s G ⟨[(7, _, [0, 1, 2, 3, 4, 5, 6]), (14, _, [])], [(s.kind == (2 : Int), true)], [(4, 0), (5, 0), (6, 0), (7, 0), (8, 0), (9, 0), (10, 0), (11, 0), (12, 0), (13, 0), (14, 0), (15, 0), (1016, 0)]⟩ (calls_cons (c_stored (p) (s) (cx) (by assumption) (by omega)) (calls_cons (c_flows (stoR p s cx) (p.arrays.getD s.target.toNat 0)) calls_nil)) ⟨(by assumption), trivial⟩ [0, 1, 3, 7, 15, 15, 15, 127, 15, 271, 15, 1039, 3855, 7951, 16383, 32767, 65535, 131071] [(2, iA cx), (3, .ptr 7 0), (4, .ptr 8 0), (6, iA 0), (25, .v (.bool !anI (stoR p s cx) (p.arrays.getD s.target.toNat 0) == 0))] [(0 : Int) ≤ s.target, s.target < (↑p.arrays.length : Int), s.target.toNat < p.arrays.length] ⟨(by exact (hd_arr h (by omega)).1), (by exact (hd_arr h (by omega)).2.1), (by exact (hd_arr h (by omega)).2.2), trivial⟩ ?_
     clear G; intro ρ a w G
     refine th_n ?_
     cases h14 : (!anI (stoR p s cx) (p.arrays.getD s.target.toNat (0 : Int)) == (0 : Int))
     ·
      have q14 : anI (stoR p s cx) (p.arrays.getD s.target.toNat 0) = 0 := (fun hq => eq_of_beq (hq)) (Eq.mp (Bool.not_eq_false' _) h14)
      refine rF G (!anI (stoR p s cx) (p.arrays.getD s.target.toNat (0 : Int)) == (0 : Int)) (by assumption) ?_
      refine wp_seq ?_
      cases h15 : (s.kind == (5 : Int))
      ·
       have q15 : ¬ (s.kind = 5) := ne_of_beq_false h15
       refine rs1 (dk := dkP) G ⟨[], [(s.kind == (5 : Int), false)], [(4, 0), (5, 0), (6, 0), (7, 0), (8, 0), (9, 0), (10, 0), (13, 0), (1014, 0)]⟩ calls_nil ⟨(by assumption), trivial⟩ [0, 1, 2, 3, 4, 5, 6] [dI p.vars, dI p.arrays, dT p.body, dE s.index.kids, dE s.value.kids, dT s.body, dT s.els] [(6, iA 0), (43, bA false)] [] trivial ?_
       clear G; intro ρ a w G
       refine th_n ?_
       refine rF G (false) (by kernel_rfl) ?_
       refine wp_skip ?_
       refine bl_n ?_
       refine th_n ?_
       refine wp_seq ?_
       refine rs0s G [(6, iA 0)] ?_
       clear G; intro ρ a w G
       refine th_n ?_
       refine wp_ret ?_
       exact rx_ret (v := iA 0) G [0, 1, 2, 3, 4, 5, 6] (by kernel_rfl) (by kernel_rfl) (by kernel_rfl) (by have e1 : (iflR p s cx : Int) = (0) := (by exact if0 (by omega)); first | (rw [e1]; done) | (rw [e1]; rfl) | (simp only [e1]; done) | (simp only [e1]; rfl))
      ·
       have q15 : s.kind = 5 := eq_of_beq h15
       cases h16 : (!(labOk (labV p s.value) && decide (labV p s.value ≤ (1 : Int))))
       ·
        have q16 : ((labOk (labV p s.value)) = true) ∧ (labV p s.value ≤ 1) := (fun hq => And.imp (fun hq => (hq)) (fun hq => of_decide_eq_true (hq)) (Bool.and_eq_true_iff.1 (hq))) (Eq.mp (Bool.not_eq_false' _) h16)
        refine rs1 (dk := dkP) G ⟨[(7, _, [0, 1, 2, 4]), (8, _, [])], [(s.kind == (5 : Int), true), (!(labOk (labV p s.value) && decide (labV p s.value ≤ (1 : Int))), false)], [(4, 0), (5, 0), (6, 0), (7, 0), (8, 0), (9, 0), (10, 0), (11, 1), (12, 1), (13, 0), (1013, 1), (1014, 0)]⟩ (calls_cons (c_label (p) (s.value) (by exact hd_value h (by omega))) (calls_cons (c_iLabelTrusted (labV p s.value)) calls_nil)) ⟨(by assumption), (by assumption), trivial⟩ [0, 1, 2, 3, 4, 5, 6] [dI p.vars, dI p.arrays, dT p.body, dE s.index.kids, dE s.value.kids, dT s.body, dT s.els] [(6, iA 0), (43, bA (cx != 0))] [] trivial ?_
        clear G; intro ρ a w G
        refine th_n ?_
        cases h17 : (cx != (0 : Int))
        ·
         have q17 : cx = 0 := (by simpa using h17)
         refine rF G (cx != (0 : Int)) (by assumption) ?_
         refine wp_skip ?_
         refine bl_n ?_
         refine th_n ?_
         refine wp_seq ?_
         refine rs0s G [(6, iA 0)] ?_
         clear G; intro ρ a w G
         refine th_n ?_
         refine wp_ret ?_
         exact rx_ret (v := iA 0) G [0, 1, 2, 3, 4, 5, 6] (by kernel_rfl) (by kernel_rfl) (by kernel_rfl) (by have e1 : (iflR p s cx : Int) = (0) := (by exact if0 (by omega)); first | (rw [e1]; done) | (rw [e1]; rfl) | (simp only [e1]; done) | (simp only [e1]; rfl))
        ·
         have q17 : ¬ (cx = 0) := bne_iff_ne.1 h17
         refine rT G (cx != (0 : Int)) (by assumption) ?_
         refine wp_seq ?_
         refine rs0s G [(6, iA 2)] ?_
         clear G; intro ρ a w G
         refine th_n ?_
         refine wp_ret ?_
         refine bl_r ?_
         refine th_r ?_
         exact rx_ret (v := iA 2) G [0, 1, 2, 3, 4, 5, 6] (by kernel_rfl) (by kernel_rfl) (by kernel_rfl) (by have e1 : (iflR p s cx : Int) = (2) := (by exact if5f (by with_reducible assumption) (.inr (by with_reducible assumption))); first | (rw [e1]; done) | (rw [e1]; rfl) | (simp only [e1]; done) | (simp only [e1]; rfl))
       ·
        have q16 : ((labOk (labV p s.value)) = false) ∨ (¬ (labV p s.value ≤ 1)) := (fun hq => Or.imp (fun hq => (hq)) (fun hq => of_decide_eq_false (hq)) (Bool.and_eq_false_iff.1 (hq))) (Eq.mp (Bool.not_eq_true' _) h16)
        refine rs1 (dk := dkP) G ⟨[(7, _, [0, 1, 2, 4]), (8, _, [])], [(s.kind == (5 : Int), true), (!(labOk (labV p s.value) && decide (labV p s.value ≤ (1 : Int))), true)], [(4, 0), (5, 0), (6, 0), (7, 0), (8, 0), (9, 0), (10, 0), (11, 1), (12, 1), (13, 0), (1013, 1), (1014, 0)]⟩ (calls_cons (c_label (p) (s.value) (by exact hd_value h (by omega))) (calls_cons (c_iLabelTrusted (labV p s.value)) calls_nil)) ⟨(by assumption), (by assumption), trivial⟩ [0, 1, 2, 3, 4, 5, 6] [dI p.vars, dI p.arrays, dT p.body, dE s.index.kids, dE s.value.kids, dT s.body, dT s.els] [(6, iA 0), (43, bA true)] [] trivial ?_
        clear G; intro ρ a w G
        refine th_n ?_
        refine rT G (true) (by kernel_rfl) ?_
        refine wp_seq ?_
        refine rs0s G [(6, iA 2)] ?_
        clear G; intro ρ a w G
        refine th_n ?_
        refine wp_ret ?_
        refine bl_r ?_
        refine th_r ?_
        exact rx_ret (v := iA 2) G [0, 1, 2, 3, 4, 5, 6] (by kernel_rfl) (by kernel_rfl) (by kernel_rfl) (by have e1 : (iflR p s cx : Int) = (2) := (by exact if5f (by with_reducible assumption) (.inl (by with_reducible assumption))); first | (rw [e1]; done) | (rw [e1]; rfl) | (simp only [e1]; done) | (simp only [e1]; rfl))
     ·
      have q14 : ¬ (anI (stoR p s cx) (p.arrays.getD s.target.toNat 0) = 0) := (fun hq => ne_of_beq_false (hq)) (Eq.mp (Bool.not_eq_true' _) h14)
      refine rT G (!anI (stoR p s cx) (p.arrays.getD s.target.toNat (0 : Int)) == (0 : Int)) (by assumption) ?_
      refine wp_seq ?_
      refine rs0 G [0, 1, 2, 3, 4, 5, 6] [dI p.vars, dI p.arrays, dT p.body, dE s.index.kids, dE s.value.kids, dT s.body, dT s.els] [(6, iA 1)] ?_
      clear G; intro ρ a w G
      refine th_n ?_
      refine wp_ret ?_
      refine bl_r ?_
      refine th_r ?_
      exact rx_ret (v := iA 1) G [0, 1, 2, 3, 4, 5, 6] (by kernel_rfl) (by kernel_rfl) (by kernel_rfl) (by have e1 : (iflR p s cx : Int) = (1) := (by exact if2f (by with_reducible assumption) (by with_reducible assumption)); first | (rw [e1]; done) | (rw [e1]; rfl) | (simp only [e1]; done) | (simp only [e1]; rfl))
   ·
    have q9 : ¬ (anI (stoR p s cx) (p.vars.getD s.target.toNat 0) = 0) := (fun hq => ne_of_beq_false (hq)) (Eq.mp (Bool.not_eq_true' _) h9)
    refine rT G (!anI (stoR p s cx) (p.vars.getD s.target.toNat (0 : Int)) == (0 : Int)) (by assumption) ?_
    refine wp_seq ?_
    refine rs0 G [0, 1, 2, 3, 4, 5, 6] [dI p.vars, dI p.arrays, dT p.body, dE s.index.kids, dE s.value.kids, dT s.body, dT s.els] [(6, iA 1)] ?_
    clear G; intro ρ a w G
    refine th_n ?_
    refine wp_ret ?_
    refine bl_r ?_
    refine th_r ?_
    exact rx_ret (v := iA 1) G [0, 1, 2, 3, 4, 5, 6] (by kernel_rfl) (by kernel_rfl) (by kernel_rfl) (by have e1 : (iflR p s cx : Int) = (1) := (by exact if1f (by with_reducible assumption) (by with_reducible assumption)); first | (rw [e1]; done) | (rw [e1]; rfl) | (simp only [e1]; done) | (simp only [e1]; rfl))

end Go.Proofs.Ytgpkdfefgcpbiaa

namespace Go.Proofs.Ytgpkdfefgcpbiaa
set_option linter.unusedVariables false
set_option linter.unusedSimpArgs false
open Go Go.RowKit

/-- Statements with the labels around them, in order. -/
def evs (p : LProg) : Nat → Int → List LStmt → List (LStmt × Int)
  | 0, _, _ => []
  | d + 1, cx, ss => ss.flatMap fun s => (s, cx) :: (evs p d (innR p s cx) s.body ++ evs p d (innR p s cx) s.els)
theorem evs_cons (p : LProg) (d : Nat) (cx : Int) (s : LStmt) (r : List LStmt) : evs p (d + 1) cx (s :: r) = (s, cx) :: (evs p d (innR p s cx) s.body ++ evs p d (innR p s cx) s.els) ++ evs p (d + 1) cx r := by
  simp only [evs, List.flatMap_cons]
theorem evs_nil (p : LProg) (d : Nat) (cx : Int) : evs p d cx [] = [] := by cases d <;> rfl
theorem evs_append (p : LProg) (d : Nat) (cx : Int) (a b : List LStmt) : evs p d cx (a ++ b) = evs p d cx a ++ evs p d cx b := by
  cases d with
  | zero => rfl
  | succ d => simp [evs]
theorem evs_take (p : LProg) (d : Nat) (cx : Int) {ss : List LStmt} {k : Nat} (hk : k < ss.length) :
    evs p (d + 1) cx (ss.take (k + 1)) = evs p (d + 1) cx (ss.take k) ++ ((ss.getD k default, cx) :: (evs p d (innR p (ss.getD k default) cx) (ss.getD k default).body ++ evs p d (innR p (ss.getD k default) cx) (ss.getD k default).els)) := by
  rw [take_succ_get _ _ hk, evs_append, getD_lt hk, evs_cons, evs_nil, List.append_nil]
theorem evs_len (p : LProg) : ∀ (d : Nat) (cx : Int) (ss : List LStmt), (evs p d cx ss).length ≤ nSs ss
  | 0, _, _ => Nat.zero_le _
  | d + 1, cx, [] => by simp [evs]
  | d + 1, cx, s :: r => by
    rw [evs_cons, List.length_append, List.length_cons, List.length_append, nSs, nS_def]
    have h1 := evs_len p d (innR p s cx) s.body
    have h2 := evs_len p d (innR p s cx) s.els
    have h3 := evs_len p (d + 1) cx r
    omega

/-- The first that is not fine, and its number. -/
def firstN (R : LStmt × Int → Int) : Nat → List (LStmt × Int) → Int × Nat
  | c, [] => (0, c)
  | c, x :: r => if R x = 0 then firstN R (c + 1) r else (R x, c)
theorem firstN_append (R : LStmt × Int → Int) : ∀ (a b : List (LStmt × Int)) (c : Nat), firstN R c (a ++ b) = if (firstN R c a).1 = 0 then firstN R (firstN R c a).2 b else firstN R c a
  | [], b, c => by simp [firstN]
  | x :: r, b, c => by
    simp only [List.cons_append, firstN]
    by_cases h : R x = 0
    · simp only [h, if_true]; exact firstN_append R r b _
    · simp [h]
theorem firstN_congr {R R' : LStmt × Int → Int} : ∀ {l : List (LStmt × Int)} {c : Nat}, (∀ x ∈ l, R x = R' x) → firstN R c l = firstN R' c l
  | [], c, _ => rfl
  | x :: r, c, h => by
    simp only [firstN]
    rw [h x List.mem_cons_self, firstN_congr fun y hy => h y (List.mem_cons_of_mem _ hy)]
theorem firstN_fine {R : LStmt × Int → Int} : ∀ {l : List (LStmt × Int)} {c : Nat}, (firstN R c l).1 = 0 ↔ ∀ x ∈ l, R x = 0
  | [], c => by simp [firstN]
  | x :: r, c => by
    simp only [firstN, List.mem_cons, forall_eq_or_imp]
    by_cases h : R x = 0
    · rw [if_pos h, firstN_fine]; simp [h]
    · rw [if_neg h]; simp [h]
theorem stC_evs (p : LProg) (strict : Bool) (d : Nat) (ih : ∀ (cx : Int) (c : Nat) (ss : List LStmt), blC p strict d cx c ss = firstN (fun x => ownR p x.1 x.2 strict) c (evs p d cx ss)) (cx : Int) (c : Nat) (s : LStmt) :
    stC p strict (d + 1) cx c s = firstN (fun x => ownR p x.1 x.2 strict) c ((s, cx) :: (evs p d (innR p s cx) s.body ++ evs p d (innR p s cx) s.els)) := by
  have h1 := ih (innR p s cx) (c + 1) s.body
  unfold blC at h1
  rw [stC, firstN]
  simp only
  split
  · rw [firstN_append, h1]
    split
    · exact ih _ _ _
    · rfl
  · rfl
theorem blC_evs (p : LProg) (strict : Bool) : ∀ (d : Nat) (cx : Int) (c : Nat) (ss : List LStmt), blC p strict d cx c ss = firstN (fun x => ownR p x.1 x.2 strict) c (evs p d cx ss)
  | 0, cx, c, ss => by
    induction ss with
    | nil => rfl
    | cons s r ih => unfold blC at ih ⊢; rw [foldC]; simp only [stC, if_true]; exact ih
  | d + 1, cx, c, ss => by
    induction ss generalizing c with
    | nil => simp [foldC, evs, firstN]
    | cons s r ih =>
      unfold blC at ih ⊢
      rw [foldC, evs_cons, firstN_append, ← stC_evs p strict d (blC_evs p strict d)]
      split
      · exact ih _
      · rfl

/-- What is told of one after another. -/
def stepF (R : LStmt × Int → Int) (σ : Int × Int × Nat) (x : LStmt × Int) : Int × Int × Nat :=
  if σ.1 = 0 then (R x, if R x = 0 then σ.2.1 else (σ.2.2 : Int), σ.2.2 + 1) else (σ.1, σ.2.1, σ.2.2 + 1)
theorem stepF_len (R : LStmt × Int → Int) : ∀ (l : List (LStmt × Int)) (σ : Int × Int × Nat), (l.foldl (stepF R) σ).2.2 = σ.2.2 + l.length
  | [], σ => rfl
  | x :: r, σ => by
    rw [List.foldl_cons, stepF_len R r, List.length_cons]
    unfold stepF
    split <;> simp only <;> omega
theorem stepF_stop {R : LStmt × Int → Int} : ∀ (l : List (LStmt × Int)) {σ : Int × Int × Nat}, ¬ σ.1 = 0 → (l.foldl (stepF R) σ).1 = σ.1 ∧ (l.foldl (stepF R) σ).2.1 = σ.2.1
  | [], σ, h => ⟨rfl, rfl⟩
  | x :: r, σ, h => by
    rw [List.foldl_cons]
    have e : stepF R σ x = (σ.1, σ.2.1, σ.2.2 + 1) := by unfold stepF; rw [if_neg h]
    rw [e]
    exact stepF_stop r (σ := (σ.1, σ.2.1, σ.2.2 + 1)) h
theorem stepF_first {R : LStmt × Int → Int} : ∀ (l : List (LStmt × Int)) (n : Nat), ((l.foldl (stepF R) (0, -1, n)).1, (l.foldl (stepF R) (0, -1, n)).2.1) = if (firstN R n l).1 = 0 then ((0 : Int), (-1 : Int)) else ((firstN R n l).1, ((firstN R n l).2 : Int))
  | [], n => rfl
  | x :: r, n => by
    rw [List.foldl_cons, firstN]
    by_cases h : R x = 0
    · have e : stepF R (0, -1, n) x = (0, -1, n + 1) := by unfold stepF; simp [h]
      rw [e, if_pos h]; exact stepF_first r (n + 1)
    · have e : stepF R (0, -1, n) x = (R x, (n : Int), n + 1) := by unfold stepF; simp [h]
      rw [e, if_neg h, if_neg h]
      obtain ⟨h1, h2⟩ := stepF_stop (R := R) r (σ := (R x, (n : Int), n + 1)) h
      rw [h1, h2]
theorem stepF_run {R : LStmt × Int → Int} {p : LProg} {d : Nat} {cx : Int} {ss : List LStmt} {k : Nat} (hk : k < ss.length) (σ : Int × Int × Nat) :
    (evs p (d + 1) cx (ss.take (k + 1))).foldl (stepF R) σ =
      (evs p d (innR p (ss.getD k default) cx) (ss.getD k default).els).foldl (stepF R) ((evs p d (innR p (ss.getD k default) cx) (ss.getD k default).body).foldl (stepF R) (stepF R ((evs p (d + 1) cx (ss.take k)).foldl (stepF R) σ) (ss.getD k default, cx))) := by
  rw [evs_take p d cx hk, List.foldl_append, List.foldl_cons, List.foldl_append]

/-- What stands there is valid, with labels around it. -/
theorem or_fin : ∀ x : Fin 4, ∀ y : Fin 4, ∃ z : Fin 4, orI x.val y.val = (z.val : Int) := by decide +kernel
theorem or_ok {x y : Int} (hx : labOk x = true) (hy : labOk y = true) : labOk (orI x y) = true := by
  obtain ⟨a, rfl⟩ := lab_fin hx
  obtain ⟨b, rfl⟩ := lab_fin hy
  obtain ⟨c, h⟩ := or_fin a b
  rw [h]
  simp [labOk]; omega
theorem or_comm_fin : ∀ x : Fin 4, ∀ y : Fin 4, orI x.val y.val = orI y.val x.val := by decide +kernel
theorem or_assoc_fin : ∀ x : Fin 4, ∀ y : Fin 4, ∀ z : Fin 4, orI (orI x.val y.val) z.val = orI x.val (orI y.val z.val) := by decide +kernel
theorem or_comm {x y : Int} (hx : labOk x = true) (hy : labOk y = true) : orI x y = orI y x := by
  obtain ⟨a, rfl⟩ := lab_fin hx
  obtain ⟨b, rfl⟩ := lab_fin hy
  exact or_comm_fin a b
theorem or_assoc {x y z : Int} (hx : labOk x = true) (hy : labOk y = true) (hz : labOk z = true) : orI (orI x y) z = orI x (orI y z) := by
  obtain ⟨a, rfl⟩ := lab_fin hx
  obtain ⟨b, rfl⟩ := lab_fin hy
  obtain ⟨c, rfl⟩ := lab_fin hz
  exact or_assoc_fin a b c
theorem getD_ok {l : List Int} (h : l.all labOk = true) (i : Nat) : labOk (l.getD i 0) = true := by
  rcases Nat.lt_or_ge i l.length with hi | hi
  · rw [getD_lt hi]; exact List.all_eq_true.1 h _ (List.getElem_mem hi)
  · rw [List.getD_eq_getElem?_getD, List.getElem?_eq_none hi]; rfl
theorem labE_ok {vs ars : List Int} (h1 : vs.all labOk = true) (h2 : ars.all labOk = true) : ∀ (d : Nat) (e : LExpr), labOk (labE vs ars d e) = true
  | 0, _ => rfl
  | d + 1, e => by
    rw [labE]
    have key : ∀ (ks : List LExpr) (a : Int), labOk a = true → labOk (ks.foldl (fun a k => orI a (labE vs ars d k)) a) = true := by
      intro ks
      induction ks with
      | nil => intro a ha; exact ha
      | cons x r ih => intro a ha; rw [List.foldl_cons]; exact ih _ (or_ok ha (labE_ok h1 h2 d x))
    refine key _ _ ?_
    unfold ownL
    split
    · exact getD_ok h1 _
    · split
      · exact getD_ok h2 _
      · rfl
/-- All labels of a program are labels. -/
def labsB (p : LProg) : Bool := p.vars.all labOk && p.arrays.all labOk
theorem progB_labs {p : LProg} (h : progB p = true) : labsB p = true := by
  unfold progB headsB at h
  simp only [Bool.and_eq_true] at h
  unfold labsB
  rw [h.1.1.1.1.1.1, h.1.1.1.1.1.2]; rfl
theorem labV_ok {p : LProg} (h : labsB p = true) (e : LExpr) : labOk (labV p e) = true := by
  simp only [labsB, Bool.and_eq_true] at h
  exact labE_ok h.1 h.2 5 e
theorem innR_ok {p : LProg} (h : labsB p = true) {cx : Int} (hc : labOk cx = true) (s : LStmt) : labOk (innR p s cx) = true := by
  unfold innR
  split
  · exact or_ok hc (labV_ok h _)
  · exact hc
theorem evs_mem {p : LProg} (hp : labsB p = true) : ∀ (d : Nat) (cx : Int) (ss : List LStmt), labOk cx = true → ss.all (stmtB p.vars.length p.arrays.length d) = true → ∀ x ∈ evs p d cx ss, headB p.vars.length p.arrays.length x.1 = true ∧ labOk x.2 = true ∧ (x.1.kind = 4 → x.1.value.kind = 0 ∧ x.1.value.kids = [])
  | 0, cx, ss, _, _, x, hx => by simp [evs] at hx
  | d + 1, cx, ss, hc, hs, x, hx => by
    rw [evs] at hx
    obtain ⟨s, hss, hx⟩ := List.mem_flatMap.1 hx
    have h0 := List.all_eq_true.1 hs s hss
    have h1 := h0
    rw [stmtB_head, Bool.and_eq_true, Bool.and_eq_true] at h1
    rw [List.mem_cons, List.mem_append] at hx
    rcases hx with rfl | hx | hx
    · refine ⟨h1.1, hc, fun k4 => ?_⟩
      rw [stmtB, Bool.and_eq_true] at h0
      have h2 := h0.1
      unfold partsB at h2
      rw [if_pos (.inr k4), if_pos k4] at h2
      simp only [Bool.and_eq_true, decide_eq_true_eq, noneB] at h2
      exact ⟨h2.2.2.1.1, List.eq_nil_of_length_eq_zero h2.2.2.2⟩
    · exact evs_mem hp d _ _ (innR_ok hp hc s) h1.2.1 x hx
    · exact evs_mem hp d _ _ (innR_ok hp hc s) h1.2.2 x hx

/-- impl's flow is the reference's. -/
theorem iflR_eq {p : LProg} (hp : labsB p = true) {s : LStmt} {cx : Int} (hc : labOk cx = true) : iflR p s cx = flowR p s cx := by
  have hv := labV_ok hp s.value
  have hi := labV_ok hp s.index
  simp only [labsB, Bool.and_eq_true] at hp
  unfold iflR flowR
  by_cases k1 : s.kind = 1
  · rw [if_pos k1, if_pos k1]
    have hx := or_ok hv hc
    have hy := getD_ok hp.1 s.target.toNat
    have := flows_eq hx hy
    unfold flB
    rw [hx, hy]
    by_cases h : anI (orI (labV p s.value) cx) (p.vars.getD s.target.toNat 0) = 0
    · rw [if_pos h, if_pos]
      rw [beq_iff_eq.2 h] at this
      rw [← this]; rfl
    · rw [if_neg h, if_neg]
      rw [beq_eq_false_iff_ne.2 h] at this
      rw [← this]; simp
  rw [if_neg k1, if_neg k1]
  by_cases k2 : s.kind = 2
  · rw [if_pos k2, if_pos k2]
    have e : orI (orI (labV p s.value) cx) (labV p s.index) = orI (orI (labV p s.value) (labV p s.index)) cx := by
      rw [or_assoc hv hc hi, or_comm hc hi, ← or_assoc hv hi hc]
    rw [e]
    have hx := or_ok (or_ok hv hi) hc
    have hy := getD_ok hp.2 s.target.toNat
    have := flows_eq hx hy
    unfold flB
    rw [hx, hy]
    by_cases h : anI (orI (orI (labV p s.value) (labV p s.index)) cx) (p.arrays.getD s.target.toNat 0) = 0
    · rw [if_pos h, if_pos]
      rw [beq_iff_eq.2 h] at this
      rw [← this]; rfl
    · rw [if_neg h, if_neg]
      rw [beq_eq_false_iff_ne.2 h] at this
      rw [← this]; simp
  rw [if_neg k2, if_neg k2]
  by_cases k5 : s.kind = 5
  · rw [if_pos k5, if_pos k5]
    by_cases h : (labOk (labV p s.value) && decide (labV p s.value ≤ 1)) = true ∧ cx = 0
    · rw [if_pos h, if_pos]
      rw [h.1, decide_eq_true h.2]; rfl
    · rw [if_neg h, if_neg]
      rw [Bool.and_eq_true, decide_eq_true_eq]; exact h
  · rw [if_neg k5, if_neg k5]
/-- impl's leaks. -/
def ilkR (p : LProg) (s : LStmt) : Int :=
  if s.kind = 3 ∧ secB (labV p s.value) = true then 3
  else if (s.kind = 2 ∧ secB (labV p s.index) = true) ∨ secE p.vars p.arrays 5 s.value = true then 4 else 0
theorem ilkR_eq {p : LProg} {s : LStmt} (h : s.kind = 4 → s.value.kind = 0 ∧ s.value.kids = []) : ilkR p s = leakR p s := by
  unfold ilkR leakR
  split
  · rfl
  · by_cases k4 : s.kind = 4
    · obtain ⟨h1, h2⟩ := h k4
      have e : secE p.vars p.arrays 5 s.value = false := by rw [secE, h2]; simp [h1]
      rw [e]
      simp [k4]
    · simp only [ne_eq, k4, not_false_eq_true, true_and]
      by_cases a : s.kind = 2 ∧ secB (labV p s.index) = true <;> by_cases b : secE p.vars p.arrays 5 s.value = true <;> simp [a, b]
/-- impl's two walks tell what the reference's checks tell. -/
theorem ck_flow {p : LProg} (h : progB p = true) : ((evs p 5 0 p.body).foldl (stepF fun x => iflR p x.1 x.2) (0, -1, 0)).1 = (ckR p false).1 ∧ ((evs p 5 0 p.body).foldl (stepF fun x => iflR p x.1 x.2) (0, -1, 0)).2.1 = (ckR p false).2 := by
  have h1 := stepF_first (R := fun x => iflR p x.1 x.2) (evs p 5 0 p.body) 0
  have hl := progB_labs h
  have e : firstN (fun x => iflR p x.1 x.2) 0 (evs p 5 0 p.body) = blC p false 5 0 0 p.body := by
    rw [blC_evs]
    refine firstN_congr fun x hx => ?_
    have hm := evs_mem hl 5 0 p.body rfl (progB_all h).1 x hx
    rw [iflR_eq hl hm.2.1]
    unfold ownR
    simp only [Bool.false_eq_true, if_false]
    split
    · rename_i h; exact h
    · rfl
  rw [e] at h1
  have h2 := Prod.mk.inj h1
  unfold ckR
  rw [if_pos h]
  split
  · rename_i h3
    rw [if_pos h3] at h1
    exact Prod.mk.inj h1
  · rename_i h3
    rw [if_neg h3] at h1
    exact Prod.mk.inj h1
theorem ck_leak {p : LProg} (h : progB p = true) (hf : (ckR p false).1 = 0) : ((evs p 5 0 p.body).foldl (stepF fun x => ilkR p x.1) (0, -1, 0)).1 = (ckR p true).1 ∧ ((evs p 5 0 p.body).foldl (stepF fun x => ilkR p x.1) (0, -1, 0)).2.1 = (ckR p true).2 := by
  have h1 := stepF_first (R := fun x => ilkR p x.1) (evs p 5 0 p.body) 0
  have hl := progB_labs h
  have hf2 : (blC p false 5 0 0 p.body).1 = 0 := by
    unfold ckR at hf
    rw [if_pos h] at hf
    split at hf
    · assumption
    · exact hf
  rw [blC_evs, firstN_fine] at hf2
  have e : firstN (fun x => ilkR p x.1) 0 (evs p 5 0 p.body) = blC p true 5 0 0 p.body := by
    rw [blC_evs]
    refine firstN_congr fun x hx => ?_
    have hm := evs_mem hl 5 0 p.body rfl (progB_all h).1 x hx
    rw [ilkR_eq hm.2.2]
    have h0 := hf2 x hx
    unfold ownR at h0 ⊢
    simp only [Bool.false_eq_true, if_false, if_true] at h0 ⊢
    split at h0
    · rename_i h; rw [if_pos h]
    · rename_i h; exact absurd h0 h
  rw [e] at h1
  unfold ckR
  rw [if_pos h]
  split
  · rename_i h3
    rw [if_pos h3] at h1
    exact Prod.mk.inj h1
  · rename_i h3
    rw [if_neg h3] at h1
    exact Prod.mk.inj h1

end Go.Proofs.Ytgpkdfefgcpbiaa

namespace Go.Proofs.Ytgpkdfefgcpbiaa
set_option linter.unusedVariables false
set_option linter.unusedSimpArgs false
open Go Go.RowKit

/-- The first that is so. -/
def findI {α : Type} (f : α → Bool) (l : List α) : Int := match l.findIdx? f with
  | some i => i
  | none => -1
theorem findI_hit {α : Type} {f : α → Bool} {l : List α} {k : Nat} {z : α} (hk : k < l.length) (h : (l.take k).any f = false) (hf : f (l.getD k z) = true) : findI f l = k := by
  have : l.findIdx? f = some k := by
    rw [List.findIdx?_eq_some_iff_getElem]
    rw [getD_lt hk] at hf
    refine ⟨hk, hf, fun j hj => ?_⟩
    rw [List.any_eq_false] at h
    have hm : l[j] ∈ l.take k := List.mem_take_iff_getElem.2 ⟨j, by omega, rfl⟩
    exact h _ hm
  unfold findI; rw [this]
theorem findI_no {α : Type} {f : α → Bool} {l : List α} (h : l.any f = false) : findI f l = -1 := by
  have : l.findIdx? f = none := by
    rw [List.findIdx?_eq_none_iff]
    intro x hx
    rw [List.any_eq_false] at h
    simpa using h x hx
  unfold findI; rw [this]
theorem findI_any {α : Type} (f : α → Bool) (l : List α) : decide (findI f l ≥ 0) = l.any f := by
  cases h : l.any f
  · rw [findI_no h]; rfl
  · unfold findI
    cases h2 : l.findIdx? f with
    | none =>
      rw [List.findIdx?_eq_none_iff] at h2
      obtain ⟨x, hx, hf⟩ := List.any_eq_true.1 h
      rw [h2 x hx] at hf; cases hf
    | some i => simp
theorem getD_mem {α : Type} {l : List α} {k : Nat} {z : α} (h : k < l.length) : l.getD k z ∈ l := by rw [getD_lt h]; exact List.getElem_mem h
/-- In shape, or the zero value. -/
def okS (nv na d : Nat) (e : LExpr) : Prop := (e.kind = 0 ∧ e.kids = []) ∨ shapeB nv na d e = true
theorem okS_kid {nv na d k : Nat} {e : LExpr} (h : okS nv na (d + 1) e) (hk : k < e.kids.length) : shapeB nv na d (e.kids.getD k default) = true := by
  rcases h with h | h
  · rw [h.2] at hk; simp at hk
  · exact sh_kid h hk
theorem okS_mem {nv na d : Nat} {e x : LExpr} (h : okS nv na (d + 1) e) (hk : x ∈ e.kids) : okS nv na d x := by
  obtain ⟨i, hi, rfl⟩ := List.mem_iff_getElem.1 hk
  have := okS_kid h hi
  rw [getD_lt hi] at this
  exact .inr this
theorem okS_len {nv na d : Nat} {e : LExpr} (h : okS nv na (d + 1) e) (k : e.kind = 3) : 0 < e.kids.length := by
  rcases h with h | h
  · omega
  · exact sh_len h k

theorem secE_k {vs ars : List Int} {d : Nat} {e : LExpr} (k : ¬ e.kind = 3) : secE vs ars (d + 1) e = e.kids.any (secE vs ars d) := by rw [secE]; simp [k]
theorem secE_k3 {vs ars : List Int} {d : Nat} {e : LExpr} (k : (labOk (labE vs ars d (e.kids.getD 0 default)) && decide (labE vs ars d (e.kids.getD 0 default) % 2 = 1)) = false) : secE vs ars (d + 1) e = e.kids.any (secE vs ars d) := by rw [secE, k]; simp
abbrev secC (p : LProg) (d : Nat) (e : LExpr) : Ctr := fnC 134 [pA 0, eA e 3] (pS p ++ eS e) (bA (secE p.vars p.arrays d e))
set_option maxRecDepth 100000 in
theorem c_findS (p : LProg) (d : Nat) (l : List LExpr) (ih : ∀ (e : LExpr), e ∈ l → Ctr.ok Try.prog (secC p d e)) : Ctr.ok Try.prog (fnC 200 [.ref 3, .bm 134 [pA 0]] (pS p ++ [.dat (.exprs l)]) (iA (findI (secE p.vars p.arrays d) l))) := by
  refine rx_enter 19 Try.func200 (by rfl) (by kernel_rfl) (by kernel_rfl) ?_
  intro ι φ ψ w0 w F ρ0 ρ a G
  replace G := Gam.at G [dI p.vars, dI p.arrays, dT p.body, dE l] [(0, .ref 3), (1, .bm 134 [pA 0])]
  have hlen : l.length ≤ 9223372036854775807 := G.len 3 (d := .exprs l) (by kernel_rfl)
  refine wp_seq ?_
  refine rs0s G [(0, .ref 3), (1, .bm 134 [pA 0]), (4, iA 0)] ?_
  clear G; intro ρ a w G
  refine th_n ?_
  refine wp_seq ?_
  refine wp_seq ?_
  refine rs0s G [(0, .ref 3), (1, .bm 134 [pA 0]), (4, iA 0), (7, iA (↑l.length : Int)), (8, iA 0)] ?_
  clear G; intro ρ a w G
  refine th_n ?_
  refine wp_block ?_
  refine rx_for (κ := Nat) (fun k => k ≤ l.length ∧ (l.take k).any (secE p.vars p.arrays d) = false) (fun k => l.length - k) (fun k => [dI p.vars, dI p.arrays, dT p.body, dE l]) (fun k => [(0, .ref 3), (1, .bm 134 [pA 0]), (4, iA 0), (7, iA (↑l.length : Int)), (8, iA k)]) (0) (by exact ⟨Nat.zero_le _, rfl⟩) (Gam.at G _ _) ?_
  clear G
  intro k ρ a w hp G
  replace G := Gam.at G [dI p.vars, dI p.arrays, dT p.body, dE l] [(0, .ref 3), (1, .bm 134 [pA 0]), (4, iA 0), (7, iA (↑l.length : Int)), (8, iA (↑k : Int))]
  refine wp_seq ?_
  refine rs0s G [(0, .ref 3), (1, .bm 134 [pA 0]), (4, iA 0), (7, iA (↑l.length : Int)), (8, iA (↑k : Int)), (9, bA (decide ((↑k : Int) < (↑l.length : Int))))] ?_
  clear G; intro ρ a w G
  refine th_n ?_
  refine wp_seq ?_
  cases h0 : (decide ((↑k : Int) < (↑l.length : Int)))
  ·
   have q0 : ¬ ((↑k : Int) < (↑l.length : Int)) := of_decide_eq_false h0
   refine rF G (decide ((↑k : Int) < (↑l.length : Int))) (by assumption) ?_
   refine wp_exit ?_
   refine th_e ?_
   refine th_e ?_
   refine bl_hit ?_
   refine th_n ?_
   refine wp_seq ?_
   refine rs0s G [(4, iA (-1))] ?_
   clear G; intro ρ a w G
   refine th_n ?_
   refine wp_ret ?_
   exact rx_ret (v := iA (-1)) G [0, 1, 2, 3] (by kernel_rfl) (by kernel_rfl) (by kernel_rfl) (by have e1 : (findI (secE p.vars p.arrays d) l : Int) = (-1) := (by exact findI_no (any_full hp.2 (by omega))); first | (rw [e1]; done) | (rw [e1]; rfl) | (simp only [e1]; done) | (simp only [e1]; rfl))
  ·
   have q0 : (↑k : Int) < (↑l.length : Int) := of_decide_eq_true h0
   refine rT G (decide ((↑k : Int) < (↑l.length : Int))) (by assumption) ?_
   refine wp_skip ?_
   refine th_n ?_
   refine wp_seq ?_
   refine wp_block ?_
   refine wp_seq ?_
   refine rs0s G [(0, .ref 3), (1, .bm 134 [pA 0]), (4, iA 0), (5, iA (↑k : Int)), (7, iA (↑l.length : Int)), (8, iA (↑k : Int))] ?_
   clear G; intro ρ a w G
   refine th_n ?_
   refine wp_seq ?_
   refine rs1s G ⟨[(5, _, [0, 1, 2, 36])], [], []⟩ (calls_cons (ih (l.getD k default) (by exact getD_mem (by omega))) calls_nil) trivial [(0, .ref 3), (1, .bm 134 [pA 0]), (4, iA 0), (5, iA (↑k : Int)), (7, iA (↑l.length : Int)), (8, iA (↑k : Int)), (16, bA (secE p.vars p.arrays d (l.getD k default)))] [(0 : Int) ≤ (↑k : Int), (↑k : Int) < (↑l.length : Int), k < l.length] ⟨(by simp [h0]), (by assumption), (by have hp := hp; omega), trivial⟩ ?_
   clear G; intro ρ a w G
   refine th_n ?_
   cases h1 : (secE p.vars p.arrays d (l.getD k default))
   ·
    refine rF G (secE p.vars p.arrays d (l.getD k default)) (by assumption) ?_
    refine wp_skip ?_
    refine bl_n ?_
    refine th_n ?_
    refine rs1s G ⟨[], [], []⟩ calls_nil trivial [(0, .ref 3), (1, .bm 134 [pA 0]), (4, iA 0), (7, iA (↑l.length : Int)), (8, iA ((↑k : Int) + 1))] [IntKind.i64.wrap ((↑k : Int) + (1 : Int)) = (↑k : Int) + (1 : Int)] ⟨(by exact w64 (by omega) (by omega)), trivial⟩ ?_
    clear G; intro ρ a w G
    refine th_n ?_
    exact rx_next G (k + 1) (by exact ⟨by omega, any_next hp.2 (by omega) (by assumption)⟩) (by have hp := hp; omega) [0, 1, 2, 3] [dI p.vars, dI p.arrays, dT p.body, dE l] [(0, .ref 3), (1, .bm 134 [pA 0]), (4, iA 0), (7, iA (↑l.length : Int)), (8, iA (↑(k + 1) : Int))] (by kernel_rfl) (by kernel_rfl) (by kernel_rfl) (by kernel_rfl) (by kernel_rfl)
   ·
    refine rT G (secE p.vars p.arrays d (l.getD k default)) (by assumption) ?_
    refine wp_seq ?_
    refine rs0s G [(0, .ref 3), (1, .bm 134 [pA 0]), (4, iA (↑k : Int)), (7, iA (↑l.length : Int)), (8, iA (↑k : Int))] ?_
    clear G; intro ρ a w G
    refine th_n ?_
    refine wp_ret ?_
    refine bl_r ?_
    refine th_r ?_
    refine th_r ?_
    refine bl_r ?_
    refine th_r ?_
    exact rx_ret (v := iA (↑k : Int)) G [0, 1, 2, 3] (by kernel_rfl) (by kernel_rfl) (by kernel_rfl) (by have e1 : (findI (secE p.vars p.arrays d) l : Int) = ((↑k : Int)) := (by exact findI_hit (by omega) hp.2 (by assumption)); first | (rw [e1]; done) | (rw [e1]; rfl) | (simp only [e1]; done) | (simp only [e1]; rfl))

set_option maxRecDepth 100000 in
theorem c_containsS (p : LProg) (d : Nat) (l : List LExpr) (ih : ∀ (e : LExpr), e ∈ l → Ctr.ok Try.prog (secC p d e)) : Ctr.ok Try.prog (fnC 174 [.ref 3, .bm 134 [pA 0]] (pS p ++ [.dat (.exprs l)]) (bA (l.any (secE p.vars p.arrays d)))) := by
  have hfind := c_findS p d l ih
  refine rx_enter 9 Try.func174 (by rfl) (by kernel_rfl) (by kernel_rfl) ?_
  intro ι φ ψ w0 w F ρ0 ρ a G
  replace G := Gam.at G [dI p.vars, dI p.arrays, dT p.body, dE l] [(0, .ref 3), (1, .bm 134 [pA 0])]
  refine wp_seq ?_
  refine rs0s G [(0, .ref 3), (1, .bm 134 [pA 0]), (4, bA false)] ?_
  clear G; intro ρ a w G
  refine th_n ?_
  refine wp_seq ?_
  refine rs1s G ⟨[(2, _, [0, 1, 2, 3])], [], []⟩ (calls_cons (hfind) calls_nil) trivial [(4, bA (decide (findI (secE p.vars p.arrays d) l ≥ 0)))] [] trivial ?_
  clear G; intro ρ a w G
  refine th_n ?_
  refine wp_ret ?_
  exact rx_ret (v := bA (decide (findI (secE p.vars p.arrays d) l ≥ 0))) G [0, 1, 2, 3] (by kernel_rfl) (by kernel_rfl) (by kernel_rfl) (by have e1 : (l.any (secE p.vars p.arrays d) : Bool) = (decide (findI (secE p.vars p.arrays d) l ≥ 0)) := (by exact (findI_any _ _).symm); first | (rw [e1]; done) | (rw [e1]; rfl) | (simp only [e1]; done) | (simp only [e1]; rfl))

set_option maxRecDepth 100000 in
theorem c_secretReadS (p : LProg) (d : Nat) (e : LExpr) (ih : ∀ (x : LExpr), x ∈ e.kids → Ctr.ok Try.prog (secC p d x)) (he : okS p.vars.length p.arrays.length (d + 1) e) : Ctr.ok Try.prog (secC p (d + 1) e) := by
  have hcon := c_containsS p d e.kids ih
  refine rx_enter 24 Try.func134 (by rfl) (by kernel_rfl) (by kernel_rfl) ?_
  intro ι φ ψ w0 w F ρ0 ρ a G
  replace G := Gam.at G [dI p.vars, dI p.arrays, dT p.body, dE e.kids] [(0, pA 0), (1, eA e 3)]
  have hl := c_labelD p d
  refine wp_seq ?_
  refine rs0 G [0, 1, 2, 3, 4, 12] [dI p.vars, dI p.arrays, dT p.body, dE e.kids, .box (pL 0), .box (eL e 3)] [(2, .ptr 4 0), (3, .ptr 5 0), (4, bA false)] ?_
  clear G; intro ρ a w G
  refine th_n ?_
  refine wp_seq ?_
  cases h0 : (e.kind == (3 : Int))
  ·
   have q0 : ¬ (e.kind = 3) := ne_of_beq_false h0
   refine rd1 (dk := dkP) G ⟨[(17, _, [0, 1, 2, 3])], [(e.kind == (3 : Int), false), (false, false)], [(4, 0), (5, 0), (6, 0), (7, 0), (8, 0), (9, 0), (10, 0), (1011, 0), (13, 1), (14, 1), (15, 1), (16, 1), (17, 1), (1018, 1)]⟩ (calls_cons (hcon) calls_nil) ⟨(by assumption), (by kernel_rfl), trivial⟩ [0, 1, 3, 7, 15, 15, 47, 111, 239, 511, 1023, 2047, 4095, 8191, 16383, 8191, 40959, 131071, 262143, 524287] [0, 1, 2, 3] [dI p.vars, dI p.arrays, dT p.body, dE e.kids] [(4, bA (e.kids.any (secE p.vars p.arrays d)))] [] trivial ?_
   clear G; intro ρ a w G
   refine th_n ?_
   refine wp_ret ?_
   exact rx_ret (v := bA (e.kids.any (secE p.vars p.arrays d))) G [0, 1, 2, 3] (by kernel_rfl) (by kernel_rfl) (by kernel_rfl) (by have e1 : (secE p.vars p.arrays (d + 1) e : Bool) = (e.kids.any (secE p.vars p.arrays d)) := (by exact secE_k (by assumption)); first | (rw [e1]; done) | (rw [e1]; rfl) | (simp only [e1]; done) | (simp only [e1]; rfl))
  ·
   have q0 : e.kind = 3 := eq_of_beq h0
   cases h1 : (labOk (labE p.vars p.arrays d (e.kids.getD (0 : Nat) default)) && decide (labE p.vars p.arrays d (e.kids.getD (0 : Nat) default) % (2 : Int) = (1 : Int)))
   ·
    have q1 : ((labOk (labE p.vars p.arrays d (e.kids.getD 0 default))) = false) ∨ (¬ (labE p.vars p.arrays d (e.kids.getD 0 default) % 2 = 1)) := Or.imp (fun hq => (hq)) (fun hq => of_decide_eq_false (hq)) (Bool.and_eq_false_iff.1 h1)
    refine rd1 (dk := dkP) G ⟨[(9, _, [0, 1, 2, 70]), (10, _, []), (17, _, [0, 1, 2, 3])], [(e.kind == (3 : Int), true), (labOk (labE p.vars p.arrays d (e.kids.getD (0 : Nat) default)) && decide (labE p.vars p.arrays d (e.kids.getD (0 : Nat) default) % (2 : Int) = (1 : Int)), false)], [(4, 0), (5, 0), (6, 0), (7, 0), (8, 0), (9, 0), (10, 0), (1011, 0), (13, 1), (14, 1), (15, 1), (16, 1), (17, 1), (1018, 1)]⟩ (calls_cons (hl (e.kids.getD 0 default) (by exact okS_kid he (okS_len he (by assumption)))) (calls_cons (c_iLabelSecret (labE p.vars p.arrays d (e.kids.getD 0 default))) (calls_cons (hcon) calls_nil))) ⟨(by assumption), (by assumption), trivial⟩ [0, 1, 3, 7, 15, 15, 47, 111, 239, 511, 1023, 2047, 4095, 8191, 16383, 8191, 40959, 131071, 262143, 524287] [0, 1, 2, 3] [dI p.vars, dI p.arrays, dT p.body, dE e.kids] [(4, bA (e.kids.any (secE p.vars p.arrays d)))] [(0 : Int) ≤ (0 : Int), (0 : Int) < (↑e.kids.length : Int), (0 : Nat) < e.kids.length] ⟨(by simp [h0, h1]), (by have := okS_len he (by assumption); omega), (by have := okS_len he (by assumption); omega), trivial⟩ ?_
    clear G; intro ρ a w G
    refine th_n ?_
    refine wp_ret ?_
    exact rx_ret (v := bA (e.kids.any (secE p.vars p.arrays d))) G [0, 1, 2, 3] (by kernel_rfl) (by kernel_rfl) (by kernel_rfl) (by have e1 : (secE p.vars p.arrays (d + 1) e : Bool) = (e.kids.any (secE p.vars p.arrays d)) := (by exact secE_k3 (by assumption)); first | (rw [e1]; done) | (rw [e1]; rfl) | (simp only [e1]; done) | (simp only [e1]; rfl))
   ·
    have q1 : ((labOk (labE p.vars p.arrays d (e.kids.getD 0 default))) = true) ∧ (labE p.vars p.arrays d (e.kids.getD 0 default) % 2 = 1) := And.imp (fun hq => (hq)) (fun hq => of_decide_eq_true (hq)) (Bool.and_eq_true_iff.1 h1)
    refine rd1 (dk := dkP) G ⟨[(9, _, [0, 1, 2, 70]), (10, _, [])], [(e.kind == (3 : Int), true), (labOk (labE p.vars p.arrays d (e.kids.getD (0 : Nat) default)) && decide (labE p.vars p.arrays d (e.kids.getD (0 : Nat) default) % (2 : Int) = (1 : Int)), true)], [(4, 0), (5, 0), (6, 0), (7, 0), (8, 0), (9, 0), (10, 0), (1011, 0), (13, 1), (14, 1), (15, 1), (16, 1), (17, 1), (1018, 1)]⟩ (calls_cons (hl (e.kids.getD 0 default) (by exact okS_kid he (okS_len he (by assumption)))) (calls_cons (c_iLabelSecret (labE p.vars p.arrays d (e.kids.getD 0 default))) calls_nil)) ⟨(by assumption), (by assumption), trivial⟩ [0, 1, 3, 7, 15, 15, 47, 111, 239, 511, 1023, 2047, 4095, 8191, 16383, 8191, 40959, 131071, 262143, 524287] [0, 1, 2, 3] [dI p.vars, dI p.arrays, dT p.body, dE e.kids] [(4, bA true)] [(0 : Int) ≤ (0 : Int), (0 : Int) < (↑e.kids.length : Int), (0 : Nat) < e.kids.length] ⟨(by simp [h0, h1]), (by have := okS_len he (by assumption); omega), (by have := okS_len he (by assumption); omega), trivial⟩ ?_
    clear G; intro ρ a w G
    refine th_n ?_
    refine wp_ret ?_
    exact rx_ret (v := bA true) G [0, 1, 2, 3] (by kernel_rfl) (by kernel_rfl) (by kernel_rfl) (by have e1 : (secE p.vars p.arrays (d + 1) e : Bool) = (true) := (by exact secE_t (by assumption) (by assumption)); first | (rw [e1]; done) | (rw [e1]; rfl) | (simp only [e1]; done) | (simp only [e1]; rfl))

theorem c_secretReadD (p : LProg) : ∀ (d : Nat) (e : LExpr), okS p.vars.length p.arrays.length d e → Ctr.ok Try.prog (secC p d e) := by
  intro d
  induction d with
  | zero =>
    intro e h
    have h0 : e.kind = 0 ∧ e.kids = [] := h.resolve_right (by simp [shapeB])
    have := c_secretReadS p 0 e (fun x hx => by rw [h0.2] at hx; cases hx) (.inl h0)
    have e1 : secE p.vars p.arrays 1 e = secE p.vars p.arrays 0 e := by rw [secE, secE, h0.2]; simp [h0.1]
    unfold secC at this ⊢
    rw [Nat.zero_add, e1] at this
    exact this
  | succ d ih => intro e h; exact c_secretReadS p d e (fun x hx => ih x (okS_mem h hx)) h
theorem c_secretRead (p : LProg) (e : LExpr) (he : okS p.vars.length p.arrays.length 5 e) : Ctr.ok Try.prog (fnC 134 [pA 0, eA e 3] (pS p ++ eS e) (bA (secE p.vars p.arrays 5 e))) := c_secretReadD p 5 e he

section
variable {p : LProg} {s : LStmt}
theorem il3 (k : s.kind = 3) (h : (labOk (labV p s.value) && decide (labV p s.value % 2 = 1)) = true) : ilkR p s = 3 := by rw [ilkR, if_pos ⟨k, (show secB _ = true from h)⟩]
theorem ili (k : s.kind = 2) (h : (labOk (labV p s.index) && decide (labV p s.index % 2 = 1)) = true) : ilkR p s = 4 := by
  rw [ilkR, if_neg (by omega), if_pos (.inl ⟨k, (show secB _ = true from h)⟩)]
theorem ilv (h3 : ¬ s.kind = 3 ∨ (labOk (labV p s.value) && decide (labV p s.value % 2 = 1)) = false) (h : secE p.vars p.arrays 5 s.value = true) : ilkR p s = 4 := by
  rw [ilkR, if_neg (by rintro ⟨a, b⟩; exact h3.elim (fun h => h a) (fun h => Bool.false_ne_true (h.symm.trans b))), if_pos (.inr h)]
theorem il0 (h3 : ¬ s.kind = 3 ∨ (labOk (labV p s.value) && decide (labV p s.value % 2 = 1)) = false) (h2 : ¬ s.kind = 2 ∨ (labOk (labV p s.index) && decide (labV p s.index % 2 = 1)) = false) (h : secE p.vars p.arrays 5 s.value = false) : ilkR p s = 0 := by
  rw [ilkR, if_neg (by rintro ⟨a, b⟩; exact h3.elim (fun h => h a) (fun h => Bool.false_ne_true (h.symm.trans b))), if_neg]
  rintro (⟨a, b⟩ | b)
  · rcases h2 with h | h
    · exact h a
    · exact Bool.false_ne_true (h.symm.trans b)
  · rw [h] at b; cases b
end
set_option maxHeartbeats 4000000 in
set_option maxRecDepth 100000 in
theorem c_leak (p : LProg) (s : LStmt) (cx : Int) (h : headB p.vars.length p.arrays.length s = true) (hv : okS p.vars.length p.arrays.length 5 s.value) : Ctr.ok Try.prog (fnC 70 [pA 0, sA s 3, iA cx] (pS p ++ sS s) (iA (ilkR p s))) := by
  refine rx_enter 35 Try.func70 (by rfl) (by kernel_rfl) (by kernel_rfl) ?_
  intro ι φ ψ w0 w F ρ0 ρ a G
  replace G := Gam.at G [dI p.vars, dI p.arrays, dT p.body, dE s.index.kids, dE s.value.kids, dT s.body, dT s.els] [(0, pA 0), (1, sA s 3), (2, iA cx)]
  refine wp_seq ?_
  refine rs0 G [0, 1, 2, 3, 4, 5, 6, 7, 15] [dI p.vars, dI p.arrays, dT p.body, dE s.index.kids, dE s.value.kids, dT s.body, dT s.els, .box (pL 0), .box (sL s 3)] [(3, .ptr 7 0), (4, .ptr 8 0), (6, iA 0)] ?_
  clear G; intro ρ a w G
  refine th_n ?_
  refine wp_seq ?_
  refine wp_block ?_
  refine wp_seq ?_
  cases h0 : (s.kind == (3 : Int))
  ·
   have q0 : ¬ (s.kind = 3) := ne_of_beq_false h0
   refine rs1s G ⟨[], [(s.kind == (3 : Int), false)], [(4, 0), (5, 0), (6, 0), (7, 0), (8, 0), (1009, 0)]⟩ calls_nil ⟨(by assumption), trivial⟩ [(3, .ptr 7 0), (4, .ptr 8 0), (6, iA 0), (7, bA false)] [] trivial ?_
   clear G; intro ρ a w G
   refine th_n ?_
   refine rF G (false) (by kernel_rfl) ?_
   refine wp_seq ?_
   cases h1 : (s.kind == (2 : Int))
   ·
    have q1 : ¬ (s.kind = 2) := ne_of_beq_false h1
    refine rs1 (dk := dkP) G ⟨[(14, _, [0, 1, 2, 4])], [(s.kind == (2 : Int), false), (false, false)], [(4, 0), (5, 0), (6, 0), (7, 0), (8, 0), (1009, 0), (11, 1), (12, 1), (13, 1), (14, 1), (1015, 1)]⟩ (calls_cons (c_secretRead (p) (s.value) (by assumption)) calls_nil) ⟨(by assumption), (by kernel_rfl), trivial⟩ [0, 1, 2, 3, 4, 5, 6] [dI p.vars, dI p.arrays, dT p.body, dE s.index.kids, dE s.value.kids, dT s.body, dT s.els] [(6, iA 0), (18, bA (secE p.vars p.arrays 5 s.value))] [] trivial ?_
    clear G; intro ρ a w G
    refine th_n ?_
    cases h2 : (secE p.vars p.arrays (5 : Nat) s.value)
    ·
     refine rF G (secE p.vars p.arrays (5 : Nat) s.value) (by assumption) ?_
     refine wp_skip ?_
     refine bl_n ?_
     refine th_n ?_
     refine wp_seq ?_
     refine rs0s G [(6, iA 0)] ?_
     clear G; intro ρ a w G
     refine th_n ?_
     refine wp_ret ?_
     exact rx_ret (v := iA 0) G [0, 1, 2, 3, 4, 5, 6] (by kernel_rfl) (by kernel_rfl) (by kernel_rfl) (by have e1 : (ilkR p s : Int) = (0) := (by exact il0 (by exact .inl (by omega)) (by exact .inl (by omega)) (by with_reducible assumption)); first | (rw [e1]; done) | (rw [e1]; rfl) | (simp only [e1]; done) | (simp only [e1]; rfl))
    ·
     refine rT G (secE p.vars p.arrays (5 : Nat) s.value) (by assumption) ?_
     refine wp_seq ?_
     refine rs0s G [(6, iA 4)] ?_
     clear G; intro ρ a w G
     refine th_n ?_
     refine wp_ret ?_
     refine bl_r ?_
     refine th_r ?_
     exact rx_ret (v := iA 4) G [0, 1, 2, 3, 4, 5, 6] (by kernel_rfl) (by kernel_rfl) (by kernel_rfl) (by have e1 : (ilkR p s : Int) = (4) := (by exact ilv (by exact .inl (by omega)) (by with_reducible assumption)); first | (rw [e1]; done) | (rw [e1]; rfl) | (simp only [e1]; done) | (simp only [e1]; rfl))
   ·
    have q1 : s.kind = 2 := eq_of_beq h1
    cases h3 : (labOk (labV p s.index) && decide (labV p s.index % (2 : Int) = (1 : Int)))
    ·
     have q3 : ((labOk (labV p s.index)) = false) ∨ (¬ (labV p s.index % 2 = 1)) := Or.imp (fun hq => (hq)) (fun hq => of_decide_eq_false (hq)) (Bool.and_eq_false_iff.1 h3)
     refine rs1 (dk := dkP) G ⟨[(7, _, [0, 1, 2, 3]), (8, _, []), (14, _, [0, 1, 2, 4])], [(s.kind == (2 : Int), true), (labOk (labV p s.index) && decide (labV p s.index % (2 : Int) = (1 : Int)), false)], [(4, 0), (5, 0), (6, 0), (7, 0), (8, 0), (1009, 0), (11, 1), (12, 1), (13, 1), (14, 1), (1015, 1)]⟩ (calls_cons (c_label (p) (s.index) (by exact hd_index h (by assumption))) (calls_cons (c_iLabelSecret (labV p s.index)) (calls_cons (c_secretRead (p) (s.value) (by assumption)) calls_nil))) ⟨(by assumption), (by assumption), trivial⟩ [0, 1, 2, 3, 4, 5, 6] [dI p.vars, dI p.arrays, dT p.body, dE s.index.kids, dE s.value.kids, dT s.body, dT s.els] [(6, iA 0), (18, bA (secE p.vars p.arrays 5 s.value))] [] trivial ?_
     clear G; intro ρ a w G
     refine th_n ?_
     cases h4 : (secE p.vars p.arrays (5 : Nat) s.value)
     ·
      refine rF G (secE p.vars p.arrays (5 : Nat) s.value) (by assumption) ?_
      refine wp_skip ?_
      refine bl_n ?_
      refine th_n ?_
      refine wp_seq ?_
      refine rs0s G [(6, iA 0)] ?_
      clear G; intro ρ a w G
      refine th_n ?_
      refine wp_ret ?_
      exact rx_ret (v := iA 0) G [0, 1, 2, 3, 4, 5, 6] (by kernel_rfl) (by kernel_rfl) (by kernel_rfl) (by have e1 : (ilkR p s : Int) = (0) := (by exact il0 (by exact .inl (by omega)) (by exact .inr (by with_reducible assumption)) (by with_reducible assumption)); first | (rw [e1]; done) | (rw [e1]; rfl) | (simp only [e1]; done) | (simp only [e1]; rfl))
     ·
      refine rT G (secE p.vars p.arrays (5 : Nat) s.value) (by assumption) ?_
      refine wp_seq ?_
      refine rs0s G [(6, iA 4)] ?_
      clear G; intro ρ a w G
      refine th_n ?_
      refine wp_ret ?_
      refine bl_r ?_
      refine th_r ?_
      exact rx_ret (v := iA 4) G [0, 1, 2, 3, 4, 5, 6] (by kernel_rfl) (by kernel_rfl) (by kernel_rfl) (by have e1 : (ilkR p s : Int) = (4) := (by exact ilv (by exact .inl (by omega)) (by with_reducible assumption)); first | (rw [e1]; done) | (rw [e1]; rfl) | (simp only [e1]; done) | (simp only [e1]; rfl))
    ·
     have q3 : ((labOk (labV p s.index)) = true) ∧ (labV p s.index % 2 = 1) := And.imp (fun hq => (hq)) (fun hq => of_decide_eq_true (hq)) (Bool.and_eq_true_iff.1 h3)
     refine rs1 (dk := dkP) G ⟨[(7, _, [0, 1, 2, 3]), (8, _, [])], [(s.kind == (2 : Int), true), (labOk (labV p s.index) && decide (labV p s.index % (2 : Int) = (1 : Int)), true)], [(4, 0), (5, 0), (6, 0), (7, 0), (8, 0), (1009, 0), (11, 1), (12, 1), (13, 1), (14, 1), (1015, 1)]⟩ (calls_cons (c_label (p) (s.index) (by exact hd_index h (by assumption))) (calls_cons (c_iLabelSecret (labV p s.index)) calls_nil)) ⟨(by assumption), (by assumption), trivial⟩ [0, 1, 2, 3, 4, 5, 6] [dI p.vars, dI p.arrays, dT p.body, dE s.index.kids, dE s.value.kids, dT s.body, dT s.els] [(6, iA 0), (18, bA true)] [] trivial ?_
     clear G; intro ρ a w G
     refine th_n ?_
     refine rT G (true) (by kernel_rfl) ?_
     refine wp_seq ?_
     refine rs0s G [(6, iA 4)] ?_
     clear G; intro ρ a w G
     refine th_n ?_
     refine wp_ret ?_
     refine bl_r ?_
     refine th_r ?_
     exact rx_ret (v := iA 4) G [0, 1, 2, 3, 4, 5, 6] (by kernel_rfl) (by kernel_rfl) (by kernel_rfl) (by have e1 : (ilkR p s : Int) = (4) := (by exact ili (by with_reducible assumption) (by with_reducible assumption)); first | (rw [e1]; done) | (rw [e1]; rfl) | (simp only [e1]; done) | (simp only [e1]; rfl))
  ·
   have q0 : s.kind = 3 := eq_of_beq h0
   refine rs1s G ⟨[(7, _, [0, 1, 2, 4]), (8, _, [])], [(s.kind == (3 : Int), true)], [(4, 0), (5, 0), (6, 0), (7, 0), (8, 0), (1009, 0)]⟩ (calls_cons (c_label (p) (s.value) (by exact hd_value h (by omega))) (calls_cons (c_iLabelSecret (labV p s.value)) calls_nil)) ⟨(by assumption), trivial⟩ [(3, .ptr 7 0), (4, .ptr 8 0), (6, iA 0), (7, bA (labOk (labV p s.value) && decide (labV p s.value % 2 = 1)))] [] trivial ?_
   clear G; intro ρ a w G
   refine th_n ?_
   cases h5 : (labOk (labV p s.value) && decide (labV p s.value % (2 : Int) = (1 : Int)))
   ·
    have q5 : ((labOk (labV p s.value)) = false) ∨ (¬ (labV p s.value % 2 = 1)) := Or.imp (fun hq => (hq)) (fun hq => of_decide_eq_false (hq)) (Bool.and_eq_false_iff.1 h5)
    refine rF G (labOk (labV p s.value) && decide (labV p s.value % (2 : Int) = (1 : Int))) (by assumption) ?_
    refine wp_seq ?_
    cases h6 : (s.kind == (2 : Int))
    ·
     have q6 : ¬ (s.kind = 2) := ne_of_beq_false h6
     refine rs1 (dk := dkP) G ⟨[(14, _, [0, 1, 2, 4])], [(s.kind == (2 : Int), false), (false, false)], [(4, 0), (5, 0), (6, 0), (7, 0), (8, 0), (1009, 0), (11, 1), (12, 1), (13, 1), (14, 1), (1015, 1)]⟩ (calls_cons (c_secretRead (p) (s.value) (by assumption)) calls_nil) ⟨(by assumption), (by kernel_rfl), trivial⟩ [0, 1, 2, 3, 4, 5, 6] [dI p.vars, dI p.arrays, dT p.body, dE s.index.kids, dE s.value.kids, dT s.body, dT s.els] [(6, iA 0), (18, bA (secE p.vars p.arrays 5 s.value))] [] trivial ?_
     clear G; intro ρ a w G
     refine th_n ?_
     cases h7 : (secE p.vars p.arrays (5 : Nat) s.value)
     ·
      refine rF G (secE p.vars p.arrays (5 : Nat) s.value) (by assumption) ?_
      refine wp_skip ?_
      refine bl_n ?_
      refine th_n ?_
      refine wp_seq ?_
      refine rs0s G [(6, iA 0)] ?_
      clear G; intro ρ a w G
      refine th_n ?_
      refine wp_ret ?_
      exact rx_ret (v := iA 0) G [0, 1, 2, 3, 4, 5, 6] (by kernel_rfl) (by kernel_rfl) (by kernel_rfl) (by have e1 : (ilkR p s : Int) = (0) := (by exact il0 (by exact .inr (by with_reducible assumption)) (by exact .inl (by omega)) (by with_reducible assumption)); first | (rw [e1]; done) | (rw [e1]; rfl) | (simp only [e1]; done) | (simp only [e1]; rfl))
     ·
      refine rT G (secE p.vars p.arrays (5 : Nat) s.value) (by assumption) ?_
      refine wp_seq ?_
      refine rs0s G [(6, iA 4)] ?_
      clear G; intro ρ a w G
      refine th_n ?_
      refine wp_ret ?_
      refine bl_r ?_
      refine th_r ?_
      exact rx_ret (v := iA 4) G [0, 1, 2, 3, 4, 5, 6] (by kernel_rfl) (by kernel_rfl) (by kernel_rfl) (by have e1 : (ilkR p s : Int) = (4) := (by exact ilv (by exact .inr (by with_reducible assumption)) (by with_reducible assumption)); first | (rw [e1]; done) | (rw [e1]; rfl) | (simp only [e1]; done) | (simp only [e1]; rfl))
    ·
     have q6 : s.kind = 2 := eq_of_beq h6
     cases h8 : (labOk (labV p s.index) && decide (labV p s.index % (2 : Int) = (1 : Int)))
     ·
      have q8 : ((labOk (labV p s.index)) = false) ∨ (¬ (labV p s.index % 2 = 1)) := Or.imp (fun hq => (hq)) (fun hq => of_decide_eq_false (hq)) (Bool.and_eq_false_iff.1 h8)
      refine rs1 (dk := dkP) G ⟨[(7, _, [0, 1, 2, 3]), (8, _, []), (14, _, [0, 1, 2, 4])], [(s.kind == (2 : Int), true), (labOk (labV p s.index) && decide (labV p s.index % (2 : Int) = (1 : Int)), false)], [(4, 0), (5, 0), (6, 0), (7, 0), (8, 0), (1009, 0), (11, 1), (12, 1), (13, 1), (14, 1), (1015, 1)]⟩ (calls_cons (c_label (p) (s.index) (by exact hd_index h (by assumption))) (calls_cons (c_iLabelSecret (labV p s.index)) (calls_cons (c_secretRead (p) (s.value) (by assumption)) calls_nil))) ⟨(by assumption), (by assumption), trivial⟩ [0, 1, 2, 3, 4, 5, 6] [dI p.vars, dI p.arrays, dT p.body, dE s.index.kids, dE s.value.kids, dT s.body, dT s.els] [(6, iA 0), (18, bA (secE p.vars p.arrays 5 s.value))] [] trivial ?_
      clear G; intro ρ a w G
      refine th_n ?_
      cases h9 : (secE p.vars p.arrays (5 : Nat) s.value)
      ·
       refine rF G (secE p.vars p.arrays (5 : Nat) s.value) (by assumption) ?_
       refine wp_skip ?_
       refine bl_n ?_
       refine th_n ?_
       refine wp_seq ?_
       refine rs0s G [(6, iA 0)] ?_
       clear G; intro ρ a w G
       refine th_n ?_
       refine wp_ret ?_
       exact rx_ret (v := iA 0) G [0, 1, 2, 3, 4, 5, 6] (by kernel_rfl) (by kernel_rfl) (by kernel_rfl) (by have e1 : (ilkR p s : Int) = (0) := (by exact il0 (by exact .inl (by omega)) (by exact .inl (by omega)) (by with_reducible assumption)); first | (rw [e1]; done) | (rw [e1]; rfl) | (simp only [e1]; done) | (simp only [e1]; rfl))
      ·
       refine rT G (secE p.vars p.arrays (5 : Nat) s.value) (by assumption) ?_
       refine wp_seq ?_
       refine rs0s G [(6, iA 4)] ?_
       clear G; intro ρ a w G
       refine th_n ?_
       refine wp_ret ?_
       refine bl_r ?_
       refine th_r ?_
       exact rx_ret (v := iA 4) G [0, 1, 2, 3, 4, 5, 6] (by kernel_rfl) (by kernel_rfl) (by kernel_rfl) (by have e1 : (ilkR p s : Int) = (4) := (by exact ilv (by exact .inl (by omega)) (by with_reducible assumption)); first | (rw [e1]; done) | (rw [e1]; rfl) | (simp only [e1]; done) | (simp only [e1]; rfl))
     ·
      have q8 : ((labOk (labV p s.index)) = true) ∧ (labV p s.index % 2 = 1) := And.imp (fun hq => (hq)) (fun hq => of_decide_eq_true (hq)) (Bool.and_eq_true_iff.1 h8)
      refine rs1 (dk := dkP) G ⟨[(7, _, [0, 1, 2, 3]), (8, _, [])], [(s.kind == (2 : Int), true), (labOk (labV p s.index) && decide (labV p s.index % (2 : Int) = (1 : Int)), true)], [(4, 0), (5, 0), (6, 0), (7, 0), (8, 0), (1009, 0), (11, 1), (12, 1), (13, 1), (14, 1), (1015, 1)]⟩ (calls_cons (c_label (p) (s.index) (by exact hd_index h (by assumption))) (calls_cons (c_iLabelSecret (labV p s.index)) calls_nil)) ⟨(by assumption), (by assumption), trivial⟩ [0, 1, 2, 3, 4, 5, 6] [dI p.vars, dI p.arrays, dT p.body, dE s.index.kids, dE s.value.kids, dT s.body, dT s.els] [(6, iA 0), (18, bA true)] [] trivial ?_
      clear G; intro ρ a w G
      refine th_n ?_
      refine rT G (true) (by kernel_rfl) ?_
      refine wp_seq ?_
      refine rs0s G [(6, iA 4)] ?_
      clear G; intro ρ a w G
      refine th_n ?_
      refine wp_ret ?_
      refine bl_r ?_
      refine th_r ?_
      exact rx_ret (v := iA 4) G [0, 1, 2, 3, 4, 5, 6] (by kernel_rfl) (by kernel_rfl) (by kernel_rfl) (by have e1 : (ilkR p s : Int) = (4) := (by exact ili (by with_reducible assumption) (by with_reducible assumption)); first | (rw [e1]; done) | (rw [e1]; rfl) | (simp only [e1]; done) | (simp only [e1]; rfl))
   ·
    have q5 : ((labOk (labV p s.value)) = true) ∧ (labV p s.value % 2 = 1) := And.imp (fun hq => (hq)) (fun hq => of_decide_eq_true (hq)) (Bool.and_eq_true_iff.1 h5)
    refine rT G (labOk (labV p s.value) && decide (labV p s.value % (2 : Int) = (1 : Int))) (by assumption) ?_
    refine wp_seq ?_
    refine rs0 G [0, 1, 2, 3, 4, 5, 6] [dI p.vars, dI p.arrays, dT p.body, dE s.index.kids, dE s.value.kids, dT s.body, dT s.els] [(6, iA 3)] ?_
    clear G; intro ρ a w G
    refine th_n ?_
    refine wp_ret ?_
    refine bl_r ?_
    refine th_r ?_
    exact rx_ret (v := iA 3) G [0, 1, 2, 3, 4, 5, 6] (by kernel_rfl) (by kernel_rfl) (by kernel_rfl) (by have e1 : (ilkR p s : Int) = (3) := (by exact il3 (by with_reducible assumption) (by with_reducible assumption)); first | (rw [e1]; done) | (rw [e1]; rfl) | (simp only [e1]; done) | (simp only [e1]; rfl))

end Go.Proofs.Ytgpkdfefgcpbiaa

namespace Go.Proofs.Ytgpkdfefgcpbiaa
set_option linter.unusedVariables false
set_option linter.unusedSimpArgs false
open Go Go.RowKit

/-- The closure of firstOf: what it holds, and what it does. -/
abbrev fcB (f : Nat) (c n a : Int) : List It := [.box [iA c], .box [.bm f [pA 0]], .box [iA n], .box [iA a]]
abbrev FLOW : Nat := 131
abbrev LEAK : Nat := 70
abbrev RFl (p : LProg) : LStmt × Int → Int := fun x => iflR p x.1 x.2
abbrev RLk (p : LProg) : LStmt × Int → Int := fun x => ilkR p x.1
section
variable {R : LStmt × Int → Int} {c a : Int} {n : Nat} {x : LStmt × Int}
theorem st_a (h : ¬ c = 0) : (stepF R (c, a, n) x).1 = c := by unfold stepF; rw [if_neg h]
theorem st_b (h : ¬ c = 0) : (stepF R (c, a, n) x).2.1 = a := by unfold stepF; rw [if_neg h]
theorem st_n : (stepF R (c, a, n) x).2.2 = n + 1 := by unfold stepF; split <;> rfl
theorem st_c (h : c = 0) : (stepF R (c, a, n) x).1 = R x := by unfold stepF; rw [if_pos h]
theorem st_d (h : c = 0) (hr : R x = 0) : (stepF R (c, a, n) x).2.1 = a := by unfold stepF; rw [if_pos h, if_pos hr]
theorem st_e (h : c = 0) (hr : ¬ R x = 0) : (stepF R (c, a, n) x).2.1 = n := by unfold stepF; rw [if_pos h, if_neg hr]
end

set_option maxRecDepth 100000 in
theorem c_closF (p : LProg) (s : LStmt) (cx : Int) (c b : Int) (n : Nat) (hn : n + 1 ≤ 4000000) (h : headB p.vars.length p.arrays.length s = true) :
    Ctr.ok Try.prog ⟨132, [sA s 7, iA cx, .ptr 3 0, .ptr 4 0, .ptr 5 0, .ptr 6 0], pS p ++ fcB FLOW c n b ++ sS s,
      pS p ++ fcB FLOW (stepF (RFl p) (c, b, n) (s, cx)).1 (stepF (RFl p) (c, b, n) (s, cx)).2.2 (stepF (RFl p) (c, b, n) (s, cx)).2.1 ++ sS s, .tup []⟩ := by
  refine rx_enter 19 Try.func132 (by rfl) (by kernel_rfl) (by kernel_rfl) ?_
  intro ι φ ψ w0 w F ρ0 ρ a G
  replace G := Gam.at G [dI p.vars, dI p.arrays, dT p.body, .box [iA c], .box [.bm 131 [pA 0]], .box [iA (↑n : Int)], .box [iA b], dE s.index.kids, dE s.value.kids, dT s.body, dT s.els] [(0, sA s 7), (1, iA cx), (2, .ptr 3 0), (3, .ptr 4 0), (4, .ptr 5 0), (5, .ptr 6 0)]
  refine wp_seq ?_
  refine rs0 G [0, 1, 2, 3, 4, 5, 6, 7, 8, 9, 10, 11] [dI p.vars, dI p.arrays, dT p.body, .box [iA c], .box [.bm 131 [pA 0]], .box [iA (↑n : Int)], .box [iA b], dE s.index.kids, dE s.value.kids, dT s.body, dT s.els, .box (sL s 7)] [(1, iA cx), (2, .ptr 3 0), (3, .ptr 4 0), (4, .ptr 5 0), (5, .ptr 6 0), (6, .ptr 11 0)] ?_
  clear G; intro ρ a w G
  refine th_n ?_
  refine wp_seq ?_
  refine wp_seq ?_
  refine rs0s G [(1, iA cx), (2, .ptr 3 0), (3, .ptr 4 0), (4, .ptr 5 0), (5, .ptr 6 0), (6, .ptr 11 0), (9, bA (c == 0))] ?_
  clear G; intro ρ a w G
  refine th_n ?_
  cases h0 : (c == (0 : Int))
  ·
   have q0 : ¬ (c = 0) := ne_of_beq_false h0
   refine rF G (c == (0 : Int)) (by assumption) ?_
   refine wp_skip ?_
   refine th_n ?_
   refine rs1 (dk := dkP) G ⟨[], [], []⟩ calls_nil trivial [0, 1, 2, 3, 4, 5, 6, 7, 8, 9, 10] [dI p.vars, dI p.arrays, dT p.body, .box [iA c], .box [.bm 131 [pA 0]], .box [iA ((↑n : Int) + 1)], .box [iA b], dE s.index.kids, dE s.value.kids, dT s.body, dT s.els] [] [IntKind.i64.wrap ((↑n : Int) + (1 : Int)) = (↑n : Int) + (1 : Int)] ⟨(by exact w64 (by omega) (by omega)), trivial⟩ ?_
   clear G; intro ρ a w G
   exact rx_retN (v := .tup []) G [0, 1, 2, 3, 4, 5, 6, 7, 8, 9, 10] (by kernel_rfl) (by kernel_rfl) (by have e1 : ((stepF (RFl p) (c, b, n) (s, cx)).fst : Int) = (c) := (by exact st_a (by assumption)); have e2 : ((↑(stepF (RFl p) (c, b, n) (s, cx)).snd.snd : Int) : Int) = ((↑n : Int) + 1) := (by exact congrArg Int.ofNat st_n); have e3 : ((stepF (RFl p) (c, b, n) (s, cx)).snd.fst : Int) = (b) := (by exact st_b (by assumption)); first | (rw [e1, e2, e3]; done) | (rw [e1, e2, e3]; rfl) | (simp only [e1, e2, e3]; done) | (simp only [e1, e2, e3]; rfl)) (by kernel_rfl)
  ·
   have q0 : c = 0 := eq_of_beq h0
   refine rT G (c == (0 : Int)) (by assumption) ?_
   refine wp_seq ?_
   refine rs1 (dk := dkP) G ⟨[(3, _, [0, 1, 2, 7, 8, 9, 10])], [], []⟩ (calls_cons (c_flow (p) (s) (cx) (by assumption)) calls_nil) trivial [0, 1, 2, 3, 4, 5, 6, 7, 8, 9, 10] [dI p.vars, dI p.arrays, dT p.body, .box [iA (iflR p s cx)], .box [.bm 131 [pA 0]], .box [iA (↑n : Int)], .box [iA b], dE s.index.kids, dE s.value.kids, dT s.body, dT s.els] [(2, .ptr 3 0), (4, .ptr 5 0), (5, .ptr 6 0)] [] trivial ?_
   clear G; intro ρ a w G
   refine th_n ?_
   refine wp_seq ?_
   refine rs0s G [(4, .ptr 5 0), (5, .ptr 6 0), (15, bA (iflR p s cx != 0))] ?_
   clear G; intro ρ a w G
   refine th_n ?_
   cases h1 : (iflR p s cx != (0 : Int))
   ·
    have q1 : iflR p s cx = 0 := (by simpa using h1)
    refine rF G (iflR p s cx != (0 : Int)) (by assumption) ?_
    refine wp_skip ?_
    refine th_n ?_
    refine rs1 (dk := dkP) G ⟨[], [], []⟩ calls_nil trivial [0, 1, 2, 3, 4, 5, 6, 7, 8, 9, 10] [dI p.vars, dI p.arrays, dT p.body, .box [iA (iflR p s cx)], .box [.bm 131 [pA 0]], .box [iA ((↑n : Int) + 1)], .box [iA b], dE s.index.kids, dE s.value.kids, dT s.body, dT s.els] [] [IntKind.i64.wrap ((↑n : Int) + (1 : Int)) = (↑n : Int) + (1 : Int)] ⟨(by exact w64 (by omega) (by omega)), trivial⟩ ?_
    clear G; intro ρ a w G
    exact rx_retN (v := .tup []) G [0, 1, 2, 3, 4, 5, 6, 7, 8, 9, 10] (by kernel_rfl) (by kernel_rfl) (by have e1 : ((stepF (RFl p) (c, b, n) (s, cx)).fst : Int) = (iflR p s cx) := (by exact st_c (by assumption)); have e2 : ((↑(stepF (RFl p) (c, b, n) (s, cx)).snd.snd : Int) : Int) = ((↑n : Int) + 1) := (by exact congrArg Int.ofNat st_n); have e3 : ((stepF (RFl p) (c, b, n) (s, cx)).snd.fst : Int) = (b) := (by exact st_d (by assumption) (by assumption)); first | (rw [e1, e2, e3]; done) | (rw [e1, e2, e3]; rfl) | (simp only [e1, e2, e3]; done) | (simp only [e1, e2, e3]; rfl)) (by kernel_rfl)
   ·
    have q1 : ¬ (iflR p s cx = 0) := bne_iff_ne.1 h1
    refine rT G (iflR p s cx != (0 : Int)) (by assumption) ?_
    refine rs0 G [0, 1, 2, 3, 4, 5, 6, 7, 8, 9, 10] [dI p.vars, dI p.arrays, dT p.body, .box [iA (iflR p s cx)], .box [.bm 131 [pA 0]], .box [iA (↑n : Int)], .box [iA (↑n : Int)], dE s.index.kids, dE s.value.kids, dT s.body, dT s.els] [(4, .ptr 5 0)] ?_
    clear G; intro ρ a w G
    refine th_n ?_
    refine rs1 (dk := dkP) G ⟨[], [], []⟩ calls_nil trivial [0, 1, 2, 3, 4, 5, 6, 7, 8, 9, 10] [dI p.vars, dI p.arrays, dT p.body, .box [iA (iflR p s cx)], .box [.bm 131 [pA 0]], .box [iA ((↑n : Int) + 1)], .box [iA (↑n : Int)], dE s.index.kids, dE s.value.kids, dT s.body, dT s.els] [] [IntKind.i64.wrap ((↑n : Int) + (1 : Int)) = (↑n : Int) + (1 : Int)] ⟨(by exact w64 (by omega) (by omega)), trivial⟩ ?_
    clear G; intro ρ a w G
    exact rx_retN (v := .tup []) G [0, 1, 2, 3, 4, 5, 6, 7, 8, 9, 10] (by kernel_rfl) (by kernel_rfl) (by have e1 : ((stepF (RFl p) (c, b, n) (s, cx)).fst : Int) = (iflR p s cx) := (by exact st_c (by assumption)); have e2 : ((↑(stepF (RFl p) (c, b, n) (s, cx)).snd.snd : Int) : Int) = ((↑n : Int) + 1) := (by exact congrArg Int.ofNat st_n); have e3 : ((stepF (RFl p) (c, b, n) (s, cx)).snd.fst : Int) = ((↑n : Int)) := (by exact st_e (by assumption) (by assumption)); first | (rw [e1, e2, e3]; done) | (rw [e1, e2, e3]; rfl) | (simp only [e1, e2, e3]; done) | (simp only [e1, e2, e3]; rfl)) (by kernel_rfl)

/-- How far the walk has come. -/
def fdF (R : LStmt × Int → Int) (p : LProg) (d : Nat) (cx : Int) (ss : List LStmt) (c b : Int) (n k : Nat) : Int × Int × Nat := (evs p (d + 1) cx (ss.take k)).foldl (stepF R) (c, b, n)
section
variable {R : LStmt × Int → Int} {p : LProg} {d : Nat} {cx : Int} {ss : List LStmt} {c b : Int} {n k : Nat}
theorem fd_3 (hk : k < ss.length) (h : (ss.getD k default).kind = 3) : fdF R p d cx ss c b n (k + 1) = (evs p d (orI cx (labV p (ss.getD k default).value)) (ss.getD k default).els).foldl (stepF R) ((evs p d (orI cx (labV p (ss.getD k default).value)) (ss.getD k default).body).foldl (stepF R) (stepF R (fdF R p d cx ss c b n k) (ss.getD k default, cx))) := by
  unfold fdF; rw [stepF_run hk]; unfold innR; rw [if_pos h]
theorem fd_n (hk : k < ss.length) (h : ¬ (ss.getD k default).kind = 3) : fdF R p d cx ss c b n (k + 1) = (evs p d cx (ss.getD k default).els).foldl (stepF R) ((evs p d cx (ss.getD k default).body).foldl (stepF R) (stepF R (fdF R p d cx ss c b n k) (ss.getD k default, cx))) := by
  unfold fdF; rw [stepF_run hk]; unfold innR; rw [if_neg h]
theorem fd_end (hk : ss.length ≤ k) : (evs p (d + 1) cx ss).foldl (stepF R) (c, b, n) = fdF R p d cx ss c b n k := by unfold fdF; rw [List.take_of_length_le hk]
theorem fd_cnt : (fdF R p d cx ss c b n k).2.2 ≤ n + nSs (ss.take k) := by
  unfold fdF; rw [stepF_len]
  have := evs_len p (d + 1) cx (ss.take k)
  simp only; omega
theorem fd_cnt1 (hk : k < ss.length) (hn : n + nSs ss ≤ 4000000) : (fdF R p d cx ss c b n k).2.2 + 1 ≤ 4000000 := by
  have h1 := fd_cnt (R := R) (p := p) (d := d) (cx := cx) (ss := ss) (c := c) (b := b) (n := n) (k := k)
  have h2 := blk_n hk
  omega
theorem fd_cnt2 (hk : k < ss.length) (hn : n + nSs ss ≤ 4000000) : (stepF R ((fdF R p d cx ss c b n k).1, (fdF R p d cx ss c b n k).2.1, (fdF R p d cx ss c b n k).2.2) (ss.getD k default, cx)).2.2 + nSs (ss.getD k default).body ≤ 4000000 := by
  have h1 := fd_cnt (R := R) (p := p) (d := d) (cx := cx) (ss := ss) (c := c) (b := b) (n := n) (k := k)
  have h2 := blk_n hk
  rw [st_n]
  omega
theorem fd_cnt3 {cy : Int} (hk : k < ss.length) (hn : n + nSs ss ≤ 4000000) {σ : Int × Int × Nat} (hσ : σ.2.2 = (fdF R p d cx ss c b n k).2.2 + 1) : ((evs p d cy (ss.getD k default).body).foldl (stepF R) σ).2.2 + nSs (ss.getD k default).els ≤ 4000000 := by
  have h1 := fd_cnt (R := R) (p := p) (d := d) (cx := cx) (ss := ss) (c := c) (b := b) (n := n) (k := k)
  have h2 := blk_n hk
  rw [stepF_len, hσ]
  have h3 := evs_len p d cy (ss.getD k default).body
  omega
end

set_option maxRecDepth 100000 in
theorem c_eachFS (p : LProg) (d : Nat) (ss : List LStmt) (ih : ∀ (tt : List LStmt) (cx : Int) (c b : Int) (n : Nat), 0 < ss.length → tt.all (stmtB p.vars.length p.arrays.length d) = true → n + nSs tt ≤ 4000000 → Ctr.ok Try.prog ⟨125, [pA 0, .ref 7, iA cx, .fn 132 [.ptr 3 0, .ptr 4 0, .ptr 5 0, .ptr 6 0]], pS p ++ fcB FLOW c n b ++ [.dat (.stmts tt)],
      pS p ++ fcB FLOW ((evs p d cx tt).foldl (stepF (RFl p)) (c, b, n)).1 ((evs p d cx tt).foldl (stepF (RFl p)) (c, b, n)).2.2 ((evs p d cx tt).foldl (stepF (RFl p)) (c, b, n)).2.1 ++ [.dat (.stmts tt)], .tup []⟩)
    (cx : Int) (c b : Int) (n : Nat) (hs : ss.all (stmtB p.vars.length p.arrays.length (d + 1)) = true) (hn : n + nSs ss ≤ 4000000) : Ctr.ok Try.prog ⟨125, [pA 0, .ref 7, iA cx, .fn 132 [.ptr 3 0, .ptr 4 0, .ptr 5 0, .ptr 6 0]], pS p ++ fcB FLOW c n b ++ [.dat (.stmts ss)],
      pS p ++ fcB FLOW ((evs p (d + 1) cx ss).foldl (stepF (RFl p)) (c, b, n)).1 ((evs p (d + 1) cx ss).foldl (stepF (RFl p)) (c, b, n)).2.2 ((evs p (d + 1) cx ss).foldl (stepF (RFl p)) (c, b, n)).2.1 ++ [.dat (.stmts ss)], .tup []⟩ := by
  refine rx_enter 44 Try.func125 (by rfl) (by kernel_rfl) (by kernel_rfl) ?_
  intro ι φ ψ w0 w F ρ0 ρ a G
  replace G := Gam.at G [dI p.vars, dI p.arrays, dT p.body, .box [iA c], .box [.bm 131 [pA 0]], .box [iA (↑n : Int)], .box [iA b], dT ss] [(0, pA 0), (1, .ref 7), (2, iA cx), (3, .fn 132 [.ptr 3 0, .ptr 4 0, .ptr 5 0, .ptr 6 0])]
  have hlen : ss.length ≤ 9223372036854775807 := G.len 7 (d := .stmts ss) (by kernel_rfl)
  refine wp_seq ?_
  refine rs0 G [0, 1, 2, 3, 4, 5, 6, 7, 8] [dI p.vars, dI p.arrays, dT p.body, .box [iA c], .box [.bm 131 [pA 0]], .box [iA (↑n : Int)], .box [iA b], dT ss, .box (pL 0)] [(1, .ref 7), (2, iA cx), (3, .fn 132 [.ptr 3 0, .ptr 4 0, .ptr 5 0, .ptr 6 0]), (4, .ptr 8 0)] ?_
  clear G; intro ρ a w G
  refine th_n ?_
  refine wp_seq ?_
  refine rs0s G [(2, iA cx), (3, .fn 132 [.ptr 3 0, .ptr 4 0, .ptr 5 0, .ptr 6 0]), (4, .ptr 8 0), (11, .ref 7), (12, iA (↑ss.length : Int)), (13, iA 0)] ?_
  clear G; intro ρ a w G
  refine th_n ?_
  refine wp_block ?_
  refine rx_for (κ := Nat) (fun k => k ≤ ss.length) (fun k => ss.length - k) (fun k => [dI p.vars, dI p.arrays, dT p.body, .box [iA (fdF (RFl p) p d cx ss c b n k).1], .box [.bm 131 [pA 0]], .box [iA (fdF (RFl p) p d cx ss c b n k).2.2], .box [iA (fdF (RFl p) p d cx ss c b n k).2.1], dT ss, .box (pL 0)]) (fun k => [(2, iA cx), (3, .fn 132 [.ptr 3 0, .ptr 4 0, .ptr 5 0, .ptr 6 0]), (4, .ptr 8 0), (11, .ref 7), (12, iA (↑ss.length : Int)), (13, iA k)]) (0) (by simp [hs]) (Gam.at G _ _) ?_
  clear G
  intro k ρ a w hp G
  replace G := Gam.at G [dI p.vars, dI p.arrays, dT p.body, .box [iA (fdF (RFl p) p d cx ss c b n k).fst], .box [.bm 131 [pA 0]], .box [iA (↑(fdF (RFl p) p d cx ss c b n k).snd.snd : Int)], .box [iA (fdF (RFl p) p d cx ss c b n k).snd.fst], dT ss, .box (pL 0)] [(2, iA cx), (3, .fn 132 [.ptr 3 0, .ptr 4 0, .ptr 5 0, .ptr 6 0]), (4, .ptr 8 0), (11, .ref 7), (12, iA (↑ss.length : Int)), (13, iA (↑k : Int))]
  refine wp_seq ?_
  refine rs0s G [(2, iA cx), (3, .fn 132 [.ptr 3 0, .ptr 4 0, .ptr 5 0, .ptr 6 0]), (4, .ptr 8 0), (11, .ref 7), (12, iA (↑ss.length : Int)), (13, iA (↑k : Int)), (14, bA (decide ((↑k : Int) < (↑ss.length : Int))))] ?_
  clear G; intro ρ a w G
  refine th_n ?_
  refine wp_seq ?_
  cases h0 : (decide ((↑k : Int) < (↑ss.length : Int)))
  ·
   have q0 : ¬ ((↑k : Int) < (↑ss.length : Int)) := of_decide_eq_false h0
   refine rF G (decide ((↑k : Int) < (↑ss.length : Int))) (by assumption) ?_
   refine wp_exit ?_
   refine th_e ?_
   refine th_e ?_
   refine bl_hit ?_
   exact rx_retN (v := .tup []) G [0, 1, 2, 3, 4, 5, 6, 7] (by kernel_rfl) (by kernel_rfl) (by have e1 : ((List.foldl (stepF (RFl p)) (c, b, n) (evs p (d + 1) cx ss)).fst : Int) = ((fdF (RFl p) p d cx ss c b n k).fst) := (by exact congrArg Prod.fst (fd_end (by omega))); have e2 : ((↑(List.foldl (stepF (RFl p)) (c, b, n) (evs p (d + 1) cx ss)).snd.snd : Int) : Int) = ((↑(fdF (RFl p) p d cx ss c b n k).snd.snd : Int)) := (by exact congrArg (fun x : Int × Int × Nat => Int.ofNat x.2.2) (fd_end (by omega))); have e3 : ((List.foldl (stepF (RFl p)) (c, b, n) (evs p (d + 1) cx ss)).snd.fst : Int) = ((fdF (RFl p) p d cx ss c b n k).snd.fst) := (by exact congrArg (fun x : Int × Int × Nat => x.2.1) (fd_end (by omega))); first | (rw [e1, e2, e3]; done) | (rw [e1, e2, e3]; rfl) | (simp only [e1, e2, e3]; done) | (simp only [e1, e2, e3]; rfl)) (by kernel_rfl)
  ·
   have q0 : (↑k : Int) < (↑ss.length : Int) := of_decide_eq_true h0
   refine rT G (decide ((↑k : Int) < (↑ss.length : Int))) (by assumption) ?_
   refine wp_skip ?_
   refine th_n ?_
   refine wp_seq ?_
   refine wp_block ?_
   refine wp_seq ?_
   refine rs1 (dk := dkP) G ⟨[], [], []⟩ calls_nil trivial [0, 1, 2, 3, 4, 5, 6, 7, 8, 17, 18, 19, 20, 25] [dI p.vars, dI p.arrays, dT p.body, .box [iA (fdF (RFl p) p d cx ss c b n k).fst], .box [.bm 131 [pA 0]], .box [iA (↑(fdF (RFl p) p d cx ss c b n k).snd.snd : Int)], .box [iA (fdF (RFl p) p d cx ss c b n k).snd.fst], dT ss, .box (pL 0), dE (ss.getD k default).index.kids, dE (ss.getD k default).value.kids, dT (ss.getD k default).body, dT (ss.getD k default).els, .box (sL (ss.getD k default) 9)] [(2, iA cx), (3, .fn 132 [.ptr 3 0, .ptr 4 0, .ptr 5 0, .ptr 6 0]), (4, .ptr 8 0), (9, .ptr 13 0), (11, .ref 7), (12, iA (↑ss.length : Int)), (13, iA (↑k : Int))] [(0 : Int) ≤ (↑k : Int), (↑k : Int) < (↑ss.length : Int), k < ss.length] ⟨(by simp [hs, h0]), (by assumption), (by omega), trivial⟩ ?_
   clear G; intro ρ a w G
   refine th_n ?_
   refine wp_seq ?_
   refine rs1 (dk := dkP) G ⟨[(3, _, [0, 1, 2, 3, 4, 5, 6, 9, 10, 11, 12])], [], []⟩ (calls_cons (c_closF (p) (ss.getD k default) (cx) ((fdF (RFl p) p d cx ss c b n k).fst) ((fdF (RFl p) p d cx ss c b n k).snd.fst) ((fdF (RFl p) p d cx ss c b n k).snd.snd) (by exact fd_cnt1 (by omega) hn) (by exact (bl_at hs (by omega)).1)) calls_nil) trivial [0, 1, 2, 3, 4, 5, 6, 7, 8, 9, 10, 11, 12, 13] [dI p.vars, dI p.arrays, dT p.body, .box [iA (stepF (RFl p) ((fdF (RFl p) p d cx ss c b n k).fst, (fdF (RFl p) p d cx ss c b n k).snd.fst, (fdF (RFl p) p d cx ss c b n k).snd.snd) (ss.getD k default, cx)).fst], .box [.bm 131 [pA 0]], .box [iA (↑(stepF (RFl p) ((fdF (RFl p) p d cx ss c b n k).fst, (fdF (RFl p) p d cx ss c b n k).snd.fst, (fdF (RFl p) p d cx ss c b n k).snd.snd) (ss.getD k default, cx)).snd.snd : Int)], .box [iA (stepF (RFl p) ((fdF (RFl p) p d cx ss c b n k).fst, (fdF (RFl p) p d cx ss c b n k).snd.fst, (fdF (RFl p) p d cx ss c b n k).snd.snd) (ss.getD k default, cx)).snd.fst], dT ss, .box (pL 0), dE (ss.getD k default).index.kids, dE (ss.getD k default).value.kids, dT (ss.getD k default).body, dT (ss.getD k default).els, .box (sL (ss.getD k default) 9)] [(2, iA cx), (3, .fn 132 [.ptr 3 0, .ptr 4 0, .ptr 5 0, .ptr 6 0]), (4, .ptr 8 0), (9, .ptr 13 0), (11, .ref 7), (12, iA (↑ss.length : Int)), (13, iA (↑k : Int))] [] trivial ?_
   clear G; intro ρ a w G
   refine th_n ?_
   refine wp_seq ?_
   refine rs0s G [(2, iA cx), (3, .fn 132 [.ptr 3 0, .ptr 4 0, .ptr 5 0, .ptr 6 0]), (4, .ptr 8 0), (9, .ptr 13 0), (10, iA cx), (11, .ref 7), (12, iA (↑ss.length : Int)), (13, iA (↑k : Int))] ?_
   clear G; intro ρ a w G
   refine th_n ?_
   refine wp_seq ?_
   refine wp_seq ?_
   refine rs0s G [(2, iA cx), (3, .fn 132 [.ptr 3 0, .ptr 4 0, .ptr 5 0, .ptr 6 0]), (4, .ptr 8 0), (9, .ptr 13 0), (10, iA cx), (11, .ref 7), (12, iA (↑ss.length : Int)), (13, iA (↑k : Int)), (24, bA ((ss.getD k default).kind == 3))] ?_
   clear G; intro ρ a w G
   refine th_n ?_
   cases h1 : ((ss.getD k default).kind == (3 : Int))
   ·
    have q1 : ¬ ((ss.getD k default).kind = 3) := ne_of_beq_false h1
    refine rF G ((ss.getD k default).kind == (3 : Int)) (by assumption) ?_
    refine wp_skip ?_
    refine th_n ?_
    refine wp_seq ?_
    refine rs1 (dk := dkP) G ⟨[(5, _, [0, 1, 2, 3, 4, 5, 6, 11])], [], []⟩ (calls_cons (ih ((ss.getD k default).body) (cx) ((stepF (RFl p) ((fdF (RFl p) p d cx ss c b n k).fst, (fdF (RFl p) p d cx ss c b n k).snd.fst, (fdF (RFl p) p d cx ss c b n k).snd.snd) (ss.getD k default, cx)).fst) ((stepF (RFl p) ((fdF (RFl p) p d cx ss c b n k).fst, (fdF (RFl p) p d cx ss c b n k).snd.fst, (fdF (RFl p) p d cx ss c b n k).snd.snd) (ss.getD k default, cx)).snd.fst) ((stepF (RFl p) ((fdF (RFl p) p d cx ss c b n k).fst, (fdF (RFl p) p d cx ss c b n k).snd.fst, (fdF (RFl p) p d cx ss c b n k).snd.snd) (ss.getD k default, cx)).snd.snd) (by omega) (by exact (bl_at hs (by omega)).2.1) (by exact fd_cnt2 (by omega) hn)) calls_nil) trivial [0, 1, 2, 3, 4, 5, 6, 7, 8, 9, 10, 11, 12, 13] [dI p.vars, dI p.arrays, dT p.body, .box [iA (List.foldl (stepF (RFl p)) ((stepF (RFl p) ((fdF (RFl p) p d cx ss c b n k).fst, (fdF (RFl p) p d cx ss c b n k).snd.fst, (fdF (RFl p) p d cx ss c b n k).snd.snd) (ss.getD k default, cx)).fst, (stepF (RFl p) ((fdF (RFl p) p d cx ss c b n k).fst, (fdF (RFl p) p d cx ss c b n k).snd.fst, (fdF (RFl p) p d cx ss c b n k).snd.snd) (ss.getD k default, cx)).snd.fst, (stepF (RFl p) ((fdF (RFl p) p d cx ss c b n k).fst, (fdF (RFl p) p d cx ss c b n k).snd.fst, (fdF (RFl p) p d cx ss c b n k).snd.snd) (ss.getD k default, cx)).snd.snd) (evs p d cx (ss.getD k default).body)).fst], .box [.bm 131 [pA 0]], .box [iA (↑(List.foldl (stepF (RFl p)) ((stepF (RFl p) ((fdF (RFl p) p d cx ss c b n k).fst, (fdF (RFl p) p d cx ss c b n k).snd.fst, (fdF (RFl p) p d cx ss c b n k).snd.snd) (ss.getD k default, cx)).fst, (stepF (RFl p) ((fdF (RFl p) p d cx ss c b n k).fst, (fdF (RFl p) p d cx ss c b n k).snd.fst, (fdF (RFl p) p d cx ss c b n k).snd.snd) (ss.getD k default, cx)).snd.fst, (stepF (RFl p) ((fdF (RFl p) p d cx ss c b n k).fst, (fdF (RFl p) p d cx ss c b n k).snd.fst, (fdF (RFl p) p d cx ss c b n k).snd.snd) (ss.getD k default, cx)).snd.snd) (evs p d cx (ss.getD k default).body)).snd.snd : Int)], .box [iA (List.foldl (stepF (RFl p)) ((stepF (RFl p) ((fdF (RFl p) p d cx ss c b n k).fst, (fdF (RFl p) p d cx ss c b n k).snd.fst, (fdF (RFl p) p d cx ss c b n k).snd.snd) (ss.getD k default, cx)).fst, (stepF (RFl p) ((fdF (RFl p) p d cx ss c b n k).fst, (fdF (RFl p) p d cx ss c b n k).snd.fst, (fdF (RFl p) p d cx ss c b n k).snd.snd) (ss.getD k default, cx)).snd.fst, (stepF (RFl p) ((fdF (RFl p) p d cx ss c b n k).fst, (fdF (RFl p) p d cx ss c b n k).snd.fst, (fdF (RFl p) p d cx ss c b n k).snd.snd) (ss.getD k default, cx)).snd.snd) (evs p d cx (ss.getD k default).body)).snd.fst], dT ss, .box (pL 0), dE (ss.getD k default).index.kids, dE (ss.getD k default).value.kids, dT (ss.getD k default).body, dT (ss.getD k default).els, .box (sL (ss.getD k default) 9)] [(2, iA cx), (3, .fn 132 [.ptr 3 0, .ptr 4 0, .ptr 5 0, .ptr 6 0]), (4, .ptr 8 0), (9, .ptr 13 0), (10, iA cx), (11, .ref 7), (12, iA (↑ss.length : Int)), (13, iA (↑k : Int))] [] trivial ?_
    clear G; intro ρ a w G
    refine th_n ?_
    refine rs1 (dk := dkP) G ⟨[(5, _, [0, 1, 2, 3, 4, 5, 6, 12])], [], []⟩ (calls_cons (ih ((ss.getD k default).els) (cx) ((List.foldl (stepF (RFl p)) ((stepF (RFl p) ((fdF (RFl p) p d cx ss c b n k).fst, (fdF (RFl p) p d cx ss c b n k).snd.fst, (fdF (RFl p) p d cx ss c b n k).snd.snd) (ss.getD k default, cx)).fst, (stepF (RFl p) ((fdF (RFl p) p d cx ss c b n k).fst, (fdF (RFl p) p d cx ss c b n k).snd.fst, (fdF (RFl p) p d cx ss c b n k).snd.snd) (ss.getD k default, cx)).snd.fst, (stepF (RFl p) ((fdF (RFl p) p d cx ss c b n k).fst, (fdF (RFl p) p d cx ss c b n k).snd.fst, (fdF (RFl p) p d cx ss c b n k).snd.snd) (ss.getD k default, cx)).snd.snd) (evs p d cx (ss.getD k default).body)).fst) ((List.foldl (stepF (RFl p)) ((stepF (RFl p) ((fdF (RFl p) p d cx ss c b n k).fst, (fdF (RFl p) p d cx ss c b n k).snd.fst, (fdF (RFl p) p d cx ss c b n k).snd.snd) (ss.getD k default, cx)).fst, (stepF (RFl p) ((fdF (RFl p) p d cx ss c b n k).fst, (fdF (RFl p) p d cx ss c b n k).snd.fst, (fdF (RFl p) p d cx ss c b n k).snd.snd) (ss.getD k default, cx)).snd.fst, (stepF (RFl p) ((fdF (RFl p) p d cx ss c b n k).fst, (fdF (RFl p) p d cx ss c b n k).snd.fst, (fdF (RFl p) p d cx ss c b n k).snd.snd) (ss.getD k default, cx)).snd.snd) (evs p d cx (ss.getD k default).body)).snd.fst) ((List.foldl (stepF (RFl p)) ((stepF (RFl p) ((fdF (RFl p) p d cx ss c b n k).fst, (fdF (RFl p) p d cx ss c b n k).snd.fst, (fdF (RFl p) p d cx ss c b n k).snd.snd) (ss.getD k default, cx)).fst, (stepF (RFl p) ((fdF (RFl p) p d cx ss c b n k).fst, (fdF (RFl p) p d cx ss c b n k).snd.fst, (fdF (RFl p) p d cx ss c b n k).snd.snd) (ss.getD k default, cx)).snd.fst, (stepF (RFl p) ((fdF (RFl p) p d cx ss c b n k).fst, (fdF (RFl p) p d cx ss c b n k).snd.fst, (fdF (RFl p) p d cx ss c b n k).snd.snd) (ss.getD k default, cx)).snd.snd) (evs p d cx (ss.getD k default).body)).snd.snd) (by omega) (by exact (bl_at hs (by omega)).2.2) (by exact fd_cnt3 (by omega) hn st_n)) calls_nil) trivial [0, 1, 2, 3, 4, 5, 6, 7, 8] [dI p.vars, dI p.arrays, dT p.body, .box [iA (List.foldl (stepF (RFl p)) ((List.foldl (stepF (RFl p)) ((stepF (RFl p) ((fdF (RFl p) p d cx ss c b n k).fst, (fdF (RFl p) p d cx ss c b n k).snd.fst, (fdF (RFl p) p d cx ss c b n k).snd.snd) (ss.getD k default, cx)).fst, (stepF (RFl p) ((fdF (RFl p) p d cx ss c b n k).fst, (fdF (RFl p) p d cx ss c b n k).snd.fst, (fdF (RFl p) p d cx ss c b n k).snd.snd) (ss.getD k default, cx)).snd.fst, (stepF (RFl p) ((fdF (RFl p) p d cx ss c b n k).fst, (fdF (RFl p) p d cx ss c b n k).snd.fst, (fdF (RFl p) p d cx ss c b n k).snd.snd) (ss.getD k default, cx)).snd.snd) (evs p d cx (ss.getD k default).body)).fst, (List.foldl (stepF (RFl p)) ((stepF (RFl p) ((fdF (RFl p) p d cx ss c b n k).fst, (fdF (RFl p) p d cx ss c b n k).snd.fst, (fdF (RFl p) p d cx ss c b n k).snd.snd) (ss.getD k default, cx)).fst, (stepF (RFl p) ((fdF (RFl p) p d cx ss c b n k).fst, (fdF (RFl p) p d cx ss c b n k).snd.fst, (fdF (RFl p) p d cx ss c b n k).snd.snd) (ss.getD k default, cx)).snd.fst, (stepF (RFl p) ((fdF (RFl p) p d cx ss c b n k).fst, (fdF (RFl p) p d cx ss c b n k).snd.fst, (fdF (RFl p) p d cx ss c b n k).snd.snd) (ss.getD k default, cx)).snd.snd) (evs p d cx (ss.getD k default).body)).snd.fst, (List.foldl (stepF (RFl p)) ((stepF (RFl p) ((fdF (RFl p) p d cx ss c b n k).fst, (fdF (RFl p) p d cx ss c b n k).snd.fst, (fdF (RFl p) p d cx ss c b n k).snd.snd) (ss.getD k default, cx)).fst, (stepF (RFl p) ((fdF (RFl p) p d cx ss c b n k).fst, (fdF (RFl p) p d cx ss c b n k).snd.fst, (fdF (RFl p) p d cx ss c b n k).snd.snd) (ss.getD k default, cx)).snd.fst, (stepF (RFl p) ((fdF (RFl p) p d cx ss c b n k).fst, (fdF (RFl p) p d cx ss c b n k).snd.fst, (fdF (RFl p) p d cx ss c b n k).snd.snd) (ss.getD k default, cx)).snd.snd) (evs p d cx (ss.getD k default).body)).snd.snd) (evs p d cx (ss.getD k default).els)).fst], .box [.bm 131 [pA 0]], .box [iA (↑(List.foldl (stepF (RFl p)) ((List.foldl (stepF (RFl p)) ((stepF (RFl p) ((fdF (RFl p) p d cx ss c b n k).fst, (fdF (RFl p) p d cx ss c b n k).snd.fst, (fdF (RFl p) p d cx ss c b n k).snd.snd) (ss.getD k default, cx)).fst, (stepF (RFl p) ((fdF (RFl p) p d cx ss c b n k).fst, (fdF (RFl p) p d cx ss c b n k).snd.fst, (fdF (RFl p) p d cx ss c b n k).snd.snd) (ss.getD k default, cx)).snd.fst, (stepF (RFl p) ((fdF (RFl p) p d cx ss c b n k).fst, (fdF (RFl p) p d cx ss c b n k).snd.fst, (fdF (RFl p) p d cx ss c b n k).snd.snd) (ss.getD k default, cx)).snd.snd) (evs p d cx (ss.getD k default).body)).fst, (List.foldl (stepF (RFl p)) ((stepF (RFl p) ((fdF (RFl p) p d cx ss c b n k).fst, (fdF (RFl p) p d cx ss c b n k).snd.fst, (fdF (RFl p) p d cx ss c b n k).snd.snd) (ss.getD k default, cx)).fst, (stepF (RFl p) ((fdF (RFl p) p d cx ss c b n k).fst, (fdF (RFl p) p d cx ss c b n k).snd.fst, (fdF (RFl p) p d cx ss c b n k).snd.snd) (ss.getD k default, cx)).snd.fst, (stepF (RFl p) ((fdF (RFl p) p d cx ss c b n k).fst, (fdF (RFl p) p d cx ss c b n k).snd.fst, (fdF (RFl p) p d cx ss c b n k).snd.snd) (ss.getD k default, cx)).snd.snd) (evs p d cx (ss.getD k default).body)).snd.fst, (List.foldl (stepF (RFl p)) ((stepF (RFl p) ((fdF (RFl p) p d cx ss c b n k).fst, (fdF (RFl p) p d cx ss c b n k).snd.fst, (fdF (RFl p) p d cx ss c b n k).snd.snd) (ss.getD k default, cx)).fst, (stepF (RFl p) ((fdF (RFl p) p d cx ss c b n k).fst, (fdF (RFl p) p d cx ss c b n k).snd.fst, (fdF (RFl p) p d cx ss c b n k).snd.snd) (ss.getD k default, cx)).snd.fst, (stepF (RFl p) ((fdF (RFl p) p d cx ss c b n k).fst, (fdF (RFl p) p d cx ss c b n k).snd.fst, (fdF (RFl p) p d cx ss c b n k).snd.snd) (ss.getD k default, cx)).snd.snd) (evs p d cx (ss.getD k default).body)).snd.snd) (evs p d cx (ss.getD k default).els)).snd.snd : Int)], .box [iA (List.foldl (stepF (RFl p)) ((List.foldl (stepF (RFl p)) ((stepF (RFl p) ((fdF (RFl p) p d cx ss c b n k).fst, (fdF (RFl p) p d cx ss c b n k).snd.fst, (fdF (RFl p) p d cx ss c b n k).snd.snd) (ss.getD k default, cx)).fst, (stepF (RFl p) ((fdF (RFl p) p d cx ss c b n k).fst, (fdF (RFl p) p d cx ss c b n k).snd.fst, (fdF (RFl p) p d cx ss c b n k).snd.snd) (ss.getD k default, cx)).snd.fst, (stepF (RFl p) ((fdF (RFl p) p d cx ss c b n k).fst, (fdF (RFl p) p d cx ss c b n k).snd.fst, (fdF (RFl p) p d cx ss c b n k).snd.snd) (ss.getD k default, cx)).snd.snd) (evs p d cx (ss.getD k default).body)).fst, (List.foldl (stepF (RFl p)) ((stepF (RFl p) ((fdF (RFl p) p d cx ss c b n k).fst, (fdF (RFl p) p d cx ss c b n k).snd.fst, (fdF (RFl p) p d cx ss c b n k).snd.snd) (ss.getD k default, cx)).fst, (stepF (RFl p) ((fdF (RFl p) p d cx ss c b n k).fst, (fdF (RFl p) p d cx ss c b n k).snd.fst, (fdF (RFl p) p d cx ss c b n k).snd.snd) (ss.getD k default, cx)).snd.fst, (stepF (RFl p) ((fdF (RFl p) p d cx ss c b n k).fst, (fdF (RFl p) p d cx ss c b n k).snd.fst, (fdF (RFl p) p d cx ss c b n k).snd.snd) (ss.getD k default, cx)).snd.snd) (evs p d cx (ss.getD k default).body)).snd.fst, (List.foldl (stepF (RFl p)) ((stepF (RFl p) ((fdF (RFl p) p d cx ss c b n k).fst, (fdF (RFl p) p d cx ss c b n k).snd.fst, (fdF (RFl p) p d cx ss c b n k).snd.snd) (ss.getD k default, cx)).fst, (stepF (RFl p) ((fdF (RFl p) p d cx ss c b n k).fst, (fdF (RFl p) p d cx ss c b n k).snd.fst, (fdF (RFl p) p d cx ss c b n k).snd.snd) (ss.getD k default, cx)).snd.fst, (stepF (RFl p) ((fdF (RFl p) p d cx ss c b n k).fst, (fdF (RFl p) p d cx ss c b n k).snd.fst, (fdF (RFl p) p d cx ss c b n k).snd.snd) (ss.getD k default, cx)).snd.snd) (evs p d cx (ss.getD k default).body)).snd.snd) (evs p d cx (ss.getD k default).els)).snd.fst], dT ss, .box (pL 0)] [(2, iA cx), (3, .fn 132 [.ptr 3 0, .ptr 4 0, .ptr 5 0, .ptr 6 0]), (4, .ptr 8 0), (11, .ref 7), (12, iA (↑ss.length : Int)), (13, iA (↑k : Int))] [] trivial ?_
    clear G; intro ρ a w G
    refine bl_n ?_
    refine th_n ?_
    refine rs1s G ⟨[], [], []⟩ calls_nil trivial [(2, iA cx), (3, .fn 132 [.ptr 3 0, .ptr 4 0, .ptr 5 0, .ptr 6 0]), (4, .ptr 8 0), (11, .ref 7), (12, iA (↑ss.length : Int)), (13, iA ((↑k : Int) + 1))] [IntKind.i64.wrap ((↑k : Int) + (1 : Int)) = (↑k : Int) + (1 : Int)] ⟨(by exact w64 (by omega) (by omega)), trivial⟩ ?_
    clear G; intro ρ a w G
    refine th_n ?_
    exact rx_next G (k + 1) (by omega) (by omega) [0, 1, 2, 3, 4, 5, 6, 7, 8] [dI p.vars, dI p.arrays, dT p.body, .box [iA (fdF (RFl p) p d cx ss c b n (k + 1)).fst], .box [.bm 131 [pA 0]], .box [iA (↑(fdF (RFl p) p d cx ss c b n (k + 1)).snd.snd : Int)], .box [iA (fdF (RFl p) p d cx ss c b n (k + 1)).snd.fst], dT ss, .box (pL 0)] [(2, iA cx), (3, .fn 132 [.ptr 3 0, .ptr 4 0, .ptr 5 0, .ptr 6 0]), (4, .ptr 8 0), (11, .ref 7), (12, iA (↑ss.length : Int)), (13, iA (↑(k + 1) : Int))] (by kernel_rfl) (by kernel_rfl) (by kernel_rfl) (by have e1 : ((fdF (RFl p) p d cx ss c b n (k + 1)).fst : Int) = ((List.foldl (stepF (RFl p)) ((List.foldl (stepF (RFl p)) ((stepF (RFl p) ((fdF (RFl p) p d cx ss c b n k).fst, (fdF (RFl p) p d cx ss c b n k).snd.fst, (fdF (RFl p) p d cx ss c b n k).snd.snd) (ss.getD k default, cx)).fst, (stepF (RFl p) ((fdF (RFl p) p d cx ss c b n k).fst, (fdF (RFl p) p d cx ss c b n k).snd.fst, (fdF (RFl p) p d cx ss c b n k).snd.snd) (ss.getD k default, cx)).snd.fst, (stepF (RFl p) ((fdF (RFl p) p d cx ss c b n k).fst, (fdF (RFl p) p d cx ss c b n k).snd.fst, (fdF (RFl p) p d cx ss c b n k).snd.snd) (ss.getD k default, cx)).snd.snd) (evs p d cx (ss.getD k default).body)).fst, (List.foldl (stepF (RFl p)) ((stepF (RFl p) ((fdF (RFl p) p d cx ss c b n k).fst, (fdF (RFl p) p d cx ss c b n k).snd.fst, (fdF (RFl p) p d cx ss c b n k).snd.snd) (ss.getD k default, cx)).fst, (stepF (RFl p) ((fdF (RFl p) p d cx ss c b n k).fst, (fdF (RFl p) p d cx ss c b n k).snd.fst, (fdF (RFl p) p d cx ss c b n k).snd.snd) (ss.getD k default, cx)).snd.fst, (stepF (RFl p) ((fdF (RFl p) p d cx ss c b n k).fst, (fdF (RFl p) p d cx ss c b n k).snd.fst, (fdF (RFl p) p d cx ss c b n k).snd.snd) (ss.getD k default, cx)).snd.snd) (evs p d cx (ss.getD k default).body)).snd.fst, (List.foldl (stepF (RFl p)) ((stepF (RFl p) ((fdF (RFl p) p d cx ss c b n k).fst, (fdF (RFl p) p d cx ss c b n k).snd.fst, (fdF (RFl p) p d cx ss c b n k).snd.snd) (ss.getD k default, cx)).fst, (stepF (RFl p) ((fdF (RFl p) p d cx ss c b n k).fst, (fdF (RFl p) p d cx ss c b n k).snd.fst, (fdF (RFl p) p d cx ss c b n k).snd.snd) (ss.getD k default, cx)).snd.fst, (stepF (RFl p) ((fdF (RFl p) p d cx ss c b n k).fst, (fdF (RFl p) p d cx ss c b n k).snd.fst, (fdF (RFl p) p d cx ss c b n k).snd.snd) (ss.getD k default, cx)).snd.snd) (evs p d cx (ss.getD k default).body)).snd.snd) (evs p d cx (ss.getD k default).els)).fst) := (by exact congrArg Prod.fst (fd_n (by omega) (by assumption))); have e2 : ((↑(fdF (RFl p) p d cx ss c b n (k + 1)).snd.snd : Int) : Int) = ((↑(List.foldl (stepF (RFl p)) ((List.foldl (stepF (RFl p)) ((stepF (RFl p) ((fdF (RFl p) p d cx ss c b n k).fst, (fdF (RFl p) p d cx ss c b n k).snd.fst, (fdF (RFl p) p d cx ss c b n k).snd.snd) (ss.getD k default, cx)).fst, (stepF (RFl p) ((fdF (RFl p) p d cx ss c b n k).fst, (fdF (RFl p) p d cx ss c b n k).snd.fst, (fdF (RFl p) p d cx ss c b n k).snd.snd) (ss.getD k default, cx)).snd.fst, (stepF (RFl p) ((fdF (RFl p) p d cx ss c b n k).fst, (fdF (RFl p) p d cx ss c b n k).snd.fst, (fdF (RFl p) p d cx ss c b n k).snd.snd) (ss.getD k default, cx)).snd.snd) (evs p d cx (ss.getD k default).body)).fst, (List.foldl (stepF (RFl p)) ((stepF (RFl p) ((fdF (RFl p) p d cx ss c b n k).fst, (fdF (RFl p) p d cx ss c b n k).snd.fst, (fdF (RFl p) p d cx ss c b n k).snd.snd) (ss.getD k default, cx)).fst, (stepF (RFl p) ((fdF (RFl p) p d cx ss c b n k).fst, (fdF (RFl p) p d cx ss c b n k).snd.fst, (fdF (RFl p) p d cx ss c b n k).snd.snd) (ss.getD k default, cx)).snd.fst, (stepF (RFl p) ((fdF (RFl p) p d cx ss c b n k).fst, (fdF (RFl p) p d cx ss c b n k).snd.fst, (fdF (RFl p) p d cx ss c b n k).snd.snd) (ss.getD k default, cx)).snd.snd) (evs p d cx (ss.getD k default).body)).snd.fst, (List.foldl (stepF (RFl p)) ((stepF (RFl p) ((fdF (RFl p) p d cx ss c b n k).fst, (fdF (RFl p) p d cx ss c b n k).snd.fst, (fdF (RFl p) p d cx ss c b n k).snd.snd) (ss.getD k default, cx)).fst, (stepF (RFl p) ((fdF (RFl p) p d cx ss c b n k).fst, (fdF (RFl p) p d cx ss c b n k).snd.fst, (fdF (RFl p) p d cx ss c b n k).snd.snd) (ss.getD k default, cx)).snd.fst, (stepF (RFl p) ((fdF (RFl p) p d cx ss c b n k).fst, (fdF (RFl p) p d cx ss c b n k).snd.fst, (fdF (RFl p) p d cx ss c b n k).snd.snd) (ss.getD k default, cx)).snd.snd) (evs p d cx (ss.getD k default).body)).snd.snd) (evs p d cx (ss.getD k default).els)).snd.snd : Int)) := (by exact congrArg (fun x : Int × Int × Nat => Int.ofNat x.2.2) (fd_n (by omega) (by assumption))); have e3 : ((fdF (RFl p) p d cx ss c b n (k + 1)).snd.fst : Int) = ((List.foldl (stepF (RFl p)) ((List.foldl (stepF (RFl p)) ((stepF (RFl p) ((fdF (RFl p) p d cx ss c b n k).fst, (fdF (RFl p) p d cx ss c b n k).snd.fst, (fdF (RFl p) p d cx ss c b n k).snd.snd) (ss.getD k default, cx)).fst, (stepF (RFl p) ((fdF (RFl p) p d cx ss c b n k).fst, (fdF (RFl p) p d cx ss c b n k).snd.fst, (fdF (RFl p) p d cx ss c b n k).snd.snd) (ss.getD k default, cx)).snd.fst, (stepF (RFl p) ((fdF (RFl p) p d cx ss c b n k).fst, (fdF (RFl p) p d cx ss c b n k).snd.fst, (fdF (RFl p) p d cx ss c b n k).snd.snd) (ss.getD k default, cx)).snd.snd) (evs p d cx (ss.getD k default).body)).fst, (List.foldl (stepF (RFl p)) ((stepF (RFl p) ((fdF (RFl p) p d cx ss c b n k).fst, (fdF (RFl p) p d cx ss c b n k).snd.fst, (fdF (RFl p) p d cx ss c b n k).snd.snd) (ss.getD k default, cx)).fst, (stepF (RFl p) ((fdF (RFl p) p d cx ss c b n k).fst, (fdF (RFl p) p d cx ss c b n k).snd.fst, (fdF (RFl p) p d cx ss c b n k).snd.snd) (ss.getD k default, cx)).snd.fst, (stepF (RFl p) ((fdF (RFl p) p d cx ss c b n k).fst, (fdF (RFl p) p d cx ss c b n k).snd.fst, (fdF (RFl p) p d cx ss c b n k).snd.snd) (ss.getD k default, cx)).snd.snd) (evs p d cx (ss.getD k default).body)).snd.fst, (List.foldl (stepF (RFl p)) ((stepF (RFl p) ((fdF (RFl p) p d cx ss c b n k).fst, (fdF (RFl p) p d cx ss c b n k).snd.fst, (fdF (RFl p) p d cx ss c b n k).snd.snd) (ss.getD k default, cx)).fst, (stepF (RFl p) ((fdF (RFl p) p d cx ss c b n k).fst, (fdF (RFl p) p d cx ss c b n k).snd.fst, (fdF (RFl p) p d cx ss c b n k).snd.snd) (ss.getD k default, cx)).snd.fst, (stepF (RFl p) ((fdF (RFl p) p d cx ss c b n k).fst, (fdF (RFl p) p d cx ss c b n k).snd.fst, (fdF (RFl p) p d cx ss c b n k).snd.snd) (ss.getD k default, cx)).snd.snd) (evs p d cx (ss.getD k default).body)).snd.snd) (evs p d cx (ss.getD k default).els)).snd.fst) := (by exact congrArg (fun x : Int × Int × Nat => x.2.1) (fd_n (by omega) (by assumption))); first | (rw [e1, e2, e3]; done) | (rw [e1, e2, e3]; rfl) | (simp only [e1, e2, e3]; done) | (simp only [e1, e2, e3]; rfl)) (by kernel_rfl)
   ·
    have q1 : (ss.getD k default).kind = 3 := eq_of_beq h1
    refine rT G ((ss.getD k default).kind == (3 : Int)) (by assumption) ?_
    refine rs1s G ⟨[(4, _, [0, 1, 2, 10])], [], []⟩ (calls_cons (c_label (p) ((ss.getD k default).value) (by exact hd_value (bl_at hs (by omega)).1 (by omega))) calls_nil) trivial [(2, iA cx), (3, .fn 132 [.ptr 3 0, .ptr 4 0, .ptr 5 0, .ptr 6 0]), (4, .ptr 8 0), (9, .ptr 13 0), (10, iA (orI cx (labV p (ss.getD k default).value))), (11, .ref 7), (12, iA (↑ss.length : Int)), (13, iA (↑k : Int))] [] trivial ?_
    clear G; intro ρ a w G
    refine th_n ?_
    refine wp_seq ?_
    refine rs1 (dk := dkP) G ⟨[(5, _, [0, 1, 2, 3, 4, 5, 6, 11])], [], []⟩ (calls_cons (ih ((ss.getD k default).body) (orI cx (labV p (ss.getD k default).value)) ((stepF (RFl p) ((fdF (RFl p) p d cx ss c b n k).fst, (fdF (RFl p) p d cx ss c b n k).snd.fst, (fdF (RFl p) p d cx ss c b n k).snd.snd) (ss.getD k default, cx)).fst) ((stepF (RFl p) ((fdF (RFl p) p d cx ss c b n k).fst, (fdF (RFl p) p d cx ss c b n k).snd.fst, (fdF (RFl p) p d cx ss c b n k).snd.snd) (ss.getD k default, cx)).snd.fst) ((stepF (RFl p) ((fdF (RFl p) p d cx ss c b n k).fst, (fdF (RFl p) p d cx ss c b n k).snd.fst, (fdF (RFl p) p d cx ss c b n k).snd.snd) (ss.getD k default, cx)).snd.snd) (by omega) (by exact (bl_at hs (by omega)).2.1) (by exact fd_cnt2 (by omega) hn)) calls_nil) trivial [0, 1, 2, 3, 4, 5, 6, 7, 8, 9, 10, 11, 12, 13] [dI p.vars, dI p.arrays, dT p.body, .box [iA (List.foldl (stepF (RFl p)) ((stepF (RFl p) ((fdF (RFl p) p d cx ss c b n k).fst, (fdF (RFl p) p d cx ss c b n k).snd.fst, (fdF (RFl p) p d cx ss c b n k).snd.snd) (ss.getD k default, cx)).fst, (stepF (RFl p) ((fdF (RFl p) p d cx ss c b n k).fst, (fdF (RFl p) p d cx ss c b n k).snd.fst, (fdF (RFl p) p d cx ss c b n k).snd.snd) (ss.getD k default, cx)).snd.fst, (stepF (RFl p) ((fdF (RFl p) p d cx ss c b n k).fst, (fdF (RFl p) p d cx ss c b n k).snd.fst, (fdF (RFl p) p d cx ss c b n k).snd.snd) (ss.getD k default, cx)).snd.snd) (evs p d (orI cx (labV p (ss.getD k default).value)) (ss.getD k default).body)).fst], .box [.bm 131 [pA 0]], .box [iA (↑(List.foldl (stepF (RFl p)) ((stepF (RFl p) ((fdF (RFl p) p d cx ss c b n k).fst, (fdF (RFl p) p d cx ss c b n k).snd.fst, (fdF (RFl p) p d cx ss c b n k).snd.snd) (ss.getD k default, cx)).fst, (stepF (RFl p) ((fdF (RFl p) p d cx ss c b n k).fst, (fdF (RFl p) p d cx ss c b n k).snd.fst, (fdF (RFl p) p d cx ss c b n k).snd.snd) (ss.getD k default, cx)).snd.fst, (stepF (RFl p) ((fdF (RFl p) p d cx ss c b n k).fst, (fdF (RFl p) p d cx ss c b n k).snd.fst, (fdF (RFl p) p d cx ss c b n k).snd.snd) (ss.getD k default, cx)).snd.snd) (evs p d (orI cx (labV p (ss.getD k default).value)) (ss.getD k default).body)).snd.snd : Int)], .box [iA (List.foldl (stepF (RFl p)) ((stepF (RFl p) ((fdF (RFl p) p d cx ss c b n k).fst, (fdF (RFl p) p d cx ss c b n k).snd.fst, (fdF (RFl p) p d cx ss c b n k).snd.snd) (ss.getD k default, cx)).fst, (stepF (RFl p) ((fdF (RFl p) p d cx ss c b n k).fst, (fdF (RFl p) p d cx ss c b n k).snd.fst, (fdF (RFl p) p d cx ss c b n k).snd.snd) (ss.getD k default, cx)).snd.fst, (stepF (RFl p) ((fdF (RFl p) p d cx ss c b n k).fst, (fdF (RFl p) p d cx ss c b n k).snd.fst, (fdF (RFl p) p d cx ss c b n k).snd.snd) (ss.getD k default, cx)).snd.snd) (evs p d (orI cx (labV p (ss.getD k default).value)) (ss.getD k default).body)).snd.fst], dT ss, .box (pL 0), dE (ss.getD k default).index.kids, dE (ss.getD k default).value.kids, dT (ss.getD k default).body, dT (ss.getD k default).els, .box (sL (ss.getD k default) 9)] [(2, iA cx), (3, .fn 132 [.ptr 3 0, .ptr 4 0, .ptr 5 0, .ptr 6 0]), (4, .ptr 8 0), (9, .ptr 13 0), (10, iA (orI cx (labV p (ss.getD k default).value))), (11, .ref 7), (12, iA (↑ss.length : Int)), (13, iA (↑k : Int))] [] trivial ?_
    clear G; intro ρ a w G
    refine th_n ?_
    refine rs1 (dk := dkP) G ⟨[(5, _, [0, 1, 2, 3, 4, 5, 6, 12])], [], []⟩ (calls_cons (ih ((ss.getD k default).els) (orI cx (labV p (ss.getD k default).value)) ((List.foldl (stepF (RFl p)) ((stepF (RFl p) ((fdF (RFl p) p d cx ss c b n k).fst, (fdF (RFl p) p d cx ss c b n k).snd.fst, (fdF (RFl p) p d cx ss c b n k).snd.snd) (ss.getD k default, cx)).fst, (stepF (RFl p) ((fdF (RFl p) p d cx ss c b n k).fst, (fdF (RFl p) p d cx ss c b n k).snd.fst, (fdF (RFl p) p d cx ss c b n k).snd.snd) (ss.getD k default, cx)).snd.fst, (stepF (RFl p) ((fdF (RFl p) p d cx ss c b n k).fst, (fdF (RFl p) p d cx ss c b n k).snd.fst, (fdF (RFl p) p d cx ss c b n k).snd.snd) (ss.getD k default, cx)).snd.snd) (evs p d (orI cx (labV p (ss.getD k default).value)) (ss.getD k default).body)).fst) ((List.foldl (stepF (RFl p)) ((stepF (RFl p) ((fdF (RFl p) p d cx ss c b n k).fst, (fdF (RFl p) p d cx ss c b n k).snd.fst, (fdF (RFl p) p d cx ss c b n k).snd.snd) (ss.getD k default, cx)).fst, (stepF (RFl p) ((fdF (RFl p) p d cx ss c b n k).fst, (fdF (RFl p) p d cx ss c b n k).snd.fst, (fdF (RFl p) p d cx ss c b n k).snd.snd) (ss.getD k default, cx)).snd.fst, (stepF (RFl p) ((fdF (RFl p) p d cx ss c b n k).fst, (fdF (RFl p) p d cx ss c b n k).snd.fst, (fdF (RFl p) p d cx ss c b n k).snd.snd) (ss.getD k default, cx)).snd.snd) (evs p d (orI cx (labV p (ss.getD k default).value)) (ss.getD k default).body)).snd.fst) ((List.foldl (stepF (RFl p)) ((stepF (RFl p) ((fdF (RFl p) p d cx ss c b n k).fst, (fdF (RFl p) p d cx ss c b n k).snd.fst, (fdF (RFl p) p d cx ss c b n k).snd.snd) (ss.getD k default, cx)).fst, (stepF (RFl p) ((fdF (RFl p) p d cx ss c b n k).fst, (fdF (RFl p) p d cx ss c b n k).snd.fst, (fdF (RFl p) p d cx ss c b n k).snd.snd) (ss.getD k default, cx)).snd.fst, (stepF (RFl p) ((fdF (RFl p) p d cx ss c b n k).fst, (fdF (RFl p) p d cx ss c b n k).snd.fst, (fdF (RFl p) p d cx ss c b n k).snd.snd) (ss.getD k default, cx)).snd.snd) (evs p d (orI cx (labV p (ss.getD k default).value)) (ss.getD k default).body)).snd.snd) (by omega) (by exact (bl_at hs (by omega)).2.2) (by exact fd_cnt3 (by omega) hn st_n)) calls_nil) trivial [0, 1, 2, 3, 4, 5, 6, 7, 8] [dI p.vars, dI p.arrays, dT p.body, .box [iA (List.foldl (stepF (RFl p)) ((List.foldl (stepF (RFl p)) ((stepF (RFl p) ((fdF (RFl p) p d cx ss c b n k).fst, (fdF (RFl p) p d cx ss c b n k).snd.fst, (fdF (RFl p) p d cx ss c b n k).snd.snd) (ss.getD k default, cx)).fst, (stepF (RFl p) ((fdF (RFl p) p d cx ss c b n k).fst, (fdF (RFl p) p d cx ss c b n k).snd.fst, (fdF (RFl p) p d cx ss c b n k).snd.snd) (ss.getD k default, cx)).snd.fst, (stepF (RFl p) ((fdF (RFl p) p d cx ss c b n k).fst, (fdF (RFl p) p d cx ss c b n k).snd.fst, (fdF (RFl p) p d cx ss c b n k).snd.snd) (ss.getD k default, cx)).snd.snd) (evs p d (orI cx (labV p (ss.getD k default).value)) (ss.getD k default).body)).fst, (List.foldl (stepF (RFl p)) ((stepF (RFl p) ((fdF (RFl p) p d cx ss c b n k).fst, (fdF (RFl p) p d cx ss c b n k).snd.fst, (fdF (RFl p) p d cx ss c b n k).snd.snd) (ss.getD k default, cx)).fst, (stepF (RFl p) ((fdF (RFl p) p d cx ss c b n k).fst, (fdF (RFl p) p d cx ss c b n k).snd.fst, (fdF (RFl p) p d cx ss c b n k).snd.snd) (ss.getD k default, cx)).snd.fst, (stepF (RFl p) ((fdF (RFl p) p d cx ss c b n k).fst, (fdF (RFl p) p d cx ss c b n k).snd.fst, (fdF (RFl p) p d cx ss c b n k).snd.snd) (ss.getD k default, cx)).snd.snd) (evs p d (orI cx (labV p (ss.getD k default).value)) (ss.getD k default).body)).snd.fst, (List.foldl (stepF (RFl p)) ((stepF (RFl p) ((fdF (RFl p) p d cx ss c b n k).fst, (fdF (RFl p) p d cx ss c b n k).snd.fst, (fdF (RFl p) p d cx ss c b n k).snd.snd) (ss.getD k default, cx)).fst, (stepF (RFl p) ((fdF (RFl p) p d cx ss c b n k).fst, (fdF (RFl p) p d cx ss c b n k).snd.fst, (fdF (RFl p) p d cx ss c b n k).snd.snd) (ss.getD k default, cx)).snd.fst, (stepF (RFl p) ((fdF (RFl p) p d cx ss c b n k).fst, (fdF (RFl p) p d cx ss c b n k).snd.fst, (fdF (RFl p) p d cx ss c b n k).snd.snd) (ss.getD k default, cx)).snd.snd) (evs p d (orI cx (labV p (ss.getD k default).value)) (ss.getD k default).body)).snd.snd) (evs p d (orI cx (labV p (ss.getD k default).value)) (ss.getD k default).els)).fst], .box [.bm 131 [pA 0]], .box [iA (↑(List.foldl (stepF (RFl p)) ((List.foldl (stepF (RFl p)) ((stepF (RFl p) ((fdF (RFl p) p d cx ss c b n k).fst, (fdF (RFl p) p d cx ss c b n k).snd.fst, (fdF (RFl p) p d cx ss c b n k).snd.snd) (ss.getD k default, cx)).fst, (stepF (RFl p) ((fdF (RFl p) p d cx ss c b n k).fst, (fdF (RFl p) p d cx ss c b n k).snd.fst, (fdF (RFl p) p d cx ss c b n k).snd.snd) (ss.getD k default, cx)).snd.fst, (stepF (RFl p) ((fdF (RFl p) p d cx ss c b n k).fst, (fdF (RFl p) p d cx ss c b n k).snd.fst, (fdF (RFl p) p d cx ss c b n k).snd.snd) (ss.getD k default, cx)).snd.snd) (evs p d (orI cx (labV p (ss.getD k default).value)) (ss.getD k default).body)).fst, (List.foldl (stepF (RFl p)) ((stepF (RFl p) ((fdF (RFl p) p d cx ss c b n k).fst, (fdF (RFl p) p d cx ss c b n k).snd.fst, (fdF (RFl p) p d cx ss c b n k).snd.snd) (ss.getD k default, cx)).fst, (stepF (RFl p) ((fdF (RFl p) p d cx ss c b n k).fst, (fdF (RFl p) p d cx ss c b n k).snd.fst, (fdF (RFl p) p d cx ss c b n k).snd.snd) (ss.getD k default, cx)).snd.fst, (stepF (RFl p) ((fdF (RFl p) p d cx ss c b n k).fst, (fdF (RFl p) p d cx ss c b n k).snd.fst, (fdF (RFl p) p d cx ss c b n k).snd.snd) (ss.getD k default, cx)).snd.snd) (evs p d (orI cx (labV p (ss.getD k default).value)) (ss.getD k default).body)).snd.fst, (List.foldl (stepF (RFl p)) ((stepF (RFl p) ((fdF (RFl p) p d cx ss c b n k).fst, (fdF (RFl p) p d cx ss c b n k).snd.fst, (fdF (RFl p) p d cx ss c b n k).snd.snd) (ss.getD k default, cx)).fst, (stepF (RFl p) ((fdF (RFl p) p d cx ss c b n k).fst, (fdF (RFl p) p d cx ss c b n k).snd.fst, (fdF (RFl p) p d cx ss c b n k).snd.snd) (ss.getD k default, cx)).snd.fst, (stepF (RFl p) ((fdF (RFl p) p d cx ss c b n k).fst, (fdF (RFl p) p d cx ss c b n k).snd.fst, (fdF (RFl p) p d cx ss c b n k).snd.snd) (ss.getD k default, cx)).snd.snd) (evs p d (orI cx (labV p (ss.getD k default).value)) (ss.getD k default).body)).snd.snd) (evs p d (orI cx (labV p (ss.getD k default).value)) (ss.getD k default).els)).snd.snd : Int)], .box [iA (List.foldl (stepF (RFl p)) ((List.foldl (stepF (RFl p)) ((stepF (RFl p) ((fdF (RFl p) p d cx ss c b n k).fst, (fdF (RFl p) p d cx ss c b n k).snd.fst, (fdF (RFl p) p d cx ss c b n k).snd.snd) (ss.getD k default, cx)).fst, (stepF (RFl p) ((fdF (RFl p) p d cx ss c b n k).fst, (fdF (RFl p) p d cx ss c b n k).snd.fst, (fdF (RFl p) p d cx ss c b n k).snd.snd) (ss.getD k default, cx)).snd.fst, (stepF (RFl p) ((fdF (RFl p) p d cx ss c b n k).fst, (fdF (RFl p) p d cx ss c b n k).snd.fst, (fdF (RFl p) p d cx ss c b n k).snd.snd) (ss.getD k default, cx)).snd.snd) (evs p d (orI cx (labV p (ss.getD k default).value)) (ss.getD k default).body)).fst, (List.foldl (stepF (RFl p)) ((stepF (RFl p) ((fdF (RFl p) p d cx ss c b n k).fst, (fdF (RFl p) p d cx ss c b n k).snd.fst, (fdF (RFl p) p d cx ss c b n k).snd.snd) (ss.getD k default, cx)).fst, (stepF (RFl p) ((fdF (RFl p) p d cx ss c b n k).fst, (fdF (RFl p) p d cx ss c b n k).snd.fst, (fdF (RFl p) p d cx ss c b n k).snd.snd) (ss.getD k default, cx)).snd.fst, (stepF (RFl p) ((fdF (RFl p) p d cx ss c b n k).fst, (fdF (RFl p) p d cx ss c b n k).snd.fst, (fdF (RFl p) p d cx ss c b n k).snd.snd) (ss.getD k default, cx)).snd.snd) (evs p d (orI cx (labV p (ss.getD k default).value)) (ss.getD k default).body)).snd.fst, (List.foldl (stepF (RFl p)) ((stepF (RFl p) ((fdF (RFl p) p d cx ss c b n k).fst, (fdF (RFl p) p d cx ss c b n k).snd.fst, (fdF (RFl p) p d cx ss c b n k).snd.snd) (ss.getD k default, cx)).fst, (stepF (RFl p) ((fdF (RFl p) p d cx ss c b n k).fst, (fdF (RFl p) p d cx ss c b n k).snd.fst, (fdF (RFl p) p d cx ss c b n k).snd.snd) (ss.getD k default, cx)).snd.fst, (stepF (RFl p) ((fdF (RFl p) p d cx ss c b n k).fst, (fdF (RFl p) p d cx ss c b n k).snd.fst, (fdF (RFl p) p d cx ss c b n k).snd.snd) (ss.getD k default, cx)).snd.snd) (evs p d (orI cx (labV p (ss.getD k default).value)) (ss.getD k default).body)).snd.snd) (evs p d (orI cx (labV p (ss.getD k default).value)) (ss.getD k default).els)).snd.fst], dT ss, .box (pL 0)] [(2, iA cx), (3, .fn 132 [.ptr 3 0, .ptr 4 0, .ptr 5 0, .ptr 6 0]), (4, .ptr 8 0), (11, .ref 7), (12, iA (↑ss.length : Int)), (13, iA (↑k : Int))] [] trivial ?_
    clear G; intro ρ a w G
    refine bl_n ?_
    refine th_n ?_
    refine rs1s G ⟨[], [], []⟩ calls_nil trivial [(2, iA cx), (3, .fn 132 [.ptr 3 0, .ptr 4 0, .ptr 5 0, .ptr 6 0]), (4, .ptr 8 0), (11, .ref 7), (12, iA (↑ss.length : Int)), (13, iA ((↑k : Int) + 1))] [IntKind.i64.wrap ((↑k : Int) + (1 : Int)) = (↑k : Int) + (1 : Int)] ⟨(by exact w64 (by omega) (by omega)), trivial⟩ ?_
    clear G; intro ρ a w G
    refine th_n ?_
    exact rx_next G (k + 1) (by omega) (by omega) [0, 1, 2, 3, 4, 5, 6, 7, 8] [dI p.vars, dI p.arrays, dT p.body, .box [iA (fdF (RFl p) p d cx ss c b n (k + 1)).fst], .box [.bm 131 [pA 0]], .box [iA (↑(fdF (RFl p) p d cx ss c b n (k + 1)).snd.snd : Int)], .box [iA (fdF (RFl p) p d cx ss c b n (k + 1)).snd.fst], dT ss, .box (pL 0)] [(2, iA cx), (3, .fn 132 [.ptr 3 0, .ptr 4 0, .ptr 5 0, .ptr 6 0]), (4, .ptr 8 0), (11, .ref 7), (12, iA (↑ss.length : Int)), (13, iA (↑(k + 1) : Int))] (by kernel_rfl) (by kernel_rfl) (by kernel_rfl) (by have e1 : ((fdF (RFl p) p d cx ss c b n (k + 1)).fst : Int) = ((List.foldl (stepF (RFl p)) ((List.foldl (stepF (RFl p)) ((stepF (RFl p) ((fdF (RFl p) p d cx ss c b n k).fst, (fdF (RFl p) p d cx ss c b n k).snd.fst, (fdF (RFl p) p d cx ss c b n k).snd.snd) (ss.getD k default, cx)).fst, (stepF (RFl p) ((fdF (RFl p) p d cx ss c b n k).fst, (fdF (RFl p) p d cx ss c b n k).snd.fst, (fdF (RFl p) p d cx ss c b n k).snd.snd) (ss.getD k default, cx)).snd.fst, (stepF (RFl p) ((fdF (RFl p) p d cx ss c b n k).fst, (fdF (RFl p) p d cx ss c b n k).snd.fst, (fdF (RFl p) p d cx ss c b n k).snd.snd) (ss.getD k default, cx)).snd.snd) (evs p d (orI cx (labV p (ss.getD k default).value)) (ss.getD k default).body)).fst, (List.foldl (stepF (RFl p)) ((stepF (RFl p) ((fdF (RFl p) p d cx ss c b n k).fst, (fdF (RFl p) p d cx ss c b n k).snd.fst, (fdF (RFl p) p d cx ss c b n k).snd.snd) (ss.getD k default, cx)).fst, (stepF (RFl p) ((fdF (RFl p) p d cx ss c b n k).fst, (fdF (RFl p) p d cx ss c b n k).snd.fst, (fdF (RFl p) p d cx ss c b n k).snd.snd) (ss.getD k default, cx)).snd.fst, (stepF (RFl p) ((fdF (RFl p) p d cx ss c b n k).fst, (fdF (RFl p) p d cx ss c b n k).snd.fst, (fdF (RFl p) p d cx ss c b n k).snd.snd) (ss.getD k default, cx)).snd.snd) (evs p d (orI cx (labV p (ss.getD k default).value)) (ss.getD k default).body)).snd.fst, (List.foldl (stepF (RFl p)) ((stepF (RFl p) ((fdF (RFl p) p d cx ss c b n k).fst, (fdF (RFl p) p d cx ss c b n k).snd.fst, (fdF (RFl p) p d cx ss c b n k).snd.snd) (ss.getD k default, cx)).fst, (stepF (RFl p) ((fdF (RFl p) p d cx ss c b n k).fst, (fdF (RFl p) p d cx ss c b n k).snd.fst, (fdF (RFl p) p d cx ss c b n k).snd.snd) (ss.getD k default, cx)).snd.fst, (stepF (RFl p) ((fdF (RFl p) p d cx ss c b n k).fst, (fdF (RFl p) p d cx ss c b n k).snd.fst, (fdF (RFl p) p d cx ss c b n k).snd.snd) (ss.getD k default, cx)).snd.snd) (evs p d (orI cx (labV p (ss.getD k default).value)) (ss.getD k default).body)).snd.snd) (evs p d (orI cx (labV p (ss.getD k default).value)) (ss.getD k default).els)).fst) := (by exact congrArg Prod.fst (fd_3 (by omega) (by assumption))); have e2 : ((↑(fdF (RFl p) p d cx ss c b n (k + 1)).snd.snd : Int) : Int) = ((↑(List.foldl (stepF (RFl p)) ((List.foldl (stepF (RFl p)) ((stepF (RFl p) ((fdF (RFl p) p d cx ss c b n k).fst, (fdF (RFl p) p d cx ss c b n k).snd.fst, (fdF (RFl p) p d cx ss c b n k).snd.snd) (ss.getD k default, cx)).fst, (stepF (RFl p) ((fdF (RFl p) p d cx ss c b n k).fst, (fdF (RFl p) p d cx ss c b n k).snd.fst, (fdF (RFl p) p d cx ss c b n k).snd.snd) (ss.getD k default, cx)).snd.fst, (stepF (RFl p) ((fdF (RFl p) p d cx ss c b n k).fst, (fdF (RFl p) p d cx ss c b n k).snd.fst, (fdF (RFl p) p d cx ss c b n k).snd.snd) (ss.getD k default, cx)).snd.snd) (evs p d (orI cx (labV p (ss.getD k default).value)) (ss.getD k default).body)).fst, (List.foldl (stepF (RFl p)) ((stepF (RFl p) ((fdF (RFl p) p d cx ss c b n k).fst, (fdF (RFl p) p d cx ss c b n k).snd.fst, (fdF (RFl p) p d cx ss c b n k).snd.snd) (ss.getD k default, cx)).fst, (stepF (RFl p) ((fdF (RFl p) p d cx ss c b n k).fst, (fdF (RFl p) p d cx ss c b n k).snd.fst, (fdF (RFl p) p d cx ss c b n k).snd.snd) (ss.getD k default, cx)).snd.fst, (stepF (RFl p) ((fdF (RFl p) p d cx ss c b n k).fst, (fdF (RFl p) p d cx ss c b n k).snd.fst, (fdF (RFl p) p d cx ss c b n k).snd.snd) (ss.getD k default, cx)).snd.snd) (evs p d (orI cx (labV p (ss.getD k default).value)) (ss.getD k default).body)).snd.fst, (List.foldl (stepF (RFl p)) ((stepF (RFl p) ((fdF (RFl p) p d cx ss c b n k).fst, (fdF (RFl p) p d cx ss c b n k).snd.fst, (fdF (RFl p) p d cx ss c b n k).snd.snd) (ss.getD k default, cx)).fst, (stepF (RFl p) ((fdF (RFl p) p d cx ss c b n k).fst, (fdF (RFl p) p d cx ss c b n k).snd.fst, (fdF (RFl p) p d cx ss c b n k).snd.snd) (ss.getD k default, cx)).snd.fst, (stepF (RFl p) ((fdF (RFl p) p d cx ss c b n k).fst, (fdF (RFl p) p d cx ss c b n k).snd.fst, (fdF (RFl p) p d cx ss c b n k).snd.snd) (ss.getD k default, cx)).snd.snd) (evs p d (orI cx (labV p (ss.getD k default).value)) (ss.getD k default).body)).snd.snd) (evs p d (orI cx (labV p (ss.getD k default).value)) (ss.getD k default).els)).snd.snd : Int)) := (by exact congrArg (fun x : Int × Int × Nat => Int.ofNat x.2.2) (fd_3 (by omega) (by assumption))); have e3 : ((fdF (RFl p) p d cx ss c b n (k + 1)).snd.fst : Int) = ((List.foldl (stepF (RFl p)) ((List.foldl (stepF (RFl p)) ((stepF (RFl p) ((fdF (RFl p) p d cx ss c b n k).fst, (fdF (RFl p) p d cx ss c b n k).snd.fst, (fdF (RFl p) p d cx ss c b n k).snd.snd) (ss.getD k default, cx)).fst, (stepF (RFl p) ((fdF (RFl p) p d cx ss c b n k).fst, (fdF (RFl p) p d cx ss c b n k).snd.fst, (fdF (RFl p) p d cx ss c b n k).snd.snd) (ss.getD k default, cx)).snd.fst, (stepF (RFl p) ((fdF (RFl p) p d cx ss c b n k).fst, (fdF (RFl p) p d cx ss c b n k).snd.fst, (fdF (RFl p) p d cx ss c b n k).snd.snd) (ss.getD k default, cx)).snd.snd) (evs p d (orI cx (labV p (ss.getD k default).value)) (ss.getD k default).body)).fst, (List.foldl (stepF (RFl p)) ((stepF (RFl p) ((fdF (RFl p) p d cx ss c b n k).fst, (fdF (RFl p) p d cx ss c b n k).snd.fst, (fdF (RFl p) p d cx ss c b n k).snd.snd) (ss.getD k default, cx)).fst, (stepF (RFl p) ((fdF (RFl p) p d cx ss c b n k).fst, (fdF (RFl p) p d cx ss c b n k).snd.fst, (fdF (RFl p) p d cx ss c b n k).snd.snd) (ss.getD k default, cx)).snd.fst, (stepF (RFl p) ((fdF (RFl p) p d cx ss c b n k).fst, (fdF (RFl p) p d cx ss c b n k).snd.fst, (fdF (RFl p) p d cx ss c b n k).snd.snd) (ss.getD k default, cx)).snd.snd) (evs p d (orI cx (labV p (ss.getD k default).value)) (ss.getD k default).body)).snd.fst, (List.foldl (stepF (RFl p)) ((stepF (RFl p) ((fdF (RFl p) p d cx ss c b n k).fst, (fdF (RFl p) p d cx ss c b n k).snd.fst, (fdF (RFl p) p d cx ss c b n k).snd.snd) (ss.getD k default, cx)).fst, (stepF (RFl p) ((fdF (RFl p) p d cx ss c b n k).fst, (fdF (RFl p) p d cx ss c b n k).snd.fst, (fdF (RFl p) p d cx ss c b n k).snd.snd) (ss.getD k default, cx)).snd.fst, (stepF (RFl p) ((fdF (RFl p) p d cx ss c b n k).fst, (fdF (RFl p) p d cx ss c b n k).snd.fst, (fdF (RFl p) p d cx ss c b n k).snd.snd) (ss.getD k default, cx)).snd.snd) (evs p d (orI cx (labV p (ss.getD k default).value)) (ss.getD k default).body)).snd.snd) (evs p d (orI cx (labV p (ss.getD k default).value)) (ss.getD k default).els)).snd.fst) := (by exact congrArg (fun x : Int × Int × Nat => x.2.1) (fd_3 (by omega) (by assumption))); first | (rw [e1, e2, e3]; done) | (rw [e1, e2, e3]; rfl) | (simp only [e1, e2, e3]; done) | (simp only [e1, e2, e3]; rfl)) (by kernel_rfl)

theorem bl_okS {nv na d k : Nat} {ss : List LStmt} (hs : ss.all (stmtB nv na (d + 1)) = true) (hk : k < ss.length) : okS nv na 5 (ss.getD k default).value := by
  have h1 := bl_at hs hk
  by_cases k4 : (ss.getD k default).kind = 4
  · have h0 := List.all_eq_true.1 hs _ (List.getElem_mem hk)
    rw [← getD_lt (d := default) hk] at h0
    rw [stmtB, Bool.and_eq_true] at h0
    have h2 := h0.1
    unfold partsB at h2
    rw [if_pos (.inr k4), if_pos k4] at h2
    simp only [Bool.and_eq_true, decide_eq_true_eq, noneB] at h2
    exact .inl ⟨h2.2.2.1.1, List.eq_nil_of_length_eq_zero h2.2.2.2⟩
  · exact .inr (hd_value h1.1 k4)


set_option maxRecDepth 100000 in
theorem c_closL (p : LProg) (s : LStmt) (cx : Int) (c b : Int) (n : Nat) (hn : n + 1 ≤ 4000000) (h : headB p.vars.length p.arrays.length s = true) (hv : okS p.vars.length p.arrays.length 5 s.value) :
    Ctr.ok Try.prog ⟨132, [sA s 7, iA cx, .ptr 3 0, .ptr 4 0, .ptr 5 0, .ptr 6 0], pS p ++ fcB LEAK c n b ++ sS s,
      pS p ++ fcB LEAK (stepF (RLk p) (c, b, n) (s, cx)).1 (stepF (RLk p) (c, b, n) (s, cx)).2.2 (stepF (RLk p) (c, b, n) (s, cx)).2.1 ++ sS s, .tup []⟩ := by
  refine rx_enter 19 Try.func132 (by rfl) (by kernel_rfl) (by kernel_rfl) ?_
  intro ι φ ψ w0 w F ρ0 ρ a G
  replace G := Gam.at G [dI p.vars, dI p.arrays, dT p.body, .box [iA c], .box [.bm 70 [pA 0]], .box [iA (↑n : Int)], .box [iA b], dE s.index.kids, dE s.value.kids, dT s.body, dT s.els] [(0, sA s 7), (1, iA cx), (2, .ptr 3 0), (3, .ptr 4 0), (4, .ptr 5 0), (5, .ptr 6 0)]
  refine wp_seq ?_
  refine rs0 G [0, 1, 2, 3, 4, 5, 6, 7, 8, 9, 10, 11] [dI p.vars, dI p.arrays, dT p.body, .box [iA c], .box [.bm 70 [pA 0]], .box [iA (↑n : Int)], .box [iA b], dE s.index.kids, dE s.value.kids, dT s.body, dT s.els, .box (sL s 7)] [(1, iA cx), (2, .ptr 3 0), (3, .ptr 4 0), (4, .ptr 5 0), (5, .ptr 6 0), (6, .ptr 11 0)] ?_
  clear G; intro ρ a w G
  refine th_n ?_
  refine wp_seq ?_
  refine wp_seq ?_
  refine rs0s G [(1, iA cx), (2, .ptr 3 0), (3, .ptr 4 0), (4, .ptr 5 0), (5, .ptr 6 0), (6, .ptr 11 0), (9, bA (c == 0))] ?_
  clear G; intro ρ a w G
  refine th_n ?_
  cases h0 : (c == (0 : Int))
  ·
   have q0 : ¬ (c = 0) := ne_of_beq_false h0
   refine rF G (c == (0 : Int)) (by assumption) ?_
   refine wp_skip ?_
   refine th_n ?_
   refine rs1 (dk := dkP) G ⟨[], [], []⟩ calls_nil trivial [0, 1, 2, 3, 4, 5, 6, 7, 8, 9, 10] [dI p.vars, dI p.arrays, dT p.body, .box [iA c], .box [.bm 70 [pA 0]], .box [iA ((↑n : Int) + 1)], .box [iA b], dE s.index.kids, dE s.value.kids, dT s.body, dT s.els] [] [IntKind.i64.wrap ((↑n : Int) + (1 : Int)) = (↑n : Int) + (1 : Int)] ⟨(by exact w64 (by omega) (by omega)), trivial⟩ ?_
   clear G; intro ρ a w G
   exact rx_retN (v := .tup []) G [0, 1, 2, 3, 4, 5, 6, 7, 8, 9, 10] (by kernel_rfl) (by kernel_rfl) (by have e1 : ((stepF (RLk p) (c, b, n) (s, cx)).fst : Int) = (c) := (by exact st_a (by assumption)); have e2 : ((↑(stepF (RLk p) (c, b, n) (s, cx)).snd.snd : Int) : Int) = ((↑n : Int) + 1) := (by exact congrArg Int.ofNat st_n); have e3 : ((stepF (RLk p) (c, b, n) (s, cx)).snd.fst : Int) = (b) := (by exact st_b (by assumption)); first | (rw [e1, e2, e3]; done) | (rw [e1, e2, e3]; rfl) | (simp only [e1, e2, e3]; done) | (simp only [e1, e2, e3]; rfl)) (by kernel_rfl)
  ·
   have q0 : c = 0 := eq_of_beq h0
   refine rT G (c == (0 : Int)) (by assumption) ?_
   refine wp_seq ?_
   refine rs1 (dk := dkP) G ⟨[(3, _, [0, 1, 2, 7, 8, 9, 10])], [], []⟩ (calls_cons (c_leak (p) (s) (cx) (by assumption) (by assumption)) calls_nil) trivial [0, 1, 2, 3, 4, 5, 6, 7, 8, 9, 10] [dI p.vars, dI p.arrays, dT p.body, .box [iA (ilkR p s)], .box [.bm 70 [pA 0]], .box [iA (↑n : Int)], .box [iA b], dE s.index.kids, dE s.value.kids, dT s.body, dT s.els] [(2, .ptr 3 0), (4, .ptr 5 0), (5, .ptr 6 0)] [] trivial ?_
   clear G; intro ρ a w G
   refine th_n ?_
   refine wp_seq ?_
   refine rs0s G [(4, .ptr 5 0), (5, .ptr 6 0), (15, bA (ilkR p s != 0))] ?_
   clear G; intro ρ a w G
   refine th_n ?_
   cases h1 : (ilkR p s != (0 : Int))
   ·
    have q1 : ilkR p s = 0 := (by simpa using h1)
    refine rF G (ilkR p s != (0 : Int)) (by assumption) ?_
    refine wp_skip ?_
    refine th_n ?_
    refine rs1 (dk := dkP) G ⟨[], [], []⟩ calls_nil trivial [0, 1, 2, 3, 4, 5, 6, 7, 8, 9, 10] [dI p.vars, dI p.arrays, dT p.body, .box [iA (ilkR p s)], .box [.bm 70 [pA 0]], .box [iA ((↑n : Int) + 1)], .box [iA b], dE s.index.kids, dE s.value.kids, dT s.body, dT s.els] [] [IntKind.i64.wrap ((↑n : Int) + (1 : Int)) = (↑n : Int) + (1 : Int)] ⟨(by exact w64 (by omega) (by omega)), trivial⟩ ?_
    clear G; intro ρ a w G
    exact rx_retN (v := .tup []) G [0, 1, 2, 3, 4, 5, 6, 7, 8, 9, 10] (by kernel_rfl) (by kernel_rfl) (by have e1 : ((stepF (RLk p) (c, b, n) (s, cx)).fst : Int) = (ilkR p s) := (by exact st_c (by assumption)); have e2 : ((↑(stepF (RLk p) (c, b, n) (s, cx)).snd.snd : Int) : Int) = ((↑n : Int) + 1) := (by exact congrArg Int.ofNat st_n); have e3 : ((stepF (RLk p) (c, b, n) (s, cx)).snd.fst : Int) = (b) := (by exact st_d (by assumption) (by assumption)); first | (rw [e1, e2, e3]; done) | (rw [e1, e2, e3]; rfl) | (simp only [e1, e2, e3]; done) | (simp only [e1, e2, e3]; rfl)) (by kernel_rfl)
   ·
    have q1 : ¬ (ilkR p s = 0) := bne_iff_ne.1 h1
    refine rT G (ilkR p s != (0 : Int)) (by assumption) ?_
    refine rs0 G [0, 1, 2, 3, 4, 5, 6, 7, 8, 9, 10] [dI p.vars, dI p.arrays, dT p.body, .box [iA (ilkR p s)], .box [.bm 70 [pA 0]], .box [iA (↑n : Int)], .box [iA (↑n : Int)], dE s.index.kids, dE s.value.kids, dT s.body, dT s.els] [(4, .ptr 5 0)] ?_
    clear G; intro ρ a w G
    refine th_n ?_
    refine rs1 (dk := dkP) G ⟨[], [], []⟩ calls_nil trivial [0, 1, 2, 3, 4, 5, 6, 7, 8, 9, 10] [dI p.vars, dI p.arrays, dT p.body, .box [iA (ilkR p s)], .box [.bm 70 [pA 0]], .box [iA ((↑n : Int) + 1)], .box [iA (↑n : Int)], dE s.index.kids, dE s.value.kids, dT s.body, dT s.els] [] [IntKind.i64.wrap ((↑n : Int) + (1 : Int)) = (↑n : Int) + (1 : Int)] ⟨(by exact w64 (by omega) (by omega)), trivial⟩ ?_
    clear G; intro ρ a w G
    exact rx_retN (v := .tup []) G [0, 1, 2, 3, 4, 5, 6, 7, 8, 9, 10] (by kernel_rfl) (by kernel_rfl) (by have e1 : ((stepF (RLk p) (c, b, n) (s, cx)).fst : Int) = (ilkR p s) := (by exact st_c (by assumption)); have e2 : ((↑(stepF (RLk p) (c, b, n) (s, cx)).snd.snd : Int) : Int) = ((↑n : Int) + 1) := (by exact congrArg Int.ofNat st_n); have e3 : ((stepF (RLk p) (c, b, n) (s, cx)).snd.fst : Int) = ((↑n : Int)) := (by exact st_e (by assumption) (by assumption)); first | (rw [e1, e2, e3]; done) | (rw [e1, e2, e3]; rfl) | (simp only [e1, e2, e3]; done) | (simp only [e1, e2, e3]; rfl)) (by kernel_rfl)

set_option maxRecDepth 100000 in
theorem c_eachLS (p : LProg) (d : Nat) (ss : List LStmt) (ih : ∀ (tt : List LStmt) (cx : Int) (c b : Int) (n : Nat), 0 < ss.length → tt.all (stmtB p.vars.length p.arrays.length d) = true → n + nSs tt ≤ 4000000 → Ctr.ok Try.prog ⟨125, [pA 0, .ref 7, iA cx, .fn 132 [.ptr 3 0, .ptr 4 0, .ptr 5 0, .ptr 6 0]], pS p ++ fcB LEAK c n b ++ [.dat (.stmts tt)],
      pS p ++ fcB LEAK ((evs p d cx tt).foldl (stepF (RLk p)) (c, b, n)).1 ((evs p d cx tt).foldl (stepF (RLk p)) (c, b, n)).2.2 ((evs p d cx tt).foldl (stepF (RLk p)) (c, b, n)).2.1 ++ [.dat (.stmts tt)], .tup []⟩)
    (cx : Int) (c b : Int) (n : Nat) (hs : ss.all (stmtB p.vars.length p.arrays.length (d + 1)) = true) (hn : n + nSs ss ≤ 4000000) : Ctr.ok Try.prog ⟨125, [pA 0, .ref 7, iA cx, .fn 132 [.ptr 3 0, .ptr 4 0, .ptr 5 0, .ptr 6 0]], pS p ++ fcB LEAK c n b ++ [.dat (.stmts ss)],
      pS p ++ fcB LEAK ((evs p (d + 1) cx ss).foldl (stepF (RLk p)) (c, b, n)).1 ((evs p (d + 1) cx ss).foldl (stepF (RLk p)) (c, b, n)).2.2 ((evs p (d + 1) cx ss).foldl (stepF (RLk p)) (c, b, n)).2.1 ++ [.dat (.stmts ss)], .tup []⟩ := by
  refine rx_enter 44 Try.func125 (by rfl) (by kernel_rfl) (by kernel_rfl) ?_
  intro ι φ ψ w0 w F ρ0 ρ a G
  replace G := Gam.at G [dI p.vars, dI p.arrays, dT p.body, .box [iA c], .box [.bm 70 [pA 0]], .box [iA (↑n : Int)], .box [iA b], dT ss] [(0, pA 0), (1, .ref 7), (2, iA cx), (3, .fn 132 [.ptr 3 0, .ptr 4 0, .ptr 5 0, .ptr 6 0])]
  have hlen : ss.length ≤ 9223372036854775807 := G.len 7 (d := .stmts ss) (by kernel_rfl)
  refine wp_seq ?_
  refine rs0 G [0, 1, 2, 3, 4, 5, 6, 7, 8] [dI p.vars, dI p.arrays, dT p.body, .box [iA c], .box [.bm 70 [pA 0]], .box [iA (↑n : Int)], .box [iA b], dT ss, .box (pL 0)] [(1, .ref 7), (2, iA cx), (3, .fn 132 [.ptr 3 0, .ptr 4 0, .ptr 5 0, .ptr 6 0]), (4, .ptr 8 0)] ?_
  clear G; intro ρ a w G
  refine th_n ?_
  refine wp_seq ?_
  refine rs0s G [(2, iA cx), (3, .fn 132 [.ptr 3 0, .ptr 4 0, .ptr 5 0, .ptr 6 0]), (4, .ptr 8 0), (11, .ref 7), (12, iA (↑ss.length : Int)), (13, iA 0)] ?_
  clear G; intro ρ a w G
  refine th_n ?_
  refine wp_block ?_
  refine rx_for (κ := Nat) (fun k => k ≤ ss.length) (fun k => ss.length - k) (fun k => [dI p.vars, dI p.arrays, dT p.body, .box [iA (fdF (RLk p) p d cx ss c b n k).1], .box [.bm 70 [pA 0]], .box [iA (fdF (RLk p) p d cx ss c b n k).2.2], .box [iA (fdF (RLk p) p d cx ss c b n k).2.1], dT ss, .box (pL 0)]) (fun k => [(2, iA cx), (3, .fn 132 [.ptr 3 0, .ptr 4 0, .ptr 5 0, .ptr 6 0]), (4, .ptr 8 0), (11, .ref 7), (12, iA (↑ss.length : Int)), (13, iA k)]) (0) (by simp [hs]) (Gam.at G _ _) ?_
  clear G
  intro k ρ a w hp G
  replace G := Gam.at G [dI p.vars, dI p.arrays, dT p.body, .box [iA (fdF (RLk p) p d cx ss c b n k).fst], .box [.bm 70 [pA 0]], .box [iA (↑(fdF (RLk p) p d cx ss c b n k).snd.snd : Int)], .box [iA (fdF (RLk p) p d cx ss c b n k).snd.fst], dT ss, .box (pL 0)] [(2, iA cx), (3, .fn 132 [.ptr 3 0, .ptr 4 0, .ptr 5 0, .ptr 6 0]), (4, .ptr 8 0), (11, .ref 7), (12, iA (↑ss.length : Int)), (13, iA (↑k : Int))]
  refine wp_seq ?_
  refine rs0s G [(2, iA cx), (3, .fn 132 [.ptr 3 0, .ptr 4 0, .ptr 5 0, .ptr 6 0]), (4, .ptr 8 0), (11, .ref 7), (12, iA (↑ss.length : Int)), (13, iA (↑k : Int)), (14, bA (decide ((↑k : Int) < (↑ss.length : Int))))] ?_
  clear G; intro ρ a w G
  refine th_n ?_
  refine wp_seq ?_
  cases h0 : (decide ((↑k : Int) < (↑ss.length : Int)))
  ·
   have q0 : ¬ ((↑k : Int) < (↑ss.length : Int)) := of_decide_eq_false h0
   refine rF G (decide ((↑k : Int) < (↑ss.length : Int))) (by assumption) ?_
   refine wp_exit ?_
   refine th_e ?_
   refine th_e ?_
   refine bl_hit ?_
   exact rx_retN (v := .tup []) G [0, 1, 2, 3, 4, 5, 6, 7] (by kernel_rfl) (by kernel_rfl) (by have e1 : ((List.foldl (stepF (RLk p)) (c, b, n) (evs p (d + 1) cx ss)).fst : Int) = ((fdF (RLk p) p d cx ss c b n k).fst) := (by exact congrArg Prod.fst (fd_end (by omega))); have e2 : ((↑(List.foldl (stepF (RLk p)) (c, b, n) (evs p (d + 1) cx ss)).snd.snd : Int) : Int) = ((↑(fdF (RLk p) p d cx ss c b n k).snd.snd : Int)) := (by exact congrArg (fun x : Int × Int × Nat => Int.ofNat x.2.2) (fd_end (by omega))); have e3 : ((List.foldl (stepF (RLk p)) (c, b, n) (evs p (d + 1) cx ss)).snd.fst : Int) = ((fdF (RLk p) p d cx ss c b n k).snd.fst) := (by exact congrArg (fun x : Int × Int × Nat => x.2.1) (fd_end (by omega))); first | (rw [e1, e2, e3]; done) | (rw [e1, e2, e3]; rfl) | (simp only [e1, e2, e3]; done) | (simp only [e1, e2, e3]; rfl)) (by kernel_rfl)
  ·
   have q0 : (↑k : Int) < (↑ss.length : Int) := of_decide_eq_true h0
   refine rT G (decide ((↑k : Int) < (↑ss.length : Int))) (by assumption) ?_
   refine wp_skip ?_
   refine th_n ?_
   refine wp_seq ?_
   refine wp_block ?_
   refine wp_seq ?_
   refine rs1 (dk := dkP) G ⟨[], [], []⟩ calls_nil trivial [0, 1, 2, 3, 4, 5, 6, 7, 8, 17, 18, 19, 20, 25] [dI p.vars, dI p.arrays, dT p.body, .box [iA (fdF (RLk p) p d cx ss c b n k).fst], .box [.bm 70 [pA 0]], .box [iA (↑(fdF (RLk p) p d cx ss c b n k).snd.snd : Int)], .box [iA (fdF (RLk p) p d cx ss c b n k).snd.fst], dT ss, .box (pL 0), dE (ss.getD k default).index.kids, dE (ss.getD k default).value.kids, dT (ss.getD k default).body, dT (ss.getD k default).els, .box (sL (ss.getD k default) 9)] [(2, iA cx), (3, .fn 132 [.ptr 3 0, .ptr 4 0, .ptr 5 0, .ptr 6 0]), (4, .ptr 8 0), (9, .ptr 13 0), (11, .ref 7), (12, iA (↑ss.length : Int)), (13, iA (↑k : Int))] [(0 : Int) ≤ (↑k : Int), (↑k : Int) < (↑ss.length : Int), k < ss.length] ⟨(by simp [hs, h0]), (by assumption), (by omega), trivial⟩ ?_
   clear G; intro ρ a w G
   refine th_n ?_
   refine wp_seq ?_
   refine rs1 (dk := dkP) G ⟨[(3, _, [0, 1, 2, 3, 4, 5, 6, 9, 10, 11, 12])], [], []⟩ (calls_cons (c_closL (p) (ss.getD k default) (cx) ((fdF (RLk p) p d cx ss c b n k).fst) ((fdF (RLk p) p d cx ss c b n k).snd.fst) ((fdF (RLk p) p d cx ss c b n k).snd.snd) (by exact fd_cnt1 (by omega) hn) (by exact (bl_at hs (by omega)).1) (by exact bl_okS hs (by omega))) calls_nil) trivial [0, 1, 2, 3, 4, 5, 6, 7, 8, 9, 10, 11, 12, 13] [dI p.vars, dI p.arrays, dT p.body, .box [iA (stepF (RLk p) ((fdF (RLk p) p d cx ss c b n k).fst, (fdF (RLk p) p d cx ss c b n k).snd.fst, (fdF (RLk p) p d cx ss c b n k).snd.snd) (ss.getD k default, cx)).fst], .box [.bm 70 [pA 0]], .box [iA (↑(stepF (RLk p) ((fdF (RLk p) p d cx ss c b n k).fst, (fdF (RLk p) p d cx ss c b n k).snd.fst, (fdF (RLk p) p d cx ss c b n k).snd.snd) (ss.getD k default, cx)).snd.snd : Int)], .box [iA (stepF (RLk p) ((fdF (RLk p) p d cx ss c b n k).fst, (fdF (RLk p) p d cx ss c b n k).snd.fst, (fdF (RLk p) p d cx ss c b n k).snd.snd) (ss.getD k default, cx)).snd.fst], dT ss, .box (pL 0), dE (ss.getD k default).index.kids, dE (ss.getD k default).value.kids, dT (ss.getD k default).body, dT (ss.getD k default).els, .box (sL (ss.getD k default) 9)] [(2, iA cx), (3, .fn 132 [.ptr 3 0, .ptr 4 0, .ptr 5 0, .ptr 6 0]), (4, .ptr 8 0), (9, .ptr 13 0), (11, .ref 7), (12, iA (↑ss.length : Int)), (13, iA (↑k : Int))] [] trivial ?_
   clear G; intro ρ a w G
   refine th_n ?_
   refine wp_seq ?_
   refine rs0s G [(2, iA cx), (3, .fn 132 [.ptr 3 0, .ptr 4 0, .ptr 5 0, .ptr 6 0]), (4, .ptr 8 0), (9, .ptr 13 0), (10, iA cx), (11, .ref 7), (12, iA (↑ss.length : Int)), (13, iA (↑k : Int))] ?_
   clear G; intro ρ a w G
   refine th_n ?_
   refine wp_seq ?_
   refine wp_seq ?_
   refine rs0s G [(2, iA cx), (3, .fn 132 [.ptr 3 0, .ptr 4 0, .ptr 5 0, .ptr 6 0]), (4, .ptr 8 0), (9, .ptr 13 0), (10, iA cx), (11, .ref 7), (12, iA (↑ss.length : Int)), (13, iA (↑k : Int)), (24, bA ((ss.getD k default).kind == 3))] ?_
   clear G; intro ρ a w G
   refine th_n ?_
   cases h1 : ((ss.getD k default).kind == (3 : Int))
   ·
    have q1 : ¬ ((ss.getD k default).kind = 3) := ne_of_beq_false h1
    refine rF G ((ss.getD k default).kind == (3 : Int)) (by assumption) ?_
    refine wp_skip ?_
    refine th_n ?_
    refine wp_seq ?_
    refine rs1 (dk := dkP) G ⟨[(5, _, [0, 1, 2, 3, 4, 5, 6, 11])], [], []⟩ (calls_cons (ih ((ss.getD k default).body) (cx) ((stepF (RLk p) ((fdF (RLk p) p d cx ss c b n k).fst, (fdF (RLk p) p d cx ss c b n k).snd.fst, (fdF (RLk p) p d cx ss c b n k).snd.snd) (ss.getD k default, cx)).fst) ((stepF (RLk p) ((fdF (RLk p) p d cx ss c b n k).fst, (fdF (RLk p) p d cx ss c b n k).snd.fst, (fdF (RLk p) p d cx ss c b n k).snd.snd) (ss.getD k default, cx)).snd.fst) ((stepF (RLk p) ((fdF (RLk p) p d cx ss c b n k).fst, (fdF (RLk p) p d cx ss c b n k).snd.fst, (fdF (RLk p) p d cx ss c b n k).snd.snd) (ss.getD k default, cx)).snd.snd) (by omega) (by exact (bl_at hs (by omega)).2.1) (by exact fd_cnt2 (by omega) hn)) calls_nil) trivial [0, 1, 2, 3, 4, 5, 6, 7, 8, 9, 10, 11, 12, 13] [dI p.vars, dI p.arrays, dT p.body, .box [iA (List.foldl (stepF (RLk p)) ((stepF (RLk p) ((fdF (RLk p) p d cx ss c b n k).fst, (fdF (RLk p) p d cx ss c b n k).snd.fst, (fdF (RLk p) p d cx ss c b n k).snd.snd) (ss.getD k default, cx)).fst, (stepF (RLk p) ((fdF (RLk p) p d cx ss c b n k).fst, (fdF (RLk p) p d cx ss c b n k).snd.fst, (fdF (RLk p) p d cx ss c b n k).snd.snd) (ss.getD k default, cx)).snd.fst, (stepF (RLk p) ((fdF (RLk p) p d cx ss c b n k).fst, (fdF (RLk p) p d cx ss c b n k).snd.fst, (fdF (RLk p) p d cx ss c b n k).snd.snd) (ss.getD k default, cx)).snd.snd) (evs p d cx (ss.getD k default).body)).fst], .box [.bm 70 [pA 0]], .box [iA (↑(List.foldl (stepF (RLk p)) ((stepF (RLk p) ((fdF (RLk p) p d cx ss c b n k).fst, (fdF (RLk p) p d cx ss c b n k).snd.fst, (fdF (RLk p) p d cx ss c b n k).snd.snd) (ss.getD k default, cx)).fst, (stepF (RLk p) ((fdF (RLk p) p d cx ss c b n k).fst, (fdF (RLk p) p d cx ss c b n k).snd.fst, (fdF (RLk p) p d cx ss c b n k).snd.snd) (ss.getD k default, cx)).snd.fst, (stepF (RLk p) ((fdF (RLk p) p d cx ss c b n k).fst, (fdF (RLk p) p d cx ss c b n k).snd.fst, (fdF (RLk p) p d cx ss c b n k).snd.snd) (ss.getD k default, cx)).snd.snd) (evs p d cx (ss.getD k default).body)).snd.snd : Int)], .box [iA (List.foldl (stepF (RLk p)) ((stepF (RLk p) ((fdF (RLk p) p d cx ss c b n k).fst, (fdF (RLk p) p d cx ss c b n k).snd.fst, (fdF (RLk p) p d cx ss c b n k).snd.snd) (ss.getD k default, cx)).fst, (stepF (RLk p) ((fdF (RLk p) p d cx ss c b n k).fst, (fdF (RLk p) p d cx ss c b n k).snd.fst, (fdF (RLk p) p d cx ss c b n k).snd.snd) (ss.getD k default, cx)).snd.fst, (stepF (RLk p) ((fdF (RLk p) p d cx ss c b n k).fst, (fdF (RLk p) p d cx ss c b n k).snd.fst, (fdF (RLk p) p d cx ss c b n k).snd.snd) (ss.getD k default, cx)).snd.snd) (evs p d cx (ss.getD k default).body)).snd.fst], dT ss, .box (pL 0), dE (ss.getD k default).index.kids, dE (ss.getD k default).value.kids, dT (ss.getD k default).body, dT (ss.getD k default).els, .box (sL (ss.getD k default) 9)] [(2, iA cx), (3, .fn 132 [.ptr 3 0, .ptr 4 0, .ptr 5 0, .ptr 6 0]), (4, .ptr 8 0), (9, .ptr 13 0), (10, iA cx), (11, .ref 7), (12, iA (↑ss.length : Int)), (13, iA (↑k : Int))] [] trivial ?_
    clear G; intro ρ a w G
    refine th_n ?_
    refine rs1 (dk := dkP) G ⟨[(5, _, [0, 1, 2, 3, 4, 5, 6, 12])], [], []⟩ (calls_cons (ih ((ss.getD k default).els) (cx) ((List.foldl (stepF (RLk p)) ((stepF (RLk p) ((fdF (RLk p) p d cx ss c b n k).fst, (fdF (RLk p) p d cx ss c b n k).snd.fst, (fdF (RLk p) p d cx ss c b n k).snd.snd) (ss.getD k default, cx)).fst, (stepF (RLk p) ((fdF (RLk p) p d cx ss c b n k).fst, (fdF (RLk p) p d cx ss c b n k).snd.fst, (fdF (RLk p) p d cx ss c b n k).snd.snd) (ss.getD k default, cx)).snd.fst, (stepF (RLk p) ((fdF (RLk p) p d cx ss c b n k).fst, (fdF (RLk p) p d cx ss c b n k).snd.fst, (fdF (RLk p) p d cx ss c b n k).snd.snd) (ss.getD k default, cx)).snd.snd) (evs p d cx (ss.getD k default).body)).fst) ((List.foldl (stepF (RLk p)) ((stepF (RLk p) ((fdF (RLk p) p d cx ss c b n k).fst, (fdF (RLk p) p d cx ss c b n k).snd.fst, (fdF (RLk p) p d cx ss c b n k).snd.snd) (ss.getD k default, cx)).fst, (stepF (RLk p) ((fdF (RLk p) p d cx ss c b n k).fst, (fdF (RLk p) p d cx ss c b n k).snd.fst, (fdF (RLk p) p d cx ss c b n k).snd.snd) (ss.getD k default, cx)).snd.fst, (stepF (RLk p) ((fdF (RLk p) p d cx ss c b n k).fst, (fdF (RLk p) p d cx ss c b n k).snd.fst, (fdF (RLk p) p d cx ss c b n k).snd.snd) (ss.getD k default, cx)).snd.snd) (evs p d cx (ss.getD k default).body)).snd.fst) ((List.foldl (stepF (RLk p)) ((stepF (RLk p) ((fdF (RLk p) p d cx ss c b n k).fst, (fdF (RLk p) p d cx ss c b n k).snd.fst, (fdF (RLk p) p d cx ss c b n k).snd.snd) (ss.getD k default, cx)).fst, (stepF (RLk p) ((fdF (RLk p) p d cx ss c b n k).fst, (fdF (RLk p) p d cx ss c b n k).snd.fst, (fdF (RLk p) p d cx ss c b n k).snd.snd) (ss.getD k default, cx)).snd.fst, (stepF (RLk p) ((fdF (RLk p) p d cx ss c b n k).fst, (fdF (RLk p) p d cx ss c b n k).snd.fst, (fdF (RLk p) p d cx ss c b n k).snd.snd) (ss.getD k default, cx)).snd.snd) (evs p d cx (ss.getD k default).body)).snd.snd) (by omega) (by exact (bl_at hs (by omega)).2.2) (by exact fd_cnt3 (by omega) hn st_n)) calls_nil) trivial [0, 1, 2, 3, 4, 5, 6, 7, 8] [dI p.vars, dI p.arrays, dT p.body, .box [iA (List.foldl (stepF (RLk p)) ((List.foldl (stepF (RLk p)) ((stepF (RLk p) ((fdF (RLk p) p d cx ss c b n k).fst, (fdF (RLk p) p d cx ss c b n k).snd.fst, (fdF (RLk p) p d cx ss c b n k).snd.snd) (ss.getD k default, cx)).fst, (stepF (RLk p) ((fdF (RLk p) p d cx ss c b n k).fst, (fdF (RLk p) p d cx ss c b n k).snd.fst, (fdF (RLk p) p d cx ss c b n k).snd.snd) (ss.getD k default, cx)).snd.fst, (stepF (RLk p) ((fdF (RLk p) p d cx ss c b n k).fst, (fdF (RLk p) p d cx ss c b n k).snd.fst, (fdF (RLk p) p d cx ss c b n k).snd.snd) (ss.getD k default, cx)).snd.snd) (evs p d cx (ss.getD k default).body)).fst, (List.foldl (stepF (RLk p)) ((stepF (RLk p) ((fdF (RLk p) p d cx ss c b n k).fst, (fdF (RLk p) p d cx ss c b n k).snd.fst, (fdF (RLk p) p d cx ss c b n k).snd.snd) (ss.getD k default, cx)).fst, (stepF (RLk p) ((fdF (RLk p) p d cx ss c b n k).fst, (fdF (RLk p) p d cx ss c b n k).snd.fst, (fdF (RLk p) p d cx ss c b n k).snd.snd) (ss.getD k default, cx)).snd.fst, (stepF (RLk p) ((fdF (RLk p) p d cx ss c b n k).fst, (fdF (RLk p) p d cx ss c b n k).snd.fst, (fdF (RLk p) p d cx ss c b n k).snd.snd) (ss.getD k default, cx)).snd.snd) (evs p d cx (ss.getD k default).body)).snd.fst, (List.foldl (stepF (RLk p)) ((stepF (RLk p) ((fdF (RLk p) p d cx ss c b n k).fst, (fdF (RLk p) p d cx ss c b n k).snd.fst, (fdF (RLk p) p d cx ss c b n k).snd.snd) (ss.getD k default, cx)).fst, (stepF (RLk p) ((fdF (RLk p) p d cx ss c b n k).fst, (fdF (RLk p) p d cx ss c b n k).snd.fst, (fdF (RLk p) p d cx ss c b n k).snd.snd) (ss.getD k default, cx)).snd.fst, (stepF (RLk p) ((fdF (RLk p) p d cx ss c b n k).fst, (fdF (RLk p) p d cx ss c b n k).snd.fst, (fdF (RLk p) p d cx ss c b n k).snd.snd) (ss.getD k default, cx)).snd.snd) (evs p d cx (ss.getD k default).body)).snd.snd) (evs p d cx (ss.getD k default).els)).fst], .box [.bm 70 [pA 0]], .box [iA (↑(List.foldl (stepF (RLk p)) ((List.foldl (stepF (RLk p)) ((stepF (RLk p) ((fdF (RLk p) p d cx ss c b n k).fst, (fdF (RLk p) p d cx ss c b n k).snd.fst, (fdF (RLk p) p d cx ss c b n k).snd.snd) (ss.getD k default, cx)).fst, (stepF (RLk p) ((fdF (RLk p) p d cx ss c b n k).fst, (fdF (RLk p) p d cx ss c b n k).snd.fst, (fdF (RLk p) p d cx ss c b n k).snd.snd) (ss.getD k default, cx)).snd.fst, (stepF (RLk p) ((fdF (RLk p) p d cx ss c b n k).fst, (fdF (RLk p) p d cx ss c b n k).snd.fst, (fdF (RLk p) p d cx ss c b n k).snd.snd) (ss.getD k default, cx)).snd.snd) (evs p d cx (ss.getD k default).body)).fst, (List.foldl (stepF (RLk p)) ((stepF (RLk p) ((fdF (RLk p) p d cx ss c b n k).fst, (fdF (RLk p) p d cx ss c b n k).snd.fst, (fdF (RLk p) p d cx ss c b n k).snd.snd) (ss.getD k default, cx)).fst, (stepF (RLk p) ((fdF (RLk p) p d cx ss c b n k).fst, (fdF (RLk p) p d cx ss c b n k).snd.fst, (fdF (RLk p) p d cx ss c b n k).snd.snd) (ss.getD k default, cx)).snd.fst, (stepF (RLk p) ((fdF (RLk p) p d cx ss c b n k).fst, (fdF (RLk p) p d cx ss c b n k).snd.fst, (fdF (RLk p) p d cx ss c b n k).snd.snd) (ss.getD k default, cx)).snd.snd) (evs p d cx (ss.getD k default).body)).snd.fst, (List.foldl (stepF (RLk p)) ((stepF (RLk p) ((fdF (RLk p) p d cx ss c b n k).fst, (fdF (RLk p) p d cx ss c b n k).snd.fst, (fdF (RLk p) p d cx ss c b n k).snd.snd) (ss.getD k default, cx)).fst, (stepF (RLk p) ((fdF (RLk p) p d cx ss c b n k).fst, (fdF (RLk p) p d cx ss c b n k).snd.fst, (fdF (RLk p) p d cx ss c b n k).snd.snd) (ss.getD k default, cx)).snd.fst, (stepF (RLk p) ((fdF (RLk p) p d cx ss c b n k).fst, (fdF (RLk p) p d cx ss c b n k).snd.fst, (fdF (RLk p) p d cx ss c b n k).snd.snd) (ss.getD k default, cx)).snd.snd) (evs p d cx (ss.getD k default).body)).snd.snd) (evs p d cx (ss.getD k default).els)).snd.snd : Int)], .box [iA (List.foldl (stepF (RLk p)) ((List.foldl (stepF (RLk p)) ((stepF (RLk p) ((fdF (RLk p) p d cx ss c b n k).fst, (fdF (RLk p) p d cx ss c b n k).snd.fst, (fdF (RLk p) p d cx ss c b n k).snd.snd) (ss.getD k default, cx)).fst, (stepF (RLk p) ((fdF (RLk p) p d cx ss c b n k).fst, (fdF (RLk p) p d cx ss c b n k).snd.fst, (fdF (RLk p) p d cx ss c b n k).snd.snd) (ss.getD k default, cx)).snd.fst, (stepF (RLk p) ((fdF (RLk p) p d cx ss c b n k).fst, (fdF (RLk p) p d cx ss c b n k).snd.fst, (fdF (RLk p) p d cx ss c b n k).snd.snd) (ss.getD k default, cx)).snd.snd) (evs p d cx (ss.getD k default).body)).fst, (List.foldl (stepF (RLk p)) ((stepF (RLk p) ((fdF (RLk p) p d cx ss c b n k).fst, (fdF (RLk p) p d cx ss c b n k).snd.fst, (fdF (RLk p) p d cx ss c b n k).snd.snd) (ss.getD k default, cx)).fst, (stepF (RLk p) ((fdF (RLk p) p d cx ss c b n k).fst, (fdF (RLk p) p d cx ss c b n k).snd.fst, (fdF (RLk p) p d cx ss c b n k).snd.snd) (ss.getD k default, cx)).snd.fst, (stepF (RLk p) ((fdF (RLk p) p d cx ss c b n k).fst, (fdF (RLk p) p d cx ss c b n k).snd.fst, (fdF (RLk p) p d cx ss c b n k).snd.snd) (ss.getD k default, cx)).snd.snd) (evs p d cx (ss.getD k default).body)).snd.fst, (List.foldl (stepF (RLk p)) ((stepF (RLk p) ((fdF (RLk p) p d cx ss c b n k).fst, (fdF (RLk p) p d cx ss c b n k).snd.fst, (fdF (RLk p) p d cx ss c b n k).snd.snd) (ss.getD k default, cx)).fst, (stepF (RLk p) ((fdF (RLk p) p d cx ss c b n k).fst, (fdF (RLk p) p d cx ss c b n k).snd.fst, (fdF (RLk p) p d cx ss c b n k).snd.snd) (ss.getD k default, cx)).snd.fst, (stepF (RLk p) ((fdF (RLk p) p d cx ss c b n k).fst, (fdF (RLk p) p d cx ss c b n k).snd.fst, (fdF (RLk p) p d cx ss c b n k).snd.snd) (ss.getD k default, cx)).snd.snd) (evs p d cx (ss.getD k default).body)).snd.snd) (evs p d cx (ss.getD k default).els)).snd.fst], dT ss, .box (pL 0)] [(2, iA cx), (3, .fn 132 [.ptr 3 0, .ptr 4 0, .ptr 5 0, .ptr 6 0]), (4, .ptr 8 0), (11, .ref 7), (12, iA (↑ss.length : Int)), (13, iA (↑k : Int))] [] trivial ?_
    clear G; intro ρ a w G
    refine bl_n ?_
    refine th_n ?_
    refine rs1s G ⟨[], [], []⟩ calls_nil trivial [(2, iA cx), (3, .fn 132 [.ptr 3 0, .ptr 4 0, .ptr 5 0, .ptr 6 0]), (4, .ptr 8 0), (11, .ref 7), (12, iA (↑ss.length : Int)), (13, iA ((↑k : Int) + 1))] [IntKind.i64.wrap ((↑k : Int) + (1 : Int)) = (↑k : Int) + (1 : Int)] ⟨(by exact w64 (by omega) (by omega)), trivial⟩ ?_
    clear G; intro ρ a w G
    refine th_n ?_
    exact rx_next G (k + 1) (by omega) (by omega) [0, 1, 2, 3, 4, 5, 6, 7, 8] [dI p.vars, dI p.arrays, dT p.body, .box [iA (fdF (RLk p) p d cx ss c b n (k + 1)).fst], .box [.bm 70 [pA 0]], .box [iA (↑(fdF (RLk p) p d cx ss c b n (k + 1)).snd.snd : Int)], .box [iA (fdF (RLk p) p d cx ss c b n (k + 1)).snd.fst], dT ss, .box (pL 0)] [(2, iA cx), (3, .fn 132 [.ptr 3 0, .ptr 4 0, .ptr 5 0, .ptr 6 0]), (4, .ptr 8 0), (11, .ref 7), (12, iA (↑ss.length : Int)), (13, iA (↑(k + 1) : Int))] (by kernel_rfl) (by kernel_rfl) (by kernel_rfl) (by have e1 : ((fdF (RLk p) p d cx ss c b n (k + 1)).fst : Int) = ((List.foldl (stepF (RLk p)) ((List.foldl (stepF (RLk p)) ((stepF (RLk p) ((fdF (RLk p) p d cx ss c b n k).fst, (fdF (RLk p) p d cx ss c b n k).snd.fst, (fdF (RLk p) p d cx ss c b n k).snd.snd) (ss.getD k default, cx)).fst, (stepF (RLk p) ((fdF (RLk p) p d cx ss c b n k).fst, (fdF (RLk p) p d cx ss c b n k).snd.fst, (fdF (RLk p) p d cx ss c b n k).snd.snd) (ss.getD k default, cx)).snd.fst, (stepF (RLk p) ((fdF (RLk p) p d cx ss c b n k).fst, (fdF (RLk p) p d cx ss c b n k).snd.fst, (fdF (RLk p) p d cx ss c b n k).snd.snd) (ss.getD k default, cx)).snd.snd) (evs p d cx (ss.getD k default).body)).fst, (List.foldl (stepF (RLk p)) ((stepF (RLk p) ((fdF (RLk p) p d cx ss c b n k).fst, (fdF (RLk p) p d cx ss c b n k).snd.fst, (fdF (RLk p) p d cx ss c b n k).snd.snd) (ss.getD k default, cx)).fst, (stepF (RLk p) ((fdF (RLk p) p d cx ss c b n k).fst, (fdF (RLk p) p d cx ss c b n k).snd.fst, (fdF (RLk p) p d cx ss c b n k).snd.snd) (ss.getD k default, cx)).snd.fst, (stepF (RLk p) ((fdF (RLk p) p d cx ss c b n k).fst, (fdF (RLk p) p d cx ss c b n k).snd.fst, (fdF (RLk p) p d cx ss c b n k).snd.snd) (ss.getD k default, cx)).snd.snd) (evs p d cx (ss.getD k default).body)).snd.fst, (List.foldl (stepF (RLk p)) ((stepF (RLk p) ((fdF (RLk p) p d cx ss c b n k).fst, (fdF (RLk p) p d cx ss c b n k).snd.fst, (fdF (RLk p) p d cx ss c b n k).snd.snd) (ss.getD k default, cx)).fst, (stepF (RLk p) ((fdF (RLk p) p d cx ss c b n k).fst, (fdF (RLk p) p d cx ss c b n k).snd.fst, (fdF (RLk p) p d cx ss c b n k).snd.snd) (ss.getD k default, cx)).snd.fst, (stepF (RLk p) ((fdF (RLk p) p d cx ss c b n k).fst, (fdF (RLk p) p d cx ss c b n k).snd.fst, (fdF (RLk p) p d cx ss c b n k).snd.snd) (ss.getD k default, cx)).snd.snd) (evs p d cx (ss.getD k default).body)).snd.snd) (evs p d cx (ss.getD k default).els)).fst) := (by exact congrArg Prod.fst (fd_n (by omega) (by assumption))); have e2 : ((↑(fdF (RLk p) p d cx ss c b n (k + 1)).snd.snd : Int) : Int) = ((↑(List.foldl (stepF (RLk p)) ((List.foldl (stepF (RLk p)) ((stepF (RLk p) ((fdF (RLk p) p d cx ss c b n k).fst, (fdF (RLk p) p d cx ss c b n k).snd.fst, (fdF (RLk p) p d cx ss c b n k).snd.snd) (ss.getD k default, cx)).fst, (stepF (RLk p) ((fdF (RLk p) p d cx ss c b n k).fst, (fdF (RLk p) p d cx ss c b n k).snd.fst, (fdF (RLk p) p d cx ss c b n k).snd.snd) (ss.getD k default, cx)).snd.fst, (stepF (RLk p) ((fdF (RLk p) p d cx ss c b n k).fst, (fdF (RLk p) p d cx ss c b n k).snd.fst, (fdF (RLk p) p d cx ss c b n k).snd.snd) (ss.getD k default, cx)).snd.snd) (evs p d cx (ss.getD k default).body)).fst, (List.foldl (stepF (RLk p)) ((stepF (RLk p) ((fdF (RLk p) p d cx ss c b n k).fst, (fdF (RLk p) p d cx ss c b n k).snd.fst, (fdF (RLk p) p d cx ss c b n k).snd.snd) (ss.getD k default, cx)).fst, (stepF (RLk p) ((fdF (RLk p) p d cx ss c b n k).fst, (fdF (RLk p) p d cx ss c b n k).snd.fst, (fdF (RLk p) p d cx ss c b n k).snd.snd) (ss.getD k default, cx)).snd.fst, (stepF (RLk p) ((fdF (RLk p) p d cx ss c b n k).fst, (fdF (RLk p) p d cx ss c b n k).snd.fst, (fdF (RLk p) p d cx ss c b n k).snd.snd) (ss.getD k default, cx)).snd.snd) (evs p d cx (ss.getD k default).body)).snd.fst, (List.foldl (stepF (RLk p)) ((stepF (RLk p) ((fdF (RLk p) p d cx ss c b n k).fst, (fdF (RLk p) p d cx ss c b n k).snd.fst, (fdF (RLk p) p d cx ss c b n k).snd.snd) (ss.getD k default, cx)).fst, (stepF (RLk p) ((fdF (RLk p) p d cx ss c b n k).fst, (fdF (RLk p) p d cx ss c b n k).snd.fst, (fdF (RLk p) p d cx ss c b n k).snd.snd) (ss.getD k default, cx)).snd.fst, (stepF (RLk p) ((fdF (RLk p) p d cx ss c b n k).fst, (fdF (RLk p) p d cx ss c b n k).snd.fst, (fdF (RLk p) p d cx ss c b n k).snd.snd) (ss.getD k default, cx)).snd.snd) (evs p d cx (ss.getD k default).body)).snd.snd) (evs p d cx (ss.getD k default).els)).snd.snd : Int)) := (by exact congrArg (fun x : Int × Int × Nat => Int.ofNat x.2.2) (fd_n (by omega) (by assumption))); have e3 : ((fdF (RLk p) p d cx ss c b n (k + 1)).snd.fst : Int) = ((List.foldl (stepF (RLk p)) ((List.foldl (stepF (RLk p)) ((stepF (RLk p) ((fdF (RLk p) p d cx ss c b n k).fst, (fdF (RLk p) p d cx ss c b n k).snd.fst, (fdF (RLk p) p d cx ss c b n k).snd.snd) (ss.getD k default, cx)).fst, (stepF (RLk p) ((fdF (RLk p) p d cx ss c b n k).fst, (fdF (RLk p) p d cx ss c b n k).snd.fst, (fdF (RLk p) p d cx ss c b n k).snd.snd) (ss.getD k default, cx)).snd.fst, (stepF (RLk p) ((fdF (RLk p) p d cx ss c b n k).fst, (fdF (RLk p) p d cx ss c b n k).snd.fst, (fdF (RLk p) p d cx ss c b n k).snd.snd) (ss.getD k default, cx)).snd.snd) (evs p d cx (ss.getD k default).body)).fst, (List.foldl (stepF (RLk p)) ((stepF (RLk p) ((fdF (RLk p) p d cx ss c b n k).fst, (fdF (RLk p) p d cx ss c b n k).snd.fst, (fdF (RLk p) p d cx ss c b n k).snd.snd) (ss.getD k default, cx)).fst, (stepF (RLk p) ((fdF (RLk p) p d cx ss c b n k).fst, (fdF (RLk p) p d cx ss c b n k).snd.fst, (fdF (RLk p) p d cx ss c b n k).snd.snd) (ss.getD k default, cx)).snd.fst, (stepF (RLk p) ((fdF (RLk p) p d cx ss c b n k).fst, (fdF (RLk p) p d cx ss c b n k).snd.fst, (fdF (RLk p) p d cx ss c b n k).snd.snd) (ss.getD k default, cx)).snd.snd) (evs p d cx (ss.getD k default).body)).snd.fst, (List.foldl (stepF (RLk p)) ((stepF (RLk p) ((fdF (RLk p) p d cx ss c b n k).fst, (fdF (RLk p) p d cx ss c b n k).snd.fst, (fdF (RLk p) p d cx ss c b n k).snd.snd) (ss.getD k default, cx)).fst, (stepF (RLk p) ((fdF (RLk p) p d cx ss c b n k).fst, (fdF (RLk p) p d cx ss c b n k).snd.fst, (fdF (RLk p) p d cx ss c b n k).snd.snd) (ss.getD k default, cx)).snd.fst, (stepF (RLk p) ((fdF (RLk p) p d cx ss c b n k).fst, (fdF (RLk p) p d cx ss c b n k).snd.fst, (fdF (RLk p) p d cx ss c b n k).snd.snd) (ss.getD k default, cx)).snd.snd) (evs p d cx (ss.getD k default).body)).snd.snd) (evs p d cx (ss.getD k default).els)).snd.fst) := (by exact congrArg (fun x : Int × Int × Nat => x.2.1) (fd_n (by omega) (by assumption))); first | (rw [e1, e2, e3]; done) | (rw [e1, e2, e3]; rfl) | (simp only [e1, e2, e3]; done) | (simp only [e1, e2, e3]; rfl)) (by kernel_rfl)
   ·
    have q1 : (ss.getD k default).kind = 3 := eq_of_beq h1
    refine rT G ((ss.getD k default).kind == (3 : Int)) (by assumption) ?_
    refine rs1s G ⟨[(4, _, [0, 1, 2, 10])], [], []⟩ (calls_cons (c_label (p) ((ss.getD k default).value) (by exact hd_value (bl_at hs (by omega)).1 (by omega))) calls_nil) trivial [(2, iA cx), (3, .fn 132 [.ptr 3 0, .ptr 4 0, .ptr 5 0, .ptr 6 0]), (4, .ptr 8 0), (9, .ptr 13 0), (10, iA (orI cx (labV p (ss.getD k default).value))), (11, .ref 7), (12, iA (↑ss.length : Int)), (13, iA (↑k : Int))] [] trivial ?_
    clear G; intro ρ a w G
    refine th_n ?_
    refine wp_seq ?_
    refine rs1 (dk := dkP) G ⟨[(5, _, [0, 1, 2, 3, 4, 5, 6, 11])], [], []⟩ (calls_cons (ih ((ss.getD k default).body) (orI cx (labV p (ss.getD k default).value)) ((stepF (RLk p) ((fdF (RLk p) p d cx ss c b n k).fst, (fdF (RLk p) p d cx ss c b n k).snd.fst, (fdF (RLk p) p d cx ss c b n k).snd.snd) (ss.getD k default, cx)).fst) ((stepF (RLk p) ((fdF (RLk p) p d cx ss c b n k).fst, (fdF (RLk p) p d cx ss c b n k).snd.fst, (fdF (RLk p) p d cx ss c b n k).snd.snd) (ss.getD k default, cx)).snd.fst) ((stepF (RLk p) ((fdF (RLk p) p d cx ss c b n k).fst, (fdF (RLk p) p d cx ss c b n k).snd.fst, (fdF (RLk p) p d cx ss c b n k).snd.snd) (ss.getD k default, cx)).snd.snd) (by omega) (by exact (bl_at hs (by omega)).2.1) (by exact fd_cnt2 (by omega) hn)) calls_nil) trivial [0, 1, 2, 3, 4, 5, 6, 7, 8, 9, 10, 11, 12, 13] [dI p.vars, dI p.arrays, dT p.body, .box [iA (List.foldl (stepF (RLk p)) ((stepF (RLk p) ((fdF (RLk p) p d cx ss c b n k).fst, (fdF (RLk p) p d cx ss c b n k).snd.fst, (fdF (RLk p) p d cx ss c b n k).snd.snd) (ss.getD k default, cx)).fst, (stepF (RLk p) ((fdF (RLk p) p d cx ss c b n k).fst, (fdF (RLk p) p d cx ss c b n k).snd.fst, (fdF (RLk p) p d cx ss c b n k).snd.snd) (ss.getD k default, cx)).snd.fst, (stepF (RLk p) ((fdF (RLk p) p d cx ss c b n k).fst, (fdF (RLk p) p d cx ss c b n k).snd.fst, (fdF (RLk p) p d cx ss c b n k).snd.snd) (ss.getD k default, cx)).snd.snd) (evs p d (orI cx (labV p (ss.getD k default).value)) (ss.getD k default).body)).fst], .box [.bm 70 [pA 0]], .box [iA (↑(List.foldl (stepF (RLk p)) ((stepF (RLk p) ((fdF (RLk p) p d cx ss c b n k).fst, (fdF (RLk p) p d cx ss c b n k).snd.fst, (fdF (RLk p) p d cx ss c b n k).snd.snd) (ss.getD k default, cx)).fst, (stepF (RLk p) ((fdF (RLk p) p d cx ss c b n k).fst, (fdF (RLk p) p d cx ss c b n k).snd.fst, (fdF (RLk p) p d cx ss c b n k).snd.snd) (ss.getD k default, cx)).snd.fst, (stepF (RLk p) ((fdF (RLk p) p d cx ss c b n k).fst, (fdF (RLk p) p d cx ss c b n k).snd.fst, (fdF (RLk p) p d cx ss c b n k).snd.snd) (ss.getD k default, cx)).snd.snd) (evs p d (orI cx (labV p (ss.getD k default).value)) (ss.getD k default).body)).snd.snd : Int)], .box [iA (List.foldl (stepF (RLk p)) ((stepF (RLk p) ((fdF (RLk p) p d cx ss c b n k).fst, (fdF (RLk p) p d cx ss c b n k).snd.fst, (fdF (RLk p) p d cx ss c b n k).snd.snd) (ss.getD k default, cx)).fst, (stepF (RLk p) ((fdF (RLk p) p d cx ss c b n k).fst, (fdF (RLk p) p d cx ss c b n k).snd.fst, (fdF (RLk p) p d cx ss c b n k).snd.snd) (ss.getD k default, cx)).snd.fst, (stepF (RLk p) ((fdF (RLk p) p d cx ss c b n k).fst, (fdF (RLk p) p d cx ss c b n k).snd.fst, (fdF (RLk p) p d cx ss c b n k).snd.snd) (ss.getD k default, cx)).snd.snd) (evs p d (orI cx (labV p (ss.getD k default).value)) (ss.getD k default).body)).snd.fst], dT ss, .box (pL 0), dE (ss.getD k default).index.kids, dE (ss.getD k default).value.kids, dT (ss.getD k default).body, dT (ss.getD k default).els, .box (sL (ss.getD k default) 9)] [(2, iA cx), (3, .fn 132 [.ptr 3 0, .ptr 4 0, .ptr 5 0, .ptr 6 0]), (4, .ptr 8 0), (9, .ptr 13 0), (10, iA (orI cx (labV p (ss.getD k default).value))), (11, .ref 7), (12, iA (↑ss.length : Int)), (13, iA (↑k : Int))] [] trivial ?_
    clear G; intro ρ a w G
    refine th_n ?_
    refine rs1 (dk := dkP) G ⟨[(5, _, [0, 1, 2, 3, 4, 5, 6, 12])], [], []⟩ (calls_cons (ih ((ss.getD k default).els) (orI cx (labV p (ss.getD k default).value)) ((List.foldl (stepF (RLk p)) ((stepF (RLk p) ((fdF (RLk p) p d cx ss c b n k).fst, (fdF (RLk p) p d cx ss c b n k).snd.fst, (fdF (RLk p) p d cx ss c b n k).snd.snd) (ss.getD k default, cx)).fst, (stepF (RLk p) ((fdF (RLk p) p d cx ss c b n k).fst, (fdF (RLk p) p d cx ss c b n k).snd.fst, (fdF (RLk p) p d cx ss c b n k).snd.snd) (ss.getD k default, cx)).snd.fst, (stepF (RLk p) ((fdF (RLk p) p d cx ss c b n k).fst, (fdF (RLk p) p d cx ss c b n k).snd.fst, (fdF (RLk p) p d cx ss c b n k).snd.snd) (ss.getD k default, cx)).snd.snd) (evs p d (orI cx (labV p (ss.getD k default).value)) (ss.getD k default).body)).fst) ((List.foldl (stepF (RLk p)) ((stepF (RLk p) ((fdF (RLk p) p d cx ss c b n k).fst, (fdF (RLk p) p d cx ss c b n k).snd.fst, (fdF (RLk p) p d cx ss c b n k).snd.snd) (ss.getD k default, cx)).fst, (stepF (RLk p) ((fdF (RLk p) p d cx ss c b n k).fst, (fdF (RLk p) p d cx ss c b n k).snd.fst, (fdF (RLk p) p d cx ss c b n k).snd.snd) (ss.getD k default, cx)).snd.fst, (stepF (RLk p) ((fdF (RLk p) p d cx ss c b n k).fst, (fdF (RLk p) p d cx ss c b n k).snd.fst, (fdF (RLk p) p d cx ss c b n k).snd.snd) (ss.getD k default, cx)).snd.snd) (evs p d (orI cx (labV p (ss.getD k default).value)) (ss.getD k default).body)).snd.fst) ((List.foldl (stepF (RLk p)) ((stepF (RLk p) ((fdF (RLk p) p d cx ss c b n k).fst, (fdF (RLk p) p d cx ss c b n k).snd.fst, (fdF (RLk p) p d cx ss c b n k).snd.snd) (ss.getD k default, cx)).fst, (stepF (RLk p) ((fdF (RLk p) p d cx ss c b n k).fst, (fdF (RLk p) p d cx ss c b n k).snd.fst, (fdF (RLk p) p d cx ss c b n k).snd.snd) (ss.getD k default, cx)).snd.fst, (stepF (RLk p) ((fdF (RLk p) p d cx ss c b n k).fst, (fdF (RLk p) p d cx ss c b n k).snd.fst, (fdF (RLk p) p d cx ss c b n k).snd.snd) (ss.getD k default, cx)).snd.snd) (evs p d (orI cx (labV p (ss.getD k default).value)) (ss.getD k default).body)).snd.snd) (by omega) (by exact (bl_at hs (by omega)).2.2) (by exact fd_cnt3 (by omega) hn st_n)) calls_nil) trivial [0, 1, 2, 3, 4, 5, 6, 7, 8] [dI p.vars, dI p.arrays, dT p.body, .box [iA (List.foldl (stepF (RLk p)) ((List.foldl (stepF (RLk p)) ((stepF (RLk p) ((fdF (RLk p) p d cx ss c b n k).fst, (fdF (RLk p) p d cx ss c b n k).snd.fst, (fdF (RLk p) p d cx ss c b n k).snd.snd) (ss.getD k default, cx)).fst, (stepF (RLk p) ((fdF (RLk p) p d cx ss c b n k).fst, (fdF (RLk p) p d cx ss c b n k).snd.fst, (fdF (RLk p) p d cx ss c b n k).snd.snd) (ss.getD k default, cx)).snd.fst, (stepF (RLk p) ((fdF (RLk p) p d cx ss c b n k).fst, (fdF (RLk p) p d cx ss c b n k).snd.fst, (fdF (RLk p) p d cx ss c b n k).snd.snd) (ss.getD k default, cx)).snd.snd) (evs p d (orI cx (labV p (ss.getD k default).value)) (ss.getD k default).body)).fst, (List.foldl (stepF (RLk p)) ((stepF (RLk p) ((fdF (RLk p) p d cx ss c b n k).fst, (fdF (RLk p) p d cx ss c b n k).snd.fst, (fdF (RLk p) p d cx ss c b n k).snd.snd) (ss.getD k default, cx)).fst, (stepF (RLk p) ((fdF (RLk p) p d cx ss c b n k).fst, (fdF (RLk p) p d cx ss c b n k).snd.fst, (fdF (RLk p) p d cx ss c b n k).snd.snd) (ss.getD k default, cx)).snd.fst, (stepF (RLk p) ((fdF (RLk p) p d cx ss c b n k).fst, (fdF (RLk p) p d cx ss c b n k).snd.fst, (fdF (RLk p) p d cx ss c b n k).snd.snd) (ss.getD k default, cx)).snd.snd) (evs p d (orI cx (labV p (ss.getD k default).value)) (ss.getD k default).body)).snd.fst, (List.foldl (stepF (RLk p)) ((stepF (RLk p) ((fdF (RLk p) p d cx ss c b n k).fst, (fdF (RLk p) p d cx ss c b n k).snd.fst, (fdF (RLk p) p d cx ss c b n k).snd.snd) (ss.getD k default, cx)).fst, (stepF (RLk p) ((fdF (RLk p) p d cx ss c b n k).fst, (fdF (RLk p) p d cx ss c b n k).snd.fst, (fdF (RLk p) p d cx ss c b n k).snd.snd) (ss.getD k default, cx)).snd.fst, (stepF (RLk p) ((fdF (RLk p) p d cx ss c b n k).fst, (fdF (RLk p) p d cx ss c b n k).snd.fst, (fdF (RLk p) p d cx ss c b n k).snd.snd) (ss.getD k default, cx)).snd.snd) (evs p d (orI cx (labV p (ss.getD k default).value)) (ss.getD k default).body)).snd.snd) (evs p d (orI cx (labV p (ss.getD k default).value)) (ss.getD k default).els)).fst], .box [.bm 70 [pA 0]], .box [iA (↑(List.foldl (stepF (RLk p)) ((List.foldl (stepF (RLk p)) ((stepF (RLk p) ((fdF (RLk p) p d cx ss c b n k).fst, (fdF (RLk p) p d cx ss c b n k).snd.fst, (fdF (RLk p) p d cx ss c b n k).snd.snd) (ss.getD k default, cx)).fst, (stepF (RLk p) ((fdF (RLk p) p d cx ss c b n k).fst, (fdF (RLk p) p d cx ss c b n k).snd.fst, (fdF (RLk p) p d cx ss c b n k).snd.snd) (ss.getD k default, cx)).snd.fst, (stepF (RLk p) ((fdF (RLk p) p d cx ss c b n k).fst, (fdF (RLk p) p d cx ss c b n k).snd.fst, (fdF (RLk p) p d cx ss c b n k).snd.snd) (ss.getD k default, cx)).snd.snd) (evs p d (orI cx (labV p (ss.getD k default).value)) (ss.getD k default).body)).fst, (List.foldl (stepF (RLk p)) ((stepF (RLk p) ((fdF (RLk p) p d cx ss c b n k).fst, (fdF (RLk p) p d cx ss c b n k).snd.fst, (fdF (RLk p) p d cx ss c b n k).snd.snd) (ss.getD k default, cx)).fst, (stepF (RLk p) ((fdF (RLk p) p d cx ss c b n k).fst, (fdF (RLk p) p d cx ss c b n k).snd.fst, (fdF (RLk p) p d cx ss c b n k).snd.snd) (ss.getD k default, cx)).snd.fst, (stepF (RLk p) ((fdF (RLk p) p d cx ss c b n k).fst, (fdF (RLk p) p d cx ss c b n k).snd.fst, (fdF (RLk p) p d cx ss c b n k).snd.snd) (ss.getD k default, cx)).snd.snd) (evs p d (orI cx (labV p (ss.getD k default).value)) (ss.getD k default).body)).snd.fst, (List.foldl (stepF (RLk p)) ((stepF (RLk p) ((fdF (RLk p) p d cx ss c b n k).fst, (fdF (RLk p) p d cx ss c b n k).snd.fst, (fdF (RLk p) p d cx ss c b n k).snd.snd) (ss.getD k default, cx)).fst, (stepF (RLk p) ((fdF (RLk p) p d cx ss c b n k).fst, (fdF (RLk p) p d cx ss c b n k).snd.fst, (fdF (RLk p) p d cx ss c b n k).snd.snd) (ss.getD k default, cx)).snd.fst, (stepF (RLk p) ((fdF (RLk p) p d cx ss c b n k).fst, (fdF (RLk p) p d cx ss c b n k).snd.fst, (fdF (RLk p) p d cx ss c b n k).snd.snd) (ss.getD k default, cx)).snd.snd) (evs p d (orI cx (labV p (ss.getD k default).value)) (ss.getD k default).body)).snd.snd) (evs p d (orI cx (labV p (ss.getD k default).value)) (ss.getD k default).els)).snd.snd : Int)], .box [iA (List.foldl (stepF (RLk p)) ((List.foldl (stepF (RLk p)) ((stepF (RLk p) ((fdF (RLk p) p d cx ss c b n k).fst, (fdF (RLk p) p d cx ss c b n k).snd.fst, (fdF (RLk p) p d cx ss c b n k).snd.snd) (ss.getD k default, cx)).fst, (stepF (RLk p) ((fdF (RLk p) p d cx ss c b n k).fst, (fdF (RLk p) p d cx ss c b n k).snd.fst, (fdF (RLk p) p d cx ss c b n k).snd.snd) (ss.getD k default, cx)).snd.fst, (stepF (RLk p) ((fdF (RLk p) p d cx ss c b n k).fst, (fdF (RLk p) p d cx ss c b n k).snd.fst, (fdF (RLk p) p d cx ss c b n k).snd.snd) (ss.getD k default, cx)).snd.snd) (evs p d (orI cx (labV p (ss.getD k default).value)) (ss.getD k default).body)).fst, (List.foldl (stepF (RLk p)) ((stepF (RLk p) ((fdF (RLk p) p d cx ss c b n k).fst, (fdF (RLk p) p d cx ss c b n k).snd.fst, (fdF (RLk p) p d cx ss c b n k).snd.snd) (ss.getD k default, cx)).fst, (stepF (RLk p) ((fdF (RLk p) p d cx ss c b n k).fst, (fdF (RLk p) p d cx ss c b n k).snd.fst, (fdF (RLk p) p d cx ss c b n k).snd.snd) (ss.getD k default, cx)).snd.fst, (stepF (RLk p) ((fdF (RLk p) p d cx ss c b n k).fst, (fdF (RLk p) p d cx ss c b n k).snd.fst, (fdF (RLk p) p d cx ss c b n k).snd.snd) (ss.getD k default, cx)).snd.snd) (evs p d (orI cx (labV p (ss.getD k default).value)) (ss.getD k default).body)).snd.fst, (List.foldl (stepF (RLk p)) ((stepF (RLk p) ((fdF (RLk p) p d cx ss c b n k).fst, (fdF (RLk p) p d cx ss c b n k).snd.fst, (fdF (RLk p) p d cx ss c b n k).snd.snd) (ss.getD k default, cx)).fst, (stepF (RLk p) ((fdF (RLk p) p d cx ss c b n k).fst, (fdF (RLk p) p d cx ss c b n k).snd.fst, (fdF (RLk p) p d cx ss c b n k).snd.snd) (ss.getD k default, cx)).snd.fst, (stepF (RLk p) ((fdF (RLk p) p d cx ss c b n k).fst, (fdF (RLk p) p d cx ss c b n k).snd.fst, (fdF (RLk p) p d cx ss c b n k).snd.snd) (ss.getD k default, cx)).snd.snd) (evs p d (orI cx (labV p (ss.getD k default).value)) (ss.getD k default).body)).snd.snd) (evs p d (orI cx (labV p (ss.getD k default).value)) (ss.getD k default).els)).snd.fst], dT ss, .box (pL 0)] [(2, iA cx), (3, .fn 132 [.ptr 3 0, .ptr 4 0, .ptr 5 0, .ptr 6 0]), (4, .ptr 8 0), (11, .ref 7), (12, iA (↑ss.length : Int)), (13, iA (↑k : Int))] [] trivial ?_
    clear G; intro ρ a w G
    refine bl_n ?_
    refine th_n ?_
    refine rs1s G ⟨[], [], []⟩ calls_nil trivial [(2, iA cx), (3, .fn 132 [.ptr 3 0, .ptr 4 0, .ptr 5 0, .ptr 6 0]), (4, .ptr 8 0), (11, .ref 7), (12, iA (↑ss.length : Int)), (13, iA ((↑k : Int) + 1))] [IntKind.i64.wrap ((↑k : Int) + (1 : Int)) = (↑k : Int) + (1 : Int)] ⟨(by exact w64 (by omega) (by omega)), trivial⟩ ?_
    clear G; intro ρ a w G
    refine th_n ?_
    exact rx_next G (k + 1) (by omega) (by omega) [0, 1, 2, 3, 4, 5, 6, 7, 8] [dI p.vars, dI p.arrays, dT p.body, .box [iA (fdF (RLk p) p d cx ss c b n (k + 1)).fst], .box [.bm 70 [pA 0]], .box [iA (↑(fdF (RLk p) p d cx ss c b n (k + 1)).snd.snd : Int)], .box [iA (fdF (RLk p) p d cx ss c b n (k + 1)).snd.fst], dT ss, .box (pL 0)] [(2, iA cx), (3, .fn 132 [.ptr 3 0, .ptr 4 0, .ptr 5 0, .ptr 6 0]), (4, .ptr 8 0), (11, .ref 7), (12, iA (↑ss.length : Int)), (13, iA (↑(k + 1) : Int))] (by kernel_rfl) (by kernel_rfl) (by kernel_rfl) (by have e1 : ((fdF (RLk p) p d cx ss c b n (k + 1)).fst : Int) = ((List.foldl (stepF (RLk p)) ((List.foldl (stepF (RLk p)) ((stepF (RLk p) ((fdF (RLk p) p d cx ss c b n k).fst, (fdF (RLk p) p d cx ss c b n k).snd.fst, (fdF (RLk p) p d cx ss c b n k).snd.snd) (ss.getD k default, cx)).fst, (stepF (RLk p) ((fdF (RLk p) p d cx ss c b n k).fst, (fdF (RLk p) p d cx ss c b n k).snd.fst, (fdF (RLk p) p d cx ss c b n k).snd.snd) (ss.getD k default, cx)).snd.fst, (stepF (RLk p) ((fdF (RLk p) p d cx ss c b n k).fst, (fdF (RLk p) p d cx ss c b n k).snd.fst, (fdF (RLk p) p d cx ss c b n k).snd.snd) (ss.getD k default, cx)).snd.snd) (evs p d (orI cx (labV p (ss.getD k default).value)) (ss.getD k default).body)).fst, (List.foldl (stepF (RLk p)) ((stepF (RLk p) ((fdF (RLk p) p d cx ss c b n k).fst, (fdF (RLk p) p d cx ss c b n k).snd.fst, (fdF (RLk p) p d cx ss c b n k).snd.snd) (ss.getD k default, cx)).fst, (stepF (RLk p) ((fdF (RLk p) p d cx ss c b n k).fst, (fdF (RLk p) p d cx ss c b n k).snd.fst, (fdF (RLk p) p d cx ss c b n k).snd.snd) (ss.getD k default, cx)).snd.fst, (stepF (RLk p) ((fdF (RLk p) p d cx ss c b n k).fst, (fdF (RLk p) p d cx ss c b n k).snd.fst, (fdF (RLk p) p d cx ss c b n k).snd.snd) (ss.getD k default, cx)).snd.snd) (evs p d (orI cx (labV p (ss.getD k default).value)) (ss.getD k default).body)).snd.fst, (List.foldl (stepF (RLk p)) ((stepF (RLk p) ((fdF (RLk p) p d cx ss c b n k).fst, (fdF (RLk p) p d cx ss c b n k).snd.fst, (fdF (RLk p) p d cx ss c b n k).snd.snd) (ss.getD k default, cx)).fst, (stepF (RLk p) ((fdF (RLk p) p d cx ss c b n k).fst, (fdF (RLk p) p d cx ss c b n k).snd.fst, (fdF (RLk p) p d cx ss c b n k).snd.snd) (ss.getD k default, cx)).snd.fst, (stepF (RLk p) ((fdF (RLk p) p d cx ss c b n k).fst, (fdF (RLk p) p d cx ss c b n k).snd.fst, (fdF (RLk p) p d cx ss c b n k).snd.snd) (ss.getD k default, cx)).snd.snd) (evs p d (orI cx (labV p (ss.getD k default).value)) (ss.getD k default).body)).snd.snd) (evs p d (orI cx (labV p (ss.getD k default).value)) (ss.getD k default).els)).fst) := (by exact congrArg Prod.fst (fd_3 (by omega) (by assumption))); have e2 : ((↑(fdF (RLk p) p d cx ss c b n (k + 1)).snd.snd : Int) : Int) = ((↑(List.foldl (stepF (RLk p)) ((List.foldl (stepF (RLk p)) ((stepF (RLk p) ((fdF (RLk p) p d cx ss c b n k).fst, (fdF (RLk p) p d cx ss c b n k).snd.fst, (fdF (RLk p) p d cx ss c b n k).snd.snd) (ss.getD k default, cx)).fst, (stepF (RLk p) ((fdF (RLk p) p d cx ss c b n k).fst, (fdF (RLk p) p d cx ss c b n k).snd.fst, (fdF (RLk p) p d cx ss c b n k).snd.snd) (ss.getD k default, cx)).snd.fst, (stepF (RLk p) ((fdF (RLk p) p d cx ss c b n k).fst, (fdF (RLk p) p d cx ss c b n k).snd.fst, (fdF (RLk p) p d cx ss c b n k).snd.snd) (ss.getD k default, cx)).snd.snd) (evs p d (orI cx (labV p (ss.getD k default).value)) (ss.getD k default).body)).fst, (List.foldl (stepF (RLk p)) ((stepF (RLk p) ((fdF (RLk p) p d cx ss c b n k).fst, (fdF (RLk p) p d cx ss c b n k).snd.fst, (fdF (RLk p) p d cx ss c b n k).snd.snd) (ss.getD k default, cx)).fst, (stepF (RLk p) ((fdF (RLk p) p d cx ss c b n k).fst, (fdF (RLk p) p d cx ss c b n k).snd.fst, (fdF (RLk p) p d cx ss c b n k).snd.snd) (ss.getD k default, cx)).snd.fst, (stepF (RLk p) ((fdF (RLk p) p d cx ss c b n k).fst, (fdF (RLk p) p d cx ss c b n k).snd.fst, (fdF (RLk p) p d cx ss c b n k).snd.snd) (ss.getD k default, cx)).snd.snd) (evs p d (orI cx (labV p (ss.getD k default).value)) (ss.getD k default).body)).snd.fst, (List.foldl (stepF (RLk p)) ((stepF (RLk p) ((fdF (RLk p) p d cx ss c b n k).fst, (fdF (RLk p) p d cx ss c b n k).snd.fst, (fdF (RLk p) p d cx ss c b n k).snd.snd) (ss.getD k default, cx)).fst, (stepF (RLk p) ((fdF (RLk p) p d cx ss c b n k).fst, (fdF (RLk p) p d cx ss c b n k).snd.fst, (fdF (RLk p) p d cx ss c b n k).snd.snd) (ss.getD k default, cx)).snd.fst, (stepF (RLk p) ((fdF (RLk p) p d cx ss c b n k).fst, (fdF (RLk p) p d cx ss c b n k).snd.fst, (fdF (RLk p) p d cx ss c b n k).snd.snd) (ss.getD k default, cx)).snd.snd) (evs p d (orI cx (labV p (ss.getD k default).value)) (ss.getD k default).body)).snd.snd) (evs p d (orI cx (labV p (ss.getD k default).value)) (ss.getD k default).els)).snd.snd : Int)) := (by exact congrArg (fun x : Int × Int × Nat => Int.ofNat x.2.2) (fd_3 (by omega) (by assumption))); have e3 : ((fdF (RLk p) p d cx ss c b n (k + 1)).snd.fst : Int) = ((List.foldl (stepF (RLk p)) ((List.foldl (stepF (RLk p)) ((stepF (RLk p) ((fdF (RLk p) p d cx ss c b n k).fst, (fdF (RLk p) p d cx ss c b n k).snd.fst, (fdF (RLk p) p d cx ss c b n k).snd.snd) (ss.getD k default, cx)).fst, (stepF (RLk p) ((fdF (RLk p) p d cx ss c b n k).fst, (fdF (RLk p) p d cx ss c b n k).snd.fst, (fdF (RLk p) p d cx ss c b n k).snd.snd) (ss.getD k default, cx)).snd.fst, (stepF (RLk p) ((fdF (RLk p) p d cx ss c b n k).fst, (fdF (RLk p) p d cx ss c b n k).snd.fst, (fdF (RLk p) p d cx ss c b n k).snd.snd) (ss.getD k default, cx)).snd.snd) (evs p d (orI cx (labV p (ss.getD k default).value)) (ss.getD k default).body)).fst, (List.foldl (stepF (RLk p)) ((stepF (RLk p) ((fdF (RLk p) p d cx ss c b n k).fst, (fdF (RLk p) p d cx ss c b n k).snd.fst, (fdF (RLk p) p d cx ss c b n k).snd.snd) (ss.getD k default, cx)).fst, (stepF (RLk p) ((fdF (RLk p) p d cx ss c b n k).fst, (fdF (RLk p) p d cx ss c b n k).snd.fst, (fdF (RLk p) p d cx ss c b n k).snd.snd) (ss.getD k default, cx)).snd.fst, (stepF (RLk p) ((fdF (RLk p) p d cx ss c b n k).fst, (fdF (RLk p) p d cx ss c b n k).snd.fst, (fdF (RLk p) p d cx ss c b n k).snd.snd) (ss.getD k default, cx)).snd.snd) (evs p d (orI cx (labV p (ss.getD k default).value)) (ss.getD k default).body)).snd.fst, (List.foldl (stepF (RLk p)) ((stepF (RLk p) ((fdF (RLk p) p d cx ss c b n k).fst, (fdF (RLk p) p d cx ss c b n k).snd.fst, (fdF (RLk p) p d cx ss c b n k).snd.snd) (ss.getD k default, cx)).fst, (stepF (RLk p) ((fdF (RLk p) p d cx ss c b n k).fst, (fdF (RLk p) p d cx ss c b n k).snd.fst, (fdF (RLk p) p d cx ss c b n k).snd.snd) (ss.getD k default, cx)).snd.fst, (stepF (RLk p) ((fdF (RLk p) p d cx ss c b n k).fst, (fdF (RLk p) p d cx ss c b n k).snd.fst, (fdF (RLk p) p d cx ss c b n k).snd.snd) (ss.getD k default, cx)).snd.snd) (evs p d (orI cx (labV p (ss.getD k default).value)) (ss.getD k default).body)).snd.snd) (evs p d (orI cx (labV p (ss.getD k default).value)) (ss.getD k default).els)).snd.fst) := (by exact congrArg (fun x : Int × Int × Nat => x.2.1) (fd_3 (by omega) (by assumption))); first | (rw [e1, e2, e3]; done) | (rw [e1, e2, e3]; rfl) | (simp only [e1, e2, e3]; done) | (simp only [e1, e2, e3]; rfl)) (by kernel_rfl)


theorem c_eachFD (p : LProg) : ∀ (d : Nat) (ss : List LStmt) (cx : Int) (c b : Int) (n : Nat), ss.all (stmtB p.vars.length p.arrays.length d) = true → n + nSs ss ≤ 4000000 → Ctr.ok Try.prog ⟨125, [pA 0, .ref 7, iA cx, .fn 132 [.ptr 3 0, .ptr 4 0, .ptr 5 0, .ptr 6 0]], pS p ++ fcB FLOW c n b ++ [.dat (.stmts ss)],
      pS p ++ fcB FLOW ((evs p d cx ss).foldl (stepF (RFl p)) (c, b, n)).1 ((evs p d cx ss).foldl (stepF (RFl p)) (c, b, n)).2.2 ((evs p d cx ss).foldl (stepF (RFl p)) (c, b, n)).2.1 ++ [.dat (.stmts ss)], .tup []⟩ := by
  intro d
  induction d with
  | zero =>
    intro ss cx c b n hs hn
    have h0 : ss = [] := by
      cases ss with
      | nil => rfl
      | cons a r => simp [stmtB] at hs
    subst h0
    exact c_eachFS p 0 [] (fun _ _ _ _ _ h => absurd h (by simp)) cx c b n rfl hn
  | succ d ih => intro ss cx c b n hs hn; exact c_eachFS p d ss (fun tt cx c b n _ h1 h2 => ih tt cx c b n h1 h2) cx c b n hs hn
theorem c_eachFP (p : LProg) (h : progB p = true) : Ctr.ok Try.prog ⟨125, [pA 0, .ref 2, iA 0, .fn 132 [.ptr 3 0, .ptr 4 0, .ptr 5 0, .ptr 6 0]], pS p ++ fcB FLOW 0 0 (-1),
      pS p ++ fcB FLOW ((evs p 5 0 p.body).foldl (stepF (RFl p)) (0, -1, 0)).1 ((evs p 5 0 p.body).foldl (stepF (RFl p)) (0, -1, 0)).2.2 ((evs p 5 0 p.body).foldl (stepF (RFl p)) (0, -1, 0)).2.1, .tup []⟩ :=
  Ctr.dup (S := pS p ++ fcB FLOW 0 0 (-1)) (S' := pS p ++ fcB FLOW ((evs p 5 0 p.body).foldl (stepF (RFl p)) (0, -1, 0)).1 ((evs p 5 0 p.body).foldl (stepF (RFl p)) (0, -1, 0)).2.2 ((evs p 5 0 p.body).foldl (stepF (RFl p)) (0, -1, 0)).2.1) (d := .stmts p.body) (i := 2) (c_eachFD p 5 p.body 0 0 (-1) 0 (progB_all h).1 (by have := (progB_all h).2; omega)) rfl rfl rfl (fun ρ h => by simp only [AV.vals, AV.val]; rw [show ρ 7 = ρ 2 from h]) rfl

set_option maxRecDepth 100000 in
theorem c_firstOfF (p : LProg) (h : progB p = true) : Ctr.ok Try.prog (fnC 69 [pA 0, .bm FLOW [pA 0]] (pS p) (.tup [iA ((evs p 5 0 p.body).foldl (stepF (RFl p)) (0, -1, 0)).1, iA ((evs p 5 0 p.body).foldl (stepF (RFl p)) (0, -1, 0)).2.1])) := by
  refine rx_enter 16 Try.func69 (by rfl) (by kernel_rfl) (by kernel_rfl) ?_
  intro ι φ ψ w0 w F ρ0 ρ a G
  replace G := Gam.at G [dI p.vars, dI p.arrays, dT p.body] [(0, pA 0), (1, .bm 131 [pA 0])]
  refine wp_seq ?_
  refine rs0 G [0, 1, 2, 3, 11] [dI p.vars, dI p.arrays, dT p.body, .box (pL 0), .box [.bm 131 [pA 0]]] [(0, pA 0), (2, .ptr 3 0), (3, .ptr 4 0), (4, iA 0), (5, iA 0)] ?_
  clear G; intro ρ a w G
  refine th_n ?_
  refine wp_seq ?_
  refine rs0 G [0, 1, 2, 3, 4, 5, 13, 21] [dI p.vars, dI p.arrays, dT p.body, .box (pL 0), .box [.bm 131 [pA 0]], .box [iA 0], .box [iA (-1)], .box [iA 0]] [(0, pA 0), (2, .ptr 3 0), (3, .ptr 4 0), (4, iA 0), (5, iA 0), (6, .ptr 5 0), (7, .ptr 6 0), (8, .ptr 7 0)] ?_
  clear G; intro ρ a w G
  refine th_n ?_
  refine wp_seq ?_
  refine rs1 (dk := dkP) G ⟨[(4, _, [0, 1, 2, 5, 4, 7, 6])], [], []⟩ (calls_cons (c_eachFP (p) (by assumption)) calls_nil) trivial [0, 1, 2, 5, 6] [dI p.vars, dI p.arrays, dT p.body, .box [iA (List.foldl (stepF (RFl p)) (0, -1, 0) (evs p 5 0 p.body)).fst], .box [iA (List.foldl (stepF (RFl p)) (0, -1, 0) (evs p 5 0 p.body)).snd.fst]] [(0, pA 0), (4, iA 0), (5, iA 0), (6, .ptr 3 0), (7, .ptr 4 0)] [] trivial ?_
  clear G; intro ρ a w G
  refine th_n ?_
  refine wp_seq ?_
  refine rd1 (dk := dkP) G ⟨[], [], []⟩ calls_nil trivial [0, 0, 1, 7] [0, 1, 2] [dI p.vars, dI p.arrays, dT p.body] [(0, pA 0), (4, iA (List.foldl (stepF (RFl p)) (0, -1, 0) (evs p 5 0 p.body)).fst), (5, iA (List.foldl (stepF (RFl p)) (0, -1, 0) (evs p 5 0 p.body)).snd.fst)] [] trivial ?_
  clear G; intro ρ a w G
  refine th_n ?_
  refine wp_ret ?_
  exact rx_ret (v := .tup [iA (List.foldl (stepF (RFl p)) (0, -1, 0) (evs p 5 0 p.body)).fst, iA (List.foldl (stepF (RFl p)) (0, -1, 0) (evs p 5 0 p.body)).snd.fst]) G [0, 1, 2] (by kernel_rfl) (by kernel_rfl) (by kernel_rfl) (by kernel_rfl)

theorem c_eachLD (p : LProg) : ∀ (d : Nat) (ss : List LStmt) (cx : Int) (c b : Int) (n : Nat), ss.all (stmtB p.vars.length p.arrays.length d) = true → n + nSs ss ≤ 4000000 → Ctr.ok Try.prog ⟨125, [pA 0, .ref 7, iA cx, .fn 132 [.ptr 3 0, .ptr 4 0, .ptr 5 0, .ptr 6 0]], pS p ++ fcB LEAK c n b ++ [.dat (.stmts ss)],
      pS p ++ fcB LEAK ((evs p d cx ss).foldl (stepF (RLk p)) (c, b, n)).1 ((evs p d cx ss).foldl (stepF (RLk p)) (c, b, n)).2.2 ((evs p d cx ss).foldl (stepF (RLk p)) (c, b, n)).2.1 ++ [.dat (.stmts ss)], .tup []⟩ := by
  intro d
  induction d with
  | zero =>
    intro ss cx c b n hs hn
    have h0 : ss = [] := by
      cases ss with
      | nil => rfl
      | cons a r => simp [stmtB] at hs
    subst h0
    exact c_eachLS p 0 [] (fun _ _ _ _ _ h => absurd h (by simp)) cx c b n rfl hn
  | succ d ih => intro ss cx c b n hs hn; exact c_eachLS p d ss (fun tt cx c b n _ h1 h2 => ih tt cx c b n h1 h2) cx c b n hs hn
theorem c_eachLP (p : LProg) (h : progB p = true) : Ctr.ok Try.prog ⟨125, [pA 0, .ref 2, iA 0, .fn 132 [.ptr 3 0, .ptr 4 0, .ptr 5 0, .ptr 6 0]], pS p ++ fcB LEAK 0 0 (-1),
      pS p ++ fcB LEAK ((evs p 5 0 p.body).foldl (stepF (RLk p)) (0, -1, 0)).1 ((evs p 5 0 p.body).foldl (stepF (RLk p)) (0, -1, 0)).2.2 ((evs p 5 0 p.body).foldl (stepF (RLk p)) (0, -1, 0)).2.1, .tup []⟩ :=
  Ctr.dup (S := pS p ++ fcB LEAK 0 0 (-1)) (S' := pS p ++ fcB LEAK ((evs p 5 0 p.body).foldl (stepF (RLk p)) (0, -1, 0)).1 ((evs p 5 0 p.body).foldl (stepF (RLk p)) (0, -1, 0)).2.2 ((evs p 5 0 p.body).foldl (stepF (RLk p)) (0, -1, 0)).2.1) (d := .stmts p.body) (i := 2) (c_eachLD p 5 p.body 0 0 (-1) 0 (progB_all h).1 (by have := (progB_all h).2; omega)) rfl rfl rfl (fun ρ h => by simp only [AV.vals, AV.val]; rw [show ρ 7 = ρ 2 from h]) rfl

set_option maxRecDepth 100000 in
theorem c_firstOfL (p : LProg) (h : progB p = true) : Ctr.ok Try.prog (fnC 69 [pA 0, .bm LEAK [pA 0]] (pS p) (.tup [iA ((evs p 5 0 p.body).foldl (stepF (RLk p)) (0, -1, 0)).1, iA ((evs p 5 0 p.body).foldl (stepF (RLk p)) (0, -1, 0)).2.1])) := by
  refine rx_enter 16 Try.func69 (by rfl) (by kernel_rfl) (by kernel_rfl) ?_
  intro ι φ ψ w0 w F ρ0 ρ a G
  replace G := Gam.at G [dI p.vars, dI p.arrays, dT p.body] [(0, pA 0), (1, .bm 70 [pA 0])]
  refine wp_seq ?_
  refine rs0 G [0, 1, 2, 3, 11] [dI p.vars, dI p.arrays, dT p.body, .box (pL 0), .box [.bm 70 [pA 0]]] [(0, pA 0), (2, .ptr 3 0), (3, .ptr 4 0), (4, iA 0), (5, iA 0)] ?_
  clear G; intro ρ a w G
  refine th_n ?_
  refine wp_seq ?_
  refine rs0 G [0, 1, 2, 3, 4, 5, 13, 21] [dI p.vars, dI p.arrays, dT p.body, .box (pL 0), .box [.bm 70 [pA 0]], .box [iA 0], .box [iA (-1)], .box [iA 0]] [(0, pA 0), (2, .ptr 3 0), (3, .ptr 4 0), (4, iA 0), (5, iA 0), (6, .ptr 5 0), (7, .ptr 6 0), (8, .ptr 7 0)] ?_
  clear G; intro ρ a w G
  refine th_n ?_
  refine wp_seq ?_
  refine rs1 (dk := dkP) G ⟨[(4, _, [0, 1, 2, 5, 4, 7, 6])], [], []⟩ (calls_cons (c_eachLP (p) (by assumption)) calls_nil) trivial [0, 1, 2, 5, 6] [dI p.vars, dI p.arrays, dT p.body, .box [iA (List.foldl (stepF (RLk p)) (0, -1, 0) (evs p 5 0 p.body)).fst], .box [iA (List.foldl (stepF (RLk p)) (0, -1, 0) (evs p 5 0 p.body)).snd.fst]] [(0, pA 0), (4, iA 0), (5, iA 0), (6, .ptr 3 0), (7, .ptr 4 0)] [] trivial ?_
  clear G; intro ρ a w G
  refine th_n ?_
  refine wp_seq ?_
  refine rd1 (dk := dkP) G ⟨[], [], []⟩ calls_nil trivial [0, 0, 1, 7] [0, 1, 2] [dI p.vars, dI p.arrays, dT p.body] [(0, pA 0), (4, iA (List.foldl (stepF (RLk p)) (0, -1, 0) (evs p 5 0 p.body)).fst), (5, iA (List.foldl (stepF (RLk p)) (0, -1, 0) (evs p 5 0 p.body)).snd.fst)] [] trivial ?_
  clear G; intro ρ a w G
  refine th_n ?_
  refine wp_ret ?_
  exact rx_ret (v := .tup [iA (List.foldl (stepF (RLk p)) (0, -1, 0) (evs p 5 0 p.body)).fst, iA (List.foldl (stepF (RLk p)) (0, -1, 0) (evs p 5 0 p.body)).snd.fst]) G [0, 1, 2] (by kernel_rfl) (by kernel_rfl) (by kernel_rfl) (by kernel_rfl)

end Go.Proofs.Ytgpkdfefgcpbiaa
