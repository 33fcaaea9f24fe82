/-
  Texts of this claim, part 4: what the functions on the way do, and plain laws. Conditions: as each statement says.
-/
import Derived.Test.YtgpkdfefgcpbiaaK3

namespace Go.Proofs.Ytgpkdfefgcpbiaa
set_option linter.unusedVariables false
set_option linter.unusedSimpArgs false
open Go Go.RowKit

theorem c_l2SizeD : ∀ d, d ≤ 5 → ∀ (ss : List LStmt) (n : Int), n = (d + 1 : Nat) → szSs ss ≤ 1048576 → Ctr.ok Try.prog (fnC 145 [.ref 0, iA n] [.dat (.stmts ss)] (iA (sizeD d ss : Nat))) := by
  intro d
  induction d with
  | zero => intro _ ss n hn hb; exact c_l2Size0 ss n (by omega) hb
  | succ d ih => intro hd ss n hn hb; exact c_l2SizeS d (by omega) (fun ss n hn hb => ih (by omega) ss n hn hb) ss n (by omega) hb
theorem c_l2Size (ss : List LStmt) (n : Int) (hn : n = 5) (hb : szSs ss ≤ 1048576) : Ctr.ok Try.prog (fnC 145 [.ref 0, iA n] [.dat (.stmts ss)] (iA (sizeD 4 ss : Nat))) :=
  c_l2SizeD 4 (by omega) ss n (by omega) hb
theorem sizeD_eq {nv na : Nat} : ∀ (d : Nat) (ss : List LStmt), (∀ s ∈ ss, stmtB nv na (d + 1) s = true) → sizeD d ss = nSs ss := by
  intro d
  induction d with
  | zero => intro ss h; rw [flat_nSs h]; rfl
  | succ d ih =>
    intro ss
    induction ss with
    | nil => intro _; rfl
    | cons s r ihr =>
      intro h
      have h1 := stmtB_blocks (h s List.mem_cons_self)
      have h2 := ih s.body fun x hx => List.all_eq_true.1 h1.1 x hx
      have h3 := ih s.els fun x hx => List.all_eq_true.1 h1.2 x hx
      have h4 := ihr fun x hx => h x (List.mem_cons_of_mem _ hx)
      rw [nSs, nS_def, ← h2, ← h3, ← h4]
      simp [sizeD]; omega
theorem progB_heads {p : LProg} (h : headsB p.vars p.arrays = false) : progB p = false := by simp [progB, h]
theorem progB_block {p : LProg} (h : blockB p.vars.length p.arrays.length 5 p.body = false) : progB p = false := by simp [progB, h]
theorem progB_size {p : LProg} (h1 : headsB p.vars p.arrays = true) (h2 : blockB p.vars.length p.arrays.length 5 p.body = true) : progB p = decide ((sizeD 4 p.body : Int) ≤ 60) := by
  have h3 := sizeD_eq (nv := p.vars.length) (na := p.arrays.length) 4 p.body (fun x hx => List.all_eq_true.1 h2 x hx)
  rw [progB, h1, h2, h3]
  simp
  exact ⟨fun h => by omega, fun h => by omega⟩

theorem c_l2Body (p : LProg) (n : Int) (hn : n = 5) : Ctr.ok Try.prog (fnC 144 [pA 0, .ref 2, iA n] (pS p) (bA (blockB p.vars.length p.arrays.length 5 p.body))) :=
  Ctr.dup (S := pS p) (S' := pS p) (d := .stmts p.body) (i := 2) (c_l2Block p p.body n hn) rfl rfl rfl (fun ρ h => by simp only [AV.vals, AV.val]; rw [show ρ 3 = ρ 2 from h]) rfl

set_option maxRecDepth 100000 in
theorem c_ProgramValid (p : LProg) (hb : szSs p.body ≤ 1048576) : Ctr.ok Try.prog (fnC 82 [pA 0] (pS p) (bA (progB p))) := by
  refine rx_enter 17 Try.func82 (by rfl) (by kernel_rfl) (by kernel_rfl) ?_
  intro ι φ ψ w0 w F ρ0 ρ a G
  replace G := Gam.at G [dI p.vars, dI p.arrays, dT p.body] [(0, pA 0)]
  refine wp_seq ?_
  refine rs0 G [0, 1, 2, 3] [dI p.vars, dI p.arrays, dT p.body, .box (pL 0)] [(1, .ptr 3 0), (2, bA false)] ?_
  clear G; intro ρ a w G
  refine th_n ?_
  refine wp_seq ?_
  cases h0 : (headsB p.vars p.arrays)
  ·
   refine rs1 (dk := dkP) G ⟨[(1, _, [0, 1, 2])], [(headsB p.vars p.arrays, false), (false, false)], [(3, 0), (4, 0), (5, 0), (6, 0), (1007, 0), (9, 1), (10, 1), (11, 1), (12, 1), (1013, 1)]⟩ (calls_cons (c_l2Heads (p)) calls_nil) ⟨(by assumption), (by kernel_rfl), trivial⟩ [0, 1, 2] [dI p.vars, dI p.arrays, dT p.body] [(2, bA false)] [] trivial ?_
   clear G; intro ρ a w G
   refine th_n ?_
   refine wp_ret ?_
   exact rx_ret (v := bA false) G [0, 1, 2] (by kernel_rfl) (by kernel_rfl) (by kernel_rfl) (by have e1 : (progB p : Bool) = (false) := (by exact progB_heads (by assumption)); first | (rw [e1]; done) | (rw [e1]; rfl) | (simp only [e1]; done) | (simp only [e1]; rfl))
  ·
   cases h1 : (blockB p.vars.length p.arrays.length (5 : Nat) p.body)
   ·
    refine rs1 (dk := dkP) G ⟨[(1, _, [0, 1, 2]), (6, _, [0, 1, 2])], [(headsB p.vars p.arrays, true), (blockB p.vars.length p.arrays.length (5 : Nat) p.body, false)], [(3, 0), (4, 0), (5, 0), (6, 0), (1007, 0), (9, 1), (10, 1), (11, 1), (12, 1), (1013, 1)]⟩ (calls_cons (c_l2Heads (p)) (calls_cons (c_l2Body (p) (5) (by kernel_rfl)) calls_nil)) ⟨(by assumption), (by assumption), trivial⟩ [0, 1, 2] [dI p.vars, dI p.arrays, dT p.body] [(2, bA false)] [] trivial ?_
    clear G; intro ρ a w G
    refine th_n ?_
    refine wp_ret ?_
    exact rx_ret (v := bA false) G [0, 1, 2] (by kernel_rfl) (by kernel_rfl) (by kernel_rfl) (by have e1 : (progB p : Bool) = (false) := (by exact progB_block (by assumption)); first | (rw [e1]; done) | (rw [e1]; rfl) | (simp only [e1]; done) | (simp only [e1]; rfl))
   ·
    refine rs1 (dk := dkP) G ⟨[(1, _, [0, 1, 2]), (6, _, [0, 1, 2]), (11, _, [2])], [(headsB p.vars p.arrays, true), (blockB p.vars.length p.arrays.length (5 : Nat) p.body, true)], [(3, 0), (4, 0), (5, 0), (6, 0), (1007, 0), (9, 1), (10, 1), (11, 1), (12, 1), (1013, 1)]⟩ (calls_cons (c_l2Heads (p)) (calls_cons (c_l2Body (p) (5) (by kernel_rfl)) (calls_cons (c_l2Size (p.body) (5) (by kernel_rfl) (by assumption)) calls_nil))) ⟨(by assumption), (by assumption), trivial⟩ [0, 1, 2] [dI p.vars, dI p.arrays, dT p.body] [(2, bA (decide ((↑(sizeD 4 p.body) : Int) ≤ 60)))] [] trivial ?_
    clear G; intro ρ a w G
    refine th_n ?_
    refine wp_ret ?_
    exact rx_ret (v := bA (decide ((↑(sizeD 4 p.body) : Int) ≤ 60))) G [0, 1, 2] (by kernel_rfl) (by kernel_rfl) (by kernel_rfl) (by have e1 : (progB p : Bool) = (decide ((↑(sizeD 4 p.body) : Int) ≤ 60)) := (by exact progB_size (by assumption) (by assumption)); first | (rw [e1]; done) | (rw [e1]; rfl) | (simp only [e1]; done) | (simp only [e1]; rfl))

/-- What a statement itself must be. -/
def headB (nv na : Nat) (s : LStmt) : Bool := partsB s &&
    (if s.kind = 1 ∨ s.kind = 5 then decide (0 ≤ s.target) && decide (s.target < nv) && rightB nv na s.value
     else if s.kind = 2 then decide (0 ≤ s.target) && decide (s.target < na) && rightB nv na s.index && atomB s.index && rightB nv na s.value
     else if s.kind = 3 then rightB nv na s.value
     else decide (s.kind = 4))
theorem stmtB_head {nv na d : Nat} {s : LStmt} : stmtB nv na (d + 1) s = (headB nv na s && (s.body.all (stmtB nv na d) && s.els.all (stmtB nv na d))) := by
  rw [Bool.eq_iff_iff]
  constructor
  · intro h
    have h1 := stmtB_blocks h
    rw [h1.1, h1.2, Bool.and_true, Bool.and_true]
    rw [stmtB, Bool.and_eq_true] at h
    rw [headB, h.1, Bool.true_and]
    obtain ⟨-, h⟩ := h
    split at h
    · rw [if_pos (by assumption)]; exact h
    split at h
    · rw [if_neg (by assumption), if_pos (by assumption)]; exact h
    split at h
    · rw [if_neg (by assumption), if_neg (by assumption), if_pos (by assumption)]
      simp only [Bool.and_eq_true] at h; exact h.1.1
    split at h
    · rw [if_neg (by assumption), if_neg (by assumption), if_neg (by assumption)]; simp [*]
    · simp at h
  · intro h
    simp only [Bool.and_eq_true] at h
    obtain ⟨h, hb, he⟩ := h
    rw [headB, Bool.and_eq_true] at h
    obtain ⟨h0, h⟩ := h
    rw [stmtB, h0, Bool.true_and]
    split at h
    · rw [if_pos (by assumption)]; exact h
    split at h
    · rw [if_neg (by assumption), if_pos (by assumption)]; exact h
    split at h
    · rw [if_neg (by assumption), if_neg (by assumption), if_pos (by assumption), h, hb, he]; rfl
    · rw [if_neg (by assumption), if_neg (by assumption), if_neg (by assumption), if_pos (by simpa using h), hb]
/-- Statements one after another, with a count. -/
def foldF (F : Nat → LStmt → Bool × Nat) : Nat → List LStmt → Bool × Nat
  | c, [] => (true, c)
  | c, s :: r => if (F c s).1 then foldF F (F c s).2 r else F c s
def stmtF (nv na : Nat) : Nat → Nat → LStmt → Bool × Nat
  | 0, c, _ => (false, c + 1)
  | d + 1, c, s => if 60 < c + 1 then (false, c + 1) else if headB nv na s then
      (if (foldF (stmtF nv na d) (c + 1) s.body).1 then foldF (stmtF nv na d) (foldF (stmtF nv na d) (c + 1) s.body).2 s.els else foldF (stmtF nv na d) (c + 1) s.body)
      else (false, c + 1)
abbrev stmtsF (nv na d c : Nat) (ss : List LStmt) : Bool × Nat := foldF (stmtF nv na d) c ss
theorem foldF_append (F : Nat → LStmt → Bool × Nat) : ∀ (a b : List LStmt) (c : Nat), foldF F c (a ++ b) = if (foldF F c a).1 then foldF F (foldF F c a).2 b else foldF F c a
  | [], b, c => by simp [foldF]
  | x :: r, b, c => by
    simp only [List.cons_append, foldF]
    by_cases h : (F c x).1 = true
    · simp only [h, if_true]; exact foldF_append F r b _
    · simp [h]
theorem foldF_next {F : Nat → LStmt → Bool × Nat} {c k : Nat} {ss : List LStmt} (h : (foldF F c (ss.take k)).1 = true) (hk : k < ss.length) : foldF F c (ss.take (k + 1)) = F (foldF F c (ss.take k)).2 (ss.getD k default) := by
  rw [take_succ_get _ _ hk, foldF_append, if_pos h, getD_lt hk]
  simp only [foldF]
  split
  · rename_i h; exact Prod.ext h.symm rfl
  · rfl
theorem foldF_stop {F : Nat → LStmt → Bool × Nat} {c k : Nat} {ss : List LStmt} (h : (foldF F c (ss.take k)).1 = true) (hk : k < ss.length) (hf : (F (foldF F c (ss.take k)).2 (ss.getD k default)).1 = false) : foldF F c ss = F (foldF F c (ss.take k)).2 (ss.getD k default) := by
  conv => lhs; rw [← List.take_append_drop (k + 1) ss]
  rw [foldF_append, foldF_next h hk, hf]
  rfl
theorem foldF_full {F : Nat → LStmt → Bool × Nat} {c k : Nat} {ss : List LStmt} (hk : ss.length ≤ k) : foldF F c (ss.take k) = foldF F c ss := by rw [List.take_of_length_le hk]
theorem foldF_le {F : Nat → LStmt → Bool × Nat} (hF : ∀ c s, c ≤ 60 → (F c s).2 ≤ 61 ∧ ((F c s).1 = true → (F c s).2 ≤ 60)) : ∀ (ss : List LStmt) (c : Nat), c ≤ 60 → (foldF F c ss).2 ≤ 61 ∧ ((foldF F c ss).1 = true → (foldF F c ss).2 ≤ 60)
  | [], c, h => ⟨by simp only [foldF]; omega, fun _ => by simp only [foldF]; omega⟩
  | s :: r, c, h => by
    simp only [foldF]
    by_cases h1 : (F c s).1 = true
    · rw [if_pos h1]; exact foldF_le hF r _ ((hF c s h).2 h1)
    · rw [if_neg h1]; exact hF c s h
theorem stmtF_le {nv na : Nat} : ∀ (d c : Nat) (s : LStmt), c ≤ 60 → (stmtF nv na d c s).2 ≤ 61 ∧ ((stmtF nv na d c s).1 = true → (stmtF nv na d c s).2 ≤ 60)
  | 0, c, s, h => by simp [stmtF]; omega
  | d + 1, c, s, h => by
    rw [stmtF]
    by_cases h1 : 60 < c + 1
    · rw [if_pos h1]; simp; omega
    rw [if_neg h1]
    by_cases h2 : headB nv na s = true
    · rw [if_pos h2]
      have h3 := foldF_le (stmtF_le (nv := nv) (na := na) d) s.body (c + 1) (by omega)
      by_cases h4 : (foldF (stmtF nv na d) (c + 1) s.body).1 = true
      · rw [if_pos h4]; exact foldF_le (stmtF_le d) s.els _ (h3.2 h4)
      · rw [if_neg h4]; exact h3
    · rw [if_neg h2]; simp; omega
theorem stmtsF_le {nv na d c : Nat} {ss : List LStmt} (h : c ≤ 60) (h1 : (stmtsF nv na d c ss).1 = true) : (stmtsF nv na d c ss).2 ≤ 60 := (foldF_le (stmtF_le d) ss c h).2 h1
section
variable {nv na d c : Nat} {s : LStmt}
theorem stmtF_over (h : 60 < c + 1) : stmtF nv na d c s = (false, c + 1) := by cases d with
  | zero => rfl
  | succ d => rw [stmtF, if_pos h]
theorem stmtF_bad (h : headB nv na s = false) : stmtF nv na d c s = (false, c + 1) := by cases d with
  | zero => rfl
  | succ d => rw [stmtF, h]; simp
theorem stmtF_body (h1 : c + 1 ≤ 60) (h : headB nv na s = true) (h2 : (stmtsF nv na d (c + 1) s.body).1 = false) : stmtF nv na (d + 1) c s = stmtsF nv na d (c + 1) s.body := by
  rw [stmtF, if_neg (by omega), if_pos h, if_neg (by simp [h2])]
theorem stmtF_els (h1 : c + 1 ≤ 60) (h : headB nv na s = true) (h2 : (stmtsF nv na d (c + 1) s.body).1 = true) : stmtF nv na (d + 1) c s = stmtsF nv na d (stmtsF nv na d (c + 1) s.body).2 s.els := by
  rw [stmtF, if_neg (by omega), if_pos h, if_pos h2]
end
/-- What the count comes to. -/
theorem foldF_eq {nv na d : Nat} (hF : ∀ c s, c ≤ 60 → ((stmtF nv na d c s).1 = (stmtB nv na d s && decide (c + nS s ≤ 60))) ∧ ((stmtF nv na d c s).1 = true → (stmtF nv na d c s).2 = c + nS s)) : ∀ (ss : List LStmt) (c : Nat), c ≤ 60 → ((stmtsF nv na d c ss).1 = (ss.all (stmtB nv na d) && decide (c + nSs ss ≤ 60))) ∧ ((stmtsF nv na d c ss).1 = true → (stmtsF nv na d c ss).2 = c + nSs ss)
  | [], c, h => by simp [foldF, nSs, h]
  | s :: r, c, h => by
    obtain ⟨h1, h2⟩ := hF c s h
    simp only [stmtsF, foldF]
    by_cases h3 : (stmtF nv na d c s).1 = true
    · rw [if_pos h3]
      have e := h2 h3
      have l := (stmtF_le d c s h).2 h3
      obtain ⟨h4, h5⟩ := foldF_eq hF r (stmtF nv na d c s).2 l
      rw [h1, Bool.and_eq_true] at h3
      constructor
      · rw [show foldF (stmtF nv na d) (stmtF nv na d c s).2 r = stmtsF nv na d (stmtF nv na d c s).2 r from rfl, h4, List.all_cons, h3.1, Bool.true_and, e, nSs, Nat.add_assoc]
      · intro h6; rw [show foldF (stmtF nv na d) (stmtF nv na d c s).2 r = stmtsF nv na d (stmtF nv na d c s).2 r from rfl, h5 h6, e, nSs]; omega
    · rw [if_neg h3]
      refine ⟨?_, fun h => absurd h h3⟩
      have h4 := h3
      rw [h1] at h4
      rw [Bool.eq_false_iff.2 h3, List.all_cons, nSs]
      cases ha : stmtB nv na d s
      · simp
      · rw [ha, Bool.true_and, decide_eq_true_eq] at h4
        rw [Bool.true_and, show decide (c + (nS s + nSs r) ≤ 60) = false from decide_eq_false (by omega), Bool.and_false]
theorem stmtF_eq {nv na : Nat} : ∀ (d c : Nat) (s : LStmt), c ≤ 60 → ((stmtF nv na d c s).1 = (stmtB nv na d s && decide (c + nS s ≤ 60))) ∧ ((stmtF nv na d c s).1 = true → (stmtF nv na d c s).2 = c + nS s)
  | 0, c, s, h => by simp [stmtF, stmtB]
  | d + 1, c, s, h => by
    have hs := nS_def s
    by_cases h1 : 60 < c + 1
    · rw [stmtF_over h1, show decide (c + nS s ≤ 60) = false from decide_eq_false (by omega), Bool.and_false]; simp
    cases h2 : headB nv na s
    · rw [stmtF_bad h2, stmtB_head, h2]; simp
    obtain ⟨b1, b2⟩ := foldF_eq (stmtF_eq (nv := nv) (na := na) d) s.body (c + 1) (by omega)
    rw [stmtB_head, h2, Bool.true_and]
    cases h3 : (stmtsF nv na d (c + 1) s.body).1
    · rw [stmtF_body (by omega) h2 h3, h3]
      refine ⟨?_, fun h => by simp at h⟩
      rw [h3] at b1
      cases h4 : s.body.all (stmtB nv na d)
      · simp
      · rw [h4, Bool.true_and] at b1
        have := of_decide_eq_false b1.symm
        rw [show decide (c + nS s ≤ 60) = false from decide_eq_false (by omega), Bool.and_false]
    · rw [stmtF_els (by omega) h2 h3]
      have e := b2 h3
      have l := stmtsF_le (nv := nv) (na := na) (d := d) (c := c + 1) (by omega) h3
      obtain ⟨e1, e2⟩ := foldF_eq (stmtF_eq (nv := nv) (na := na) d) s.els _ l
      rw [h3] at b1
      have b3 := b1.symm
      rw [Bool.and_eq_true] at b3
      rw [b3.1, Bool.true_and, e1, e]
      refine ⟨by rw [show c + 1 + nSs s.body + nSs s.els = c + nS s by omega], fun h => ?_⟩
      have h' : (stmtsF nv na d (stmtsF nv na d (c + 1) s.body).2 s.els).1 = true := by rw [e1, e]; exact h
      have := e2 h'
      rw [e] at this
      rw [this]; omega
theorem stmtsF_prog {p : LProg} (h : headsB p.vars p.arrays = true) : (stmtsF p.vars.length p.arrays.length 5 0 p.body).1 = progB p := by
  rw [(foldF_eq (stmtF_eq 5) p.body 0 (by omega)).1, progB, h, Bool.true_and, blockB]; simp

set_option maxRecDepth 100000 in
theorem c_stmt0 (p : LProg) (s : LStmt) (c : Nat) (hc : c ≤ 60) (n : Int) (hn : n = 6) : Ctr.ok Try.prog ⟨181, [pA 0, sA s 4, iA n, .ptr 3 0], pS p ++ [.box [iA c]] ++ sS s, pS p ++ [.box [iA (stmtF p.vars.length p.arrays.length 0 c s).2]] ++ sS s, bA false⟩ := by
  have h100 : decide (n > 5) = true := by simp; omega
  refine rx_enter 149 Try.func181 (by rfl) (by kernel_rfl) (by kernel_rfl) ?_
  intro ι φ ψ w0 w F ρ0 ρ a G
  replace G := Gam.at G [dI p.vars, dI p.arrays, dT p.body, .box [iA (↑c : Int)], dE s.index.kids, dE s.value.kids, dT s.body, dT s.els] [(0, pA 0), (1, sA s 4), (2, iA n), (3, .ptr 3 0)]
  refine wp_seq ?_
  refine rs0 G [0, 1, 2, 3, 4, 5, 6, 7, 8, 16] [dI p.vars, dI p.arrays, dT p.body, .box [iA (↑c : Int)], dE s.index.kids, dE s.value.kids, dT s.body, dT s.els, .box (pL 0), .box (sL s 4)] [(2, iA n), (3, .ptr 3 0), (4, .ptr 8 0), (5, .ptr 9 0), (8, bA false)] ?_
  clear G; intro ρ a w G
  refine th_n ?_
  refine wp_seq ?_
  refine rs1 (dk := dkP) G ⟨[], [], []⟩ calls_nil trivial [0, 1, 2, 3, 4, 5, 6, 7, 8, 9] [dI p.vars, dI p.arrays, dT p.body, .box [iA ((↑c : Int) + 1)], dE s.index.kids, dE s.value.kids, dT s.body, dT s.els, .box (pL 0), .box (sL s 4)] [(2, iA n), (3, .ptr 3 0), (4, .ptr 8 0), (5, .ptr 9 0), (8, bA false)] [IntKind.i64.wrap ((↑c : Int) + (1 : Int)) = (↑c : Int) + (1 : Int)] ⟨(by exact w64 (by omega) (by omega)), trivial⟩ ?_
  clear G; intro ρ a w G
  refine th_n ?_
  refine wp_seq ?_
  refine wp_seq ?_
  cases h0 : (decide ((↑c : Int) + (1 : Int) > (60 : Int)))
  ·
   have q0 : ¬ ((↑c : Int) + 1 > 60) := of_decide_eq_false h0
   refine rs1s G ⟨[], [(decide ((↑c : Int) + (1 : Int) > (60 : Int)), false)], [(5, 0), (6, 0), (1007, 0)]⟩ calls_nil ⟨(by assumption), trivial⟩ [(2, iA n), (3, .ptr 3 0), (4, .ptr 8 0), (5, .ptr 9 0), (8, bA false), (27, bA (decide (n > 5)))] [] trivial ?_
   clear G; intro ρ a w G
   refine th_n ?_
   refine rT G (decide (n > (5 : Int))) (by assumption) ?_
   refine wp_seq ?_
   refine rs0s G [(2, iA n), (3, .ptr 3 0), (4, .ptr 8 0), (5, .ptr 9 0), (8, bA false)] ?_
   clear G; intro ρ a w G
   refine th_n ?_
   refine wp_ret ?_
   refine th_r ?_
   exact rx_ret (v := bA false) G [0, 1, 2, 3, 4, 5, 6, 7] (by kernel_rfl) (by kernel_rfl) (by kernel_rfl) (by kernel_rfl)
  ·
   have q0 : (↑c : Int) + 1 > 60 := of_decide_eq_true h0
   refine rs1s G ⟨[], [(decide ((↑c : Int) + (1 : Int) > (60 : Int)), true)], [(5, 0), (6, 0), (1007, 0)]⟩ calls_nil ⟨(by assumption), trivial⟩ [(2, iA n), (3, .ptr 3 0), (4, .ptr 8 0), (5, .ptr 9 0), (8, bA false), (27, bA true)] [] trivial ?_
   clear G; intro ρ a w G
   refine th_n ?_
   refine rT G (true) (by kernel_rfl) ?_
   refine wp_seq ?_
   refine rs0s G [(2, iA n), (3, .ptr 3 0), (4, .ptr 8 0), (5, .ptr 9 0), (8, bA false)] ?_
   clear G; intro ρ a w G
   refine th_n ?_
   refine wp_ret ?_
   refine th_r ?_
   exact rx_ret (v := bA false) G [0, 1, 2, 3, 4, 5, 6, 7] (by kernel_rfl) (by kernel_rfl) (by kernel_rfl) (by kernel_rfl)

end Go.Proofs.Ytgpkdfefgcpbiaa

namespace Go.Proofs.Ytgpkdfefgcpbiaa
set_option linter.unusedVariables false
set_option linter.unusedSimpArgs false
open Go Go.RowKit

abbrev stmtC (p : LProg) (d c : Nat) (s : LStmt) (n : Int) : Ctr := ⟨181, [pA 0, sA s 4, iA n, .ptr 3 0], pS p ++ [.box [iA c]] ++ sS s, pS p ++ [.box [iA (stmtF p.vars.length p.arrays.length d c s).2]] ++ sS s, bA (stmtF p.vars.length p.arrays.length d c s).1⟩
abbrev stmtsC (p : LProg) (d c : Nat) (ss : List LStmt) (n : Int) : Ctr := ⟨147, [pA 0, .ref 4, iA n, .ptr 3 0], pS p ++ [.box [iA c]] ++ [.dat (.stmts ss)], pS p ++ [.box [iA (stmtsF p.vars.length p.arrays.length d c ss).2]] ++ [.dat (.stmts ss)], bA (stmtsF p.vars.length p.arrays.length d c ss).1⟩

set_option maxRecDepth 100000 in
theorem c_stmtsS (p : LProg) (d : Nat) (hd : d ≤ 5) (ih : ∀ (s : LStmt) (c : Nat) (n : Int), c ≤ 60 → n = 6 - (d : Int) → Ctr.ok Try.prog (stmtC p d c s n))
    (ss : List LStmt) (c : Nat) (n : Int) (hc : c ≤ 60) (hn : n = 6 - (d : Int)) : Ctr.ok Try.prog (stmtsC p d c ss n) := by
  refine rx_enter 24 Try.func147 (by rfl) (by kernel_rfl) (by kernel_rfl) ?_
  intro ι φ ψ w0 w F ρ0 ρ a G
  replace G := Gam.at G [dI p.vars, dI p.arrays, dT p.body, .box [iA (↑c : Int)], dT ss] [(0, pA 0), (1, .ref 4), (2, iA n), (3, .ptr 3 0)]
  refine wp_seq ?_
  refine rs0 G [0, 1, 2, 3, 4, 5] [dI p.vars, dI p.arrays, dT p.body, .box [iA (↑c : Int)], dT ss, .box (pL 0)] [(1, .ref 4), (2, iA n), (3, .ptr 3 0), (4, .ptr 5 0), (8, bA false)] ?_
  clear G; intro ρ a w G
  refine th_n ?_
  refine wp_seq ?_
  refine wp_seq ?_
  refine rs0s G [(2, iA n), (3, .ptr 3 0), (4, .ptr 5 0), (8, bA false), (11, .ref 4), (12, iA (↑ss.length : Int)), (13, iA 0)] ?_
  clear G; intro ρ a w G
  refine th_n ?_
  refine wp_block ?_
  have hlen : ss.length ≤ 9223372036854775807 := G.len 4 (d := .stmts ss) (by kernel_rfl)
  refine rx_for (κ := Nat) (fun k => k ≤ ss.length ∧ (stmtsF p.vars.length p.arrays.length d c (ss.take k)).1 = true) (fun k => ss.length - k) (fun k => [dI p.vars, dI p.arrays, dT p.body, .box [iA (stmtsF p.vars.length p.arrays.length d c (ss.take k)).2], dT ss, .box (pL 0)]) (fun k => [(2, iA n), (3, .ptr 3 0), (4, .ptr 5 0), (8, bA false), (11, .ref 4), (12, iA (↑ss.length : Int)), (13, iA k)]) (0) (by simp [stmtsF, foldF]; done) (Gam.at G _ _) ?_
  clear G
  intro k ρ a w hp G
  replace G := Gam.at G [dI p.vars, dI p.arrays, dT p.body, .box [iA (↑(stmtsF p.vars.length p.arrays.length d c (List.take k ss)).snd : Int)], dT ss, .box (pL 0)] [(2, iA n), (3, .ptr 3 0), (4, .ptr 5 0), (8, bA false), (11, .ref 4), (12, iA (↑ss.length : Int)), (13, iA (↑k : Int))]
  refine wp_seq ?_
  refine rs0s G [(2, iA n), (3, .ptr 3 0), (4, .ptr 5 0), (8, bA false), (11, .ref 4), (12, iA (↑ss.length : Int)), (13, iA (↑k : Int)), (14, bA (decide ((↑k : Int) < (↑ss.length : Int))))] ?_
  clear G; intro ρ a w G
  refine th_n ?_
  refine wp_seq ?_
  cases h0 : (decide ((↑k : Int) < (↑ss.length : Int)))
  ·
   have q0 : ¬ ((↑k : Int) < (↑ss.length : Int)) := of_decide_eq_false h0
   refine rF G (decide ((↑k : Int) < (↑ss.length : Int))) (by assumption) ?_
   refine wp_exit ?_
   refine th_e ?_
   refine th_e ?_
   refine bl_hit ?_
   refine th_n ?_
   refine wp_seq ?_
   refine rs0 G [0, 1, 2, 3, 4] [dI p.vars, dI p.arrays, dT p.body, .box [iA (↑(stmtsF p.vars.length p.arrays.length d c (List.take k ss)).snd : Int)], dT ss] [(8, bA true)] ?_
   clear G; intro ρ a w G
   refine th_n ?_
   refine wp_ret ?_
   exact rx_ret (v := bA true) G [0, 1, 2, 3, 4] (by kernel_rfl) (by kernel_rfl) (by have e1 : ((↑(stmtsF p.vars.length p.arrays.length d c ss).snd : Int) : Int) = ((↑(stmtsF p.vars.length p.arrays.length d c (List.take k ss)).snd : Int)) := (by rw [stmtsF, ← foldF_full (k := k) (by omega)]); first | (rw [e1]; done) | (rw [e1]; rfl) | (simp only [e1]; done) | (simp only [e1]; rfl)) (by have e1 : ((stmtsF p.vars.length p.arrays.length d c ss).fst : Bool) = (true) := (by rw [stmtsF, ← foldF_full (k := k) (by omega)]; exact hp.2); first | (rw [e1]; done) | (rw [e1]; rfl) | (simp only [e1]; done) | (simp only [e1]; rfl))
  ·
   have q0 : (↑k : Int) < (↑ss.length : Int) := of_decide_eq_true h0
   refine rT G (decide ((↑k : Int) < (↑ss.length : Int))) (by assumption) ?_
   refine wp_skip ?_
   refine th_n ?_
   refine wp_seq ?_
   refine wp_block ?_
   refine wp_seq ?_
   refine rs1 (dk := dkP) G ⟨[], [], []⟩ calls_nil trivial [0, 1, 2, 3, 4, 5, 14, 15, 16, 17, 22] [dI p.vars, dI p.arrays, dT p.body, .box [iA (↑(stmtsF p.vars.length p.arrays.length d c (List.take k ss)).snd : Int)], dT ss, .box (pL 0), dE (ss.getD k default).index.kids, dE (ss.getD k default).value.kids, dT (ss.getD k default).body, dT (ss.getD k default).els, .box (sL (ss.getD k default) 6)] [(2, iA n), (3, .ptr 3 0), (4, .ptr 5 0), (8, bA false), (10, .ptr 10 0), (11, .ref 4), (12, iA (↑ss.length : Int)), (13, iA (↑k : Int))] [(0 : Int) ≤ (↑k : Int), (↑k : Int) < (↑ss.length : Int), k < ss.length] ⟨(by simp [h0]), (by assumption), (by have hp := hp; omega), trivial⟩ ?_
   clear G; intro ρ a w G
   refine th_n ?_
   refine wp_seq ?_
   refine rs1 (dk := dkP) G ⟨[(4, _, [0, 1, 2, 3, 6, 7, 8, 9])], [], []⟩ (calls_cons (ih (ss.getD k default) ((stmtsF p.vars.length p.arrays.length d c (List.take k ss)).snd) (n) (by exact stmtsF_le (by omega) hp.2) (by assumption)) calls_nil) trivial [0, 1, 2, 3, 4, 5] [dI p.vars, dI p.arrays, dT p.body, .box [iA (↑(stmtF p.vars.length p.arrays.length d (stmtsF p.vars.length p.arrays.length d c (List.take k ss)).snd (ss.getD k default)).snd : Int)], dT ss, .box (pL 0)] [(2, iA n), (3, .ptr 3 0), (4, .ptr 5 0), (8, bA false), (11, .ref 4), (12, iA (↑ss.length : Int)), (13, iA (↑k : Int)), (22, .v (.bool !(stmtF p.vars.length p.arrays.length d (stmtsF p.vars.length p.arrays.length d c (List.take k ss)).snd (ss.getD k default)).fst))] [] trivial ?_
   clear G; intro ρ a w G
   refine th_n ?_
   cases h1 : (!(stmtF p.vars.length p.arrays.length d (stmtsF p.vars.length p.arrays.length d c (List.take k ss)).snd (ss.getD k default)).fst)
   ·
    have q1 : ((stmtF p.vars.length p.arrays.length d (stmtsF p.vars.length p.arrays.length d c (List.take k ss)).snd (ss.getD k default)).fst) = true := (fun hq => (hq)) (Eq.mp (Bool.not_eq_false' _) h1)
    refine rF G (!(stmtF p.vars.length p.arrays.length d (stmtsF p.vars.length p.arrays.length d c (List.take k ss)).snd (ss.getD k default)).fst) (by assumption) ?_
    refine wp_skip ?_
    refine bl_n ?_
    refine th_n ?_
    refine rs1s G ⟨[], [], []⟩ calls_nil trivial [(2, iA n), (3, .ptr 3 0), (4, .ptr 5 0), (8, bA false), (11, .ref 4), (12, iA (↑ss.length : Int)), (13, iA ((↑k : Int) + 1))] [IntKind.i64.wrap ((↑k : Int) + (1 : Int)) = (↑k : Int) + (1 : Int)] ⟨(by exact w64 (by omega) (by omega)), trivial⟩ ?_
    clear G; intro ρ a w G
    refine th_n ?_
    exact rx_next G (k + 1) (by exact ⟨by omega, by rw [stmtsF, foldF_next hp.2 (by omega)]; assumption⟩) (by have hp := hp; omega) [0, 1, 2, 3, 4, 5] [dI p.vars, dI p.arrays, dT p.body, .box [iA (↑(stmtsF p.vars.length p.arrays.length d c (List.take (k + 1) ss)).snd : Int)], dT ss, .box (pL 0)] [(2, iA n), (3, .ptr 3 0), (4, .ptr 5 0), (8, bA false), (11, .ref 4), (12, iA (↑ss.length : Int)), (13, iA (↑(k + 1) : Int))] (by kernel_rfl) (by kernel_rfl) (by kernel_rfl) (by have e1 : ((↑(stmtsF p.vars.length p.arrays.length d c (List.take (k + 1) ss)).snd : Int) : Int) = ((↑(stmtF p.vars.length p.arrays.length d (stmtsF p.vars.length p.arrays.length d c (List.take k ss)).snd (ss.getD k default)).snd : Int)) := (by rw [stmtsF, foldF_next hp.2 (by omega)]); first | (rw [e1]; done) | (rw [e1]; rfl) | (simp only [e1]; done) | (simp only [e1]; rfl)) (by kernel_rfl)
   ·
    have q1 : ((stmtF p.vars.length p.arrays.length d (stmtsF p.vars.length p.arrays.length d c (List.take k ss)).snd (ss.getD k default)).fst) = false := (fun hq => (hq)) (Eq.mp (Bool.not_eq_true' _) h1)
    refine rT G (!(stmtF p.vars.length p.arrays.length d (stmtsF p.vars.length p.arrays.length d c (List.take k ss)).snd (ss.getD k default)).fst) (by assumption) ?_
    refine wp_seq ?_
    refine rs0s G [(2, iA n), (3, .ptr 3 0), (4, .ptr 5 0), (8, bA false), (11, .ref 4), (12, iA (↑ss.length : Int)), (13, iA (↑k : Int))] ?_
    clear G; intro ρ a w G
    refine th_n ?_
    refine wp_ret ?_
    refine bl_r ?_
    refine th_r ?_
    refine th_r ?_
    refine bl_r ?_
    refine th_r ?_
    exact rx_ret (v := bA false) G [0, 1, 2, 3, 4] (by kernel_rfl) (by kernel_rfl) (by have e1 : ((↑(stmtsF p.vars.length p.arrays.length d c ss).snd : Int) : Int) = ((↑(stmtF p.vars.length p.arrays.length d (stmtsF p.vars.length p.arrays.length d c (List.take k ss)).snd (ss.getD k default)).snd : Int)) := (by rw [stmtsF, foldF_stop hp.2 (by omega) (by assumption)]); first | (rw [e1]; done) | (rw [e1]; rfl) | (simp only [e1]; done) | (simp only [e1]; rfl)) (by have e1 : ((stmtsF p.vars.length p.arrays.length d c ss).fst : Bool) = (false) := (by rw [stmtsF, foldF_stop hp.2 (by omega) (by assumption)]; assumption); first | (rw [e1]; done) | (rw [e1]; rfl) | (simp only [e1]; done) | (simp only [e1]; rfl))

section
variable {nv na : Nat} {s : LStmt}
theorem head1 (k : s.kind = 1 ∨ s.kind = 5) : headB nv na s = (decide (0 ≤ s.target ∧ s.target < nv ∧ s.body.length = 0 ∧ s.els.length = 0 ∧ s.count = 0) && (noneB s.index && rightB nv na s.value)) := by
  rw [headB, partsB, if_pos k, if_neg (by omega), show decide (s.kind = 2) = false from decide_eq_false (by omega), Bool.eq_iff_iff]
  simp only [Bool.and_eq_true, decide_eq_true_eq, Bool.false_or]
  constructor
  · rintro ⟨⟨⟨⟨a, b⟩, c⟩, d⟩, ⟨e, f⟩, g⟩; exact ⟨⟨e, f, a, b, c⟩, d, g⟩
  · rintro ⟨⟨e, f, a, b, c⟩, d, g⟩; exact ⟨⟨⟨⟨a, b⟩, c⟩, d⟩, ⟨e, f⟩, g⟩
theorem head2 (k : s.kind = 2) : headB nv na s = (decide (0 ≤ s.target ∧ s.target < na ∧ s.body.length = 0 ∧ s.els.length = 0 ∧ s.count = 0) && (rightB nv na s.index && (atomB s.index && rightB nv na s.value))) := by
  rw [headB, partsB, if_neg (by omega), if_pos k, if_neg (by omega), show decide (s.kind = 2) = true from decide_eq_true k, Bool.eq_iff_iff]
  simp only [Bool.and_eq_true, decide_eq_true_eq, Bool.true_or]
  constructor
  · rintro ⟨⟨⟨⟨a, b⟩, c⟩, -⟩, ⟨⟨⟨e, f⟩, i⟩, j⟩, g⟩; exact ⟨⟨e, f, a, b, c⟩, i, j, g⟩
  · rintro ⟨⟨e, f, a, b, c⟩, i, j, g⟩; exact ⟨⟨⟨⟨a, b⟩, c⟩, trivial⟩, ⟨⟨⟨e, f⟩, i⟩, j⟩, g⟩
theorem head3 (k : s.kind = 3) : headB nv na s = (decide (s.target = 0 ∧ s.count = 0) && (noneB s.index && rightB nv na s.value)) := by
  rw [headB, partsB, if_pos (show s.kind = 3 ∨ s.kind = 4 from .inl k), if_neg (show ¬ s.kind = 4 by omega), if_neg (by omega), if_neg (by omega), if_pos k, Bool.eq_iff_iff]
  simp only [Bool.and_eq_true, decide_eq_true_eq]
  constructor
  · rintro ⟨⟨a, b, c⟩, d⟩; exact ⟨⟨a, b⟩, c, d⟩
  · rintro ⟨⟨a, b⟩, c, d⟩; exact ⟨⟨a, b, c⟩, d⟩
theorem head4 (k : s.kind = 4) : headB nv na s = (decide (s.target = 0 ∧ s.els.length = 0 ∧ 1 ≤ s.count ∧ s.count ≤ 3) && (noneB s.index && noneB s.value)) := by
  rw [headB, partsB, if_pos (show s.kind = 3 ∨ s.kind = 4 from .inr k), if_pos k, if_neg (by omega), if_neg (by omega), if_neg (by omega), show decide (s.kind = 4) = true from decide_eq_true k, Bool.eq_iff_iff]
  simp only [Bool.and_eq_true, decide_eq_true_eq]
  constructor
  · rintro ⟨⟨a, ⟨⟨⟨b, c⟩, d⟩, e⟩, f⟩, -⟩; exact ⟨⟨a, b, c, d⟩, e, f⟩
  · rintro ⟨⟨a, b, c, d⟩, e, f⟩; exact ⟨⟨a, ⟨⟨⟨b, c⟩, d⟩, e⟩, f⟩, trivial⟩
theorem head0 (k : ¬ s.kind = 1 ∧ ¬ s.kind = 2 ∧ ¬ s.kind = 3 ∧ ¬ s.kind = 4 ∧ ¬ s.kind = 5) : headB nv na s = false := by
  rw [headB, if_neg (by omega), if_neg (by omega), if_neg (by omega), show decide (s.kind = 4) = false from decide_eq_false (by omega), Bool.and_false]
theorem and_t {p : Prop} [Decidable p] {a b : Bool} (hp : p) (ha : a = true) (hb : b = true) : (decide p && (a && b)) = true := by rw [ha, hb, decide_eq_true hp]; rfl
theorem and_t3 {p : Prop} [Decidable p] {a b c : Bool} (hp : p) (ha : a = true) (hb : b = true) (hc : c = true) : (decide p && (a && (b && c))) = true := by rw [ha, hb, hc, decide_eq_true hp]; rfl
end

set_option maxHeartbeats 4000000 in
set_option maxRecDepth 100000 in
theorem c_stmtS (p : LProg) (d : Nat) (hd : d ≤ 4) (ih : ∀ (ss : List LStmt) (c : Nat) (n : Int), c ≤ 60 → n = 6 - (d : Int) → Ctr.ok Try.prog (stmtsC p d c ss n))
    (s : LStmt) (c : Nat) (n : Int) (hc : c ≤ 60) (hn : n = 5 - (d : Int)) : Ctr.ok Try.prog (stmtC p (d + 1) c s n) := by
  have h100 : decide (n > 5) = false := by simp; omega
  refine rx_enter 149 Try.func181 (by rfl) (by kernel_rfl) (by kernel_rfl) ?_
  intro ι φ ψ w0 w F ρ0 ρ a G
  replace G := Gam.at G [dI p.vars, dI p.arrays, dT p.body, .box [iA (↑c : Int)], dE s.index.kids, dE s.value.kids, dT s.body, dT s.els] [(0, pA 0), (1, sA s 4), (2, iA n), (3, .ptr 3 0)]
  have hl0 : p.vars.length ≤ 9223372036854775807 := G.len 0 (d := .ints p.vars) (by kernel_rfl)
  have hl1 : p.arrays.length ≤ 9223372036854775807 := G.len 1 (d := .ints p.arrays) (by kernel_rfl)
  refine wp_seq ?_
  refine rs0 G [0, 1, 2, 3, 4, 5, 6, 7, 8, 16] [dI p.vars, dI p.arrays, dT p.body, .box [iA (↑c : Int)], dE s.index.kids, dE s.value.kids, dT s.body, dT s.els, .box (pL 0), .box (sL s 4)] [(2, iA n), (3, .ptr 3 0), (4, .ptr 8 0), (5, .ptr 9 0), (8, bA false)] ?_
  clear G; intro ρ a w G
  refine th_n ?_
  refine wp_seq ?_
  refine rs1 (dk := dkP) G ⟨[], [], []⟩ calls_nil trivial [0, 1, 2, 3, 4, 5, 6, 7, 8, 9] [dI p.vars, dI p.arrays, dT p.body, .box [iA ((↑c : Int) + 1)], dE s.index.kids, dE s.value.kids, dT s.body, dT s.els, .box (pL 0), .box (sL s 4)] [(2, iA n), (3, .ptr 3 0), (4, .ptr 8 0), (5, .ptr 9 0), (8, bA false)] [IntKind.i64.wrap ((↑c : Int) + (1 : Int)) = (↑c : Int) + (1 : Int)] ⟨(by exact w64 (by omega) (by omega)), trivial⟩ ?_
  clear G; intro ρ a w G
  refine th_n ?_
  refine wp_seq ?_
  refine wp_seq ?_
  cases h0 : (decide ((↑c : Int) + (1 : Int) > (60 : Int)))
  ·
   have q0 : ¬ ((↑c : Int) + 1 > 60) := of_decide_eq_false h0
   refine rs1s G ⟨[], [(decide ((↑c : Int) + (1 : Int) > (60 : Int)), false)], [(5, 0), (6, 0), (1007, 0)]⟩ calls_nil ⟨(by assumption), trivial⟩ [(2, iA n), (3, .ptr 3 0), (4, .ptr 8 0), (5, .ptr 9 0), (8, bA false), (27, bA (decide (n > 5)))] [] trivial ?_
   clear G; intro ρ a w G
   refine th_n ?_
   refine rF G (decide (n > (5 : Int))) (by assumption) ?_
   refine wp_skip ?_
   refine th_n ?_
   refine wp_seq ?_
   refine rs0s G [(2, iA n), (3, .ptr 3 0), (4, .ptr 8 0), (5, .ptr 9 0), (8, bA false), (9, iA 1), (10, bA false), (11, bA true), (12, bA false), (13, bA false), (14, bA false)] ?_
   clear G; intro ρ a w G
   refine th_n ?_
   refine wp_seq ?_
   refine wp_seq ?_
   refine rs0s G [(2, iA n), (3, .ptr 3 0), (4, .ptr 8 0), (5, .ptr 9 0), (8, bA false), (9, iA 1), (10, bA false), (11, bA true), (12, bA false), (13, bA false), (14, bA false), (29, iA s.kind)] ?_
   clear G; intro ρ a w G
   refine th_n ?_
   refine wp_block ?_
   refine wp_seq ?_
   refine wp_seq ?_
   refine rs0s G [(2, iA n), (3, .ptr 3 0), (4, .ptr 8 0), (5, .ptr 9 0), (8, bA false), (9, iA 1), (10, bA false), (11, bA true), (12, bA false), (13, bA false), (14, bA false), (29, iA s.kind), (30, bA (s.kind == 1))] ?_
   clear G; intro ρ a w G
   refine th_n ?_
   cases h1 : (s.kind == (1 : Int))
   ·
    have q1 : ¬ (s.kind = 1) := ne_of_beq_false h1
    refine rF G (s.kind == (1 : Int)) (by assumption) ?_
    refine rs0s G [(2, iA n), (3, .ptr 3 0), (4, .ptr 8 0), (5, .ptr 9 0), (8, bA false), (9, iA 1), (10, bA false), (11, bA true), (12, bA false), (13, bA false), (14, bA false), (29, iA s.kind), (30, bA (s.kind == 5))] ?_
    clear G; intro ρ a w G
    refine th_n ?_
    cases h2 : (s.kind == (5 : Int))
    ·
     have q2 : ¬ (s.kind = 5) := ne_of_beq_false h2
     refine rF G (s.kind == (5 : Int)) (by assumption) ?_
     refine wp_seq ?_
     refine rs0s G [(2, iA n), (3, .ptr 3 0), (4, .ptr 8 0), (5, .ptr 9 0), (8, bA false), (9, iA 1), (10, bA false), (11, bA true), (12, bA false), (13, bA false), (14, bA false), (29, iA s.kind), (36, bA (s.kind == 2))] ?_
     clear G; intro ρ a w G
     refine th_n ?_
     cases h3 : (s.kind == (2 : Int))
     ·
      have q3 : ¬ (s.kind = 2) := ne_of_beq_false h3
      refine rF G (s.kind == (2 : Int)) (by assumption) ?_
      refine wp_seq ?_
      refine rs0s G [(2, iA n), (3, .ptr 3 0), (4, .ptr 8 0), (5, .ptr 9 0), (8, bA false), (9, iA 1), (10, bA false), (11, bA true), (12, bA false), (13, bA false), (14, bA false), (29, iA s.kind), (41, bA (s.kind == 3))] ?_
      clear G; intro ρ a w G
      refine th_n ?_
      cases h4 : (s.kind == (3 : Int))
      ·
       have q4 : ¬ (s.kind = 3) := ne_of_beq_false h4
       refine rF G (s.kind == (3 : Int)) (by assumption) ?_
       refine wp_seq ?_
       refine rs0s G [(2, iA n), (3, .ptr 3 0), (4, .ptr 8 0), (5, .ptr 9 0), (8, bA false), (9, iA 1), (10, bA false), (11, bA true), (12, bA false), (13, bA false), (14, bA false), (43, bA (s.kind == 4))] ?_
       clear G; intro ρ a w G
       refine th_n ?_
       cases h5 : (s.kind == (4 : Int))
       ·
        have q5 : ¬ (s.kind = 4) := ne_of_beq_false h5
        refine rF G (s.kind == (4 : Int)) (by assumption) ?_
        refine wp_seq ?_
        refine rs0s G [(2, iA n), (3, .ptr 3 0), (4, .ptr 8 0), (5, .ptr 9 0), (8, bA false), (9, iA 1), (10, bA false), (11, bA true), (12, bA false), (13, bA false), (14, bA false)] ?_
        clear G; intro ρ a w G
        refine th_n ?_
        refine wp_ret ?_
        refine bl_r ?_
        refine th_r ?_
        exact rx_ret (v := bA false) G [0, 1, 2, 3, 4, 5, 6, 7] (by kernel_rfl) (by kernel_rfl) (by have e1 : ((↑(stmtF p.vars.length p.arrays.length (d + 1) c s).snd : Int) : Int) = ((↑c : Int) + 1) := (by rw [stmtF_bad (by exact head0 (by omega))]; rfl); first | (rw [e1]; done) | (rw [e1]; rfl) | (simp only [e1]; done) | (simp only [e1]; rfl)) (by have e1 : ((stmtF p.vars.length p.arrays.length (d + 1) c s).fst : Bool) = (false) := (by rw [stmtF_bad (by exact head0 (by omega))]; done); first | (rw [e1]; done) | (rw [e1]; rfl) | (simp only [e1]; done) | (simp only [e1]; rfl))
       ·
        have q5 : s.kind = 4 := eq_of_beq h5
        refine rT G (s.kind == (4 : Int)) (by assumption) ?_
        refine rs0s G [(2, iA n), (3, .ptr 3 0), (4, .ptr 8 0), (5, .ptr 9 0), (8, bA false), (9, iA 1), (10, bA false), (11, bA false), (12, bA true), (13, bA true), (14, bA false)] ?_
        clear G; intro ρ a w G
        refine bl_n ?_
        refine th_n ?_
        refine wp_seq ?_
        refine wp_seq ?_
        cases h6 : (!(decide ((0 : Int) ≤ s.target) && decide (s.target ≤ (0 : Int))))
        ·
         have q6 : (0 ≤ s.target) ∧ (s.target ≤ 0) := (fun hq => And.imp (fun hq => of_decide_eq_true (hq)) (fun hq => of_decide_eq_true (hq)) (Bool.and_eq_true_iff.1 (hq))) (Eq.mp (Bool.not_eq_false' _) h6)
         cases h7 : (!(decide ((1 : Int) ≤ s.count) && decide (s.count ≤ (3 : Int))))
         ·
          have q7 : (1 ≤ s.count) ∧ (s.count ≤ 3) := (fun hq => And.imp (fun hq => of_decide_eq_true (hq)) (fun hq => of_decide_eq_true (hq)) (Bool.and_eq_true_iff.1 (hq))) (Eq.mp (Bool.not_eq_false' _) h7)
          refine rs1s G ⟨[(4, _, []), (11, _, [])], [(!(decide ((0 : Int) ≤ s.target) && decide (s.target ≤ (0 : Int))), false), (true, true), (!(decide ((1 : Int) ≤ s.count) && decide (s.count ≤ (3 : Int))), false), (false, false)], [(7, 0), (8, 0), (9, 1), (10, 1), (11, 1), (12, 1), (13, 0), (1013, 1), (1014, 0), (16, 2), (17, 2), (18, 2), (19, 3), (20, 3), (21, 3), (22, 2), (1022, 3), (1023, 2), (25, 3), (26, 3), (27, 3), (28, 3), (29, 3), (30, 3), (31, 3), (32, 3), (1032, 3), (1033, 3), (35, 3), (36, 3), (37, 3), (38, 1), (39, 1), (40, 1), (41, 1), (42, 3), (1042, 1), (1043, 3)]⟩ (calls_cons (c_within (s.target) (0) (0)) (calls_cons (c_within (s.count) (1) (3)) calls_nil)) ⟨(by assumption), (by kernel_rfl), (by assumption), (by kernel_rfl), trivial⟩ [(2, iA n), (3, .ptr 3 0), (4, .ptr 8 0), (5, .ptr 9 0), (8, bA false), (10, bA false), (11, bA false), (88, bA (decide ((↑s.els.length : Int) > 0)))] [IntKind.i64.wrap ((1 : Int) - (1 : Int)) = (1 : Int) - (1 : Int)] ⟨(by kernel_rfl), trivial⟩ ?_
          clear G; intro ρ a w G
          refine th_n ?_
          cases h8 : (decide ((↑s.els.length : Int) > (0 : Int)))
          ·
           have q8 : ¬ ((↑s.els.length : Int) > 0) := of_decide_eq_false h8
           refine rF G (decide ((↑s.els.length : Int) > (0 : Int))) (by assumption) ?_
           refine wp_skip ?_
           refine th_n ?_
           refine wp_seq ?_
           refine wp_seq ?_
           cases h9 : (!noneB s.index)
           ·
            have q9 : (noneB s.index) = true := (fun hq => (hq)) (Eq.mp (Bool.not_eq_false' _) h9)
            refine rs1s G ⟨[(20, _, [4]), (40, _, [5])], [(false, false), (true, true), (!noneB s.index, false)], [(2, 0), (3, 0), (4, 0), (5, 0), (6, 0), (7, 0), (12, 0), (1013, 0), (15, 0), (16, 0), (17, 0), (18, 1), (19, 1), (20, 1), (21, 1), (22, 0), (1022, 1), (1023, 0), (25, 2), (26, 2), (27, 0), (28, 0), (29, 0), (30, 0), (31, 0), (32, 2), (1032, 0), (1033, 2), (35, 0), (36, 0), (37, 0), (38, 1), (39, 1), (40, 1), (41, 1), (42, 0), (1042, 1), (1043, 0)]⟩ (calls_cons (c_isNone (s.index)) (calls_cons (c_isNone (s.value)) calls_nil)) ⟨(by kernel_rfl), (by kernel_rfl), (by assumption), trivial⟩ [(2, iA n), (3, .ptr 3 0), (4, .ptr 8 0), (5, .ptr 9 0), (8, bA false), (132, .v (.bool !noneB s.value))] [] trivial ?_
            clear G; intro ρ a w G
            refine th_n ?_
            cases h10 : (!noneB s.value)
            ·
             have q10 : (noneB s.value) = true := (fun hq => (hq)) (Eq.mp (Bool.not_eq_false' _) h10)
             refine rF G (!noneB s.value) (by assumption) ?_
             refine wp_skip ?_
             refine th_n ?_
             refine wp_seq ?_
             cases h11 : ((stmtsF p.vars.length p.arrays.length d (c + (1 : Nat)) s.body).fst)
             ·
              refine rs1 (dk := dkP) G ⟨[(6, _, [0, 1, 2, 3, 6])], [((stmtsF p.vars.length p.arrays.length d (c + (1 : Nat)) s.body).fst, false)], [(8, 0), (9, 0), (10, 0), (11, 0), (12, 0), (13, 0), (14, 0), (1015, 0)]⟩ (calls_cons (ih (s.body) (c + 1) (n + 1) (by simp; omega) (by omega)) calls_nil) ⟨(by assumption), trivial⟩ [0, 1, 2, 3, 4, 5, 6, 7] [dI p.vars, dI p.arrays, dT p.body, .box [iA (↑(stmtsF p.vars.length p.arrays.length d (c + 1) s.body).snd : Int)], dE s.index.kids, dE s.value.kids, dT s.body, dT s.els] [(8, bA false)] [IntKind.i64.wrap (n + (1 : Int)) = n + (1 : Int)] ⟨(by exact w64 (by omega) (by omega)), trivial⟩ ?_
              clear G; intro ρ a w G
              refine th_n ?_
              refine wp_ret ?_
              exact rx_ret (v := bA false) G [0, 1, 2, 3, 4, 5, 6, 7] (by kernel_rfl) (by kernel_rfl) (by have e1 : ((↑(stmtF p.vars.length p.arrays.length (d + 1) c s).snd : Int) : Int) = ((↑(stmtsF p.vars.length p.arrays.length d (c + 1) s.body).snd : Int)) := (by rw [stmtF_body (by omega) (by (rw [head4 (by omega)]; exact and_t (by omega) (by assumption) (by assumption))) (by assumption)]; done); first | (rw [e1]; done) | (rw [e1]; rfl) | (simp only [e1]; done) | (simp only [e1]; rfl)) (by have e1 : ((stmtF p.vars.length p.arrays.length (d + 1) c s).fst : Bool) = (false) := (by rw [stmtF_body (by omega) (by (rw [head4 (by omega)]; exact and_t (by omega) (by assumption) (by assumption))) (by assumption)]; assumption); first | (rw [e1]; done) | (rw [e1]; rfl) | (simp only [e1]; done) | (simp only [e1]; rfl))
             ·
              refine rs1 (dk := dkP) G ⟨[(6, _, [0, 1, 2, 3, 6]), (14, _, [0, 1, 2, 3, 7])], [((stmtsF p.vars.length p.arrays.length d (c + (1 : Nat)) s.body).fst, true)], [(8, 0), (9, 0), (10, 0), (11, 0), (12, 0), (13, 0), (14, 0), (1015, 0)]⟩ (calls_cons (ih (s.body) (c + 1) (n + 1) (by simp; omega) (by omega)) (calls_cons (ih (s.els) ((stmtsF p.vars.length p.arrays.length d (c + 1) s.body).snd) (n + 1) (by exact stmtsF_le (by omega) (by assumption)) (by omega)) calls_nil)) ⟨(by assumption), trivial⟩ [0, 1, 2, 3, 4, 5, 6, 7] [dI p.vars, dI p.arrays, dT p.body, .box [iA (↑(stmtsF p.vars.length p.arrays.length d (stmtsF p.vars.length p.arrays.length d (c + 1) s.body).snd s.els).snd : Int)], dE s.index.kids, dE s.value.kids, dT s.body, dT s.els] [(8, bA (stmtsF p.vars.length p.arrays.length d (stmtsF p.vars.length p.arrays.length d (c + 1) s.body).snd s.els).fst)] [IntKind.i64.wrap (n + (1 : Int)) = n + (1 : Int), IntKind.i64.wrap (n + (1 : Int)) = n + (1 : Int)] ⟨(by exact w64 (by omega) (by omega)), (by exact w64 (by omega) (by omega)), trivial⟩ ?_
              clear G; intro ρ a w G
              refine th_n ?_
              refine wp_ret ?_
              exact rx_ret (v := bA (stmtsF p.vars.length p.arrays.length d (stmtsF p.vars.length p.arrays.length d (c + 1) s.body).snd s.els).fst) G [0, 1, 2, 3, 4, 5, 6, 7] (by kernel_rfl) (by kernel_rfl) (by have e1 : ((↑(stmtF p.vars.length p.arrays.length (d + 1) c s).snd : Int) : Int) = ((↑(stmtsF p.vars.length p.arrays.length d (stmtsF p.vars.length p.arrays.length d (c + 1) s.body).snd s.els).snd : Int)) := (by rw [stmtF_els (by omega) (by (rw [head4 (by omega)]; exact and_t (by omega) (by assumption) (by assumption))) (by assumption)]; done); first | (rw [e1]; done) | (rw [e1]; rfl) | (simp only [e1]; done) | (simp only [e1]; rfl)) (by have e1 : ((stmtF p.vars.length p.arrays.length (d + 1) c s).fst : Bool) = ((stmtsF p.vars.length p.arrays.length d (stmtsF p.vars.length p.arrays.length d (c + 1) s.body).snd s.els).fst) := (by rw [stmtF_els (by omega) (by (rw [head4 (by omega)]; exact and_t (by omega) (by assumption) (by assumption))) (by assumption)]; done); first | (rw [e1]; done) | (rw [e1]; rfl) | (simp only [e1]; done) | (simp only [e1]; rfl))
            ·
             have q10 : (noneB s.value) = false := (fun hq => (hq)) (Eq.mp (Bool.not_eq_true' _) h10)
             refine rT G (!noneB s.value) (by assumption) ?_
             refine wp_seq ?_
             refine rs0s G [(2, iA n), (3, .ptr 3 0), (4, .ptr 8 0), (5, .ptr 9 0), (8, bA false)] ?_
             clear G; intro ρ a w G
             refine th_n ?_
             refine wp_ret ?_
             refine th_r ?_
             exact rx_ret (v := bA false) G [0, 1, 2, 3, 4, 5, 6, 7] (by kernel_rfl) (by kernel_rfl) (by have e1 : ((↑(stmtF p.vars.length p.arrays.length (d + 1) c s).snd : Int) : Int) = ((↑c : Int) + 1) := (by rw [stmtF_bad (by (rw [head4 (by omega)]; simp [h100, h0, q0, h1, q1, h2, q2, h3, q3, h4, q4, h5, q5, h6, q6, h7, q7, h8, q8, h9, q9, h10, q10]; done))]; rfl); first | (rw [e1]; done) | (rw [e1]; rfl) | (simp only [e1]; done) | (simp only [e1]; rfl)) (by have e1 : ((stmtF p.vars.length p.arrays.length (d + 1) c s).fst : Bool) = (false) := (by rw [stmtF_bad (by (rw [head4 (by omega)]; simp [h100, h0, q0, h1, q1, h2, q2, h3, q3, h4, q4, h5, q5, h6, q6, h7, q7, h8, q8, h9, q9, h10, q10]; done))]; done); first | (rw [e1]; done) | (rw [e1]; rfl) | (simp only [e1]; done) | (simp only [e1]; rfl))
           ·
            have q9 : (noneB s.index) = false := (fun hq => (hq)) (Eq.mp (Bool.not_eq_true' _) h9)
            refine rs1s G ⟨[(20, _, [4])], [(false, false), (true, true), (!noneB s.index, true)], [(2, 0), (3, 0), (4, 0), (5, 0), (6, 0), (7, 0), (12, 0), (1013, 0), (15, 0), (16, 0), (17, 0), (18, 1), (19, 1), (20, 1), (21, 1), (22, 0), (1022, 1), (1023, 0), (25, 2), (26, 2), (32, 2), (1033, 2), (35, 1), (36, 1), (37, 1), (42, 1), (1043, 1)]⟩ (calls_cons (c_isNone (s.index)) calls_nil) ⟨(by kernel_rfl), (by kernel_rfl), (by assumption), trivial⟩ [(2, iA n), (3, .ptr 3 0), (4, .ptr 8 0), (5, .ptr 9 0), (8, bA false), (132, bA true)] [] trivial ?_
            clear G; intro ρ a w G
            refine th_n ?_
            refine rT G (true) (by kernel_rfl) ?_
            refine wp_seq ?_
            refine rs0s G [(2, iA n), (3, .ptr 3 0), (4, .ptr 8 0), (5, .ptr 9 0), (8, bA false)] ?_
            clear G; intro ρ a w G
            refine th_n ?_
            refine wp_ret ?_
            refine th_r ?_
            exact rx_ret (v := bA false) G [0, 1, 2, 3, 4, 5, 6, 7] (by kernel_rfl) (by kernel_rfl) (by have e1 : ((↑(stmtF p.vars.length p.arrays.length (d + 1) c s).snd : Int) : Int) = ((↑c : Int) + 1) := (by rw [stmtF_bad (by (rw [head4 (by omega)]; simp [h100, h0, q0, h1, q1, h2, q2, h3, q3, h4, q4, h5, q5, h6, q6, h7, q7, h8, q8, h9, q9]; done))]; rfl); first | (rw [e1]; done) | (rw [e1]; rfl) | (simp only [e1]; done) | (simp only [e1]; rfl)) (by have e1 : ((stmtF p.vars.length p.arrays.length (d + 1) c s).fst : Bool) = (false) := (by rw [stmtF_bad (by (rw [head4 (by omega)]; simp [h100, h0, q0, h1, q1, h2, q2, h3, q3, h4, q4, h5, q5, h6, q6, h7, q7, h8, q8, h9, q9]; done))]; done); first | (rw [e1]; done) | (rw [e1]; rfl) | (simp only [e1]; done) | (simp only [e1]; rfl))
          ·
           have q8 : (↑s.els.length : Int) > 0 := of_decide_eq_true h8
           refine rT G (decide ((↑s.els.length : Int) > (0 : Int))) (by assumption) ?_
           refine wp_seq ?_
           refine rs0s G [(2, iA n), (3, .ptr 3 0), (4, .ptr 8 0), (5, .ptr 9 0), (8, bA false), (10, bA false), (11, bA false)] ?_
           clear G; intro ρ a w G
           refine th_n ?_
           refine wp_ret ?_
           refine th_r ?_
           exact rx_ret (v := bA false) G [0, 1, 2, 3, 4, 5, 6, 7] (by kernel_rfl) (by kernel_rfl) (by have e1 : ((↑(stmtF p.vars.length p.arrays.length (d + 1) c s).snd : Int) : Int) = ((↑c : Int) + 1) := (by rw [stmtF_bad (by (rw [head4 (by omega), decide_eq_false (by omega)]; rfl))]; rfl); first | (rw [e1]; done) | (rw [e1]; rfl) | (simp only [e1]; done) | (simp only [e1]; rfl)) (by have e1 : ((stmtF p.vars.length p.arrays.length (d + 1) c s).fst : Bool) = (false) := (by rw [stmtF_bad (by (rw [head4 (by omega), decide_eq_false (by omega)]; rfl))]; done); first | (rw [e1]; done) | (rw [e1]; rfl) | (simp only [e1]; done) | (simp only [e1]; rfl))
         ·
          have q7 : (¬ (1 ≤ s.count)) ∨ (¬ (s.count ≤ 3)) := (fun hq => Or.imp (fun hq => of_decide_eq_false (hq)) (fun hq => of_decide_eq_false (hq)) (Bool.and_eq_false_iff.1 (hq))) (Eq.mp (Bool.not_eq_true' _) h7)
          refine rs1s G ⟨[(4, _, []), (11, _, [])], [(!(decide ((0 : Int) ≤ s.target) && decide (s.target ≤ (0 : Int))), false), (true, true), (!(decide ((1 : Int) ≤ s.count) && decide (s.count ≤ (3 : Int))), true)], [(7, 0), (8, 0), (9, 1), (10, 1), (11, 1), (12, 1), (13, 0), (1013, 1), (1014, 0), (16, 2), (17, 2), (18, 2), (22, 2), (1023, 2), (25, 1), (26, 1), (27, 1), (32, 1), (1033, 1), (35, 1), (36, 1), (37, 1), (42, 1), (1043, 1)]⟩ (calls_cons (c_within (s.target) (0) (0)) (calls_cons (c_within (s.count) (1) (3)) calls_nil)) ⟨(by assumption), (by kernel_rfl), (by assumption), trivial⟩ [(2, iA n), (3, .ptr 3 0), (4, .ptr 8 0), (5, .ptr 9 0), (8, bA false), (10, bA false), (11, bA false), (88, bA true)] [IntKind.i64.wrap ((1 : Int) - (1 : Int)) = (1 : Int) - (1 : Int)] ⟨(by kernel_rfl), trivial⟩ ?_
          clear G; intro ρ a w G
          refine th_n ?_
          refine rT G (true) (by kernel_rfl) ?_
          refine wp_seq ?_
          refine rs0s G [(2, iA n), (3, .ptr 3 0), (4, .ptr 8 0), (5, .ptr 9 0), (8, bA false), (10, bA false), (11, bA false)] ?_
          clear G; intro ρ a w G
          refine th_n ?_
          refine wp_ret ?_
          refine th_r ?_
          exact rx_ret (v := bA false) G [0, 1, 2, 3, 4, 5, 6, 7] (by kernel_rfl) (by kernel_rfl) (by have e1 : ((↑(stmtF p.vars.length p.arrays.length (d + 1) c s).snd : Int) : Int) = ((↑c : Int) + 1) := (by rw [stmtF_bad (by (rw [head4 (by omega), decide_eq_false (by omega)]; rfl))]; rfl); first | (rw [e1]; done) | (rw [e1]; rfl) | (simp only [e1]; done) | (simp only [e1]; rfl)) (by have e1 : ((stmtF p.vars.length p.arrays.length (d + 1) c s).fst : Bool) = (false) := (by rw [stmtF_bad (by (rw [head4 (by omega), decide_eq_false (by omega)]; rfl))]; done); first | (rw [e1]; done) | (rw [e1]; rfl) | (simp only [e1]; done) | (simp only [e1]; rfl))
        ·
         have q6 : (¬ (0 ≤ s.target)) ∨ (¬ (s.target ≤ 0)) := (fun hq => Or.imp (fun hq => of_decide_eq_false (hq)) (fun hq => of_decide_eq_false (hq)) (Bool.and_eq_false_iff.1 (hq))) (Eq.mp (Bool.not_eq_true' _) h6)
         refine rs1s G ⟨[(4, _, [])], [(!(decide ((0 : Int) ≤ s.target) && decide (s.target ≤ (0 : Int))), true), (true, true)], [(7, 0), (8, 0), (13, 0), (1014, 0), (16, 1), (17, 1), (18, 1), (22, 1), (1023, 1), (25, 1), (26, 1), (27, 1), (32, 1), (1033, 1), (35, 1), (36, 1), (37, 1), (42, 1), (1043, 1)]⟩ (calls_cons (c_within (s.target) (0) (0)) calls_nil) ⟨(by assumption), (by kernel_rfl), trivial⟩ [(2, iA n), (3, .ptr 3 0), (4, .ptr 8 0), (5, .ptr 9 0), (8, bA false), (10, bA false), (11, bA false), (88, bA true)] [IntKind.i64.wrap ((1 : Int) - (1 : Int)) = (1 : Int) - (1 : Int)] ⟨(by kernel_rfl), trivial⟩ ?_
         clear G; intro ρ a w G
         refine th_n ?_
         refine rT G (true) (by kernel_rfl) ?_
         refine wp_seq ?_
         refine rs0s G [(2, iA n), (3, .ptr 3 0), (4, .ptr 8 0), (5, .ptr 9 0), (8, bA false), (10, bA false), (11, bA false)] ?_
         clear G; intro ρ a w G
         refine th_n ?_
         refine wp_ret ?_
         refine th_r ?_
         exact rx_ret (v := bA false) G [0, 1, 2, 3, 4, 5, 6, 7] (by kernel_rfl) (by kernel_rfl) (by have e1 : ((↑(stmtF p.vars.length p.arrays.length (d + 1) c s).snd : Int) : Int) = ((↑c : Int) + 1) := (by rw [stmtF_bad (by (rw [head4 (by omega), decide_eq_false (by omega)]; rfl))]; rfl); first | (rw [e1]; done) | (rw [e1]; rfl) | (simp only [e1]; done) | (simp only [e1]; rfl)) (by have e1 : ((stmtF p.vars.length p.arrays.length (d + 1) c s).fst : Bool) = (false) := (by rw [stmtF_bad (by (rw [head4 (by omega), decide_eq_false (by omega)]; rfl))]; done); first | (rw [e1]; done) | (rw [e1]; rfl) | (simp only [e1]; done) | (simp only [e1]; rfl))
      ·
       have q4 : s.kind = 3 := eq_of_beq h4
       refine rT G (s.kind == (3 : Int)) (by assumption) ?_
       refine rs0s G [(2, iA n), (3, .ptr 3 0), (4, .ptr 8 0), (5, .ptr 9 0), (8, bA false), (9, iA 1), (10, bA false), (11, bA true), (12, bA false), (13, bA true), (14, bA true)] ?_
       clear G; intro ρ a w G
       refine bl_n ?_
       refine th_n ?_
       refine wp_seq ?_
       refine wp_seq ?_
       cases h12 : (!(decide ((0 : Int) ≤ s.target) && decide (s.target ≤ (0 : Int))))
       ·
        have q12 : (0 ≤ s.target) ∧ (s.target ≤ 0) := (fun hq => And.imp (fun hq => of_decide_eq_true (hq)) (fun hq => of_decide_eq_true (hq)) (Bool.and_eq_true_iff.1 (hq))) (Eq.mp (Bool.not_eq_false' _) h12)
        cases h13 : (s.count != (0 : Int))
        ·
         have q13 : s.count = 0 := (by simpa using h13)
         refine rs1s G ⟨[(4, _, [])], [(!(decide ((0 : Int) ≤ s.target) && decide (s.target ≤ (0 : Int))), false), (false, false), (true, true), (s.count != (0 : Int), false)], [(7, 0), (8, 0), (9, 1), (10, 1), (11, 1), (12, 1), (13, 0), (1013, 1), (1014, 0), (16, 1), (17, 1), (18, 1), (19, 2), (20, 2), (21, 2), (22, 1), (1022, 2), (1023, 1), (25, 3), (26, 3), (27, 3), (28, 1), (29, 1), (30, 1), (31, 1), (32, 3), (1032, 1), (1033, 3), (35, 1), (36, 1), (37, 1), (38, 1), (39, 1), (40, 1), (41, 1), (42, 1), (1042, 1), (1043, 1)]⟩ (calls_cons (c_within (s.target) (0) (0)) calls_nil) ⟨(by assumption), (by kernel_rfl), (by kernel_rfl), (by assumption), trivial⟩ [(2, iA n), (3, .ptr 3 0), (4, .ptr 8 0), (5, .ptr 9 0), (8, bA false), (10, bA false), (11, bA true), (88, bA false)] [IntKind.i64.wrap ((1 : Int) - (1 : Int)) = (1 : Int) - (1 : Int)] ⟨(by kernel_rfl), trivial⟩ ?_
         clear G; intro ρ a w G
         refine th_n ?_
         refine rF G (false) (by kernel_rfl) ?_
         refine wp_skip ?_
         refine th_n ?_
         refine wp_seq ?_
         refine wp_seq ?_
         cases h14 : (!noneB s.index)
         ·
          have q14 : (noneB s.index) = true := (fun hq => (hq)) (Eq.mp (Bool.not_eq_false' _) h14)
          cases h15 : (!rightB p.vars.length p.arrays.length s.value)
          ·
           have q15 : (rightB p.vars.length p.arrays.length s.value) = true := (fun hq => (hq)) (Eq.mp (Bool.not_eq_false' _) h15)
           refine rs1s G ⟨[(20, _, [4]), (30, _, [0, 1, 2, 5])], [(false, false), (true, true), (!noneB s.index, false), (!rightB p.vars.length p.arrays.length s.value, false)], [(2, 0), (3, 0), (4, 0), (5, 0), (6, 0), (7, 0), (12, 0), (1013, 0), (15, 0), (16, 0), (17, 0), (18, 1), (19, 1), (20, 1), (21, 1), (22, 0), (1022, 1), (1023, 0), (25, 2), (26, 2), (27, 1), (28, 1), (29, 1), (30, 1), (31, 1), (32, 2), (1032, 1), (1033, 2), (35, 3), (36, 3), (37, 3), (38, 0), (39, 0), (40, 0), (41, 0), (42, 3), (1042, 0), (1043, 3)]⟩ (calls_cons (c_isNone (s.index)) (calls_cons (c_expr (p) (s.value)) calls_nil)) ⟨(by kernel_rfl), (by kernel_rfl), (by assumption), (by assumption), trivial⟩ [(2, iA n), (3, .ptr 3 0), (4, .ptr 8 0), (5, .ptr 9 0), (8, bA false), (132, bA false)] [] trivial ?_
           clear G; intro ρ a w G
           refine th_n ?_
           refine rF G (false) (by kernel_rfl) ?_
           refine wp_skip ?_
           refine th_n ?_
           refine wp_seq ?_
           cases h16 : ((stmtsF p.vars.length p.arrays.length d (c + (1 : Nat)) s.body).fst)
           ·
            refine rs1 (dk := dkP) G ⟨[(6, _, [0, 1, 2, 3, 6])], [((stmtsF p.vars.length p.arrays.length d (c + (1 : Nat)) s.body).fst, false)], [(8, 0), (9, 0), (10, 0), (11, 0), (12, 0), (13, 0), (14, 0), (1015, 0)]⟩ (calls_cons (ih (s.body) (c + 1) (n + 1) (by simp; omega) (by omega)) calls_nil) ⟨(by assumption), trivial⟩ [0, 1, 2, 3, 4, 5, 6, 7] [dI p.vars, dI p.arrays, dT p.body, .box [iA (↑(stmtsF p.vars.length p.arrays.length d (c + 1) s.body).snd : Int)], dE s.index.kids, dE s.value.kids, dT s.body, dT s.els] [(8, bA false)] [IntKind.i64.wrap (n + (1 : Int)) = n + (1 : Int)] ⟨(by exact w64 (by omega) (by omega)), trivial⟩ ?_
            clear G; intro ρ a w G
            refine th_n ?_
            refine wp_ret ?_
            exact rx_ret (v := bA false) G [0, 1, 2, 3, 4, 5, 6, 7] (by kernel_rfl) (by kernel_rfl) (by have e1 : ((↑(stmtF p.vars.length p.arrays.length (d + 1) c s).snd : Int) : Int) = ((↑(stmtsF p.vars.length p.arrays.length d (c + 1) s.body).snd : Int)) := (by rw [stmtF_body (by omega) (by (rw [head3 (by omega)]; exact and_t (by omega) (by assumption) (by assumption))) (by assumption)]; done); first | (rw [e1]; done) | (rw [e1]; rfl) | (simp only [e1]; done) | (simp only [e1]; rfl)) (by have e1 : ((stmtF p.vars.length p.arrays.length (d + 1) c s).fst : Bool) = (false) := (by rw [stmtF_body (by omega) (by (rw [head3 (by omega)]; exact and_t (by omega) (by assumption) (by assumption))) (by assumption)]; assumption); first | (rw [e1]; done) | (rw [e1]; rfl) | (simp only [e1]; done) | (simp only [e1]; rfl))
           ·
            refine rs1 (dk := dkP) G ⟨[(6, _, [0, 1, 2, 3, 6]), (14, _, [0, 1, 2, 3, 7])], [((stmtsF p.vars.length p.arrays.length d (c + (1 : Nat)) s.body).fst, true)], [(8, 0), (9, 0), (10, 0), (11, 0), (12, 0), (13, 0), (14, 0), (1015, 0)]⟩ (calls_cons (ih (s.body) (c + 1) (n + 1) (by simp; omega) (by omega)) (calls_cons (ih (s.els) ((stmtsF p.vars.length p.arrays.length d (c + 1) s.body).snd) (n + 1) (by exact stmtsF_le (by omega) (by assumption)) (by omega)) calls_nil)) ⟨(by assumption), trivial⟩ [0, 1, 2, 3, 4, 5, 6, 7] [dI p.vars, dI p.arrays, dT p.body, .box [iA (↑(stmtsF p.vars.length p.arrays.length d (stmtsF p.vars.length p.arrays.length d (c + 1) s.body).snd s.els).snd : Int)], dE s.index.kids, dE s.value.kids, dT s.body, dT s.els] [(8, bA (stmtsF p.vars.length p.arrays.length d (stmtsF p.vars.length p.arrays.length d (c + 1) s.body).snd s.els).fst)] [IntKind.i64.wrap (n + (1 : Int)) = n + (1 : Int), IntKind.i64.wrap (n + (1 : Int)) = n + (1 : Int)] ⟨(by exact w64 (by omega) (by omega)), (by exact w64 (by omega) (by omega)), trivial⟩ ?_
            clear G; intro ρ a w G
            refine th_n ?_
            refine wp_ret ?_
            exact rx_ret (v := bA (stmtsF p.vars.length p.arrays.length d (stmtsF p.vars.length p.arrays.length d (c + 1) s.body).snd s.els).fst) G [0, 1, 2, 3, 4, 5, 6, 7] (by kernel_rfl) (by kernel_rfl) (by have e1 : ((↑(stmtF p.vars.length p.arrays.length (d + 1) c s).snd : Int) : Int) = ((↑(stmtsF p.vars.length p.arrays.length d (stmtsF p.vars.length p.arrays.length d (c + 1) s.body).snd s.els).snd : Int)) := (by rw [stmtF_els (by omega) (by (rw [head3 (by omega)]; exact and_t (by omega) (by assumption) (by assumption))) (by assumption)]; done); first | (rw [e1]; done) | (rw [e1]; rfl) | (simp only [e1]; done) | (simp only [e1]; rfl)) (by have e1 : ((stmtF p.vars.length p.arrays.length (d + 1) c s).fst : Bool) = ((stmtsF p.vars.length p.arrays.length d (stmtsF p.vars.length p.arrays.length d (c + 1) s.body).snd s.els).fst) := (by rw [stmtF_els (by omega) (by (rw [head3 (by omega)]; exact and_t (by omega) (by assumption) (by assumption))) (by assumption)]; done); first | (rw [e1]; done) | (rw [e1]; rfl) | (simp only [e1]; done) | (simp only [e1]; rfl))
          ·
           have q15 : (rightB p.vars.length p.arrays.length s.value) = false := (fun hq => (hq)) (Eq.mp (Bool.not_eq_true' _) h15)
           refine rs1s G ⟨[(20, _, [4]), (30, _, [0, 1, 2, 5])], [(false, false), (true, true), (!noneB s.index, false), (!rightB p.vars.length p.arrays.length s.value, true)], [(2, 0), (3, 0), (4, 0), (5, 0), (6, 0), (7, 0), (12, 0), (1013, 0), (15, 0), (16, 0), (17, 0), (18, 1), (19, 1), (20, 1), (21, 1), (22, 0), (1022, 1), (1023, 0), (25, 2), (26, 2), (27, 1), (28, 1), (29, 1), (30, 1), (31, 1), (32, 2), (1032, 1), (1033, 2), (35, 3), (36, 3), (37, 3), (42, 3), (1043, 3)]⟩ (calls_cons (c_isNone (s.index)) (calls_cons (c_expr (p) (s.value)) calls_nil)) ⟨(by kernel_rfl), (by kernel_rfl), (by assumption), (by assumption), trivial⟩ [(2, iA n), (3, .ptr 3 0), (4, .ptr 8 0), (5, .ptr 9 0), (8, bA false), (132, bA true)] [] trivial ?_
           clear G; intro ρ a w G
           refine th_n ?_
           refine rT G (true) (by kernel_rfl) ?_
           refine wp_seq ?_
           refine rs0s G [(2, iA n), (3, .ptr 3 0), (4, .ptr 8 0), (5, .ptr 9 0), (8, bA false)] ?_
           clear G; intro ρ a w G
           refine th_n ?_
           refine wp_ret ?_
           refine th_r ?_
           exact rx_ret (v := bA false) G [0, 1, 2, 3, 4, 5, 6, 7] (by kernel_rfl) (by kernel_rfl) (by have e1 : ((↑(stmtF p.vars.length p.arrays.length (d + 1) c s).snd : Int) : Int) = ((↑c : Int) + 1) := (by rw [stmtF_bad (by (rw [head3 (by omega)]; simp [h100, h0, q0, h1, q1, h2, q2, h3, q3, h4, q4, h12, q12, h13, q13, h14, q14, h15, q15]; done))]; rfl); first | (rw [e1]; done) | (rw [e1]; rfl) | (simp only [e1]; done) | (simp only [e1]; rfl)) (by have e1 : ((stmtF p.vars.length p.arrays.length (d + 1) c s).fst : Bool) = (false) := (by rw [stmtF_bad (by (rw [head3 (by omega)]; simp [h100, h0, q0, h1, q1, h2, q2, h3, q3, h4, q4, h12, q12, h13, q13, h14, q14, h15, q15]; done))]; done); first | (rw [e1]; done) | (rw [e1]; rfl) | (simp only [e1]; done) | (simp only [e1]; rfl))
         ·
          have q14 : (noneB s.index) = false := (fun hq => (hq)) (Eq.mp (Bool.not_eq_true' _) h14)
          refine rs1s G ⟨[(20, _, [4])], [(false, false), (true, true), (!noneB s.index, true)], [(2, 0), (3, 0), (4, 0), (5, 0), (6, 0), (7, 0), (12, 0), (1013, 0), (15, 0), (16, 0), (17, 0), (18, 1), (19, 1), (20, 1), (21, 1), (22, 0), (1022, 1), (1023, 0), (25, 2), (26, 2), (32, 2), (1033, 2), (35, 1), (36, 1), (37, 1), (42, 1), (1043, 1)]⟩ (calls_cons (c_isNone (s.index)) calls_nil) ⟨(by kernel_rfl), (by kernel_rfl), (by assumption), trivial⟩ [(2, iA n), (3, .ptr 3 0), (4, .ptr 8 0), (5, .ptr 9 0), (8, bA false), (132, bA true)] [] trivial ?_
          clear G; intro ρ a w G
          refine th_n ?_
          refine rT G (true) (by kernel_rfl) ?_
          refine wp_seq ?_
          refine rs0s G [(2, iA n), (3, .ptr 3 0), (4, .ptr 8 0), (5, .ptr 9 0), (8, bA false)] ?_
          clear G; intro ρ a w G
          refine th_n ?_
          refine wp_ret ?_
          refine th_r ?_
          exact rx_ret (v := bA false) G [0, 1, 2, 3, 4, 5, 6, 7] (by kernel_rfl) (by kernel_rfl) (by have e1 : ((↑(stmtF p.vars.length p.arrays.length (d + 1) c s).snd : Int) : Int) = ((↑c : Int) + 1) := (by rw [stmtF_bad (by (rw [head3 (by omega)]; simp [h100, h0, q0, h1, q1, h2, q2, h3, q3, h4, q4, h12, q12, h13, q13, h14, q14]; done))]; rfl); first | (rw [e1]; done) | (rw [e1]; rfl) | (simp only [e1]; done) | (simp only [e1]; rfl)) (by have e1 : ((stmtF p.vars.length p.arrays.length (d + 1) c s).fst : Bool) = (false) := (by rw [stmtF_bad (by (rw [head3 (by omega)]; simp [h100, h0, q0, h1, q1, h2, q2, h3, q3, h4, q4, h12, q12, h13, q13, h14, q14]; done))]; done); first | (rw [e1]; done) | (rw [e1]; rfl) | (simp only [e1]; done) | (simp only [e1]; rfl))
        ·
         have q13 : ¬ (s.count = 0) := bne_iff_ne.1 h13
         refine rs1s G ⟨[(4, _, [])], [(!(decide ((0 : Int) ≤ s.target) && decide (s.target ≤ (0 : Int))), false), (false, false), (true, true), (s.count != (0 : Int), true)], [(7, 0), (8, 0), (9, 1), (10, 1), (11, 1), (12, 1), (13, 0), (1013, 1), (1014, 0), (16, 1), (17, 1), (18, 1), (19, 2), (20, 2), (21, 2), (22, 1), (1022, 2), (1023, 1), (25, 3), (26, 3), (27, 3), (32, 3), (1033, 3), (35, 2), (36, 2), (37, 2), (42, 2), (1043, 2)]⟩ (calls_cons (c_within (s.target) (0) (0)) calls_nil) ⟨(by assumption), (by kernel_rfl), (by kernel_rfl), (by assumption), trivial⟩ [(2, iA n), (3, .ptr 3 0), (4, .ptr 8 0), (5, .ptr 9 0), (8, bA false), (10, bA false), (11, bA true), (88, bA true)] [IntKind.i64.wrap ((1 : Int) - (1 : Int)) = (1 : Int) - (1 : Int)] ⟨(by kernel_rfl), trivial⟩ ?_
         clear G; intro ρ a w G
         refine th_n ?_
         refine rT G (true) (by kernel_rfl) ?_
         refine wp_seq ?_
         refine rs0s G [(2, iA n), (3, .ptr 3 0), (4, .ptr 8 0), (5, .ptr 9 0), (8, bA false), (10, bA false), (11, bA true)] ?_
         clear G; intro ρ a w G
         refine th_n ?_
         refine wp_ret ?_
         refine th_r ?_
         exact rx_ret (v := bA false) G [0, 1, 2, 3, 4, 5, 6, 7] (by kernel_rfl) (by kernel_rfl) (by have e1 : ((↑(stmtF p.vars.length p.arrays.length (d + 1) c s).snd : Int) : Int) = ((↑c : Int) + 1) := (by rw [stmtF_bad (by (rw [head3 (by omega), decide_eq_false (by omega)]; rfl))]; rfl); first | (rw [e1]; done) | (rw [e1]; rfl) | (simp only [e1]; done) | (simp only [e1]; rfl)) (by have e1 : ((stmtF p.vars.length p.arrays.length (d + 1) c s).fst : Bool) = (false) := (by rw [stmtF_bad (by (rw [head3 (by omega), decide_eq_false (by omega)]; rfl))]; done); first | (rw [e1]; done) | (rw [e1]; rfl) | (simp only [e1]; done) | (simp only [e1]; rfl))
       ·
        have q12 : (¬ (0 ≤ s.target)) ∨ (¬ (s.target ≤ 0)) := (fun hq => Or.imp (fun hq => of_decide_eq_false (hq)) (fun hq => of_decide_eq_false (hq)) (Bool.and_eq_false_iff.1 (hq))) (Eq.mp (Bool.not_eq_true' _) h12)
        refine rs1s G ⟨[(4, _, [])], [(!(decide ((0 : Int) ≤ s.target) && decide (s.target ≤ (0 : Int))), true), (true, true)], [(7, 0), (8, 0), (13, 0), (1014, 0), (16, 1), (17, 1), (18, 1), (22, 1), (1023, 1), (25, 1), (26, 1), (27, 1), (32, 1), (1033, 1), (35, 1), (36, 1), (37, 1), (42, 1), (1043, 1)]⟩ (calls_cons (c_within (s.target) (0) (0)) calls_nil) ⟨(by assumption), (by kernel_rfl), trivial⟩ [(2, iA n), (3, .ptr 3 0), (4, .ptr 8 0), (5, .ptr 9 0), (8, bA false), (10, bA false), (11, bA true), (88, bA true)] [IntKind.i64.wrap ((1 : Int) - (1 : Int)) = (1 : Int) - (1 : Int)] ⟨(by kernel_rfl), trivial⟩ ?_
        clear G; intro ρ a w G
        refine th_n ?_
        refine rT G (true) (by kernel_rfl) ?_
        refine wp_seq ?_
        refine rs0s G [(2, iA n), (3, .ptr 3 0), (4, .ptr 8 0), (5, .ptr 9 0), (8, bA false), (10, bA false), (11, bA true)] ?_
        clear G; intro ρ a w G
        refine th_n ?_
        refine wp_ret ?_
        refine th_r ?_
        exact rx_ret (v := bA false) G [0, 1, 2, 3, 4, 5, 6, 7] (by kernel_rfl) (by kernel_rfl) (by have e1 : ((↑(stmtF p.vars.length p.arrays.length (d + 1) c s).snd : Int) : Int) = ((↑c : Int) + 1) := (by rw [stmtF_bad (by (rw [head3 (by omega), decide_eq_false (by omega)]; rfl))]; rfl); first | (rw [e1]; done) | (rw [e1]; rfl) | (simp only [e1]; done) | (simp only [e1]; rfl)) (by have e1 : ((stmtF p.vars.length p.arrays.length (d + 1) c s).fst : Bool) = (false) := (by rw [stmtF_bad (by (rw [head3 (by omega), decide_eq_false (by omega)]; rfl))]; done); first | (rw [e1]; done) | (rw [e1]; rfl) | (simp only [e1]; done) | (simp only [e1]; rfl))
     ·
      have q3 : s.kind = 2 := eq_of_beq h3
      refine rT G (s.kind == (2 : Int)) (by assumption) ?_
      refine rs0s G [(2, iA n), (3, .ptr 3 0), (4, .ptr 8 0), (5, .ptr 9 0), (8, bA false), (9, iA (↑p.arrays.length : Int)), (10, bA true), (11, bA true), (12, bA false), (13, bA false), (14, bA false)] ?_
      clear G; intro ρ a w G
      refine bl_n ?_
      refine th_n ?_
      refine wp_seq ?_
      refine wp_seq ?_
      cases h17 : (!(decide ((0 : Int) ≤ s.target) && decide (s.target ≤ (↑p.arrays.length : Int) - (1 : Int))))
      ·
       have q17 : (0 ≤ s.target) ∧ (s.target ≤ (↑p.arrays.length : Int) - 1) := (fun hq => And.imp (fun hq => of_decide_eq_true (hq)) (fun hq => of_decide_eq_true (hq)) (Bool.and_eq_true_iff.1 (hq))) (Eq.mp (Bool.not_eq_false' _) h17)
       cases h18 : (s.count != (0 : Int))
       ·
        have q18 : s.count = 0 := (by simpa using h18)
        cases h19 : (decide ((↑s.body.length : Int) > (0 : Int)))
        ·
         have q19 : ¬ ((↑s.body.length : Int) > 0) := of_decide_eq_false h19
         refine rs1s G ⟨[(4, _, [])], [(!(decide ((0 : Int) ≤ s.target) && decide (s.target ≤ (↑p.arrays.length : Int) - (1 : Int))), false), (false, false), (true, true), (s.count != (0 : Int), false), (decide ((↑s.body.length : Int) > (0 : Int)), false)], [(7, 0), (8, 0), (9, 1), (10, 1), (11, 1), (12, 1), (13, 0), (1013, 1), (1014, 0), (16, 1), (17, 1), (18, 1), (19, 2), (20, 2), (21, 2), (22, 1), (1022, 2), (1023, 1), (25, 3), (26, 3), (27, 3), (28, 2), (29, 2), (30, 2), (31, 2), (32, 3), (1032, 2), (1033, 3), (35, 4), (36, 4), (37, 4), (38, 2), (39, 2), (40, 2), (41, 2), (42, 4), (1042, 2), (1043, 4)]⟩ (calls_cons (c_within (s.target) (0) ((↑p.arrays.length : Int) - 1)) calls_nil) ⟨(by assumption), (by kernel_rfl), (by kernel_rfl), (by assumption), (by assumption), trivial⟩ [(2, iA n), (3, .ptr 3 0), (4, .ptr 8 0), (5, .ptr 9 0), (8, bA false), (10, bA true), (11, bA true), (88, bA (decide ((↑s.els.length : Int) > 0)))] [IntKind.i64.wrap ((↑p.arrays.length : Int) - (1 : Int)) = (↑p.arrays.length : Int) - (1 : Int)] ⟨(by exact w64 (by omega) (by omega)), trivial⟩ ?_
         clear G; intro ρ a w G
         refine th_n ?_
         cases h20 : (decide ((↑s.els.length : Int) > (0 : Int)))
         ·
          have q20 : ¬ ((↑s.els.length : Int) > 0) := of_decide_eq_false h20
          refine rF G (decide ((↑s.els.length : Int) > (0 : Int))) (by assumption) ?_
          refine wp_skip ?_
          refine th_n ?_
          refine wp_seq ?_
          refine wp_seq ?_
          cases h21 : (!rightB p.vars.length p.arrays.length s.index)
          ·
           have q21 : (rightB p.vars.length p.arrays.length s.index) = true := (fun hq => (hq)) (Eq.mp (Bool.not_eq_false' _) h21)
           cases h22 : (!atomB s.index)
           ·
            have q22 : (atomB s.index) = true := (fun hq => (hq)) (Eq.mp (Bool.not_eq_false' _) h22)
            cases h23 : (!rightB p.vars.length p.arrays.length s.value)
            ·
             have q23 : (rightB p.vars.length p.arrays.length s.value) = true := (fun hq => (hq)) (Eq.mp (Bool.not_eq_false' _) h23)
             refine rs1s G ⟨[(5, _, [0, 1, 2, 4]), (10, _, [4]), (30, _, [0, 1, 2, 5])], [(true, true), (!rightB p.vars.length p.arrays.length s.index, false), (!atomB s.index, false), (false, false), (!rightB p.vars.length p.arrays.length s.value, false)], [(2, 0), (3, 0), (4, 0), (5, 0), (6, 0), (7, 0), (8, 1), (9, 1), (10, 1), (11, 1), (12, 0), (1012, 1), (1013, 0), (15, 2), (16, 2), (17, 2), (18, 3), (19, 3), (20, 3), (21, 3), (22, 2), (1022, 3), (1023, 2), (25, 3), (26, 3), (27, 0), (28, 0), (29, 0), (30, 0), (31, 0), (32, 3), (1032, 0), (1033, 3), (35, 4), (36, 4), (37, 4), (38, 3), (39, 3), (40, 3), (41, 3), (42, 4), (1042, 3), (1043, 4)]⟩ (calls_cons (c_expr (p) (s.index)) (calls_cons (c_isPlain (s.index)) (calls_cons (c_expr (p) (s.value)) calls_nil))) ⟨(by kernel_rfl), (by assumption), (by assumption), (by kernel_rfl), (by assumption), trivial⟩ [(2, iA n), (3, .ptr 3 0), (4, .ptr 8 0), (5, .ptr 9 0), (8, bA false), (132, bA false)] [] trivial ?_
             clear G; intro ρ a w G
             refine th_n ?_
             refine rF G (false) (by kernel_rfl) ?_
             refine wp_skip ?_
             refine th_n ?_
             refine wp_seq ?_
             cases h24 : ((stmtsF p.vars.length p.arrays.length d (c + (1 : Nat)) s.body).fst)
             ·
              refine rs1 (dk := dkP) G ⟨[(6, _, [0, 1, 2, 3, 6])], [((stmtsF p.vars.length p.arrays.length d (c + (1 : Nat)) s.body).fst, false)], [(8, 0), (9, 0), (10, 0), (11, 0), (12, 0), (13, 0), (14, 0), (1015, 0)]⟩ (calls_cons (ih (s.body) (c + 1) (n + 1) (by simp; omega) (by omega)) calls_nil) ⟨(by assumption), trivial⟩ [0, 1, 2, 3, 4, 5, 6, 7] [dI p.vars, dI p.arrays, dT p.body, .box [iA (↑(stmtsF p.vars.length p.arrays.length d (c + 1) s.body).snd : Int)], dE s.index.kids, dE s.value.kids, dT s.body, dT s.els] [(8, bA false)] [IntKind.i64.wrap (n + (1 : Int)) = n + (1 : Int)] ⟨(by exact w64 (by omega) (by omega)), trivial⟩ ?_
              clear G; intro ρ a w G
              refine th_n ?_
              refine wp_ret ?_
              exact rx_ret (v := bA false) G [0, 1, 2, 3, 4, 5, 6, 7] (by kernel_rfl) (by kernel_rfl) (by have e1 : ((↑(stmtF p.vars.length p.arrays.length (d + 1) c s).snd : Int) : Int) = ((↑(stmtsF p.vars.length p.arrays.length d (c + 1) s.body).snd : Int)) := (by rw [stmtF_body (by omega) (by (rw [head2 (by omega)]; exact and_t3 (by omega) (by assumption) (by assumption) (by assumption))) (by assumption)]; done); first | (rw [e1]; done) | (rw [e1]; rfl) | (simp only [e1]; done) | (simp only [e1]; rfl)) (by have e1 : ((stmtF p.vars.length p.arrays.length (d + 1) c s).fst : Bool) = (false) := (by rw [stmtF_body (by omega) (by (rw [head2 (by omega)]; exact and_t3 (by omega) (by assumption) (by assumption) (by assumption))) (by assumption)]; assumption); first | (rw [e1]; done) | (rw [e1]; rfl) | (simp only [e1]; done) | (simp only [e1]; rfl))
             ·
              refine rs1 (dk := dkP) G ⟨[(6, _, [0, 1, 2, 3, 6]), (14, _, [0, 1, 2, 3, 7])], [((stmtsF p.vars.length p.arrays.length d (c + (1 : Nat)) s.body).fst, true)], [(8, 0), (9, 0), (10, 0), (11, 0), (12, 0), (13, 0), (14, 0), (1015, 0)]⟩ (calls_cons (ih (s.body) (c + 1) (n + 1) (by simp; omega) (by omega)) (calls_cons (ih (s.els) ((stmtsF p.vars.length p.arrays.length d (c + 1) s.body).snd) (n + 1) (by exact stmtsF_le (by omega) (by assumption)) (by omega)) calls_nil)) ⟨(by assumption), trivial⟩ [0, 1, 2, 3, 4, 5, 6, 7] [dI p.vars, dI p.arrays, dT p.body, .box [iA (↑(stmtsF p.vars.length p.arrays.length d (stmtsF p.vars.length p.arrays.length d (c + 1) s.body).snd s.els).snd : Int)], dE s.index.kids, dE s.value.kids, dT s.body, dT s.els] [(8, bA (stmtsF p.vars.length p.arrays.length d (stmtsF p.vars.length p.arrays.length d (c + 1) s.body).snd s.els).fst)] [IntKind.i64.wrap (n + (1 : Int)) = n + (1 : Int), IntKind.i64.wrap (n + (1 : Int)) = n + (1 : Int)] ⟨(by exact w64 (by omega) (by omega)), (by exact w64 (by omega) (by omega)), trivial⟩ ?_
              clear G; intro ρ a w G
              refine th_n ?_
              refine wp_ret ?_
              exact rx_ret (v := bA (stmtsF p.vars.length p.arrays.length d (stmtsF p.vars.length p.arrays.length d (c + 1) s.body).snd s.els).fst) G [0, 1, 2, 3, 4, 5, 6, 7] (by kernel_rfl) (by kernel_rfl) (by have e1 : ((↑(stmtF p.vars.length p.arrays.length (d + 1) c s).snd : Int) : Int) = ((↑(stmtsF p.vars.length p.arrays.length d (stmtsF p.vars.length p.arrays.length d (c + 1) s.body).snd s.els).snd : Int)) := (by rw [stmtF_els (by omega) (by (rw [head2 (by omega)]; exact and_t3 (by omega) (by assumption) (by assumption) (by assumption))) (by assumption)]; done); first | (rw [e1]; done) | (rw [e1]; rfl) | (simp only [e1]; done) | (simp only [e1]; rfl)) (by have e1 : ((stmtF p.vars.length p.arrays.length (d + 1) c s).fst : Bool) = ((stmtsF p.vars.length p.arrays.length d (stmtsF p.vars.length p.arrays.length d (c + 1) s.body).snd s.els).fst) := (by rw [stmtF_els (by omega) (by (rw [head2 (by omega)]; exact and_t3 (by omega) (by assumption) (by assumption) (by assumption))) (by assumption)]; done); first | (rw [e1]; done) | (rw [e1]; rfl) | (simp only [e1]; done) | (simp only [e1]; rfl))
            ·
             have q23 : (rightB p.vars.length p.arrays.length s.value) = false := (fun hq => (hq)) (Eq.mp (Bool.not_eq_true' _) h23)
             refine rs1s G ⟨[(5, _, [0, 1, 2, 4]), (10, _, [4]), (30, _, [0, 1, 2, 5])], [(true, true), (!rightB p.vars.length p.arrays.length s.index, false), (!atomB s.index, false), (false, false), (!rightB p.vars.length p.arrays.length s.value, true)], [(2, 0), (3, 0), (4, 0), (5, 0), (6, 0), (7, 0), (8, 1), (9, 1), (10, 1), (11, 1), (12, 0), (1012, 1), (1013, 0), (15, 2), (16, 2), (17, 2), (18, 3), (19, 3), (20, 3), (21, 3), (22, 2), (1022, 3), (1023, 2), (25, 3), (26, 3), (27, 0), (28, 0), (29, 0), (30, 0), (31, 0), (32, 3), (1032, 0), (1033, 3), (35, 4), (36, 4), (37, 4), (42, 4), (1043, 4)]⟩ (calls_cons (c_expr (p) (s.index)) (calls_cons (c_isPlain (s.index)) (calls_cons (c_expr (p) (s.value)) calls_nil))) ⟨(by kernel_rfl), (by assumption), (by assumption), (by kernel_rfl), (by assumption), trivial⟩ [(2, iA n), (3, .ptr 3 0), (4, .ptr 8 0), (5, .ptr 9 0), (8, bA false), (132, bA true)] [] trivial ?_
             clear G; intro ρ a w G
             refine th_n ?_
             refine rT G (true) (by kernel_rfl) ?_
             refine wp_seq ?_
             refine rs0s G [(2, iA n), (3, .ptr 3 0), (4, .ptr 8 0), (5, .ptr 9 0), (8, bA false)] ?_
             clear G; intro ρ a w G
             refine th_n ?_
             refine wp_ret ?_
             refine th_r ?_
             exact rx_ret (v := bA false) G [0, 1, 2, 3, 4, 5, 6, 7] (by kernel_rfl) (by kernel_rfl) (by have e1 : ((↑(stmtF p.vars.length p.arrays.length (d + 1) c s).snd : Int) : Int) = ((↑c : Int) + 1) := (by rw [stmtF_bad (by (rw [head2 (by omega)]; simp [h100, h0, q0, h1, q1, h2, q2, h3, q3, h17, q17, h18, q18, h19, q19, h20, q20, h21, q21, h22, q22, h23, q23]; done))]; rfl); first | (rw [e1]; done) | (rw [e1]; rfl) | (simp only [e1]; done) | (simp only [e1]; rfl)) (by have e1 : ((stmtF p.vars.length p.arrays.length (d + 1) c s).fst : Bool) = (false) := (by rw [stmtF_bad (by (rw [head2 (by omega)]; simp [h100, h0, q0, h1, q1, h2, q2, h3, q3, h17, q17, h18, q18, h19, q19, h20, q20, h21, q21, h22, q22, h23, q23]; done))]; done); first | (rw [e1]; done) | (rw [e1]; rfl) | (simp only [e1]; done) | (simp only [e1]; rfl))
           ·
            have q22 : (atomB s.index) = false := (fun hq => (hq)) (Eq.mp (Bool.not_eq_true' _) h22)
            refine rs1s G ⟨[(5, _, [0, 1, 2, 4]), (10, _, [4])], [(true, true), (!rightB p.vars.length p.arrays.length s.index, false), (!atomB s.index, true)], [(2, 0), (3, 0), (4, 0), (5, 0), (6, 0), (7, 0), (8, 1), (9, 1), (10, 1), (11, 1), (12, 0), (1012, 1), (1013, 0), (15, 2), (16, 2), (17, 2), (22, 2), (1023, 2), (25, 0), (26, 0), (32, 0), (1033, 0), (35, 0), (36, 0), (37, 0), (42, 0), (1043, 0)]⟩ (calls_cons (c_expr (p) (s.index)) (calls_cons (c_isPlain (s.index)) calls_nil)) ⟨(by kernel_rfl), (by assumption), (by assumption), trivial⟩ [(2, iA n), (3, .ptr 3 0), (4, .ptr 8 0), (5, .ptr 9 0), (8, bA false), (132, bA true)] [] trivial ?_
            clear G; intro ρ a w G
            refine th_n ?_
            refine rT G (true) (by kernel_rfl) ?_
            refine wp_seq ?_
            refine rs0s G [(2, iA n), (3, .ptr 3 0), (4, .ptr 8 0), (5, .ptr 9 0), (8, bA false)] ?_
            clear G; intro ρ a w G
            refine th_n ?_
            refine wp_ret ?_
            refine th_r ?_
            exact rx_ret (v := bA false) G [0, 1, 2, 3, 4, 5, 6, 7] (by kernel_rfl) (by kernel_rfl) (by have e1 : ((↑(stmtF p.vars.length p.arrays.length (d + 1) c s).snd : Int) : Int) = ((↑c : Int) + 1) := (by rw [stmtF_bad (by (rw [head2 (by omega)]; simp [h100, h0, q0, h1, q1, h2, q2, h3, q3, h17, q17, h18, q18, h19, q19, h20, q20, h21, q21, h22, q22]; done))]; rfl); first | (rw [e1]; done) | (rw [e1]; rfl) | (simp only [e1]; done) | (simp only [e1]; rfl)) (by have e1 : ((stmtF p.vars.length p.arrays.length (d + 1) c s).fst : Bool) = (false) := (by rw [stmtF_bad (by (rw [head2 (by omega)]; simp [h100, h0, q0, h1, q1, h2, q2, h3, q3, h17, q17, h18, q18, h19, q19, h20, q20, h21, q21, h22, q22]; done))]; done); first | (rw [e1]; done) | (rw [e1]; rfl) | (simp only [e1]; done) | (simp only [e1]; rfl))
          ·
           have q21 : (rightB p.vars.length p.arrays.length s.index) = false := (fun hq => (hq)) (Eq.mp (Bool.not_eq_true' _) h21)
           refine rs1s G ⟨[(5, _, [0, 1, 2, 4])], [(true, true), (!rightB p.vars.length p.arrays.length s.index, true)], [(2, 0), (3, 0), (4, 0), (5, 0), (6, 0), (7, 0), (8, 1), (9, 1), (10, 1), (11, 1), (12, 0), (1012, 1), (1013, 0), (15, 0), (16, 0), (17, 0), (22, 0), (1023, 0), (25, 0), (26, 0), (32, 0), (1033, 0), (35, 0), (36, 0), (37, 0), (42, 0), (1043, 0)]⟩ (calls_cons (c_expr (p) (s.index)) calls_nil) ⟨(by kernel_rfl), (by assumption), trivial⟩ [(2, iA n), (3, .ptr 3 0), (4, .ptr 8 0), (5, .ptr 9 0), (8, bA false), (132, bA true)] [] trivial ?_
           clear G; intro ρ a w G
           refine th_n ?_
           refine rT G (true) (by kernel_rfl) ?_
           refine wp_seq ?_
           refine rs0s G [(2, iA n), (3, .ptr 3 0), (4, .ptr 8 0), (5, .ptr 9 0), (8, bA false)] ?_
           clear G; intro ρ a w G
           refine th_n ?_
           refine wp_ret ?_
           refine th_r ?_
           exact rx_ret (v := bA false) G [0, 1, 2, 3, 4, 5, 6, 7] (by kernel_rfl) (by kernel_rfl) (by have e1 : ((↑(stmtF p.vars.length p.arrays.length (d + 1) c s).snd : Int) : Int) = ((↑c : Int) + 1) := (by rw [stmtF_bad (by (rw [head2 (by omega)]; simp [h100, h0, q0, h1, q1, h2, q2, h3, q3, h17, q17, h18, q18, h19, q19, h20, q20, h21, q21]; done))]; rfl); first | (rw [e1]; done) | (rw [e1]; rfl) | (simp only [e1]; done) | (simp only [e1]; rfl)) (by have e1 : ((stmtF p.vars.length p.arrays.length (d + 1) c s).fst : Bool) = (false) := (by rw [stmtF_bad (by (rw [head2 (by omega)]; simp [h100, h0, q0, h1, q1, h2, q2, h3, q3, h17, q17, h18, q18, h19, q19, h20, q20, h21, q21]; done))]; done); first | (rw [e1]; done) | (rw [e1]; rfl) | (simp only [e1]; done) | (simp only [e1]; rfl))
         ·
          have q20 : (↑s.els.length : Int) > 0 := of_decide_eq_true h20
          refine rT G (decide ((↑s.els.length : Int) > (0 : Int))) (by assumption) ?_
          refine wp_seq ?_
          refine rs0s G [(2, iA n), (3, .ptr 3 0), (4, .ptr 8 0), (5, .ptr 9 0), (8, bA false), (10, bA true), (11, bA true)] ?_
          clear G; intro ρ a w G
          refine th_n ?_
          refine wp_ret ?_
          refine th_r ?_
          exact rx_ret (v := bA false) G [0, 1, 2, 3, 4, 5, 6, 7] (by kernel_rfl) (by kernel_rfl) (by have e1 : ((↑(stmtF p.vars.length p.arrays.length (d + 1) c s).snd : Int) : Int) = ((↑c : Int) + 1) := (by rw [stmtF_bad (by (rw [head2 (by omega), decide_eq_false (by omega)]; rfl))]; rfl); first | (rw [e1]; done) | (rw [e1]; rfl) | (simp only [e1]; done) | (simp only [e1]; rfl)) (by have e1 : ((stmtF p.vars.length p.arrays.length (d + 1) c s).fst : Bool) = (false) := (by rw [stmtF_bad (by (rw [head2 (by omega), decide_eq_false (by omega)]; rfl))]; done); first | (rw [e1]; done) | (rw [e1]; rfl) | (simp only [e1]; done) | (simp only [e1]; rfl))
        ·
         have q19 : (↑s.body.length : Int) > 0 := of_decide_eq_true h19
         refine rs1s G ⟨[(4, _, [])], [(!(decide ((0 : Int) ≤ s.target) && decide (s.target ≤ (↑p.arrays.length : Int) - (1 : Int))), false), (false, false), (true, true), (s.count != (0 : Int), false), (decide ((↑s.body.length : Int) > (0 : Int)), true)], [(7, 0), (8, 0), (9, 1), (10, 1), (11, 1), (12, 1), (13, 0), (1013, 1), (1014, 0), (16, 1), (17, 1), (18, 1), (19, 2), (20, 2), (21, 2), (22, 1), (1022, 2), (1023, 1), (25, 3), (26, 3), (27, 3), (28, 2), (29, 2), (30, 2), (31, 2), (32, 3), (1032, 2), (1033, 3), (35, 4), (36, 4), (37, 4), (42, 4), (1043, 4)]⟩ (calls_cons (c_within (s.target) (0) ((↑p.arrays.length : Int) - 1)) calls_nil) ⟨(by assumption), (by kernel_rfl), (by kernel_rfl), (by assumption), (by assumption), trivial⟩ [(2, iA n), (3, .ptr 3 0), (4, .ptr 8 0), (5, .ptr 9 0), (8, bA false), (10, bA true), (11, bA true), (88, bA true)] [IntKind.i64.wrap ((↑p.arrays.length : Int) - (1 : Int)) = (↑p.arrays.length : Int) - (1 : Int)] ⟨(by exact w64 (by omega) (by omega)), trivial⟩ ?_
         clear G; intro ρ a w G
         refine th_n ?_
         refine rT G (true) (by kernel_rfl) ?_
         refine wp_seq ?_
         refine rs0s G [(2, iA n), (3, .ptr 3 0), (4, .ptr 8 0), (5, .ptr 9 0), (8, bA false), (10, bA true), (11, bA true)] ?_
         clear G; intro ρ a w G
         refine th_n ?_
         refine wp_ret ?_
         refine th_r ?_
         exact rx_ret (v := bA false) G [0, 1, 2, 3, 4, 5, 6, 7] (by kernel_rfl) (by kernel_rfl) (by have e1 : ((↑(stmtF p.vars.length p.arrays.length (d + 1) c s).snd : Int) : Int) = ((↑c : Int) + 1) := (by rw [stmtF_bad (by (rw [head2 (by omega), decide_eq_false (by omega)]; rfl))]; rfl); first | (rw [e1]; done) | (rw [e1]; rfl) | (simp only [e1]; done) | (simp only [e1]; rfl)) (by have e1 : ((stmtF p.vars.length p.arrays.length (d + 1) c s).fst : Bool) = (false) := (by rw [stmtF_bad (by (rw [head2 (by omega), decide_eq_false (by omega)]; rfl))]; done); first | (rw [e1]; done) | (rw [e1]; rfl) | (simp only [e1]; done) | (simp only [e1]; rfl))
       ·
        have q18 : ¬ (s.count = 0) := bne_iff_ne.1 h18
        refine rs1s G ⟨[(4, _, [])], [(!(decide ((0 : Int) ≤ s.target) && decide (s.target ≤ (↑p.arrays.length : Int) - (1 : Int))), false), (false, false), (true, true), (s.count != (0 : Int), true)], [(7, 0), (8, 0), (9, 1), (10, 1), (11, 1), (12, 1), (13, 0), (1013, 1), (1014, 0), (16, 1), (17, 1), (18, 1), (19, 2), (20, 2), (21, 2), (22, 1), (1022, 2), (1023, 1), (25, 3), (26, 3), (27, 3), (32, 3), (1033, 3), (35, 2), (36, 2), (37, 2), (42, 2), (1043, 2)]⟩ (calls_cons (c_within (s.target) (0) ((↑p.arrays.length : Int) - 1)) calls_nil) ⟨(by assumption), (by kernel_rfl), (by kernel_rfl), (by assumption), trivial⟩ [(2, iA n), (3, .ptr 3 0), (4, .ptr 8 0), (5, .ptr 9 0), (8, bA false), (10, bA true), (11, bA true), (88, bA true)] [IntKind.i64.wrap ((↑p.arrays.length : Int) - (1 : Int)) = (↑p.arrays.length : Int) - (1 : Int)] ⟨(by exact w64 (by omega) (by omega)), trivial⟩ ?_
        clear G; intro ρ a w G
        refine th_n ?_
        refine rT G (true) (by kernel_rfl) ?_
        refine wp_seq ?_
        refine rs0s G [(2, iA n), (3, .ptr 3 0), (4, .ptr 8 0), (5, .ptr 9 0), (8, bA false), (10, bA true), (11, bA true)] ?_
        clear G; intro ρ a w G
        refine th_n ?_
        refine wp_ret ?_
        refine th_r ?_
        exact rx_ret (v := bA false) G [0, 1, 2, 3, 4, 5, 6, 7] (by kernel_rfl) (by kernel_rfl) (by have e1 : ((↑(stmtF p.vars.length p.arrays.length (d + 1) c s).snd : Int) : Int) = ((↑c : Int) + 1) := (by rw [stmtF_bad (by (rw [head2 (by omega), decide_eq_false (by omega)]; rfl))]; rfl); first | (rw [e1]; done) | (rw [e1]; rfl) | (simp only [e1]; done) | (simp only [e1]; rfl)) (by have e1 : ((stmtF p.vars.length p.arrays.length (d + 1) c s).fst : Bool) = (false) := (by rw [stmtF_bad (by (rw [head2 (by omega), decide_eq_false (by omega)]; rfl))]; done); first | (rw [e1]; done) | (rw [e1]; rfl) | (simp only [e1]; done) | (simp only [e1]; rfl))
      ·
       have q17 : (¬ (0 ≤ s.target)) ∨ (¬ (s.target ≤ (↑p.arrays.length : Int) - 1)) := (fun hq => Or.imp (fun hq => of_decide_eq_false (hq)) (fun hq => of_decide_eq_false (hq)) (Bool.and_eq_false_iff.1 (hq))) (Eq.mp (Bool.not_eq_true' _) h17)
       refine rs1s G ⟨[(4, _, [])], [(!(decide ((0 : Int) ≤ s.target) && decide (s.target ≤ (↑p.arrays.length : Int) - (1 : Int))), true), (true, true)], [(7, 0), (8, 0), (13, 0), (1014, 0), (16, 1), (17, 1), (18, 1), (22, 1), (1023, 1), (25, 1), (26, 1), (27, 1), (32, 1), (1033, 1), (35, 1), (36, 1), (37, 1), (42, 1), (1043, 1)]⟩ (calls_cons (c_within (s.target) (0) ((↑p.arrays.length : Int) - 1)) calls_nil) ⟨(by assumption), (by kernel_rfl), trivial⟩ [(2, iA n), (3, .ptr 3 0), (4, .ptr 8 0), (5, .ptr 9 0), (8, bA false), (10, bA true), (11, bA true), (88, bA true)] [IntKind.i64.wrap ((↑p.arrays.length : Int) - (1 : Int)) = (↑p.arrays.length : Int) - (1 : Int)] ⟨(by exact w64 (by omega) (by omega)), trivial⟩ ?_
       clear G; intro ρ a w G
       refine th_n ?_
       refine rT G (true) (by kernel_rfl) ?_
       refine wp_seq ?_
       refine rs0s G [(2, iA n), (3, .ptr 3 0), (4, .ptr 8 0), (5, .ptr 9 0), (8, bA false), (10, bA true), (11, bA true)] ?_
       clear G; intro ρ a w G
       refine th_n ?_
       refine wp_ret ?_
       refine th_r ?_
       exact rx_ret (v := bA false) G [0, 1, 2, 3, 4, 5, 6, 7] (by kernel_rfl) (by kernel_rfl) (by have e1 : ((↑(stmtF p.vars.length p.arrays.length (d + 1) c s).snd : Int) : Int) = ((↑c : Int) + 1) := (by rw [stmtF_bad (by (rw [head2 (by omega), decide_eq_false (by omega)]; rfl))]; rfl); first | (rw [e1]; done) | (rw [e1]; rfl) | (simp only [e1]; done) | (simp only [e1]; rfl)) (by have e1 : ((stmtF p.vars.length p.arrays.length (d + 1) c s).fst : Bool) = (false) := (by rw [stmtF_bad (by (rw [head2 (by omega), decide_eq_false (by omega)]; rfl))]; done); first | (rw [e1]; done) | (rw [e1]; rfl) | (simp only [e1]; done) | (simp only [e1]; rfl))
    ·
     have q2 : s.kind = 5 := eq_of_beq h2
     refine rT G (s.kind == (5 : Int)) (by assumption) ?_
     refine rs0s G [(2, iA n), (3, .ptr 3 0), (4, .ptr 8 0), (5, .ptr 9 0), (8, bA false), (9, iA (↑p.vars.length : Int)), (10, bA false), (11, bA true), (12, bA false), (13, bA false), (14, bA false)] ?_
     clear G; intro ρ a w G
     refine bl_n ?_
     refine th_n ?_
     refine wp_seq ?_
     refine wp_seq ?_
     cases h25 : (!(decide ((0 : Int) ≤ s.target) && decide (s.target ≤ (↑p.vars.length : Int) - (1 : Int))))
     ·
      have q25 : (0 ≤ s.target) ∧ (s.target ≤ (↑p.vars.length : Int) - 1) := (fun hq => And.imp (fun hq => of_decide_eq_true (hq)) (fun hq => of_decide_eq_true (hq)) (Bool.and_eq_true_iff.1 (hq))) (Eq.mp (Bool.not_eq_false' _) h25)
      cases h26 : (s.count != (0 : Int))
      ·
       have q26 : s.count = 0 := (by simpa using h26)
       cases h27 : (decide ((↑s.body.length : Int) > (0 : Int)))
       ·
        have q27 : ¬ ((↑s.body.length : Int) > 0) := of_decide_eq_false h27
        refine rs1s G ⟨[(4, _, [])], [(!(decide ((0 : Int) ≤ s.target) && decide (s.target ≤ (↑p.vars.length : Int) - (1 : Int))), false), (false, false), (true, true), (s.count != (0 : Int), false), (decide ((↑s.body.length : Int) > (0 : Int)), false)], [(7, 0), (8, 0), (9, 1), (10, 1), (11, 1), (12, 1), (13, 0), (1013, 1), (1014, 0), (16, 1), (17, 1), (18, 1), (19, 2), (20, 2), (21, 2), (22, 1), (1022, 2), (1023, 1), (25, 3), (26, 3), (27, 3), (28, 2), (29, 2), (30, 2), (31, 2), (32, 3), (1032, 2), (1033, 3), (35, 4), (36, 4), (37, 4), (38, 2), (39, 2), (40, 2), (41, 2), (42, 4), (1042, 2), (1043, 4)]⟩ (calls_cons (c_within (s.target) (0) ((↑p.vars.length : Int) - 1)) calls_nil) ⟨(by assumption), (by kernel_rfl), (by kernel_rfl), (by assumption), (by assumption), trivial⟩ [(2, iA n), (3, .ptr 3 0), (4, .ptr 8 0), (5, .ptr 9 0), (8, bA false), (10, bA false), (11, bA true), (88, bA (decide ((↑s.els.length : Int) > 0)))] [IntKind.i64.wrap ((↑p.vars.length : Int) - (1 : Int)) = (↑p.vars.length : Int) - (1 : Int)] ⟨(by exact w64 (by omega) (by omega)), trivial⟩ ?_
        clear G; intro ρ a w G
        refine th_n ?_
        cases h28 : (decide ((↑s.els.length : Int) > (0 : Int)))
        ·
         have q28 : ¬ ((↑s.els.length : Int) > 0) := of_decide_eq_false h28
         refine rF G (decide ((↑s.els.length : Int) > (0 : Int))) (by assumption) ?_
         refine wp_skip ?_
         refine th_n ?_
         refine wp_seq ?_
         refine wp_seq ?_
         cases h29 : (!noneB s.index)
         ·
          have q29 : (noneB s.index) = true := (fun hq => (hq)) (Eq.mp (Bool.not_eq_false' _) h29)
          cases h30 : (!rightB p.vars.length p.arrays.length s.value)
          ·
           have q30 : (rightB p.vars.length p.arrays.length s.value) = true := (fun hq => (hq)) (Eq.mp (Bool.not_eq_false' _) h30)
           refine rs1s G ⟨[(20, _, [4]), (30, _, [0, 1, 2, 5])], [(false, false), (true, true), (!noneB s.index, false), (!rightB p.vars.length p.arrays.length s.value, false)], [(2, 0), (3, 0), (4, 0), (5, 0), (6, 0), (7, 0), (12, 0), (1013, 0), (15, 0), (16, 0), (17, 0), (18, 1), (19, 1), (20, 1), (21, 1), (22, 0), (1022, 1), (1023, 0), (25, 2), (26, 2), (27, 1), (28, 1), (29, 1), (30, 1), (31, 1), (32, 2), (1032, 1), (1033, 2), (35, 3), (36, 3), (37, 3), (38, 0), (39, 0), (40, 0), (41, 0), (42, 3), (1042, 0), (1043, 3)]⟩ (calls_cons (c_isNone (s.index)) (calls_cons (c_expr (p) (s.value)) calls_nil)) ⟨(by kernel_rfl), (by kernel_rfl), (by assumption), (by assumption), trivial⟩ [(2, iA n), (3, .ptr 3 0), (4, .ptr 8 0), (5, .ptr 9 0), (8, bA false), (132, bA false)] [] trivial ?_
           clear G; intro ρ a w G
           refine th_n ?_
           refine rF G (false) (by kernel_rfl) ?_
           refine wp_skip ?_
           refine th_n ?_
           refine wp_seq ?_
           cases h31 : ((stmtsF p.vars.length p.arrays.length d (c + (1 : Nat)) s.body).fst)
           ·
            refine rs1 (dk := dkP) G ⟨[(6, _, [0, 1, 2, 3, 6])], [((stmtsF p.vars.length p.arrays.length d (c + (1 : Nat)) s.body).fst, false)], [(8, 0), (9, 0), (10, 0), (11, 0), (12, 0), (13, 0), (14, 0), (1015, 0)]⟩ (calls_cons (ih (s.body) (c + 1) (n + 1) (by simp; omega) (by omega)) calls_nil) ⟨(by assumption), trivial⟩ [0, 1, 2, 3, 4, 5, 6, 7] [dI p.vars, dI p.arrays, dT p.body, .box [iA (↑(stmtsF p.vars.length p.arrays.length d (c + 1) s.body).snd : Int)], dE s.index.kids, dE s.value.kids, dT s.body, dT s.els] [(8, bA false)] [IntKind.i64.wrap (n + (1 : Int)) = n + (1 : Int)] ⟨(by exact w64 (by omega) (by omega)), trivial⟩ ?_
            clear G; intro ρ a w G
            refine th_n ?_
            refine wp_ret ?_
            exact rx_ret (v := bA false) G [0, 1, 2, 3, 4, 5, 6, 7] (by kernel_rfl) (by kernel_rfl) (by have e1 : ((↑(stmtF p.vars.length p.arrays.length (d + 1) c s).snd : Int) : Int) = ((↑(stmtsF p.vars.length p.arrays.length d (c + 1) s.body).snd : Int)) := (by rw [stmtF_body (by omega) (by (rw [head1 (by omega)]; exact and_t (by omega) (by assumption) (by assumption))) (by assumption)]; done); first | (rw [e1]; done) | (rw [e1]; rfl) | (simp only [e1]; done) | (simp only [e1]; rfl)) (by have e1 : ((stmtF p.vars.length p.arrays.length (d + 1) c s).fst : Bool) = (false) := (by rw [stmtF_body (by omega) (by (rw [head1 (by omega)]; exact and_t (by omega) (by assumption) (by assumption))) (by assumption)]; assumption); first | (rw [e1]; done) | (rw [e1]; rfl) | (simp only [e1]; done) | (simp only [e1]; rfl))
           ·
            refine rs1 (dk := dkP) G ⟨[(6, _, [0, 1, 2, 3, 6]), (14, _, [0, 1, 2, 3, 7])], [((stmtsF p.vars.length p.arrays.length d (c + (1 : Nat)) s.body).fst, true)], [(8, 0), (9, 0), (10, 0), (11, 0), (12, 0), (13, 0), (14, 0), (1015, 0)]⟩ (calls_cons (ih (s.body) (c + 1) (n + 1) (by simp; omega) (by omega)) (calls_cons (ih (s.els) ((stmtsF p.vars.length p.arrays.length d (c + 1) s.body).snd) (n + 1) (by exact stmtsF_le (by omega) (by assumption)) (by omega)) calls_nil)) ⟨(by assumption), trivial⟩ [0, 1, 2, 3, 4, 5, 6, 7] [dI p.vars, dI p.arrays, dT p.body, .box [iA (↑(stmtsF p.vars.length p.arrays.length d (stmtsF p.vars.length p.arrays.length d (c + 1) s.body).snd s.els).snd : Int)], dE s.index.kids, dE s.value.kids, dT s.body, dT s.els] [(8, bA (stmtsF p.vars.length p.arrays.length d (stmtsF p.vars.length p.arrays.length d (c + 1) s.body).snd s.els).fst)] [IntKind.i64.wrap (n + (1 : Int)) = n + (1 : Int), IntKind.i64.wrap (n + (1 : Int)) = n + (1 : Int)] ⟨(by exact w64 (by omega) (by omega)), (by exact w64 (by omega) (by omega)), trivial⟩ ?_
            clear G; intro ρ a w G
            refine th_n ?_
            refine wp_ret ?_
            exact rx_ret (v := bA (stmtsF p.vars.length p.arrays.length d (stmtsF p.vars.length p.arrays.length d (c + 1) s.body).snd s.els).fst) G [0, 1, 2, 3, 4, 5, 6, 7] (by kernel_rfl) (by kernel_rfl) (by have e1 : ((↑(stmtF p.vars.length p.arrays.length (d + 1) c s).snd : Int) : Int) = ((↑(stmtsF p.vars.length p.arrays.length d (stmtsF p.vars.length p.arrays.length d (c + 1) s.body).snd s.els).snd : Int)) := (by rw [stmtF_els (by omega) (by (rw [head1 (by omega)]; exact and_t (by omega) (by assumption) (by assumption))) (by assumption)]; done); first | (rw [e1]; done) | (rw [e1]; rfl) | (simp only [e1]; done) | (simp only [e1]; rfl)) (by have e1 : ((stmtF p.vars.length p.arrays.length (d + 1) c s).fst : Bool) = ((stmtsF p.vars.length p.arrays.length d (stmtsF p.vars.length p.arrays.length d (c + 1) s.body).snd s.els).fst) := (by rw [stmtF_els (by omega) (by (rw [head1 (by omega)]; exact and_t (by omega) (by assumption) (by assumption))) (by assumption)]; done); first | (rw [e1]; done) | (rw [e1]; rfl) | (simp only [e1]; done) | (simp only [e1]; rfl))
          ·
           have q30 : (rightB p.vars.length p.arrays.length s.value) = false := (fun hq => (hq)) (Eq.mp (Bool.not_eq_true' _) h30)
           refine rs1s G ⟨[(20, _, [4]), (30, _, [0, 1, 2, 5])], [(false, false), (true, true), (!noneB s.index, false), (!rightB p.vars.length p.arrays.length s.value, true)], [(2, 0), (3, 0), (4, 0), (5, 0), (6, 0), (7, 0), (12, 0), (1013, 0), (15, 0), (16, 0), (17, 0), (18, 1), (19, 1), (20, 1), (21, 1), (22, 0), (1022, 1), (1023, 0), (25, 2), (26, 2), (27, 1), (28, 1), (29, 1), (30, 1), (31, 1), (32, 2), (1032, 1), (1033, 2), (35, 3), (36, 3), (37, 3), (42, 3), (1043, 3)]⟩ (calls_cons (c_isNone (s.index)) (calls_cons (c_expr (p) (s.value)) calls_nil)) ⟨(by kernel_rfl), (by kernel_rfl), (by assumption), (by assumption), trivial⟩ [(2, iA n), (3, .ptr 3 0), (4, .ptr 8 0), (5, .ptr 9 0), (8, bA false), (132, bA true)] [] trivial ?_
           clear G; intro ρ a w G
           refine th_n ?_
           refine rT G (true) (by kernel_rfl) ?_
           refine wp_seq ?_
           refine rs0s G [(2, iA n), (3, .ptr 3 0), (4, .ptr 8 0), (5, .ptr 9 0), (8, bA false)] ?_
           clear G; intro ρ a w G
           refine th_n ?_
           refine wp_ret ?_
           refine th_r ?_
           exact rx_ret (v := bA false) G [0, 1, 2, 3, 4, 5, 6, 7] (by kernel_rfl) (by kernel_rfl) (by have e1 : ((↑(stmtF p.vars.length p.arrays.length (d + 1) c s).snd : Int) : Int) = ((↑c : Int) + 1) := (by rw [stmtF_bad (by (rw [head1 (by omega)]; simp [h100, h0, q0, h1, q1, h2, q2, h25, q25, h26, q26, h27, q27, h28, q28, h29, q29, h30, q30]; done))]; rfl); first | (rw [e1]; done) | (rw [e1]; rfl) | (simp only [e1]; done) | (simp only [e1]; rfl)) (by have e1 : ((stmtF p.vars.length p.arrays.length (d + 1) c s).fst : Bool) = (false) := (by rw [stmtF_bad (by (rw [head1 (by omega)]; simp [h100, h0, q0, h1, q1, h2, q2, h25, q25, h26, q26, h27, q27, h28, q28, h29, q29, h30, q30]; done))]; done); first | (rw [e1]; done) | (rw [e1]; rfl) | (simp only [e1]; done) | (simp only [e1]; rfl))
         ·
          have q29 : (noneB s.index) = false := (fun hq => (hq)) (Eq.mp (Bool.not_eq_true' _) h29)
          refine rs1s G ⟨[(20, _, [4])], [(false, false), (true, true), (!noneB s.index, true)], [(2, 0), (3, 0), (4, 0), (5, 0), (6, 0), (7, 0), (12, 0), (1013, 0), (15, 0), (16, 0), (17, 0), (18, 1), (19, 1), (20, 1), (21, 1), (22, 0), (1022, 1), (1023, 0), (25, 2), (26, 2), (32, 2), (1033, 2), (35, 1), (36, 1), (37, 1), (42, 1), (1043, 1)]⟩ (calls_cons (c_isNone (s.index)) calls_nil) ⟨(by kernel_rfl), (by kernel_rfl), (by assumption), trivial⟩ [(2, iA n), (3, .ptr 3 0), (4, .ptr 8 0), (5, .ptr 9 0), (8, bA false), (132, bA true)] [] trivial ?_
          clear G; intro ρ a w G
          refine th_n ?_
          refine rT G (true) (by kernel_rfl) ?_
          refine wp_seq ?_
          refine rs0s G [(2, iA n), (3, .ptr 3 0), (4, .ptr 8 0), (5, .ptr 9 0), (8, bA false)] ?_
          clear G; intro ρ a w G
          refine th_n ?_
          refine wp_ret ?_
          refine th_r ?_
          exact rx_ret (v := bA false) G [0, 1, 2, 3, 4, 5, 6, 7] (by kernel_rfl) (by kernel_rfl) (by have e1 : ((↑(stmtF p.vars.length p.arrays.length (d + 1) c s).snd : Int) : Int) = ((↑c : Int) + 1) := (by rw [stmtF_bad (by (rw [head1 (by omega)]; simp [h100, h0, q0, h1, q1, h2, q2, h25, q25, h26, q26, h27, q27, h28, q28, h29, q29]; done))]; rfl); first | (rw [e1]; done) | (rw [e1]; rfl) | (simp only [e1]; done) | (simp only [e1]; rfl)) (by have e1 : ((stmtF p.vars.length p.arrays.length (d + 1) c s).fst : Bool) = (false) := (by rw [stmtF_bad (by (rw [head1 (by omega)]; simp [h100, h0, q0, h1, q1, h2, q2, h25, q25, h26, q26, h27, q27, h28, q28, h29, q29]; done))]; done); first | (rw [e1]; done) | (rw [e1]; rfl) | (simp only [e1]; done) | (simp only [e1]; rfl))
        ·
         have q28 : (↑s.els.length : Int) > 0 := of_decide_eq_true h28
         refine rT G (decide ((↑s.els.length : Int) > (0 : Int))) (by assumption) ?_
         refine wp_seq ?_
         refine rs0s G [(2, iA n), (3, .ptr 3 0), (4, .ptr 8 0), (5, .ptr 9 0), (8, bA false), (10, bA false), (11, bA true)] ?_
         clear G; intro ρ a w G
         refine th_n ?_
         refine wp_ret ?_
         refine th_r ?_
         exact rx_ret (v := bA false) G [0, 1, 2, 3, 4, 5, 6, 7] (by kernel_rfl) (by kernel_rfl) (by have e1 : ((↑(stmtF p.vars.length p.arrays.length (d + 1) c s).snd : Int) : Int) = ((↑c : Int) + 1) := (by rw [stmtF_bad (by (rw [head1 (by omega), decide_eq_false (by omega)]; rfl))]; rfl); first | (rw [e1]; done) | (rw [e1]; rfl) | (simp only [e1]; done) | (simp only [e1]; rfl)) (by have e1 : ((stmtF p.vars.length p.arrays.length (d + 1) c s).fst : Bool) = (false) := (by rw [stmtF_bad (by (rw [head1 (by omega), decide_eq_false (by omega)]; rfl))]; done); first | (rw [e1]; done) | (rw [e1]; rfl) | (simp only [e1]; done) | (simp only [e1]; rfl))
       ·
        have q27 : (↑s.body.length : Int) > 0 := of_decide_eq_true h27
        refine rs1s G ⟨[(4, _, [])], [(!(decide ((0 : Int) ≤ s.target) && decide (s.target ≤ (↑p.vars.length : Int) - (1 : Int))), false), (false, false), (true, true), (s.count != (0 : Int), false), (decide ((↑s.body.length : Int) > (0 : Int)), true)], [(7, 0), (8, 0), (9, 1), (10, 1), (11, 1), (12, 1), (13, 0), (1013, 1), (1014, 0), (16, 1), (17, 1), (18, 1), (19, 2), (20, 2), (21, 2), (22, 1), (1022, 2), (1023, 1), (25, 3), (26, 3), (27, 3), (28, 2), (29, 2), (30, 2), (31, 2), (32, 3), (1032, 2), (1033, 3), (35, 4), (36, 4), (37, 4), (42, 4), (1043, 4)]⟩ (calls_cons (c_within (s.target) (0) ((↑p.vars.length : Int) - 1)) calls_nil) ⟨(by assumption), (by kernel_rfl), (by kernel_rfl), (by assumption), (by assumption), trivial⟩ [(2, iA n), (3, .ptr 3 0), (4, .ptr 8 0), (5, .ptr 9 0), (8, bA false), (10, bA false), (11, bA true), (88, bA true)] [IntKind.i64.wrap ((↑p.vars.length : Int) - (1 : Int)) = (↑p.vars.length : Int) - (1 : Int)] ⟨(by exact w64 (by omega) (by omega)), trivial⟩ ?_
        clear G; intro ρ a w G
        refine th_n ?_
        refine rT G (true) (by kernel_rfl) ?_
        refine wp_seq ?_
        refine rs0s G [(2, iA n), (3, .ptr 3 0), (4, .ptr 8 0), (5, .ptr 9 0), (8, bA false), (10, bA false), (11, bA true)] ?_
        clear G; intro ρ a w G
        refine th_n ?_
        refine wp_ret ?_
        refine th_r ?_
        exact rx_ret (v := bA false) G [0, 1, 2, 3, 4, 5, 6, 7] (by kernel_rfl) (by kernel_rfl) (by have e1 : ((↑(stmtF p.vars.length p.arrays.length (d + 1) c s).snd : Int) : Int) = ((↑c : Int) + 1) := (by rw [stmtF_bad (by (rw [head1 (by omega), decide_eq_false (by omega)]; rfl))]; rfl); first | (rw [e1]; done) | (rw [e1]; rfl) | (simp only [e1]; done) | (simp only [e1]; rfl)) (by have e1 : ((stmtF p.vars.length p.arrays.length (d + 1) c s).fst : Bool) = (false) := (by rw [stmtF_bad (by (rw [head1 (by omega), decide_eq_false (by omega)]; rfl))]; done); first | (rw [e1]; done) | (rw [e1]; rfl) | (simp only [e1]; done) | (simp only [e1]; rfl))
      ·
       have q26 : ¬ (s.count = 0) := bne_iff_ne.1 h26
       refine rs1s G ⟨[(4, _, [])], [(!(decide ((0 : Int) ≤ s.target) && decide (s.target ≤ (↑p.vars.length : Int) - (1 : Int))), false), (false, false), (true, true), (s.count != (0 : Int), true)], [(7, 0), (8, 0), (9, 1), (10, 1), (11, 1), (12, 1), (13, 0), (1013, 1), (1014, 0), (16, 1), (17, 1), (18, 1), (19, 2), (20, 2), (21, 2), (22, 1), (1022, 2), (1023, 1), (25, 3), (26, 3), (27, 3), (32, 3), (1033, 3), (35, 2), (36, 2), (37, 2), (42, 2), (1043, 2)]⟩ (calls_cons (c_within (s.target) (0) ((↑p.vars.length : Int) - 1)) calls_nil) ⟨(by assumption), (by kernel_rfl), (by kernel_rfl), (by assumption), trivial⟩ [(2, iA n), (3, .ptr 3 0), (4, .ptr 8 0), (5, .ptr 9 0), (8, bA false), (10, bA false), (11, bA true), (88, bA true)] [IntKind.i64.wrap ((↑p.vars.length : Int) - (1 : Int)) = (↑p.vars.length : Int) - (1 : Int)] ⟨(by exact w64 (by omega) (by omega)), trivial⟩ ?_
       clear G; intro ρ a w G
       refine th_n ?_
       refine rT G (true) (by kernel_rfl) ?_
       refine wp_seq ?_
       refine rs0s G [(2, iA n), (3, .ptr 3 0), (4, .ptr 8 0), (5, .ptr 9 0), (8, bA false), (10, bA false), (11, bA true)] ?_
       clear G; intro ρ a w G
       refine th_n ?_
       refine wp_ret ?_
       refine th_r ?_
       exact rx_ret (v := bA false) G [0, 1, 2, 3, 4, 5, 6, 7] (by kernel_rfl) (by kernel_rfl) (by have e1 : ((↑(stmtF p.vars.length p.arrays.length (d + 1) c s).snd : Int) : Int) = ((↑c : Int) + 1) := (by rw [stmtF_bad (by (rw [head1 (by omega), decide_eq_false (by omega)]; rfl))]; rfl); first | (rw [e1]; done) | (rw [e1]; rfl) | (simp only [e1]; done) | (simp only [e1]; rfl)) (by have e1 : ((stmtF p.vars.length p.arrays.length (d + 1) c s).fst : Bool) = (false) := (by rw [stmtF_bad (by (rw [head1 (by omega), decide_eq_false (by omega)]; rfl))]; done); first | (rw [e1]; done) | (rw [e1]; rfl) | (simp only [e1]; done) | (simp only [e1]; rfl))
     ·
      have q25 : (¬ (0 ≤ s.target)) ∨ (¬ (s.target ≤ (↑p.vars.length : Int) - 1)) := (fun hq => Or.imp (fun hq => of_decide_eq_false (hq)) (fun hq => of_decide_eq_false (hq)) (Bool.and_eq_false_iff.1 (hq))) (Eq.mp (Bool.not_eq_true' _) h25)
      refine rs1s G ⟨[(4, _, [])], [(!(decide ((0 : Int) ≤ s.target) && decide (s.target ≤ (↑p.vars.length : Int) - (1 : Int))), true), (true, true)], [(7, 0), (8, 0), (13, 0), (1014, 0), (16, 1), (17, 1), (18, 1), (22, 1), (1023, 1), (25, 1), (26, 1), (27, 1), (32, 1), (1033, 1), (35, 1), (36, 1), (37, 1), (42, 1), (1043, 1)]⟩ (calls_cons (c_within (s.target) (0) ((↑p.vars.length : Int) - 1)) calls_nil) ⟨(by assumption), (by kernel_rfl), trivial⟩ [(2, iA n), (3, .ptr 3 0), (4, .ptr 8 0), (5, .ptr 9 0), (8, bA false), (10, bA false), (11, bA true), (88, bA true)] [IntKind.i64.wrap ((↑p.vars.length : Int) - (1 : Int)) = (↑p.vars.length : Int) - (1 : Int)] ⟨(by exact w64 (by omega) (by omega)), trivial⟩ ?_
      clear G; intro ρ a w G
      refine th_n ?_
      refine rT G (true) (by kernel_rfl) ?_
      refine wp_seq ?_
      refine rs0s G [(2, iA n), (3, .ptr 3 0), (4, .ptr 8 0), (5, .ptr 9 0), (8, bA false), (10, bA false), (11, bA true)] ?_
      clear G; intro ρ a w G
      refine th_n ?_
      refine wp_ret ?_
      refine th_r ?_
      exact rx_ret (v := bA false) G [0, 1, 2, 3, 4, 5, 6, 7] (by kernel_rfl) (by kernel_rfl) (by have e1 : ((↑(stmtF p.vars.length p.arrays.length (d + 1) c s).snd : Int) : Int) = ((↑c : Int) + 1) := (by rw [stmtF_bad (by (rw [head1 (by omega), decide_eq_false (by omega)]; rfl))]; rfl); first | (rw [e1]; done) | (rw [e1]; rfl) | (simp only [e1]; done) | (simp only [e1]; rfl)) (by have e1 : ((stmtF p.vars.length p.arrays.length (d + 1) c s).fst : Bool) = (false) := (by rw [stmtF_bad (by (rw [head1 (by omega), decide_eq_false (by omega)]; rfl))]; done); first | (rw [e1]; done) | (rw [e1]; rfl) | (simp only [e1]; done) | (simp only [e1]; rfl))
   ·
    have q1 : s.kind = 1 := eq_of_beq h1
    refine rT G (s.kind == (1 : Int)) (by assumption) ?_
    refine wp_skip ?_
    refine th_n ?_
    refine rT G (s.kind == (1 : Int)) (by assumption) ?_
    refine rs0s G [(2, iA n), (3, .ptr 3 0), (4, .ptr 8 0), (5, .ptr 9 0), (8, bA false), (9, iA (↑p.vars.length : Int)), (10, bA false), (11, bA true), (12, bA false), (13, bA false), (14, bA false)] ?_
    clear G; intro ρ a w G
    refine bl_n ?_
    refine th_n ?_
    refine wp_seq ?_
    refine wp_seq ?_
    cases h32 : (!(decide ((0 : Int) ≤ s.target) && decide (s.target ≤ (↑p.vars.length : Int) - (1 : Int))))
    ·
     have q32 : (0 ≤ s.target) ∧ (s.target ≤ (↑p.vars.length : Int) - 1) := (fun hq => And.imp (fun hq => of_decide_eq_true (hq)) (fun hq => of_decide_eq_true (hq)) (Bool.and_eq_true_iff.1 (hq))) (Eq.mp (Bool.not_eq_false' _) h32)
     cases h33 : (s.count != (0 : Int))
     ·
      have q33 : s.count = 0 := (by simpa using h33)
      cases h34 : (decide ((↑s.body.length : Int) > (0 : Int)))
      ·
       have q34 : ¬ ((↑s.body.length : Int) > 0) := of_decide_eq_false h34
       refine rs1s G ⟨[(4, _, [])], [(!(decide ((0 : Int) ≤ s.target) && decide (s.target ≤ (↑p.vars.length : Int) - (1 : Int))), false), (false, false), (true, true), (s.count != (0 : Int), false), (decide ((↑s.body.length : Int) > (0 : Int)), false)], [(7, 0), (8, 0), (9, 1), (10, 1), (11, 1), (12, 1), (13, 0), (1013, 1), (1014, 0), (16, 1), (17, 1), (18, 1), (19, 2), (20, 2), (21, 2), (22, 1), (1022, 2), (1023, 1), (25, 3), (26, 3), (27, 3), (28, 2), (29, 2), (30, 2), (31, 2), (32, 3), (1032, 2), (1033, 3), (35, 4), (36, 4), (37, 4), (38, 2), (39, 2), (40, 2), (41, 2), (42, 4), (1042, 2), (1043, 4)]⟩ (calls_cons (c_within (s.target) (0) ((↑p.vars.length : Int) - 1)) calls_nil) ⟨(by assumption), (by kernel_rfl), (by kernel_rfl), (by assumption), (by assumption), trivial⟩ [(2, iA n), (3, .ptr 3 0), (4, .ptr 8 0), (5, .ptr 9 0), (8, bA false), (10, bA false), (11, bA true), (88, bA (decide ((↑s.els.length : Int) > 0)))] [IntKind.i64.wrap ((↑p.vars.length : Int) - (1 : Int)) = (↑p.vars.length : Int) - (1 : Int)] ⟨(by exact w64 (by omega) (by omega)), trivial⟩ ?_
       clear G; intro ρ a w G
       refine th_n ?_
       cases h35 : (decide ((↑s.els.length : Int) > (0 : Int)))
       ·
        have q35 : ¬ ((↑s.els.length : Int) > 0) := of_decide_eq_false h35
        refine rF G (decide ((↑s.els.length : Int) > (0 : Int))) (by assumption) ?_
        refine wp_skip ?_
        refine th_n ?_
        refine wp_seq ?_
        refine wp_seq ?_
        cases h36 : (!noneB s.index)
        ·
         have q36 : (noneB s.index) = true := (fun hq => (hq)) (Eq.mp (Bool.not_eq_false' _) h36)
         cases h37 : (!rightB p.vars.length p.arrays.length s.value)
         ·
          have q37 : (rightB p.vars.length p.arrays.length s.value) = true := (fun hq => (hq)) (Eq.mp (Bool.not_eq_false' _) h37)
          refine rs1s G ⟨[(20, _, [4]), (30, _, [0, 1, 2, 5])], [(false, false), (true, true), (!noneB s.index, false), (!rightB p.vars.length p.arrays.length s.value, false)], [(2, 0), (3, 0), (4, 0), (5, 0), (6, 0), (7, 0), (12, 0), (1013, 0), (15, 0), (16, 0), (17, 0), (18, 1), (19, 1), (20, 1), (21, 1), (22, 0), (1022, 1), (1023, 0), (25, 2), (26, 2), (27, 1), (28, 1), (29, 1), (30, 1), (31, 1), (32, 2), (1032, 1), (1033, 2), (35, 3), (36, 3), (37, 3), (38, 0), (39, 0), (40, 0), (41, 0), (42, 3), (1042, 0), (1043, 3)]⟩ (calls_cons (c_isNone (s.index)) (calls_cons (c_expr (p) (s.value)) calls_nil)) ⟨(by kernel_rfl), (by kernel_rfl), (by assumption), (by assumption), trivial⟩ [(2, iA n), (3, .ptr 3 0), (4, .ptr 8 0), (5, .ptr 9 0), (8, bA false), (132, bA false)] [] trivial ?_
          clear G; intro ρ a w G
          refine th_n ?_
          refine rF G (false) (by kernel_rfl) ?_
          refine wp_skip ?_
          refine th_n ?_
          refine wp_seq ?_
          cases h38 : ((stmtsF p.vars.length p.arrays.length d (c + (1 : Nat)) s.body).fst)
          ·
           refine rs1 (dk := dkP) G ⟨[(6, _, [0, 1, 2, 3, 6])], [((stmtsF p.vars.length p.arrays.length d (c + (1 : Nat)) s.body).fst, false)], [(8, 0), (9, 0), (10, 0), (11, 0), (12, 0), (13, 0), (14, 0), (1015, 0)]⟩ (calls_cons (ih (s.body) (c + 1) (n + 1) (by simp; omega) (by omega)) calls_nil) ⟨(by assumption), trivial⟩ [0, 1, 2, 3, 4, 5, 6, 7] [dI p.vars, dI p.arrays, dT p.body, .box [iA (↑(stmtsF p.vars.length p.arrays.length d (c + 1) s.body).snd : Int)], dE s.index.kids, dE s.value.kids, dT s.body, dT s.els] [(8, bA false)] [IntKind.i64.wrap (n + (1 : Int)) = n + (1 : Int)] ⟨(by exact w64 (by omega) (by omega)), trivial⟩ ?_
           clear G; intro ρ a w G
           refine th_n ?_
           refine wp_ret ?_
           exact rx_ret (v := bA false) G [0, 1, 2, 3, 4, 5, 6, 7] (by kernel_rfl) (by kernel_rfl) (by have e1 : ((↑(stmtF p.vars.length p.arrays.length (d + 1) c s).snd : Int) : Int) = ((↑(stmtsF p.vars.length p.arrays.length d (c + 1) s.body).snd : Int)) := (by rw [stmtF_body (by omega) (by (rw [head1 (by omega)]; exact and_t (by omega) (by assumption) (by assumption))) (by assumption)]; done); first | (rw [e1]; done) | (rw [e1]; rfl) | (simp only [e1]; done) | (simp only [e1]; rfl)) (by have e1 : ((stmtF p.vars.length p.arrays.length (d + 1) c s).fst : Bool) = (false) := (by rw [stmtF_body (by omega) (by (rw [head1 (by omega)]; exact and_t (by omega) (by assumption) (by assumption))) (by assumption)]; assumption); first | (rw [e1]; done) | (rw [e1]; rfl) | (simp only [e1]; done) | (simp only [e1]; rfl))
          ·
           refine rs1 (dk := dkP) G ⟨[(6, _, [0, 1, 2, 3, 6]), (14, _, [0, 1, 2, 3, 7])], [((stmtsF p.vars.length p.arrays.length d (c + (1 : Nat)) s.body).fst, true)], [(8, 0), (9, 0), (10, 0), (11, 0), (12, 0), (13, 0), (14, 0), (1015, 0)]⟩ (calls_cons (ih (s.body) (c + 1) (n + 1) (by simp; omega) (by omega)) (calls_cons (ih (s.els) ((stmtsF p.vars.length p.arrays.length d (c + 1) s.body).snd) (n + 1) (by exact stmtsF_le (by omega) (by assumption)) (by omega)) calls_nil)) ⟨(by assumption), trivial⟩ [0, 1, 2, 3, 4, 5, 6, 7] [dI p.vars, dI p.arrays, dT p.body, .box [iA (↑(stmtsF p.vars.length p.arrays.length d (stmtsF p.vars.length p.arrays.length d (c + 1) s.body).snd s.els).snd : Int)], dE s.index.kids, dE s.value.kids, dT s.body, dT s.els] [(8, bA (stmtsF p.vars.length p.arrays.length d (stmtsF p.vars.length p.arrays.length d (c + 1) s.body).snd s.els).fst)] [IntKind.i64.wrap (n + (1 : Int)) = n + (1 : Int), IntKind.i64.wrap (n + (1 : Int)) = n + (1 : Int)] ⟨(by exact w64 (by omega) (by omega)), (by exact w64 (by omega) (by omega)), trivial⟩ ?_
           clear G; intro ρ a w G
           refine th_n ?_
           refine wp_ret ?_
           exact rx_ret (v := bA (stmtsF p.vars.length p.arrays.length d (stmtsF p.vars.length p.arrays.length d (c + 1) s.body).snd s.els).fst) G [0, 1, 2, 3, 4, 5, 6, 7] (by kernel_rfl) (by kernel_rfl) (by have e1 : ((↑(stmtF p.vars.length p.arrays.length (d + 1) c s).snd : Int) : Int) = ((↑(stmtsF p.vars.length p.arrays.length d (stmtsF p.vars.length p.arrays.length d (c + 1) s.body).snd s.els).snd : Int)) := (by rw [stmtF_els (by omega) (by (rw [head1 (by omega)]; exact and_t (by omega) (by assumption) (by assumption))) (by assumption)]; done); first | (rw [e1]; done) | (rw [e1]; rfl) | (simp only [e1]; done) | (simp only [e1]; rfl)) (by have e1 : ((stmtF p.vars.length p.arrays.length (d + 1) c s).fst : Bool) = ((stmtsF p.vars.length p.arrays.length d (stmtsF p.vars.length p.arrays.length d (c + 1) s.body).snd s.els).fst) := (by rw [stmtF_els (by omega) (by (rw [head1 (by omega)]; exact and_t (by omega) (by assumption) (by assumption))) (by assumption)]; done); first | (rw [e1]; done) | (rw [e1]; rfl) | (simp only [e1]; done) | (simp only [e1]; rfl))
         ·
          have q37 : (rightB p.vars.length p.arrays.length s.value) = false := (fun hq => (hq)) (Eq.mp (Bool.not_eq_true' _) h37)
          refine rs1s G ⟨[(20, _, [4]), (30, _, [0, 1, 2, 5])], [(false, false), (true, true), (!noneB s.index, false), (!rightB p.vars.length p.arrays.length s.value, true)], [(2, 0), (3, 0), (4, 0), (5, 0), (6, 0), (7, 0), (12, 0), (1013, 0), (15, 0), (16, 0), (17, 0), (18, 1), (19, 1), (20, 1), (21, 1), (22, 0), (1022, 1), (1023, 0), (25, 2), (26, 2), (27, 1), (28, 1), (29, 1), (30, 1), (31, 1), (32, 2), (1032, 1), (1033, 2), (35, 3), (36, 3), (37, 3), (42, 3), (1043, 3)]⟩ (calls_cons (c_isNone (s.index)) (calls_cons (c_expr (p) (s.value)) calls_nil)) ⟨(by kernel_rfl), (by kernel_rfl), (by assumption), (by assumption), trivial⟩ [(2, iA n), (3, .ptr 3 0), (4, .ptr 8 0), (5, .ptr 9 0), (8, bA false), (132, bA true)] [] trivial ?_
          clear G; intro ρ a w G
          refine th_n ?_
          refine rT G (true) (by kernel_rfl) ?_
          refine wp_seq ?_
          refine rs0s G [(2, iA n), (3, .ptr 3 0), (4, .ptr 8 0), (5, .ptr 9 0), (8, bA false)] ?_
          clear G; intro ρ a w G
          refine th_n ?_
          refine wp_ret ?_
          refine th_r ?_
          exact rx_ret (v := bA false) G [0, 1, 2, 3, 4, 5, 6, 7] (by kernel_rfl) (by kernel_rfl) (by have e1 : ((↑(stmtF p.vars.length p.arrays.length (d + 1) c s).snd : Int) : Int) = ((↑c : Int) + 1) := (by rw [stmtF_bad (by (rw [head1 (by omega)]; simp [h100, h0, q0, h1, q1, h32, q32, h33, q33, h34, q34, h35, q35, h36, q36, h37, q37]; done))]; rfl); first | (rw [e1]; done) | (rw [e1]; rfl) | (simp only [e1]; done) | (simp only [e1]; rfl)) (by have e1 : ((stmtF p.vars.length p.arrays.length (d + 1) c s).fst : Bool) = (false) := (by rw [stmtF_bad (by (rw [head1 (by omega)]; simp [h100, h0, q0, h1, q1, h32, q32, h33, q33, h34, q34, h35, q35, h36, q36, h37, q37]; done))]; done); first | (rw [e1]; done) | (rw [e1]; rfl) | (simp only [e1]; done) | (simp only [e1]; rfl))
        ·
         have q36 : (noneB s.index) = false := (fun hq => (hq)) (Eq.mp (Bool.not_eq_true' _) h36)
         refine rs1s G ⟨[(20, _, [4])], [(false, false), (true, true), (!noneB s.index, true)], [(2, 0), (3, 0), (4, 0), (5, 0), (6, 0), (7, 0), (12, 0), (1013, 0), (15, 0), (16, 0), (17, 0), (18, 1), (19, 1), (20, 1), (21, 1), (22, 0), (1022, 1), (1023, 0), (25, 2), (26, 2), (32, 2), (1033, 2), (35, 1), (36, 1), (37, 1), (42, 1), (1043, 1)]⟩ (calls_cons (c_isNone (s.index)) calls_nil) ⟨(by kernel_rfl), (by kernel_rfl), (by assumption), trivial⟩ [(2, iA n), (3, .ptr 3 0), (4, .ptr 8 0), (5, .ptr 9 0), (8, bA false), (132, bA true)] [] trivial ?_
         clear G; intro ρ a w G
         refine th_n ?_
         refine rT G (true) (by kernel_rfl) ?_
         refine wp_seq ?_
         refine rs0s G [(2, iA n), (3, .ptr 3 0), (4, .ptr 8 0), (5, .ptr 9 0), (8, bA false)] ?_
         clear G; intro ρ a w G
         refine th_n ?_
         refine wp_ret ?_
         refine th_r ?_
         exact rx_ret (v := bA false) G [0, 1, 2, 3, 4, 5, 6, 7] (by kernel_rfl) (by kernel_rfl) (by have e1 : ((↑(stmtF p.vars.length p.arrays.length (d + 1) c s).snd : Int) : Int) = ((↑c : Int) + 1) := (by rw [stmtF_bad (by (rw [head1 (by omega)]; simp [h100, h0, q0, h1, q1, h32, q32, h33, q33, h34, q34, h35, q35, h36, q36]; done))]; rfl); first | (rw [e1]; done) | (rw [e1]; rfl) | (simp only [e1]; done) | (simp only [e1]; rfl)) (by have e1 : ((stmtF p.vars.length p.arrays.length (d + 1) c s).fst : Bool) = (false) := (by rw [stmtF_bad (by (rw [head1 (by omega)]; simp [h100, h0, q0, h1, q1, h32, q32, h33, q33, h34, q34, h35, q35, h36, q36]; done))]; done); first | (rw [e1]; done) | (rw [e1]; rfl) | (simp only [e1]; done) | (simp only [e1]; rfl))
       ·
        have q35 : (↑s.els.length : Int) > 0 := of_decide_eq_true h35
        refine rT G (decide ((↑s.els.length : Int) > (0 : Int))) (by assumption) ?_
        refine wp_seq ?_
        refine rs0s G [(2, iA n), (3, .ptr 3 0), (4, .ptr 8 0), (5, .ptr 9 0), (8, bA false), (10, bA false), (11, bA true)] ?_
        clear G; intro ρ a w G
        refine th_n ?_
        refine wp_ret ?_
        refine th_r ?_
        exact rx_ret (v := bA false) G [0, 1, 2, 3, 4, 5, 6, 7] (by kernel_rfl) (by kernel_rfl) (by have e1 : ((↑(stmtF p.vars.length p.arrays.length (d + 1) c s).snd : Int) : Int) = ((↑c : Int) + 1) := (by rw [stmtF_bad (by (rw [head1 (by omega), decide_eq_false (by omega)]; rfl))]; rfl); first | (rw [e1]; done) | (rw [e1]; rfl) | (simp only [e1]; done) | (simp only [e1]; rfl)) (by have e1 : ((stmtF p.vars.length p.arrays.length (d + 1) c s).fst : Bool) = (false) := (by rw [stmtF_bad (by (rw [head1 (by omega), decide_eq_false (by omega)]; rfl))]; done); first | (rw [e1]; done) | (rw [e1]; rfl) | (simp only [e1]; done) | (simp only [e1]; rfl))
      ·
       have q34 : (↑s.body.length : Int) > 0 := of_decide_eq_true h34
       refine rs1s G ⟨[(4, _, [])], [(!(decide ((0 : Int) ≤ s.target) && decide (s.target ≤ (↑p.vars.length : Int) - (1 : Int))), false), (false, false), (true, true), (s.count != (0 : Int), false), (decide ((↑s.body.length : Int) > (0 : Int)), true)], [(7, 0), (8, 0), (9, 1), (10, 1), (11, 1), (12, 1), (13, 0), (1013, 1), (1014, 0), (16, 1), (17, 1), (18, 1), (19, 2), (20, 2), (21, 2), (22, 1), (1022, 2), (1023, 1), (25, 3), (26, 3), (27, 3), (28, 2), (29, 2), (30, 2), (31, 2), (32, 3), (1032, 2), (1033, 3), (35, 4), (36, 4), (37, 4), (42, 4), (1043, 4)]⟩ (calls_cons (c_within (s.target) (0) ((↑p.vars.length : Int) - 1)) calls_nil) ⟨(by assumption), (by kernel_rfl), (by kernel_rfl), (by assumption), (by assumption), trivial⟩ [(2, iA n), (3, .ptr 3 0), (4, .ptr 8 0), (5, .ptr 9 0), (8, bA false), (10, bA false), (11, bA true), (88, bA true)] [IntKind.i64.wrap ((↑p.vars.length : Int) - (1 : Int)) = (↑p.vars.length : Int) - (1 : Int)] ⟨(by exact w64 (by omega) (by omega)), trivial⟩ ?_
       clear G; intro ρ a w G
       refine th_n ?_
       refine rT G (true) (by kernel_rfl) ?_
       refine wp_seq ?_
       refine rs0s G [(2, iA n), (3, .ptr 3 0), (4, .ptr 8 0), (5, .ptr 9 0), (8, bA false), (10, bA false), (11, bA true)] ?_
       clear G; intro ρ a w G
       refine th_n ?_
       refine wp_ret ?_
       refine th_r ?_
       exact rx_ret (v := bA false) G [0, 1, 2, 3, 4, 5, 6, 7] (by kernel_rfl) (by kernel_rfl) (by have e1 : ((↑(stmtF p.vars.length p.arrays.length (d + 1) c s).snd : Int) : Int) = ((↑c : Int) + 1) := (by rw [stmtF_bad (by (rw [head1 (by omega), decide_eq_false (by omega)]; rfl))]; rfl); first | (rw [e1]; done) | (rw [e1]; rfl) | (simp only [e1]; done) | (simp only [e1]; rfl)) (by have e1 : ((stmtF p.vars.length p.arrays.length (d + 1) c s).fst : Bool) = (false) := (by rw [stmtF_bad (by (rw [head1 (by omega), decide_eq_false (by omega)]; rfl))]; done); first | (rw [e1]; done) | (rw [e1]; rfl) | (simp only [e1]; done) | (simp only [e1]; rfl))
     ·
      have q33 : ¬ (s.count = 0) := bne_iff_ne.1 h33
      refine rs1s G ⟨[(4, _, [])], [(!(decide ((0 : Int) ≤ s.target) && decide (s.target ≤ (↑p.vars.length : Int) - (1 : Int))), false), (false, false), (true, true), (s.count != (0 : Int), true)], [(7, 0), (8, 0), (9, 1), (10, 1), (11, 1), (12, 1), (13, 0), (1013, 1), (1014, 0), (16, 1), (17, 1), (18, 1), (19, 2), (20, 2), (21, 2), (22, 1), (1022, 2), (1023, 1), (25, 3), (26, 3), (27, 3), (32, 3), (1033, 3), (35, 2), (36, 2), (37, 2), (42, 2), (1043, 2)]⟩ (calls_cons (c_within (s.target) (0) ((↑p.vars.length : Int) - 1)) calls_nil) ⟨(by assumption), (by kernel_rfl), (by kernel_rfl), (by assumption), trivial⟩ [(2, iA n), (3, .ptr 3 0), (4, .ptr 8 0), (5, .ptr 9 0), (8, bA false), (10, bA false), (11, bA true), (88, bA true)] [IntKind.i64.wrap ((↑p.vars.length : Int) - (1 : Int)) = (↑p.vars.length : Int) - (1 : Int)] ⟨(by exact w64 (by omega) (by omega)), trivial⟩ ?_
      clear G; intro ρ a w G
      refine th_n ?_
      refine rT G (true) (by kernel_rfl) ?_
      refine wp_seq ?_
      refine rs0s G [(2, iA n), (3, .ptr 3 0), (4, .ptr 8 0), (5, .ptr 9 0), (8, bA false), (10, bA false), (11, bA true)] ?_
      clear G; intro ρ a w G
      refine th_n ?_
      refine wp_ret ?_
      refine th_r ?_
      exact rx_ret (v := bA false) G [0, 1, 2, 3, 4, 5, 6, 7] (by kernel_rfl) (by kernel_rfl) (by have e1 : ((↑(stmtF p.vars.length p.arrays.length (d + 1) c s).snd : Int) : Int) = ((↑c : Int) + 1) := (by rw [stmtF_bad (by (rw [head1 (by omega), decide_eq_false (by omega)]; rfl))]; rfl); first | (rw [e1]; done) | (rw [e1]; rfl) | (simp only [e1]; done) | (simp only [e1]; rfl)) (by have e1 : ((stmtF p.vars.length p.arrays.length (d + 1) c s).fst : Bool) = (false) := (by rw [stmtF_bad (by (rw [head1 (by omega), decide_eq_false (by omega)]; rfl))]; done); first | (rw [e1]; done) | (rw [e1]; rfl) | (simp only [e1]; done) | (simp only [e1]; rfl))
    ·
     have q32 : (¬ (0 ≤ s.target)) ∨ (¬ (s.target ≤ (↑p.vars.length : Int) - 1)) := (fun hq => Or.imp (fun hq => of_decide_eq_false (hq)) (fun hq => of_decide_eq_false (hq)) (Bool.and_eq_false_iff.1 (hq))) (Eq.mp (Bool.not_eq_true' _) h32)
     refine rs1s G ⟨[(4, _, [])], [(!(decide ((0 : Int) ≤ s.target) && decide (s.target ≤ (↑p.vars.length : Int) - (1 : Int))), true), (true, true)], [(7, 0), (8, 0), (13, 0), (1014, 0), (16, 1), (17, 1), (18, 1), (22, 1), (1023, 1), (25, 1), (26, 1), (27, 1), (32, 1), (1033, 1), (35, 1), (36, 1), (37, 1), (42, 1), (1043, 1)]⟩ (calls_cons (c_within (s.target) (0) ((↑p.vars.length : Int) - 1)) calls_nil) ⟨(by assumption), (by kernel_rfl), trivial⟩ [(2, iA n), (3, .ptr 3 0), (4, .ptr 8 0), (5, .ptr 9 0), (8, bA false), (10, bA false), (11, bA true), (88, bA true)] [IntKind.i64.wrap ((↑p.vars.length : Int) - (1 : Int)) = (↑p.vars.length : Int) - (1 : Int)] ⟨(by exact w64 (by omega) (by omega)), trivial⟩ ?_
     clear G; intro ρ a w G
     refine th_n ?_
     refine rT G (true) (by kernel_rfl) ?_
     refine wp_seq ?_
     refine rs0s G [(2, iA n), (3, .ptr 3 0), (4, .ptr 8 0), (5, .ptr 9 0), (8, bA false), (10, bA false), (11, bA true)] ?_
     clear G; intro ρ a w G
     refine th_n ?_
     refine wp_ret ?_
     refine th_r ?_
     exact rx_ret (v := bA false) G [0, 1, 2, 3, 4, 5, 6, 7] (by kernel_rfl) (by kernel_rfl) (by have e1 : ((↑(stmtF p.vars.length p.arrays.length (d + 1) c s).snd : Int) : Int) = ((↑c : Int) + 1) := (by rw [stmtF_bad (by (rw [head1 (by omega), decide_eq_false (by omega)]; rfl))]; rfl); first | (rw [e1]; done) | (rw [e1]; rfl) | (simp only [e1]; done) | (simp only [e1]; rfl)) (by have e1 : ((stmtF p.vars.length p.arrays.length (d + 1) c s).fst : Bool) = (false) := (by rw [stmtF_bad (by (rw [head1 (by omega), decide_eq_false (by omega)]; rfl))]; done); first | (rw [e1]; done) | (rw [e1]; rfl) | (simp only [e1]; done) | (simp only [e1]; rfl))
  ·
   have q0 : (↑c : Int) + 1 > 60 := of_decide_eq_true h0
   refine rs1s G ⟨[], [(decide ((↑c : Int) + (1 : Int) > (60 : Int)), true)], [(5, 0), (6, 0), (1007, 0)]⟩ calls_nil ⟨(by assumption), trivial⟩ [(2, iA n), (3, .ptr 3 0), (4, .ptr 8 0), (5, .ptr 9 0), (8, bA false), (27, bA true)] [] trivial ?_
   clear G; intro ρ a w G
   refine th_n ?_
   refine rT G (true) (by kernel_rfl) ?_
   refine wp_seq ?_
   refine rs0s G [(2, iA n), (3, .ptr 3 0), (4, .ptr 8 0), (5, .ptr 9 0), (8, bA false)] ?_
   clear G; intro ρ a w G
   refine th_n ?_
   refine wp_ret ?_
   refine th_r ?_
   exact rx_ret (v := bA false) G [0, 1, 2, 3, 4, 5, 6, 7] (by kernel_rfl) (by kernel_rfl) (by have e1 : ((↑(stmtF p.vars.length p.arrays.length (d + 1) c s).snd : Int) : Int) = ((↑c : Int) + 1) := (by simp [stmtF_over (d := d + 1) (s := s) (show 60 < c + 1 by omega)]; done); first | (rw [e1]; done) | (rw [e1]; rfl) | (simp only [e1]; done) | (simp only [e1]; rfl)) (by have e1 : ((stmtF p.vars.length p.arrays.length (d + 1) c s).fst : Bool) = (false) := (by simp [stmtF_over (d := d + 1) (s := s) (show 60 < c + 1 by omega)]; done); first | (rw [e1]; done) | (rw [e1]; rfl) | (simp only [e1]; done) | (simp only [e1]; rfl))

end Go.Proofs.Ytgpkdfefgcpbiaa

namespace Go.Proofs.Ytgpkdfefgcpbiaa
set_option linter.unusedVariables false
set_option linter.unusedSimpArgs false
open Go Go.RowKit

theorem c_stmtsD (p : LProg) : ∀ (d : Nat), d ≤ 5 → ∀ (ss : List LStmt) (c : Nat) (n : Int), c ≤ 60 → n = 6 - (d : Int) → Ctr.ok Try.prog (stmtsC p d c ss n) := by
  intro d
  induction d with
  | zero => intro hd ss c n hc hn; exact c_stmtsS p 0 hd (fun s c n hc hn => c_stmt0 p s c hc n (by omega)) ss c n hc hn
  | succ d ih => intro hd ss c n hc hn; exact c_stmtsS p (d + 1) hd (fun s c n hc hn => c_stmtS p d (by omega) (ih (by omega)) s c n hc (by omega)) ss c n hc hn
theorem c_stmtsBody (p : LProg) (n : Int) (hn : n = 1) : Ctr.ok Try.prog ⟨147, [pA 0, .ref 2, iA n, .ptr 3 0], pS p ++ [.box [iA 0]], pS p ++ [.box [iA (stmtsF p.vars.length p.arrays.length 5 0 p.body).2]], bA (stmtsF p.vars.length p.arrays.length 5 0 p.body).1⟩ :=
  Ctr.dup (S := pS p ++ [.box [iA 0]]) (S' := pS p ++ [.box [iA (stmtsF p.vars.length p.arrays.length 5 0 p.body).2]]) (d := .stmts p.body) (i := 2) (c_stmtsD p 5 (by omega) p.body 0 n (by omega) (by omega)) rfl rfl rfl (fun ρ h => by simp only [AV.vals, AV.val]; rw [show ρ 4 = ρ 2 from h]) rfl

set_option maxRecDepth 100000 in
theorem c_iProgramValid (p : LProg) : Ctr.ok Try.prog (fnC 85 [pA 0] (pS p) (bA (progB p))) := by
  refine rx_enter 15 Try.func85 (by rfl) (by kernel_rfl) (by kernel_rfl) ?_
  intro ι φ ψ w0 w F ρ0 ρ a G
  replace G := Gam.at G [dI p.vars, dI p.arrays, dT p.body] [(0, pA 0)]
  refine wp_seq ?_
  refine rs0 G [0, 1, 2, 3] [dI p.vars, dI p.arrays, dT p.body, .box (pL 0)] [(1, .ptr 3 0), (2, bA false)] ?_
  clear G; intro ρ a w G
  refine th_n ?_
  refine wp_seq ?_
  refine rs0 G [0, 1, 2, 3, 4] [dI p.vars, dI p.arrays, dT p.body, .box (pL 0), .box [iA 0]] [(1, .ptr 3 0), (2, bA false), (3, .ptr 4 0)] ?_
  clear G; intro ρ a w G
  refine th_n ?_
  refine wp_seq ?_
  cases h0 : (headsB p.vars p.arrays)
  ·
   refine rs1 (dk := dkP) G ⟨[(4, _, [0, 1])], [(headsB p.vars p.arrays, false)], [(6, 0), (7, 0), (8, 0), (9, 0), (1010, 0)]⟩ (calls_cons (c_declared (p.vars) (p.arrays)) calls_nil) ⟨(by assumption), trivial⟩ [0, 1, 2] [dI p.vars, dI p.arrays, dT p.body] [(2, bA false)] [] trivial ?_
   clear G; intro ρ a w G
   refine th_n ?_
   refine wp_ret ?_
   exact rx_ret (v := bA false) G [0, 1, 2] (by kernel_rfl) (by kernel_rfl) (by kernel_rfl) (by have e1 : (progB p : Bool) = (false) := (by exact progB_heads (by assumption)); first | (rw [e1]; done) | (rw [e1]; rfl) | (simp only [e1]; done) | (simp only [e1]; rfl))
  ·
   refine rs1 (dk := dkP) G ⟨[(4, _, [0, 1]), (9, _, [0, 1, 2, 4])], [(headsB p.vars p.arrays, true)], [(6, 0), (7, 0), (8, 0), (9, 0), (1010, 0)]⟩ (calls_cons (c_declared (p.vars) (p.arrays)) (calls_cons (c_stmtsBody (p) (1) (by kernel_rfl)) calls_nil)) ⟨(by assumption), trivial⟩ [0, 1, 2] [dI p.vars, dI p.arrays, dT p.body] [(2, bA (stmtsF p.vars.length p.arrays.length 5 0 p.body).fst)] [] trivial ?_
   clear G; intro ρ a w G
   refine th_n ?_
   refine wp_ret ?_
   exact rx_ret (v := bA (stmtsF p.vars.length p.arrays.length 5 0 p.body).fst) G [0, 1, 2] (by kernel_rfl) (by kernel_rfl) (by kernel_rfl) (by have e1 : (progB p : Bool) = ((stmtsF p.vars.length p.arrays.length 5 0 p.body).fst) := (by rw [← stmtsF_prog (p := p) (by assumption)]); first | (rw [e1]; done) | (rw [e1]; rfl) | (simp only [e1]; done) | (simp only [e1]; rfl))

end Go.Proofs.Ytgpkdfefgcpbiaa

namespace Go.Proofs.Ytgpkdfefgcpbiaa
set_option linter.unusedVariables false
set_option linter.unusedSimpArgs false
open Go Go.RowKit

theorem takeE {l : List LExpr} {k : Nat} (hk : k < l.length) : l.take k ++ [⟨(l.getD k default).kind, (l.getD k default).value, (l.getD k default).kids⟩] = l.take (k + 1) := by
  rw [LExpr.eta, take_succ_get _ _ hk, getD_lt hk]
theorem takeS {l : List LStmt} {k : Nat} (hk : k < l.length) : l.take k ++ [⟨(l.getD k default).kind, (l.getD k default).target, ⟨(l.getD k default).index.kind, (l.getD k default).index.value, (l.getD k default).index.kids⟩, ⟨(l.getD k default).value.kind, (l.getD k default).value.value, (l.getD k default).value.kids⟩, (l.getD k default).count, (l.getD k default).body, (l.getD k default).els⟩] = l.take (k + 1) := by
  rw [LExpr.eta, LExpr.eta, LStmt.eta, take_succ_get _ _ hk, getD_lt hk]
theorem take_is {α : Type} {l : List α} {k : Nat} (h1 : k ≤ l.length) (h2 : ¬ (k : Int) < l.length) : l.take k = l := by rw [List.take_of_length_le (by omega)]
theorem len_take {α : Type} {l : List α} {k n : Nat} (h1 : k ≤ l.length) (h : l.length ≤ n) : (l.take k).length ≤ n := by rw [List.length_take]; omega
theorem kids_fit {e : LExpr} (h : szE e ≤ 1048576) : e.kids.length ≤ 1048576 := by
  have h1 := szEs_len e.kids
  have h2 : szE e = szEs e.kids := by cases e; rfl
  omega
theorem block_fit {l : List LStmt} (h : szSs l ≤ 1048576) : l.length ≤ 1048576 := Nat.le_trans (szSs_len l) h
theorem len1 {α : Type} {l : List α} {x : α} {k : Nat} (h1 : k ≤ l.length) (h : l.length ≤ 1048576) : (l.take k).length + [x].length ≤ 1048577 := by
  have := len_take (k := k) h1 h
  simp only [List.length_cons, List.length_nil]; omega
theorem fitB {a b : Nat} (ha : a ≤ 1048577) (hb : Nat.ble b 1000 = true) : a * b ≤ 140737488355328 := by
  have h1 := Nat.le_of_ble_eq_true hb
  have h2 := Nat.mul_le_mul ha h1
  omega
theorem getE_mem {l : List LExpr} {k : Nat} (h : (k : Int) < l.length) : l.getD k default ∈ l := by rw [getD_lt (by omega)]; exact List.getElem_mem (by omega)
theorem getS_mem {l : List LStmt} {k : Nat} (h : (k : Int) < l.length) : l.getD k default ∈ l := by rw [getD_lt (by omega)]; exact List.getElem_mem (by omega)

abbrev cpC (e : LExpr) : Ctr := ⟨168, [eA e 0], eS e, eS e ++ [.tree (.exprs e.kids)], .agg [iA e.kind, iA e.value, .tref 1]⟩
set_option maxRecDepth 100000 in
theorem s_copyES (e : LExpr) (hb : szE e ≤ 1048576) (ih : ∀ (x : LExpr), x ∈ e.kids → Ctr.ok Try.prog (cpC x)) : Ctr.ok Try.prog (cpC e) := by
  refine rx_enter 29 Try.func168 (by rfl) (by kernel_rfl) (by kernel_rfl) ?_
  intro ι φ ψ w0 w F ρ0 ρ a G
  replace G := Gam.at G [dE e.kids] [(0, eA e 0)]
  have hl := kids_fit hb
  refine wp_seq ?_
  refine rs0 G [0, 1, 9] [dE e.kids, .box (eL e 0), .box [iA 0, iA 0, .v (.slice none 0 0)]] [(1, .ptr 1 0), (2, .ptr 2 0)] ?_
  clear G; intro ρ a w G
  refine th_n ?_
  refine wp_seq ?_
  refine rs0 G [0, 1, 2, 43] [dE e.kids, .box (eL e 0), .box [iA 0, iA 0, .v (.slice none 0 0)], .box [iA e.kind, iA e.value, .v (.slice none 0 0)]] [(1, .ptr 1 0), (2, .ptr 2 0), (3, .ptr 3 0)] ?_
  clear G; intro ρ a w G
  refine th_n ?_
  refine wp_seq ?_
  refine wp_seq ?_
  refine rs0s G [(1, .ptr 1 0), (2, .ptr 2 0), (3, .ptr 3 0), (4, iA 0)] ?_
  clear G; intro ρ a w G
  refine th_n ?_
  refine wp_block ?_
  have Gx := G.nilT 4 (.exprs []) [dE e.kids, .box (eL e 0), .box [iA 0, iA 0, .v (.slice none 0 0)], .box [iA e.kind, iA e.value, .tref 4]] [(1, .ptr 1 0), (2, .ptr 2 0), (3, .ptr 3 0), (4, iA 0)]
  clear G
  obtain ⟨ρ, G⟩ := Gx
  replace G := Gam.at G [dE e.kids, .box (eL e 0), .box [iA 0, iA 0, .v (.slice none 0 0)], .box [iA e.kind, iA e.value, .tref 4], .tree (D.exprs [])] [(1, .ptr 1 0), (2, .ptr 2 0), (3, .ptr 3 0), (4, iA 0)]
  refine rx_for (κ := Nat) (fun k => k ≤ e.kids.length) (fun k => e.kids.length - k) (fun k => [dE e.kids, .box (eL e 0), .box [iA 0, iA 0, .v (.slice none 0 0)], .box [iA e.kind, iA e.value, .tref 4], .tree (.exprs (e.kids.take k))]) (fun k => [(1, .ptr 1 0), (2, .ptr 2 0), (3, .ptr 3 0), (4, iA k)]) (0) (by omega) (Gam.at G _ _) ?_
  clear G
  intro k ρ a w hp G
  replace G := Gam.at G [dE e.kids, .box (eL e 0), .box [iA 0, iA 0, .v (.slice none 0 0)], .box [iA e.kind, iA e.value, .tref 4], .tree (D.exprs (List.take k e.kids))] [(1, .ptr 1 0), (2, .ptr 2 0), (3, .ptr 3 0), (4, iA (↑k : Int))]
  refine wp_seq ?_
  refine wp_seq ?_
  refine rs0s G [(1, .ptr 1 0), (2, .ptr 2 0), (3, .ptr 3 0), (4, iA (↑k : Int)), (14, bA (decide ((↑k : Int) < (↑e.kids.length : Int))))] ?_
  clear G; intro ρ a w G
  refine th_n ?_
  cases h0 : (decide ((↑k : Int) < (↑e.kids.length : Int)))
  ·
   have q0 : ¬ ((↑k : Int) < (↑e.kids.length : Int)) := of_decide_eq_false h0
   refine rF G (decide ((↑k : Int) < (↑e.kids.length : Int))) (by assumption) ?_
   refine wp_exit ?_
   refine th_e ?_
   refine th_e ?_
   refine bl_hit ?_
   refine th_n ?_
   refine wp_seq ?_
   refine rs0 G [0, 2, 4] [dE e.kids, .box [iA e.kind, iA e.value, .tref 2], .tree (D.exprs (List.take k e.kids))] [(2, .ptr 1 0)] ?_
   clear G; intro ρ a w G
   refine th_n ?_
   refine wp_ret ?_
   exact rx_ret (v := .agg [iA e.kind, iA e.value, .tref 2]) G [0, 2] (by kernel_rfl) (by kernel_rfl) (by show _ = List.map (It.ren (nth [0, 2])) [dE e.kids, .tree (D.exprs e.kids)]; have e1 : (List.take k e.kids : List LExpr) = (e.kids) := (by exact take_is hp (by assumption)); first | (rw [e1]; done) | (rw [e1]; rfl) | (simp only [e1]; done) | (simp only [e1]; rfl)) (by kernel_rfl)
  ·
   have q0 : (↑k : Int) < (↑e.kids.length : Int) := of_decide_eq_true h0
   refine rT G (decide ((↑k : Int) < (↑e.kids.length : Int))) (by assumption) ?_
   refine wp_skip ?_
   refine th_n ?_
   refine wp_seq ?_
   refine wp_block ?_
   refine rd1 (dk := dkP) G ⟨[(7, _, [53])], [], []⟩ (calls_cons (ih (e.kids.getD k default) (by exact getE_mem (by assumption))) calls_nil) trivial [0, 1, 0, 4, 0, 28, 60, 124, 252, 511, 1023, 2047] [0, 1, 2, 3, 77] [dE e.kids, .box (eL e 0), .box [iA 0, iA 0, .v (.slice none 0 0)], .box [iA e.kind, iA e.value, .tref 4], .tree (D.exprs (List.take k e.kids ++ [LExpr.mk (e.kids.getD k default).kind (e.kids.getD k default).value (e.kids.getD k default).kids]))] [(1, .ptr 1 0), (2, .ptr 2 0), (3, .ptr 3 0), (4, iA (↑k : Int))] [(0 : Int) ≤ (↑k : Int), (↑k : Int) < (↑e.kids.length : Int), k < e.kids.length, (List.take k e.kids).length + [LExpr.mk (e.kids.getD k default).kind (e.kids.getD k default).value (e.kids.getD k default).kids].length ≤ (9223372036854775807 : Nat), ((List.take k e.kids).length + [LExpr.mk (e.kids.getD k default).kind (e.kids.getD k default).value (e.kids.getD k default).kids].length) * (40 : Nat) ≤ (140737488355328 : Nat)] ⟨(by simp [h0]), (by assumption), (by have := len1 (x := (default : LExpr)) hp hl; simp only [List.length_cons, List.length_nil] at this ⊢; omega), (by have := len1 (x := (default : LExpr)) hp hl; simp only [List.length_cons, List.length_nil] at this ⊢; omega), (by exact fitB (len1 hp hl) (by kernel_rfl)), trivial⟩ ?_
   clear G; intro ρ a w G
   refine bl_n ?_
   refine th_n ?_
   refine rs1s G ⟨[], [], []⟩ calls_nil trivial [(1, .ptr 1 0), (2, .ptr 2 0), (3, .ptr 3 0), (4, iA ((↑k : Int) + 1))] [IntKind.i64.wrap ((↑k : Int) + (1 : Int)) = (↑k : Int) + (1 : Int)] ⟨(by exact w64 (by omega) (by omega)), trivial⟩ ?_
   clear G; intro ρ a w G
   refine th_n ?_
   exact rx_next G (k + 1) (by have := len1 (x := (default : LExpr)) hp hl; simp only [List.length_cons, List.length_nil] at this ⊢; omega) (by have := len1 (x := (default : LExpr)) hp hl; simp only [List.length_cons, List.length_nil] at this ⊢; omega) [0, 1, 2, 3, 4] [dE e.kids, .box (eL e 0), .box [iA 0, iA 0, .v (.slice none 0 0)], .box [iA e.kind, iA e.value, .tref 4], .tree (D.exprs (List.take (k + 1) e.kids))] [(1, .ptr 1 0), (2, .ptr 2 0), (3, .ptr 3 0), (4, iA (↑(k + 1) : Int))] (by kernel_rfl) (by kernel_rfl) (by kernel_rfl) (by have e1 : (List.take (k + 1) e.kids : List LExpr) = (List.take k e.kids ++ [LExpr.mk (e.kids.getD k default).kind (e.kids.getD k default).value (e.kids.getD k default).kids]) := (by exact (takeE (by omega)).symm); first | (rw [e1]; done) | (rw [e1]; rfl) | (simp only [e1]; done) | (simp only [e1]; rfl)) (by kernel_rfl)

theorem c_copyE (e : LExpr) : szE e ≤ 1048576 → Ctr.ok Try.prog (cpC e) :=
  LExpr.ind (P := fun e => szE e ≤ 1048576 → Ctr.ok Try.prog (cpC e)) (fun k n ks ih hb => s_copyES ⟨k, n, ks⟩ hb fun x hx => ih x hx (by
    have h1 := szE_mem (show x ∈ ks from hx)
    have h2 : szE ⟨k, n, ks⟩ = szEs ks := rfl
    omega)) e

abbrev cpsC (l : List LStmt) : Ctr := ⟨146, [.ref 0], [dT l], [dT l, .tree (.stmts l)], .tref 1⟩
theorem fit_sub {l : List LStmt} {k : Nat} (hb : szSs l ≤ 1048576) (h : (k : Int) < l.length) : szE (l.getD k default).index ≤ 1048576 ∧ szE (l.getD k default).value ≤ 1048576 ∧ szSs (l.getD k default).body ≤ 1048576 ∧ szSs (l.getD k default).els ≤ 1048576 := by
  have h1 := szS_mem (getS_mem h)
  generalize l.getD k default = s at *
  rcases s with ⟨_, _, i, v, _, b, e⟩
  simp only [szS] at h1
  simp only [LStmt.index, LStmt.value, LStmt.body, LStmt.els]
  omega
set_option maxRecDepth 100000 in
theorem s_copySS (l : List LStmt) (hb : szSs l ≤ 1048576) (ih1 : ∀ (s : LStmt), s ∈ l → Ctr.ok Try.prog (cpsC s.body)) (ih2 : ∀ (s : LStmt), s ∈ l → Ctr.ok Try.prog (cpsC s.els)) : Ctr.ok Try.prog (cpsC l) := by
  refine rx_enter 38 Try.func146 (by rfl) (by kernel_rfl) (by kernel_rfl) ?_
  intro ι φ ψ w0 w F ρ0 ρ a G
  replace G := Gam.at G [dT l] [(0, .ref 0)]
  have hl := block_fit hb
  refine wp_seq ?_
  refine rs0s G [(0, .ref 0), (2, .v (.slice none 0 0))] ?_
  clear G; intro ρ a w G
  refine th_n ?_
  refine wp_seq ?_
  refine rs0 G [0, 1] [dT l, .tree (D.stmts [])] [(0, .ref 0), (2, .v (.slice none 0 0)), (3, .tref 1)] ?_
  clear G; intro ρ a w G
  refine th_n ?_
  refine wp_seq ?_
  refine wp_seq ?_
  refine rs0s G [(0, .ref 0), (2, .v (.slice none 0 0)), (3, .tref 1), (4, iA 0)] ?_
  clear G; intro ρ a w G
  refine th_n ?_
  refine wp_block ?_
  refine rx_for (κ := Nat) (fun k => k ≤ l.length) (fun k => l.length - k) (fun k => [dT l, .tree (.stmts (l.take k))]) (fun k => [(0, .ref 0), (2, .v (.slice none 0 0)), (3, .tref 1), (4, iA k)]) (0) (by omega) (Gam.at G _ _) ?_
  clear G
  intro k ρ a w hp G
  replace G := Gam.at G [dT l, .tree (D.stmts (List.take k l))] [(0, .ref 0), (2, .v (.slice none 0 0)), (3, .tref 1), (4, iA (↑k : Int))]
  refine wp_seq ?_
  refine wp_seq ?_
  refine rs0s G [(0, .ref 0), (2, .v (.slice none 0 0)), (3, .tref 1), (4, iA (↑k : Int)), (10, bA (decide ((↑k : Int) < (↑l.length : Int))))] ?_
  clear G; intro ρ a w G
  refine th_n ?_
  cases h0 : (decide ((↑k : Int) < (↑l.length : Int)))
  ·
   have q0 : ¬ ((↑k : Int) < (↑l.length : Int)) := of_decide_eq_false h0
   refine rF G (decide ((↑k : Int) < (↑l.length : Int))) (by assumption) ?_
   refine wp_exit ?_
   refine th_e ?_
   refine th_e ?_
   refine bl_hit ?_
   refine th_n ?_
   refine wp_seq ?_
   refine rs0s G [(2, .tref 1)] ?_
   clear G; intro ρ a w G
   refine th_n ?_
   refine wp_ret ?_
   exact rx_ret (v := .tref 1) G [0, 1] (by kernel_rfl) (by kernel_rfl) (by show _ = List.map (It.ren (nth [0, 1])) [dT l, .tree (D.stmts l)]; have e1 : (List.take k l : List LStmt) = (l) := (by exact take_is hp (by assumption)); first | (rw [e1]; done) | (rw [e1]; rfl) | (simp only [e1]; done) | (simp only [e1]; rfl)) (by kernel_rfl)
  ·
   have q0 : (↑k : Int) < (↑l.length : Int) := of_decide_eq_true h0
   refine rT G (decide ((↑k : Int) < (↑l.length : Int))) (by assumption) ?_
   refine wp_skip ?_
   refine th_n ?_
   refine wp_seq ?_
   refine wp_block ?_
   refine wp_seq ?_
   refine rs1 (dk := dkP) G ⟨[], [], []⟩ calls_nil trivial [0, 1, 26, 27, 28, 29, 34] [dT l, .tree (D.stmts (List.take k l)), dE (l.getD k default).index.kids, dE (l.getD k default).value.kids, dT (l.getD k default).body, dT (l.getD k default).els, .box (sL (l.getD k default) 2)] [(0, .ref 0), (2, .v (.slice none 0 0)), (3, .tref 1), (4, iA (↑k : Int)), (5, .ptr 6 0)] [(0 : Int) ≤ (↑k : Int), (↑k : Int) < (↑l.length : Int), k < l.length] ⟨(by simp [h0]), (by assumption), (by have := len1 (x := (default : LStmt)) hp hl; simp only [List.length_cons, List.length_nil] at this ⊢; omega), trivial⟩ ?_
   clear G; intro ρ a w G
   refine th_n ?_
   refine wp_seq ?_
   refine rs1 (dk := dkP) G ⟨[(2, _, [2])], [], []⟩ (calls_cons (c_copyE ((l.getD k default).index) (by exact (fit_sub hb (by assumption)).1)) calls_nil) trivial [0, 1, 3, 4, 5, 6, 23] [dT l, .tree (D.stmts (List.take k l)), dE (l.getD k default).value.kids, dT (l.getD k default).body, dT (l.getD k default).els, .box [iA (l.getD k default).kind, iA (l.getD k default).target, iA (l.getD k default).index.kind, iA (l.getD k default).index.value, .tref 6, iA (l.getD k default).value.kind, iA (l.getD k default).value.value, .ref 2, iA (l.getD k default).count, .ref 3, .ref 4], .tree (D.exprs (l.getD k default).index.kids)] [(0, .ref 0), (2, .v (.slice none 0 0)), (3, .tref 1), (4, iA (↑k : Int)), (5, .ptr 5 0)] [] trivial ?_
   clear G; intro ρ a w G
   refine th_n ?_
   refine wp_seq ?_
   refine rs1 (dk := dkP) G ⟨[(2, _, [2])], [], []⟩ (calls_cons (c_copyE ((l.getD k default).value) (by exact (fit_sub hb (by assumption)).2.1)) calls_nil) trivial [0, 1, 3, 4, 5, 6, 23] [dT l, .tree (D.stmts (List.take k l)), dT (l.getD k default).body, dT (l.getD k default).els, .box [iA (l.getD k default).kind, iA (l.getD k default).target, iA (l.getD k default).index.kind, iA (l.getD k default).index.value, .tref 5, iA (l.getD k default).value.kind, iA (l.getD k default).value.value, .tref 6, iA (l.getD k default).count, .ref 2, .ref 3], .tree (D.exprs (l.getD k default).index.kids), .tree (D.exprs (l.getD k default).value.kids)] [(0, .ref 0), (2, .v (.slice none 0 0)), (3, .tref 1), (4, iA (↑k : Int)), (5, .ptr 4 0)] [] trivial ?_
   clear G; intro ρ a w G
   refine th_n ?_
   refine wp_seq ?_
   refine rs1 (dk := dkP) G ⟨[(2, _, [2])], [], []⟩ (calls_cons (ih1 (l.getD k default) (by exact getS_mem (by assumption))) calls_nil) trivial [0, 1, 3, 4, 5, 6, 23] [dT l, .tree (D.stmts (List.take k l)), dT (l.getD k default).els, .box [iA (l.getD k default).kind, iA (l.getD k default).target, iA (l.getD k default).index.kind, iA (l.getD k default).index.value, .tref 4, iA (l.getD k default).value.kind, iA (l.getD k default).value.value, .tref 5, iA (l.getD k default).count, .tref 6, .ref 2], .tree (D.exprs (l.getD k default).index.kids), .tree (D.exprs (l.getD k default).value.kids), .tree (D.stmts (l.getD k default).body)] [(0, .ref 0), (2, .v (.slice none 0 0)), (3, .tref 1), (4, iA (↑k : Int)), (5, .ptr 3 0)] [] trivial ?_
   clear G; intro ρ a w G
   refine th_n ?_
   refine wp_seq ?_
   refine rs1 (dk := dkP) G ⟨[(2, _, [2])], [], []⟩ (calls_cons (ih2 (l.getD k default) (by exact getS_mem (by assumption))) calls_nil) trivial [0, 1, 3, 4, 5, 6, 23] [dT l, .tree (D.stmts (List.take k l)), .box [iA (l.getD k default).kind, iA (l.getD k default).target, iA (l.getD k default).index.kind, iA (l.getD k default).index.value, .tref 3, iA (l.getD k default).value.kind, iA (l.getD k default).value.value, .tref 4, iA (l.getD k default).count, .tref 5, .tref 6], .tree (D.exprs (l.getD k default).index.kids), .tree (D.exprs (l.getD k default).value.kids), .tree (D.stmts (l.getD k default).body), .tree (D.stmts (l.getD k default).els)] [(0, .ref 0), (2, .v (.slice none 0 0)), (3, .tref 1), (4, iA (↑k : Int)), (5, .ptr 2 0)] [] trivial ?_
   clear G; intro ρ a w G
   refine th_n ?_
   refine rs1 (dk := dkP) G ⟨[], [], []⟩ calls_nil trivial [0, 31] [dT l, .tree (D.stmts (List.take k l ++ [LStmt.mk (l.getD k default).kind (l.getD k default).target (LExpr.mk (l.getD k default).index.kind (l.getD k default).index.value (l.getD k default).index.kids) (LExpr.mk (l.getD k default).value.kind (l.getD k default).value.value (l.getD k default).value.kids) (l.getD k default).count (l.getD k default).body (l.getD k default).els]))] [(0, .ref 0), (2, .v (.slice none 0 0)), (3, .tref 1), (4, iA (↑k : Int))] [(List.take k l).length + [LStmt.mk (l.getD k default).kind (l.getD k default).target (LExpr.mk (l.getD k default).index.kind (l.getD k default).index.value (l.getD k default).index.kids) (LExpr.mk (l.getD k default).value.kind (l.getD k default).value.value (l.getD k default).value.kids) (l.getD k default).count (l.getD k default).body (l.getD k default).els].length ≤ (9223372036854775807 : Nat), ((List.take k l).length + [LStmt.mk (l.getD k default).kind (l.getD k default).target (LExpr.mk (l.getD k default).index.kind (l.getD k default).index.value (l.getD k default).index.kids) (LExpr.mk (l.getD k default).value.kind (l.getD k default).value.value (l.getD k default).value.kids) (l.getD k default).count (l.getD k default).body (l.getD k default).els].length) * (152 : Nat) ≤ (140737488355328 : Nat)] ⟨(by have := len1 (x := (default : LStmt)) hp hl; simp only [List.length_cons, List.length_nil] at this ⊢; omega), (by exact fitB (len1 hp hl) (by kernel_rfl)), trivial⟩ ?_
   clear G; intro ρ a w G
   refine bl_n ?_
   refine th_n ?_
   refine rs1s G ⟨[], [], []⟩ calls_nil trivial [(0, .ref 0), (2, .v (.slice none 0 0)), (3, .tref 1), (4, iA ((↑k : Int) + 1))] [IntKind.i64.wrap ((↑k : Int) + (1 : Int)) = (↑k : Int) + (1 : Int)] ⟨(by exact w64 (by omega) (by omega)), trivial⟩ ?_
   clear G; intro ρ a w G
   refine th_n ?_
   exact rx_next G (k + 1) (by have := len1 (x := (default : LStmt)) hp hl; simp only [List.length_cons, List.length_nil] at this ⊢; omega) (by have := len1 (x := (default : LStmt)) hp hl; simp only [List.length_cons, List.length_nil] at this ⊢; omega) [0, 1] [dT l, .tree (D.stmts (List.take (k + 1) l))] [(0, .ref 0), (2, .v (.slice none 0 0)), (3, .tref 1), (4, iA (↑(k + 1) : Int))] (by kernel_rfl) (by kernel_rfl) (by kernel_rfl) (by have e1 : (List.take (k + 1) l : List LStmt) = (List.take k l ++ [LStmt.mk (l.getD k default).kind (l.getD k default).target (LExpr.mk (l.getD k default).index.kind (l.getD k default).index.value (l.getD k default).index.kids) (LExpr.mk (l.getD k default).value.kind (l.getD k default).value.value (l.getD k default).value.kids) (l.getD k default).count (l.getD k default).body (l.getD k default).els]) := (by exact (takeS (by omega)).symm); first | (rw [e1]; done) | (rw [e1]; rfl) | (simp only [e1]; done) | (simp only [e1]; rfl)) (by kernel_rfl)

theorem c_copyS (l : List LStmt) : szSs l ≤ 1048576 → Ctr.ok Try.prog (cpsC l) := fun hb => s_copySS l hb
  (fun s hs => (c_copyS2 s).1 (Nat.le_trans (Nat.le_of_lt (szS_mem hs)) hb)) fun s hs => (c_copyS2 s).2 (Nat.le_trans (Nat.le_of_lt (szS_mem hs)) hb)
where
  c_copyS2 (s : LStmt) : (szS s ≤ 1048576 → Ctr.ok Try.prog (cpsC s.body)) ∧ (szS s ≤ 1048576 → Ctr.ok Try.prog (cpsC s.els)) :=
    LStmt.ind (P := fun s => (szS s ≤ 1048576 → Ctr.ok Try.prog (cpsC s.body)) ∧ (szS s ≤ 1048576 → Ctr.ok Try.prog (cpsC s.els))) (fun k t i v c b e h1 h2 => by
      have hz : szS ⟨k, t, i, v, c, b, e⟩ = szE i + szE v + szSs b + szSs e := rfl
      constructor
      · intro hb
        refine s_copySS b (by omega) (fun s hs => (h1 s hs).1 ?_) fun s hs => (h1 s hs).2 ?_
        · have := szS_mem hs; omega
        · have := szS_mem hs; omega
      · intro hb
        refine s_copySS e (by omega) (fun s hs => (h2 s hs).1 ?_) fun s hs => (h2 s hs).2 ?_
        · have := szS_mem hs; omega
        · have := szS_mem hs; omega) s

set_option maxRecDepth 100000 in
theorem c_l2Copy (p : LProg) (hb : p.size ≤ 1048576) : Ctr.ok Try.prog ⟨84, [pA 0], pS p, pS p ++ oP p, oA 3⟩ := by
  refine rx_enter 15 Try.func84 (by rfl) (by kernel_rfl) (by kernel_rfl) ?_
  intro ι φ ψ w0 w F ρ0 ρ a G
  replace G := Gam.at G [dI p.vars, dI p.arrays, dT p.body] [(0, pA 0)]
  have hb1 : p.vars.length ≤ 1048576 ∧ p.arrays.length ≤ 1048576 ∧ szSs p.body ≤ 1048576 := by unfold LProg.size at hb; omega
  refine wp_seq ?_
  refine rs0 G [0, 1, 2, 3, 11] [dI p.vars, dI p.arrays, dT p.body, .box (pL 0), .box [.v (.slice none 0 0), .v (.slice none 0 0), .v (.slice none 0 0)]] [(1, .ptr 3 0), (2, .ptr 4 0)] ?_
  clear G; intro ρ a w G
  refine th_n ?_
  refine wp_seq ?_
  refine rd1 (dk := dkP) G ⟨[(10, _, [2])], [], []⟩ (calls_cons (c_copyS (p.body) (by exact hb1.2.2)) calls_nil) trivial [0, 0, 2, 7, 0, 0, 32, 127, 0, 256, 1023, 2047, 4095] [0, 1, 2, 4, 29, 61, 85] [dI p.vars, dI p.arrays, dT p.body, .box [.ref 4, .ref 5, .tref 6], .row 3 (D.ints ([] ++ p.vars)), .row 3 (D.ints ([] ++ p.arrays)), .tree (D.stmts p.body)] [(2, .ptr 3 0)] [(0 : Nat) + p.vars.length ≤ (9223372036854775807 : Nat), ((0 : Nat) + p.vars.length) * (8 : Nat) ≤ (140737488355328 : Nat), (0 : Nat) + p.arrays.length ≤ (9223372036854775807 : Nat), ((0 : Nat) + p.arrays.length) * (8 : Nat) ≤ (140737488355328 : Nat)] ⟨(by omega), (by omega), (by omega), (by omega), trivial⟩ ?_
  clear G; intro ρ a w G
  refine th_n ?_
  refine wp_ret ?_
  exact rx_ret (v := .agg [.ref 4, .ref 5, .tref 6]) G [0, 1, 2, 4, 5, 6] (by kernel_rfl) (by kernel_rfl) (by kernel_rfl) (by kernel_rfl)

end Go.Proofs.Ytgpkdfefgcpbiaa

namespace Go.Proofs.Ytgpkdfefgcpbiaa
set_option linter.unusedVariables false
set_option linter.unusedSimpArgs false
open Go Go.RowKit

abbrev owC (e : LExpr) : Ctr := ⟨169, [eA e 0], eS e, eS e ++ [.tree (.exprs e.kids)], .agg [iA e.kind, iA e.value, .tref 1]⟩
set_option maxRecDepth 100000 in
theorem s_ownE (e : LExpr) (hb : szE e ≤ 1048576) (ih : ∀ (x : LExpr), x ∈ e.kids → Ctr.ok Try.prog (owC x)) : Ctr.ok Try.prog (owC e) := by
  refine rx_enter 27 Try.func169 (by rfl) (by kernel_rfl) (by kernel_rfl) ?_
  intro ι φ ψ w0 w F ρ0 ρ a G
  replace G := Gam.at G [dE e.kids] [(0, eA e 0)]
  have hl := kids_fit hb
  refine wp_seq ?_
  refine rs0 G [0, 1, 9] [dE e.kids, .box (eL e 0), .box [iA 0, iA 0, .v (.slice none 0 0)]] [(1, .ptr 1 0), (2, .ptr 2 0)] ?_
  clear G; intro ρ a w G
  refine th_n ?_
  refine wp_seq ?_
  refine rs0 G [0, 1, 2, 43] [dE e.kids, .box (eL e 0), .box [iA 0, iA 0, .v (.slice none 0 0)], .box [iA e.kind, iA e.value, .v (.slice none 0 0)]] [(1, .ptr 1 0), (2, .ptr 2 0), (3, .ptr 3 0)] ?_
  clear G; intro ρ a w G
  refine th_n ?_
  refine wp_seq ?_
  refine wp_seq ?_
  refine rs0 G [0, 2, 3] [dE e.kids, .box [iA 0, iA 0, .v (.slice none 0 0)], .box [iA e.kind, iA e.value, .v (.slice none 0 0)]] [(2, .ptr 1 0), (3, .ptr 2 0), (12, .ref 0), (13, iA (↑e.kids.length : Int)), (14, iA 0)] ?_
  clear G; intro ρ a w G
  refine th_n ?_
  refine wp_block ?_
  have Gx := G.nilT 3 (.exprs []) [dE e.kids, .box [iA 0, iA 0, .v (.slice none 0 0)], .box [iA e.kind, iA e.value, .tref 3]] [(2, .ptr 1 0), (3, .ptr 2 0), (12, .ref 0), (13, iA (↑e.kids.length : Int)), (14, iA 0)]
  clear G
  obtain ⟨ρ, G⟩ := Gx
  replace G := Gam.at G [dE e.kids, .box [iA 0, iA 0, .v (.slice none 0 0)], .box [iA e.kind, iA e.value, .tref 3], .tree (D.exprs [])] [(2, .ptr 1 0), (3, .ptr 2 0), (12, .ref 0), (13, iA (↑e.kids.length : Int)), (14, iA 0)]
  refine rx_for (κ := Nat) (fun k => k ≤ e.kids.length) (fun k => e.kids.length - k) (fun k => [dE e.kids, .box [iA 0, iA 0, .v (.slice none 0 0)], .box [iA e.kind, iA e.value, .tref 3], .tree (.exprs (e.kids.take k))]) (fun k => [(2, .ptr 1 0), (3, .ptr 2 0), (12, .ref 0), (13, iA (↑e.kids.length : Int)), (14, iA k)]) (0) (by omega) (Gam.at G _ _) ?_
  clear G
  intro k ρ a w hp G
  replace G := Gam.at G [dE e.kids, .box [iA 0, iA 0, .v (.slice none 0 0)], .box [iA e.kind, iA e.value, .tref 3], .tree (D.exprs (List.take k e.kids))] [(2, .ptr 1 0), (3, .ptr 2 0), (12, .ref 0), (13, iA (↑e.kids.length : Int)), (14, iA (↑k : Int))]
  refine wp_seq ?_
  refine rs0s G [(2, .ptr 1 0), (3, .ptr 2 0), (12, .ref 0), (13, iA (↑e.kids.length : Int)), (14, iA (↑k : Int)), (15, bA (decide ((↑k : Int) < (↑e.kids.length : Int))))] ?_
  clear G; intro ρ a w G
  refine th_n ?_
  refine wp_seq ?_
  cases h0 : (decide ((↑k : Int) < (↑e.kids.length : Int)))
  ·
   have q0 : ¬ ((↑k : Int) < (↑e.kids.length : Int)) := of_decide_eq_false h0
   refine rF G (decide ((↑k : Int) < (↑e.kids.length : Int))) (by assumption) ?_
   refine wp_exit ?_
   refine th_e ?_
   refine th_e ?_
   refine bl_hit ?_
   refine th_n ?_
   refine wp_seq ?_
   refine rs0 G [0, 1, 3] [dE e.kids, .box [iA e.kind, iA e.value, .tref 2], .tree (D.exprs (List.take k e.kids))] [(2, .ptr 1 0)] ?_
   clear G; intro ρ a w G
   refine th_n ?_
   refine wp_ret ?_
   exact rx_ret (v := .agg [iA e.kind, iA e.value, .tref 2]) G [0, 2] (by kernel_rfl) (by kernel_rfl) (by show _ = List.map (It.ren (nth [0, 2])) [dE e.kids, .tree (D.exprs e.kids)]; have e1 : (List.take k e.kids : List LExpr) = (e.kids) := (by exact take_is hp (by assumption)); first | (rw [e1]; done) | (rw [e1]; rfl) | (simp only [e1]; done) | (simp only [e1]; rfl)) (by kernel_rfl)
  ·
   have q0 : (↑k : Int) < (↑e.kids.length : Int) := of_decide_eq_true h0
   refine rT G (decide ((↑k : Int) < (↑e.kids.length : Int))) (by assumption) ?_
   refine wp_skip ?_
   refine th_n ?_
   refine wp_seq ?_
   refine wp_block ?_
   refine wp_seq ?_
   refine rs1 (dk := dkP) G ⟨[], [], []⟩ calls_nil trivial [0, 1, 2, 3, 12, 20] [dE e.kids, .box [iA 0, iA 0, .v (.slice none 0 0)], .box [iA e.kind, iA e.value, .tref 3], .tree (D.exprs (List.take k e.kids)), dE (e.kids.getD k default).kids, .box (eL (e.kids.getD k default) 4)] [(2, .ptr 1 0), (3, .ptr 2 0), (5, .ptr 5 0), (12, .ref 0), (13, iA (↑e.kids.length : Int)), (14, iA (↑k : Int))] [(0 : Int) ≤ (↑k : Int), (↑k : Int) < (↑e.kids.length : Int), k < e.kids.length] ⟨(by simp [h0]), (by assumption), (by have := len1 (x := (default : LExpr)) hp hl; simp only [List.length_cons, List.length_nil] at this ⊢; omega), trivial⟩ ?_
   clear G; intro ρ a w G
   refine th_n ?_
   refine rd1 (dk := dkP) G ⟨[(3, _, [4])], [], []⟩ (calls_cons (ih (e.kids.getD k default) (by exact getE_mem (by assumption))) calls_nil) trivial [0, 1, 0, 4, 12, 31, 63, 127] [0, 1, 2, 46] [dE e.kids, .box [iA 0, iA 0, .v (.slice none 0 0)], .box [iA e.kind, iA e.value, .tref 3], .tree (D.exprs (List.take k e.kids ++ [LExpr.mk (e.kids.getD k default).kind (e.kids.getD k default).value (e.kids.getD k default).kids]))] [(2, .ptr 1 0), (3, .ptr 2 0), (12, .ref 0), (13, iA (↑e.kids.length : Int)), (14, iA (↑k : Int))] [(List.take k e.kids).length + [LExpr.mk (e.kids.getD k default).kind (e.kids.getD k default).value (e.kids.getD k default).kids].length ≤ (9223372036854775807 : Nat), ((List.take k e.kids).length + [LExpr.mk (e.kids.getD k default).kind (e.kids.getD k default).value (e.kids.getD k default).kids].length) * (40 : Nat) ≤ (140737488355328 : Nat)] ⟨(by have := len1 (x := (default : LExpr)) hp hl; simp only [List.length_cons, List.length_nil] at this ⊢; omega), (by exact fitB (len1 hp hl) (by kernel_rfl)), trivial⟩ ?_
   clear G; intro ρ a w G
   refine bl_n ?_
   refine th_n ?_
   refine rs1s G ⟨[], [], []⟩ calls_nil trivial [(2, .ptr 1 0), (3, .ptr 2 0), (12, .ref 0), (13, iA (↑e.kids.length : Int)), (14, iA ((↑k : Int) + 1))] [IntKind.i64.wrap ((↑k : Int) + (1 : Int)) = (↑k : Int) + (1 : Int)] ⟨(by exact w64 (by omega) (by omega)), trivial⟩ ?_
   clear G; intro ρ a w G
   refine th_n ?_
   exact rx_next G (k + 1) (by have := len1 (x := (default : LExpr)) hp hl; simp only [List.length_cons, List.length_nil] at this ⊢; omega) (by have := len1 (x := (default : LExpr)) hp hl; simp only [List.length_cons, List.length_nil] at this ⊢; omega) [0, 1, 2, 3] [dE e.kids, .box [iA 0, iA 0, .v (.slice none 0 0)], .box [iA e.kind, iA e.value, .tref 3], .tree (D.exprs (List.take (k + 1) e.kids))] [(2, .ptr 1 0), (3, .ptr 2 0), (12, .ref 0), (13, iA (↑e.kids.length : Int)), (14, iA (↑(k + 1) : Int))] (by kernel_rfl) (by kernel_rfl) (by kernel_rfl) (by have e1 : (List.take (k + 1) e.kids : List LExpr) = (List.take k e.kids ++ [LExpr.mk (e.kids.getD k default).kind (e.kids.getD k default).value (e.kids.getD k default).kids]) := (by exact (takeE (by omega)).symm); first | (rw [e1]; done) | (rw [e1]; rfl) | (simp only [e1]; done) | (simp only [e1]; rfl)) (by kernel_rfl)

theorem c_ownE (e : LExpr) : szE e ≤ 1048576 → Ctr.ok Try.prog (owC e) :=
  LExpr.ind (P := fun e => szE e ≤ 1048576 → Ctr.ok Try.prog (owC e)) (fun k n ks ih hb => s_ownE ⟨k, n, ks⟩ hb fun x hx => ih x hx (by
    have h1 := szE_mem (show x ∈ ks from hx)
    have h2 : szE ⟨k, n, ks⟩ = szEs ks := rfl
    omega)) e

abbrev owsC (l : List LStmt) : Ctr := ⟨120, [.ref 0], [dT l], [dT l, .tree (.stmts l)], .tref 1⟩
set_option maxRecDepth 100000 in
theorem s_ownS (l : List LStmt) (hb : szSs l ≤ 1048576) (ih1 : ∀ (s : LStmt), s ∈ l → Ctr.ok Try.prog (owsC s.body)) (ih2 : ∀ (s : LStmt), s ∈ l → Ctr.ok Try.prog (owsC s.els)) : Ctr.ok Try.prog (owsC l) := by
  refine rx_enter 36 Try.func120 (by rfl) (by kernel_rfl) (by kernel_rfl) ?_
  intro ι φ ψ w0 w F ρ0 ρ a G
  replace G := Gam.at G [dT l] [(0, .ref 0)]
  have hl := block_fit hb
  refine wp_seq ?_
  refine rs0s G [(0, .ref 0), (2, .v (.slice none 0 0))] ?_
  clear G; intro ρ a w G
  refine th_n ?_
  refine wp_seq ?_
  refine rs0s G [(0, .ref 0), (2, .v (.slice none 0 0)), (3, .v (.slice none 0 0))] ?_
  clear G; intro ρ a w G
  refine th_n ?_
  refine wp_seq ?_
  refine wp_seq ?_
  refine rs0s G [(2, .v (.slice none 0 0)), (3, .v (.slice none 0 0)), (6, .ref 0), (7, iA (↑l.length : Int)), (8, iA 0)] ?_
  clear G; intro ρ a w G
  refine th_n ?_
  refine wp_block ?_
  have Gx := G.nilT 1 (.stmts []) [dT l] [(2, .v (.slice none 0 0)), (3, .tref 1), (6, .ref 0), (7, iA (↑l.length : Int)), (8, iA 0)]
  clear G
  obtain ⟨ρ, G⟩ := Gx
  replace G := Gam.at G [dT l, .tree (D.stmts [])] [(2, .v (.slice none 0 0)), (3, .tref 1), (6, .ref 0), (7, iA (↑l.length : Int)), (8, iA 0)]
  refine rx_for (κ := Nat) (fun k => k ≤ l.length) (fun k => l.length - k) (fun k => [dT l, .tree (.stmts (l.take k))]) (fun k => [(2, .v (.slice none 0 0)), (3, .tref 1), (6, .ref 0), (7, iA (↑l.length : Int)), (8, iA k)]) (0) (by omega) (Gam.at G _ _) ?_
  clear G
  intro k ρ a w hp G
  replace G := Gam.at G [dT l, .tree (D.stmts (List.take k l))] [(2, .v (.slice none 0 0)), (3, .tref 1), (6, .ref 0), (7, iA (↑l.length : Int)), (8, iA (↑k : Int))]
  refine wp_seq ?_
  refine rs0s G [(2, .v (.slice none 0 0)), (3, .tref 1), (6, .ref 0), (7, iA (↑l.length : Int)), (8, iA (↑k : Int)), (9, bA (decide ((↑k : Int) < (↑l.length : Int))))] ?_
  clear G; intro ρ a w G
  refine th_n ?_
  refine wp_seq ?_
  cases h0 : (decide ((↑k : Int) < (↑l.length : Int)))
  ·
   have q0 : ¬ ((↑k : Int) < (↑l.length : Int)) := of_decide_eq_false h0
   refine rF G (decide ((↑k : Int) < (↑l.length : Int))) (by assumption) ?_
   refine wp_exit ?_
   refine th_e ?_
   refine th_e ?_
   refine bl_hit ?_
   refine th_n ?_
   refine wp_seq ?_
   refine rs0s G [(2, .tref 1)] ?_
   clear G; intro ρ a w G
   refine th_n ?_
   refine wp_ret ?_
   exact rx_ret (v := .tref 1) G [0, 1] (by kernel_rfl) (by kernel_rfl) (by show _ = List.map (It.ren (nth [0, 1])) [dT l, .tree (D.stmts l)]; have e1 : (List.take k l : List LStmt) = (l) := (by exact take_is hp (by assumption)); first | (rw [e1]; done) | (rw [e1]; rfl) | (simp only [e1]; done) | (simp only [e1]; rfl)) (by kernel_rfl)
  ·
   have q0 : (↑k : Int) < (↑l.length : Int) := of_decide_eq_true h0
   refine rT G (decide ((↑k : Int) < (↑l.length : Int))) (by assumption) ?_
   refine wp_skip ?_
   refine th_n ?_
   refine wp_seq ?_
   refine wp_block ?_
   refine wp_seq ?_
   refine rs1 (dk := dkP) G ⟨[], [], []⟩ calls_nil trivial [0, 1, 10, 11, 12, 13, 18] [dT l, .tree (D.stmts (List.take k l)), dE (l.getD k default).index.kids, dE (l.getD k default).value.kids, dT (l.getD k default).body, dT (l.getD k default).els, .box (sL (l.getD k default) 2)] [(2, .v (.slice none 0 0)), (3, .tref 1), (5, .ptr 6 0), (6, .ref 0), (7, iA (↑l.length : Int)), (8, iA (↑k : Int))] [(0 : Int) ≤ (↑k : Int), (↑k : Int) < (↑l.length : Int), k < l.length] ⟨(by simp [h0]), (by assumption), (by have := len1 (x := (default : LStmt)) hp hl; simp only [List.length_cons, List.length_nil] at this ⊢; omega), trivial⟩ ?_
   clear G; intro ρ a w G
   refine th_n ?_
   refine rd1 (dk := dkP) G ⟨[(7, _, [2]), (10, _, [3]), (15, _, [4]), (18, _, [5])], [], []⟩ (calls_cons (c_ownE ((l.getD k default).index) (by exact (fit_sub hb (by assumption)).1)) (calls_cons (c_ownE ((l.getD k default).value) (by exact (fit_sub hb (by assumption)).2.1)) (calls_cons (ih1 (l.getD k default) (by exact getS_mem (by assumption))) (calls_cons (ih2 (l.getD k default) (by exact getS_mem (by assumption))) calls_nil)))) trivial [0, 0, 2, 0, 8, 0, 32, 96, 0, 256, 992, 0, 2048, 0, 8192, 26592, 0, 65536, 255968, 524286, 1048574, 2097151, 4194303] [0, 175] [dT l, .tree (D.stmts (List.take k l ++ [LStmt.mk (l.getD k default).kind (l.getD k default).target (LExpr.mk (l.getD k default).index.kind (l.getD k default).index.value (l.getD k default).index.kids) (LExpr.mk (l.getD k default).value.kind (l.getD k default).value.value (l.getD k default).value.kids) (l.getD k default).count (l.getD k default).body (l.getD k default).els]))] [(2, .v (.slice none 0 0)), (3, .tref 1), (6, .ref 0), (7, iA (↑l.length : Int)), (8, iA (↑k : Int))] [(List.take k l).length + [LStmt.mk (l.getD k default).kind (l.getD k default).target (LExpr.mk (l.getD k default).index.kind (l.getD k default).index.value (l.getD k default).index.kids) (LExpr.mk (l.getD k default).value.kind (l.getD k default).value.value (l.getD k default).value.kids) (l.getD k default).count (l.getD k default).body (l.getD k default).els].length ≤ (9223372036854775807 : Nat), ((List.take k l).length + [LStmt.mk (l.getD k default).kind (l.getD k default).target (LExpr.mk (l.getD k default).index.kind (l.getD k default).index.value (l.getD k default).index.kids) (LExpr.mk (l.getD k default).value.kind (l.getD k default).value.value (l.getD k default).value.kids) (l.getD k default).count (l.getD k default).body (l.getD k default).els].length) * (152 : Nat) ≤ (140737488355328 : Nat)] ⟨(by have := len1 (x := (default : LStmt)) hp hl; simp only [List.length_cons, List.length_nil] at this ⊢; omega), (by exact fitB (len1 hp hl) (by kernel_rfl)), trivial⟩ ?_
   clear G; intro ρ a w G
   refine bl_n ?_
   refine th_n ?_
   refine rs1s G ⟨[], [], []⟩ calls_nil trivial [(2, .v (.slice none 0 0)), (3, .tref 1), (6, .ref 0), (7, iA (↑l.length : Int)), (8, iA ((↑k : Int) + 1))] [IntKind.i64.wrap ((↑k : Int) + (1 : Int)) = (↑k : Int) + (1 : Int)] ⟨(by exact w64 (by omega) (by omega)), trivial⟩ ?_
   clear G; intro ρ a w G
   refine th_n ?_
   exact rx_next G (k + 1) (by have := len1 (x := (default : LStmt)) hp hl; simp only [List.length_cons, List.length_nil] at this ⊢; omega) (by have := len1 (x := (default : LStmt)) hp hl; simp only [List.length_cons, List.length_nil] at this ⊢; omega) [0, 1] [dT l, .tree (D.stmts (List.take (k + 1) l))] [(2, .v (.slice none 0 0)), (3, .tref 1), (6, .ref 0), (7, iA (↑l.length : Int)), (8, iA (↑(k + 1) : Int))] (by kernel_rfl) (by kernel_rfl) (by kernel_rfl) (by have e1 : (List.take (k + 1) l : List LStmt) = (List.take k l ++ [LStmt.mk (l.getD k default).kind (l.getD k default).target (LExpr.mk (l.getD k default).index.kind (l.getD k default).index.value (l.getD k default).index.kids) (LExpr.mk (l.getD k default).value.kind (l.getD k default).value.value (l.getD k default).value.kids) (l.getD k default).count (l.getD k default).body (l.getD k default).els]) := (by exact (takeS (by omega)).symm); first | (rw [e1]; done) | (rw [e1]; rfl) | (simp only [e1]; done) | (simp only [e1]; rfl)) (by kernel_rfl)

theorem c_ownS (l : List LStmt) : szSs l ≤ 1048576 → Ctr.ok Try.prog (owsC l) := fun hb => s_ownS l hb
  (fun s hs => (own2 s).1 (Nat.le_trans (Nat.le_of_lt (szS_mem hs)) hb)) fun s hs => (own2 s).2 (Nat.le_trans (Nat.le_of_lt (szS_mem hs)) hb)
where
  own2 (s : LStmt) : (szS s ≤ 1048576 → Ctr.ok Try.prog (owsC s.body)) ∧ (szS s ≤ 1048576 → Ctr.ok Try.prog (owsC s.els)) :=
    LStmt.ind (P := fun s => (szS s ≤ 1048576 → Ctr.ok Try.prog (owsC s.body)) ∧ (szS s ≤ 1048576 → Ctr.ok Try.prog (owsC s.els))) (fun k t i v c b e h1 h2 => by
      have hz : szS ⟨k, t, i, v, c, b, e⟩ = szE i + szE v + szSs b + szSs e := rfl
      constructor
      · intro hb
        refine s_ownS b (by omega) (fun s hs => (h1 s hs).1 ?_) fun s hs => (h1 s hs).2 ?_
        · have := szS_mem hs; omega
        · have := szS_mem hs; omega
      · intro hb
        refine s_ownS e (by omega) (fun s hs => (h2 s hs).1 ?_) fun s hs => (h2 s hs).2 ?_
        · have := szS_mem hs; omega
        · have := szS_mem hs; omega) s

set_option maxRecDepth 100000 in
theorem c_own (p : LProg) (hb : p.size ≤ 1048576) : Ctr.ok Try.prog ⟨87, [pA 0], pS p, pS p ++ oP p, oA 3⟩ := by
  refine rx_enter 13 Try.func87 (by rfl) (by kernel_rfl) (by kernel_rfl) ?_
  intro ι φ ψ w0 w F ρ0 ρ a G
  replace G := Gam.at G [dI p.vars, dI p.arrays, dT p.body] [(0, pA 0)]
  have hb1 : p.vars.length ≤ 1048576 ∧ p.arrays.length ≤ 1048576 ∧ szSs p.body ≤ 1048576 := by unfold LProg.size at hb; omega
  refine wp_seq ?_
  refine rs0 G [0, 1, 2, 3, 11] [dI p.vars, dI p.arrays, dT p.body, .box (pL 0), .box [.v (.slice none 0 0), .v (.slice none 0 0), .v (.slice none 0 0)]] [(1, .ptr 3 0), (2, .ptr 4 0)] ?_
  clear G; intro ρ a w G
  refine th_n ?_
  refine wp_seq ?_
  refine rd1 (dk := dkP) G ⟨[(2, _, [0]), (5, _, [1]), (8, _, [2])], [], []⟩ (calls_cons (c_cloneInts (p.vars) (by omega)) (calls_cons (c_cloneInts (p.arrays) (by omega)) (calls_cons (c_ownS (p.body) (by exact hb1.2.2)) calls_nil))) trivial [0, 1, 3, 0, 8, 31, 0, 64, 255, 511, 1023] [0, 1, 2, 4, 21, 45, 69] [dI p.vars, dI p.arrays, dT p.body, .box [.ref 4, .ref 5, .tref 6], .row 3 (D.ints p.vars), .row 3 (D.ints p.arrays), .tree (D.stmts p.body)] [(2, .ptr 3 0)] [] trivial ?_
  clear G; intro ρ a w G
  refine th_n ?_
  refine wp_ret ?_
  exact rx_ret (v := .agg [.ref 4, .ref 5, .tref 6]) G [0, 1, 2, 4, 5, 6] (by kernel_rfl) (by kernel_rfl) (by kernel_rfl) (by kernel_rfl)

end Go.Proofs.Ytgpkdfefgcpbiaa

namespace Go.Proofs.Ytgpkdfefgcpbiaa
set_option linter.unusedVariables false
set_option linter.unusedSimpArgs false
open Go Go.RowKit

end Go.Proofs.Ytgpkdfefgcpbiaa

namespace Go.Proofs.Ytgpkdfefgcpbiaa
set_option linter.unusedVariables false
set_option linter.unusedSimpArgs false
open Go Go.RowKit

/-- The label of a node alone, and of an expression. -/
def ownL (vs ars : List Int) (e : LExpr) : Int := if e.kind = 2 then vs.getD e.value.toNat 0 else if e.kind = 3 then ars.getD e.value.toNat 0 else 0
def labE (vs ars : List Int) : Nat → LExpr → Int
  | 0, _ => 0
  | d + 1, e => e.kids.foldl (fun a k => orI a (labE vs ars d k)) (ownL vs ars e)
def labP (vs ars : List Int) (d : Nat) (x : Int) (ks : List LExpr) (k : Nat) : Int := (ks.take k).foldl (fun a k => orI a (labE vs ars d k)) x
theorem labP_succ {vs ars : List Int} {d k : Nat} {x : Int} {ks : List LExpr} (h : k < ks.length) : labP vs ars d x ks (k + 1) = orI (labP vs ars d x ks k) (labE vs ars d (ks.getD k default)) := by
  unfold labP; rw [p_take_succ ks k h, List.foldl_append, getD_lt h]; rfl
theorem labP_end {vs ars : List Int} {d k : Nat} {x : Int} {e : LExpr} (h : e.kids.length ≤ k) (hx : ownL vs ars e = x) : labE vs ars (d + 1) e = labP vs ars d x e.kids k := by
  unfold labP; rw [List.take_of_length_le h, labE, hx]
section
variable {nv na d : Nat} {e : LExpr}
theorem sh_node (h : shapeB nv na (d + 1) e = true) : nodeB nv na e = true := by simp only [shapeB, Bool.and_eq_true] at h; exact h.1.1
theorem sh_var (h : shapeB nv na (d + 1) e = true) (k : e.kind = 2) : 0 ≤ e.value ∧ e.value < nv ∧ e.value.toNat < nv := by
  have := sh_node h
  simp [nodeB, limit, k] at this; omega
theorem sh_arr (h : shapeB nv na (d + 1) e = true) (k : e.kind = 3) : 0 ≤ e.value ∧ e.value < na ∧ e.value.toNat < na := by
  have := sh_node h
  simp [nodeB, limit, k] at this; omega
theorem sh_kid {k : Nat} (h : shapeB nv na (d + 1) e = true) (hk : k < e.kids.length) : shapeB nv na d (e.kids.getD k default) = true := by
  simp only [shapeB, Bool.and_eq_true] at h
  rw [getD_lt hk]; exact List.all_eq_true.1 h.1.2 _ (List.getElem_mem hk)
theorem sh_len (h : shapeB nv na (d + 1) e = true) (k : e.kind = 3) : 0 < e.kids.length := by
  have := sh_node h
  simp [nodeB, arity, k] at this; omega
end
theorem lab_cases {x : Int} (h : labOk x = true) : x = 0 ∨ x = 1 ∨ x = 2 ∨ x = 3 := by simp [labOk] at h; omega

set_option maxRecDepth 100000 in
theorem c_LabelSecret (l : Int) : Ctr.ok Try.prog (fnC 198 [iA l] [] (bA (labOk l && decide (l % 2 = 1)))) := by
  refine rx_enter 10 Try.func198 (by rfl) (by kernel_rfl) (by kernel_rfl) ?_
  intro ι φ ψ w0 w F ρ0 ρ a G
  replace G := Gam.at G [] [(0, iA l)]
  refine wp_seq ?_
  refine rs0s G [(0, iA l), (2, bA false)] ?_
  clear G; intro ρ a w G
  refine th_n ?_
  refine wp_seq ?_
  cases h0 : (labOk l)
  ·
   refine rs1s G ⟨[(1, _, [])], [(labOk l, false)], [(3, 0), (4, 0), (5, 0), (1006, 0)]⟩ (calls_cons (c_LabelValid (l)) calls_nil) ⟨(by assumption), trivial⟩ [(2, bA false)] [] trivial ?_
   clear G; intro ρ a w G
   refine th_n ?_
   refine wp_ret ?_
   exact rx_ret (v := bA false) G [] (by kernel_rfl) (by kernel_rfl) (by kernel_rfl) (by kernel_rfl)
  ·
   refine rs1s G ⟨[(1, _, [])], [(labOk l, true)], [(3, 0), (4, 0), (5, 0), (1006, 0)]⟩ (calls_cons (c_LabelValid (l)) calls_nil) ⟨(by assumption), trivial⟩ [(2, bA (andI l 1 == 1))] [] trivial ?_
   clear G; intro ρ a w G
   refine th_n ?_
   refine wp_ret ?_
   exact rx_ret (v := bA (andI l 1 == 1)) G [] (by kernel_rfl) (by kernel_rfl) (by kernel_rfl) (by have e1 : (true && decide (l % 2 = 1) : Bool) = (andI l 1 == 1) := (by rcases lab_cases h0 with rfl | rfl | rfl | rfl <;> kernel_rfl); first | (rw [e1]; done) | (rw [e1]; rfl) | (simp only [e1]; done) | (simp only [e1]; rfl))

set_option maxRecDepth 100000 in
theorem c_LabelTrusted (l : Int) : Ctr.ok Try.prog (fnC 197 [iA l] [] (bA (labOk l && decide (l ≤ 1)))) := by
  refine rx_enter 10 Try.func197 (by rfl) (by kernel_rfl) (by kernel_rfl) ?_
  intro ι φ ψ w0 w F ρ0 ρ a G
  replace G := Gam.at G [] [(0, iA l)]
  refine wp_seq ?_
  refine rs0s G [(0, iA l), (2, bA false)] ?_
  clear G; intro ρ a w G
  refine th_n ?_
  refine wp_seq ?_
  cases h0 : (labOk l)
  ·
   refine rs1s G ⟨[(1, _, [])], [(labOk l, false)], [(3, 0), (4, 0), (5, 0), (1006, 0)]⟩ (calls_cons (c_LabelValid (l)) calls_nil) ⟨(by assumption), trivial⟩ [(2, bA false)] [] trivial ?_
   clear G; intro ρ a w G
   refine th_n ?_
   refine wp_ret ?_
   exact rx_ret (v := bA false) G [] (by kernel_rfl) (by kernel_rfl) (by kernel_rfl) (by kernel_rfl)
  ·
   refine rs1s G ⟨[(1, _, [])], [(labOk l, true)], [(3, 0), (4, 0), (5, 0), (1006, 0)]⟩ (calls_cons (c_LabelValid (l)) calls_nil) ⟨(by assumption), trivial⟩ [(2, bA (andI l 2 == 0))] [] trivial ?_
   clear G; intro ρ a w G
   refine th_n ?_
   refine wp_ret ?_
   exact rx_ret (v := bA (andI l 2 == 0)) G [] (by kernel_rfl) (by kernel_rfl) (by kernel_rfl) (by have e1 : (true && decide (l ≤ 1) : Bool) = (andI l 2 == 0) := (by rcases lab_cases h0 with rfl | rfl | rfl | rfl <;> kernel_rfl); first | (rw [e1]; done) | (rw [e1]; rfl) | (simp only [e1]; done) | (simp only [e1]; rfl))

set_option maxRecDepth 100000 in
theorem c_iLabelTrusted (l : Int) : Ctr.ok Try.prog (fnC 102 [iA l] [] (bA (labOk l && decide (l ≤ 1)))) := by
  refine rx_enter 10 Try.func102 (by rfl) (by kernel_rfl) (by kernel_rfl) ?_
  intro ι φ ψ w0 w F ρ0 ρ a G
  replace G := Gam.at G [] [(0, iA l)]
  refine wp_seq ?_
  refine rs0s G [(0, iA l), (2, bA false)] ?_
  clear G; intro ρ a w G
  refine th_n ?_
  refine wp_seq ?_
  cases h0 : (labOk l)
  ·
   refine rs1s G ⟨[(1, _, [])], [(labOk l, false)], [(3, 0), (4, 0), (5, 0), (1006, 0)]⟩ (calls_cons (c_iLabelValid (l)) calls_nil) ⟨(by assumption), trivial⟩ [(2, bA false)] [] trivial ?_
   clear G; intro ρ a w G
   refine th_n ?_
   refine wp_ret ?_
   exact rx_ret (v := bA false) G [] (by kernel_rfl) (by kernel_rfl) (by kernel_rfl) (by kernel_rfl)
  ·
   refine rs1s G ⟨[(1, _, [])], [(labOk l, true)], [(3, 0), (4, 0), (5, 0), (1006, 0)]⟩ (calls_cons (c_iLabelValid (l)) calls_nil) ⟨(by assumption), trivial⟩ [(2, bA (andI l 2 == 0))] [] trivial ?_
   clear G; intro ρ a w G
   refine th_n ?_
   refine wp_ret ?_
   exact rx_ret (v := bA (andI l 2 == 0)) G [] (by kernel_rfl) (by kernel_rfl) (by kernel_rfl) (by have e1 : (true && decide (l ≤ 1) : Bool) = (andI l 2 == 0) := (by rcases lab_cases h0 with rfl | rfl | rfl | rfl <;> kernel_rfl); first | (rw [e1]; done) | (rw [e1]; rfl) | (simp only [e1]; done) | (simp only [e1]; rfl))

set_option maxRecDepth 100000 in
theorem c_LabelFlows (x y : Int) : Ctr.ok Try.prog (fnC 196 [iA x, iA y] [] (bA (labOk x && labOk y && (orI x y == y)))) := by
  refine rx_enter 18 Try.func196 (by rfl) (by kernel_rfl) (by kernel_rfl) ?_
  intro ι φ ψ w0 w F ρ0 ρ a G
  replace G := Gam.at G [] [(0, iA x), (1, iA y)]
  refine wp_seq ?_
  refine rs0s G [(0, iA x), (1, iA y), (4, bA false)] ?_
  clear G; intro ρ a w G
  refine th_n ?_
  refine wp_seq ?_
  cases h0 : (labOk x)
  ·
   refine rs1s G ⟨[(1, _, [])], [(labOk x, false), (false, false)], [(3, 0), (4, 0), (1005, 0), (7, 1), (8, 1), (9, 1), (10, 1), (11, 1), (1012, 1)]⟩ (calls_cons (c_LabelValid (x)) calls_nil) ⟨(by assumption), (by kernel_rfl), trivial⟩ [(4, bA false)] [] trivial ?_
   clear G; intro ρ a w G
   refine th_n ?_
   refine wp_ret ?_
   exact rx_ret (v := bA false) G [] (by kernel_rfl) (by kernel_rfl) (by kernel_rfl) (by kernel_rfl)
  ·
   cases h1 : (labOk y)
   ·
    refine rs1s G ⟨[(1, _, []), (4, _, [])], [(labOk x, true), (labOk y, false)], [(3, 0), (4, 0), (1005, 0), (7, 1), (8, 1), (9, 1), (10, 1), (11, 1), (1012, 1)]⟩ (calls_cons (c_LabelValid (x)) (calls_cons (c_LabelValid (y)) calls_nil)) ⟨(by assumption), (by assumption), trivial⟩ [(4, bA false)] [] trivial ?_
    clear G; intro ρ a w G
    refine th_n ?_
    refine wp_ret ?_
    exact rx_ret (v := bA false) G [] (by kernel_rfl) (by kernel_rfl) (by kernel_rfl) (by kernel_rfl)
   ·
    refine rs1s G ⟨[(1, _, []), (4, _, [])], [(labOk x, true), (labOk y, true)], [(3, 0), (4, 0), (1005, 0), (7, 1), (8, 1), (9, 1), (10, 1), (11, 1), (1012, 1)]⟩ (calls_cons (c_LabelValid (x)) (calls_cons (c_LabelValid (y)) calls_nil)) ⟨(by assumption), (by assumption), trivial⟩ [(4, bA (orI x y == y))] [] trivial ?_
    clear G; intro ρ a w G
    refine th_n ?_
    refine wp_ret ?_
    exact rx_ret (v := bA (orI x y == y)) G [] (by kernel_rfl) (by kernel_rfl) (by kernel_rfl) (by kernel_rfl)

theorem flows_fin : ∀ x : Fin 4, ∀ y : Fin 4, (anI x.val y.val == 0) = (orI x.val y.val == (y.val : Int)) := by decide +kernel
theorem lab_fin {x : Int} (h : labOk x = true) : ∃ a : Fin 4, x = (a.val : Int) := by
  simp [labOk] at h
  exact ⟨⟨x.toNat, by omega⟩, by simp; omega⟩
theorem flows_eq {x y : Int} (hx : labOk x = true) (hy : labOk y = true) : (anI x y == 0) = (orI x y == y) := by
  obtain ⟨a, rfl⟩ := lab_fin hx
  obtain ⟨b, rfl⟩ := lab_fin hy
  exact flows_fin a b

set_option maxRecDepth 100000 in
theorem c_flows (x y : Int) : Ctr.ok Try.prog (fnC 173 [iA x, iA y] [] (bA (anI x y == 0))) := by
  refine rx_enter 9 Try.func173 (by rfl) (by kernel_rfl) (by kernel_rfl) ?_
  intro ι φ ψ w0 w F ρ0 ρ a G
  replace G := Gam.at G [] [(0, iA x), (1, iA y)]
  refine wp_seq ?_
  refine rs0s G [(0, iA x), (1, iA y), (4, bA false)] ?_
  clear G; intro ρ a w G
  refine th_n ?_
  refine wp_seq ?_
  refine rs0s G [(4, bA (anI x y == 0))] ?_
  clear G; intro ρ a w G
  refine th_n ?_
  refine wp_ret ?_
  exact rx_ret (v := bA (anI x y == 0)) G [] (by kernel_rfl) (by kernel_rfl) (by kernel_rfl) (by kernel_rfl)

set_option maxRecDepth 100000 in
theorem c_l4LabelS (p : LProg) (d : Nat) (ih : ∀ (e : LExpr), shapeB p.vars.length p.arrays.length d e = true → Ctr.ok Try.prog (fnC 170 [pA 0, eA e 3] (pS p ++ eS e) (iA (labE p.vars p.arrays d e))))
    (e : LExpr) (he : shapeB p.vars.length p.arrays.length (d + 1) e = true) : Ctr.ok Try.prog (fnC 170 [pA 0, eA e 3] (pS p ++ eS e) (iA (labE p.vars p.arrays (d + 1) e))) := by
  refine rx_enter 42 Try.func170 (by rfl) (by kernel_rfl) (by kernel_rfl) ?_
  intro ι φ ψ w0 w F ρ0 ρ a G
  replace G := Gam.at G [dI p.vars, dI p.arrays, dT p.body, dE e.kids] [(0, pA 0), (1, eA e 3)]
  refine wp_seq ?_
  refine rs0 G [0, 1, 2, 3, 4, 12] [dI p.vars, dI p.arrays, dT p.body, dE e.kids, .box (pL 0), .box (eL e 3)] [(2, .ptr 4 0), (3, .ptr 5 0), (4, iA 0)] ?_
  clear G; intro ρ a w G
  refine th_n ?_
  refine wp_seq ?_
  refine rs0s G [(2, .ptr 4 0), (3, .ptr 5 0), (4, iA 0), (5, iA 0)] ?_
  clear G; intro ρ a w G
  refine th_n ?_
  refine wp_seq ?_
  refine wp_seq ?_
  refine rs0s G [(2, .ptr 4 0), (3, .ptr 5 0), (4, iA 0), (5, iA 0), (8, iA e.kind)] ?_
  clear G; intro ρ a w G
  refine th_n ?_
  refine wp_block ?_
  refine wp_seq ?_
  refine rs0s G [(2, .ptr 4 0), (3, .ptr 5 0), (4, iA 0), (5, iA 0), (8, iA e.kind), (9, bA (e.kind == 2))] ?_
  clear G; intro ρ a w G
  refine th_n ?_
  cases h0 : (e.kind == (2 : Int))
  ·
   have q0 : ¬ (e.kind = 2) := ne_of_beq_false h0
   refine rF G (e.kind == (2 : Int)) (by assumption) ?_
   refine wp_seq ?_
   refine rs0s G [(2, .ptr 4 0), (3, .ptr 5 0), (4, iA 0), (5, iA 0), (17, bA (e.kind == 3))] ?_
   clear G; intro ρ a w G
   refine th_n ?_
   cases h1 : (e.kind == (3 : Int))
   ·
    have q1 : ¬ (e.kind = 3) := ne_of_beq_false h1
    refine rF G (e.kind == (3 : Int)) (by assumption) ?_
    refine wp_skip ?_
    refine bl_n ?_
    refine th_n ?_
    refine wp_seq ?_
    refine wp_seq ?_
    refine rs0s G [(2, .ptr 4 0), (3, .ptr 5 0), (4, iA 0), (5, iA 0), (6, iA 0)] ?_
    clear G; intro ρ a w G
    refine th_n ?_
    refine wp_block ?_
    refine rx_for (κ := Nat) (fun k => k ≤ e.kids.length) (fun k => e.kids.length - k) (fun k => [dI p.vars, dI p.arrays, dT p.body, dE e.kids, .box (pL 0), .box (eL e 3)]) (fun k => [(2, .ptr 4 0), (3, .ptr 5 0), (4, iA 0), (5, iA (labP p.vars p.arrays d 0 e.kids k)), (6, iA k)]) (0) (by simp [he, h0, h1]) (Gam.at G _ _) ?_
    clear G
    intro k ρ a w hp G
    replace G := Gam.at G [dI p.vars, dI p.arrays, dT p.body, dE e.kids, .box (pL 0), .box (eL e 3)] [(2, .ptr 4 0), (3, .ptr 5 0), (4, iA 0), (5, iA (labP p.vars p.arrays d 0 e.kids k)), (6, iA (↑k : Int))]
    have hlen : e.kids.length ≤ 9223372036854775807 := G.len 3 (d := .exprs e.kids) (by kernel_rfl)
    refine wp_seq ?_
    refine wp_seq ?_
    refine rs0s G [(2, .ptr 4 0), (3, .ptr 5 0), (4, iA 0), (5, iA (labP p.vars p.arrays d 0 e.kids k)), (6, iA (↑k : Int)), (29, bA (decide ((↑k : Int) < (↑e.kids.length : Int))))] ?_
    clear G; intro ρ a w G
    refine th_n ?_
    cases h2 : (decide ((↑k : Int) < (↑e.kids.length : Int)))
    ·
     have q2 : ¬ ((↑k : Int) < (↑e.kids.length : Int)) := of_decide_eq_false h2
     refine rF G (decide ((↑k : Int) < (↑e.kids.length : Int))) (by assumption) ?_
     refine wp_exit ?_
     refine th_e ?_
     refine th_e ?_
     refine bl_hit ?_
     refine th_n ?_
     refine wp_seq ?_
     refine rs0 G [0, 1, 2, 3] [dI p.vars, dI p.arrays, dT p.body, dE e.kids] [(4, iA (labP p.vars p.arrays d 0 e.kids k))] ?_
     clear G; intro ρ a w G
     refine th_n ?_
     refine wp_ret ?_
     exact rx_ret (v := iA (labP p.vars p.arrays d 0 e.kids k)) G [0, 1, 2, 3] (by kernel_rfl) (by kernel_rfl) (by kernel_rfl) (by have e1 : (labE p.vars p.arrays (d + 1) e : Int) = (labP p.vars p.arrays d 0 e.kids k) := (by exact labP_end (by omega) (by simp [ownL, h0, q0, h1, q1, h2, q2]; done)); first | (rw [e1]; done) | (rw [e1]; rfl) | (simp only [e1]; done) | (simp only [e1]; rfl))
    ·
     have q2 : (↑k : Int) < (↑e.kids.length : Int) := of_decide_eq_true h2
     refine rT G (decide ((↑k : Int) < (↑e.kids.length : Int))) (by assumption) ?_
     refine wp_skip ?_
     refine th_n ?_
     refine wp_seq ?_
     refine wp_block ?_
     refine rd1s G ⟨[(7, _, [0, 1, 2, 54])], [], []⟩ (calls_cons (ih (e.kids.getD k default) (by exact sh_kid he (by omega))) calls_nil) trivial [0, 0, 0, 4, 0, 28, 60, 126, 255, 511] [(2, .ptr 4 0), (3, .ptr 5 0), (4, iA 0), (5, iA (orI (labP p.vars p.arrays d 0 e.kids k) (labE p.vars p.arrays d (e.kids.getD k default)))), (6, iA (↑k : Int))] [(0 : Int) ≤ (↑k : Int), (↑k : Int) < (↑e.kids.length : Int), k < e.kids.length] ⟨(by simp [he, h0, h1, h2]), (by assumption), (by omega), trivial⟩ ?_
     clear G; intro ρ a w G
     refine bl_n ?_
     refine th_n ?_
     refine rs1s G ⟨[], [], []⟩ calls_nil trivial [(2, .ptr 4 0), (3, .ptr 5 0), (4, iA 0), (5, iA (orI (labP p.vars p.arrays d 0 e.kids k) (labE p.vars p.arrays d (e.kids.getD k default)))), (6, iA ((↑k : Int) + 1))] [IntKind.i64.wrap ((↑k : Int) + (1 : Int)) = (↑k : Int) + (1 : Int)] ⟨(by exact w64 (by omega) (by omega)), trivial⟩ ?_
     clear G; intro ρ a w G
     refine th_n ?_
     exact rx_next G (k + 1) (by omega) (by omega) [0, 1, 2, 3, 4, 5] [dI p.vars, dI p.arrays, dT p.body, dE e.kids, .box (pL 0), .box (eL e 3)] [(2, .ptr 4 0), (3, .ptr 5 0), (4, iA 0), (5, iA (labP p.vars p.arrays d 0 e.kids (k + 1))), (6, iA (↑(k + 1) : Int))] (by kernel_rfl) (by kernel_rfl) (by kernel_rfl) (by kernel_rfl) (by have e1 : (labP p.vars p.arrays d 0 e.kids (k + 1) : Int) = (orI (labP p.vars p.arrays d 0 e.kids k) (labE p.vars p.arrays d (e.kids.getD k default))) := (by exact labP_succ (by omega)); first | (rw [e1]; done) | (rw [e1]; rfl) | (simp only [e1]; done) | (simp only [e1]; rfl))
   ·
    have q1 : e.kind = 3 := eq_of_beq h1
    refine rT G (e.kind == (3 : Int)) (by assumption) ?_
    refine rs1s G ⟨[], [], []⟩ calls_nil trivial [(2, .ptr 4 0), (3, .ptr 5 0), (4, iA 0), (5, iA (p.arrays.getD e.value.toNat 0))] [(0 : Int) ≤ e.value, e.value < (↑p.arrays.length : Int), e.value.toNat < p.arrays.length] ⟨(by exact (sh_arr he (by assumption)).1), (by exact (sh_arr he (by assumption)).2.1), (by exact (sh_arr he (by assumption)).2.2), trivial⟩ ?_
    clear G; intro ρ a w G
    refine bl_n ?_
    refine th_n ?_
    refine wp_seq ?_
    refine wp_seq ?_
    refine rs0s G [(2, .ptr 4 0), (3, .ptr 5 0), (4, iA 0), (5, iA (p.arrays.getD e.value.toNat 0)), (6, iA 0)] ?_
    clear G; intro ρ a w G
    refine th_n ?_
    refine wp_block ?_
    refine rx_for (κ := Nat) (fun k => k ≤ e.kids.length) (fun k => e.kids.length - k) (fun k => [dI p.vars, dI p.arrays, dT p.body, dE e.kids, .box (pL 0), .box (eL e 3)]) (fun k => [(2, .ptr 4 0), (3, .ptr 5 0), (4, iA 0), (5, iA (labP p.vars p.arrays d (p.arrays.getD e.value.toNat 0) e.kids k)), (6, iA k)]) (0) (by simp [he, h0, h1]) (Gam.at G _ _) ?_
    clear G
    intro k ρ a w hp G
    replace G := Gam.at G [dI p.vars, dI p.arrays, dT p.body, dE e.kids, .box (pL 0), .box (eL e 3)] [(2, .ptr 4 0), (3, .ptr 5 0), (4, iA 0), (5, iA (labP p.vars p.arrays d (p.arrays.getD e.value.toNat 0) e.kids k)), (6, iA (↑k : Int))]
    have hlen : e.kids.length ≤ 9223372036854775807 := G.len 3 (d := .exprs e.kids) (by kernel_rfl)
    refine wp_seq ?_
    refine wp_seq ?_
    refine rs0s G [(2, .ptr 4 0), (3, .ptr 5 0), (4, iA 0), (5, iA (labP p.vars p.arrays d (p.arrays.getD e.value.toNat 0) e.kids k)), (6, iA (↑k : Int)), (29, bA (decide ((↑k : Int) < (↑e.kids.length : Int))))] ?_
    clear G; intro ρ a w G
    refine th_n ?_
    cases h3 : (decide ((↑k : Int) < (↑e.kids.length : Int)))
    ·
     have q3 : ¬ ((↑k : Int) < (↑e.kids.length : Int)) := of_decide_eq_false h3
     refine rF G (decide ((↑k : Int) < (↑e.kids.length : Int))) (by assumption) ?_
     refine wp_exit ?_
     refine th_e ?_
     refine th_e ?_
     refine bl_hit ?_
     refine th_n ?_
     refine wp_seq ?_
     refine rs0 G [0, 1, 2, 3] [dI p.vars, dI p.arrays, dT p.body, dE e.kids] [(4, iA (labP p.vars p.arrays d (p.arrays.getD e.value.toNat 0) e.kids k))] ?_
     clear G; intro ρ a w G
     refine th_n ?_
     refine wp_ret ?_
     exact rx_ret (v := iA (labP p.vars p.arrays d (p.arrays.getD e.value.toNat 0) e.kids k)) G [0, 1, 2, 3] (by kernel_rfl) (by kernel_rfl) (by kernel_rfl) (by have e1 : (labE p.vars p.arrays (d + 1) e : Int) = (labP p.vars p.arrays d (p.arrays.getD e.value.toNat 0) e.kids k) := (by exact labP_end (by omega) (by simp [ownL, h0, q0, h1, q1, h3, q3]; done)); first | (rw [e1]; done) | (rw [e1]; rfl) | (simp only [e1]; done) | (simp only [e1]; rfl))
    ·
     have q3 : (↑k : Int) < (↑e.kids.length : Int) := of_decide_eq_true h3
     refine rT G (decide ((↑k : Int) < (↑e.kids.length : Int))) (by assumption) ?_
     refine wp_skip ?_
     refine th_n ?_
     refine wp_seq ?_
     refine wp_block ?_
     refine rd1s G ⟨[(7, _, [0, 1, 2, 54])], [], []⟩ (calls_cons (ih (e.kids.getD k default) (by exact sh_kid he (by omega))) calls_nil) trivial [0, 0, 0, 4, 0, 28, 60, 126, 255, 511] [(2, .ptr 4 0), (3, .ptr 5 0), (4, iA 0), (5, iA (orI (labP p.vars p.arrays d (p.arrays.getD e.value.toNat 0) e.kids k) (labE p.vars p.arrays d (e.kids.getD k default)))), (6, iA (↑k : Int))] [(0 : Int) ≤ (↑k : Int), (↑k : Int) < (↑e.kids.length : Int), k < e.kids.length] ⟨(by simp [he, h0, h1, h3]), (by assumption), (by omega), trivial⟩ ?_
     clear G; intro ρ a w G
     refine bl_n ?_
     refine th_n ?_
     refine rs1s G ⟨[], [], []⟩ calls_nil trivial [(2, .ptr 4 0), (3, .ptr 5 0), (4, iA 0), (5, iA (orI (labP p.vars p.arrays d (p.arrays.getD e.value.toNat 0) e.kids k) (labE p.vars p.arrays d (e.kids.getD k default)))), (6, iA ((↑k : Int) + 1))] [IntKind.i64.wrap ((↑k : Int) + (1 : Int)) = (↑k : Int) + (1 : Int)] ⟨(by exact w64 (by omega) (by omega)), trivial⟩ ?_
     clear G; intro ρ a w G
     refine th_n ?_
     exact rx_next G (k + 1) (by omega) (by omega) [0, 1, 2, 3, 4, 5] [dI p.vars, dI p.arrays, dT p.body, dE e.kids, .box (pL 0), .box (eL e 3)] [(2, .ptr 4 0), (3, .ptr 5 0), (4, iA 0), (5, iA (labP p.vars p.arrays d (p.arrays.getD e.value.toNat 0) e.kids (k + 1))), (6, iA (↑(k + 1) : Int))] (by kernel_rfl) (by kernel_rfl) (by kernel_rfl) (by kernel_rfl) (by have e1 : (labP p.vars p.arrays d (p.arrays.getD e.value.toNat 0) e.kids (k + 1) : Int) = (orI (labP p.vars p.arrays d (p.arrays.getD e.value.toNat 0) e.kids k) (labE p.vars p.arrays d (e.kids.getD k default))) := (by exact labP_succ (by omega)); first | (rw [e1]; done) | (rw [e1]; rfl) | (simp only [e1]; done) | (simp only [e1]; rfl))
  ·
   have q0 : e.kind = 2 := eq_of_beq h0
   refine rT G (e.kind == (2 : Int)) (by assumption) ?_
   refine rs1s G ⟨[], [], []⟩ calls_nil trivial [(2, .ptr 4 0), (3, .ptr 5 0), (4, iA 0), (5, iA (p.vars.getD e.value.toNat 0))] [(0 : Int) ≤ e.value, e.value < (↑p.vars.length : Int), e.value.toNat < p.vars.length] ⟨(by exact (sh_var he (by assumption)).1), (by exact (sh_var he (by assumption)).2.1), (by exact (sh_var he (by assumption)).2.2), trivial⟩ ?_
   clear G; intro ρ a w G
   refine bl_n ?_
   refine th_n ?_
   refine wp_seq ?_
   refine wp_seq ?_
   refine rs0s G [(2, .ptr 4 0), (3, .ptr 5 0), (4, iA 0), (5, iA (p.vars.getD e.value.toNat 0)), (6, iA 0)] ?_
   clear G; intro ρ a w G
   refine th_n ?_
   refine wp_block ?_
   refine rx_for (κ := Nat) (fun k => k ≤ e.kids.length) (fun k => e.kids.length - k) (fun k => [dI p.vars, dI p.arrays, dT p.body, dE e.kids, .box (pL 0), .box (eL e 3)]) (fun k => [(2, .ptr 4 0), (3, .ptr 5 0), (4, iA 0), (5, iA (labP p.vars p.arrays d (p.vars.getD e.value.toNat 0) e.kids k)), (6, iA k)]) (0) (by simp [he, h0]) (Gam.at G _ _) ?_
   clear G
   intro k ρ a w hp G
   replace G := Gam.at G [dI p.vars, dI p.arrays, dT p.body, dE e.kids, .box (pL 0), .box (eL e 3)] [(2, .ptr 4 0), (3, .ptr 5 0), (4, iA 0), (5, iA (labP p.vars p.arrays d (p.vars.getD e.value.toNat 0) e.kids k)), (6, iA (↑k : Int))]
   have hlen : e.kids.length ≤ 9223372036854775807 := G.len 3 (d := .exprs e.kids) (by kernel_rfl)
   refine wp_seq ?_
   refine wp_seq ?_
   refine rs0s G [(2, .ptr 4 0), (3, .ptr 5 0), (4, iA 0), (5, iA (labP p.vars p.arrays d (p.vars.getD e.value.toNat 0) e.kids k)), (6, iA (↑k : Int)), (29, bA (decide ((↑k : Int) < (↑e.kids.length : Int))))] ?_
   clear G; intro ρ a w G
   refine th_n ?_
   cases h4 : (decide ((↑k : Int) < (↑e.kids.length : Int)))
   ·
    have q4 : ¬ ((↑k : Int) < (↑e.kids.length : Int)) := of_decide_eq_false h4
    refine rF G (decide ((↑k : Int) < (↑e.kids.length : Int))) (by assumption) ?_
    refine wp_exit ?_
    refine th_e ?_
    refine th_e ?_
    refine bl_hit ?_
    refine th_n ?_
    refine wp_seq ?_
    refine rs0 G [0, 1, 2, 3] [dI p.vars, dI p.arrays, dT p.body, dE e.kids] [(4, iA (labP p.vars p.arrays d (p.vars.getD e.value.toNat 0) e.kids k))] ?_
    clear G; intro ρ a w G
    refine th_n ?_
    refine wp_ret ?_
    exact rx_ret (v := iA (labP p.vars p.arrays d (p.vars.getD e.value.toNat 0) e.kids k)) G [0, 1, 2, 3] (by kernel_rfl) (by kernel_rfl) (by kernel_rfl) (by have e1 : (labE p.vars p.arrays (d + 1) e : Int) = (labP p.vars p.arrays d (p.vars.getD e.value.toNat 0) e.kids k) := (by exact labP_end (by omega) (by simp [ownL, h0, q0, h4, q4]; done)); first | (rw [e1]; done) | (rw [e1]; rfl) | (simp only [e1]; done) | (simp only [e1]; rfl))
   ·
    have q4 : (↑k : Int) < (↑e.kids.length : Int) := of_decide_eq_true h4
    refine rT G (decide ((↑k : Int) < (↑e.kids.length : Int))) (by assumption) ?_
    refine wp_skip ?_
    refine th_n ?_
    refine wp_seq ?_
    refine wp_block ?_
    refine rd1s G ⟨[(7, _, [0, 1, 2, 54])], [], []⟩ (calls_cons (ih (e.kids.getD k default) (by exact sh_kid he (by omega))) calls_nil) trivial [0, 0, 0, 4, 0, 28, 60, 126, 255, 511] [(2, .ptr 4 0), (3, .ptr 5 0), (4, iA 0), (5, iA (orI (labP p.vars p.arrays d (p.vars.getD e.value.toNat 0) e.kids k) (labE p.vars p.arrays d (e.kids.getD k default)))), (6, iA (↑k : Int))] [(0 : Int) ≤ (↑k : Int), (↑k : Int) < (↑e.kids.length : Int), k < e.kids.length] ⟨(by simp [he, h0, h4]), (by assumption), (by omega), trivial⟩ ?_
    clear G; intro ρ a w G
    refine bl_n ?_
    refine th_n ?_
    refine rs1s G ⟨[], [], []⟩ calls_nil trivial [(2, .ptr 4 0), (3, .ptr 5 0), (4, iA 0), (5, iA (orI (labP p.vars p.arrays d (p.vars.getD e.value.toNat 0) e.kids k) (labE p.vars p.arrays d (e.kids.getD k default)))), (6, iA ((↑k : Int) + 1))] [IntKind.i64.wrap ((↑k : Int) + (1 : Int)) = (↑k : Int) + (1 : Int)] ⟨(by exact w64 (by omega) (by omega)), trivial⟩ ?_
    clear G; intro ρ a w G
    refine th_n ?_
    exact rx_next G (k + 1) (by omega) (by omega) [0, 1, 2, 3, 4, 5] [dI p.vars, dI p.arrays, dT p.body, dE e.kids, .box (pL 0), .box (eL e 3)] [(2, .ptr 4 0), (3, .ptr 5 0), (4, iA 0), (5, iA (labP p.vars p.arrays d (p.vars.getD e.value.toNat 0) e.kids (k + 1))), (6, iA (↑(k + 1) : Int))] (by kernel_rfl) (by kernel_rfl) (by kernel_rfl) (by kernel_rfl) (by have e1 : (labP p.vars p.arrays d (p.vars.getD e.value.toNat 0) e.kids (k + 1) : Int) = (orI (labP p.vars p.arrays d (p.vars.getD e.value.toNat 0) e.kids k) (labE p.vars p.arrays d (e.kids.getD k default))) := (by exact labP_succ (by omega)); first | (rw [e1]; done) | (rw [e1]; rfl) | (simp only [e1]; done) | (simp only [e1]; rfl))

set_option maxRecDepth 100000 in
theorem c_labelS (p : LProg) (d : Nat) (ih : ∀ (e : LExpr), shapeB p.vars.length p.arrays.length d e = true → Ctr.ok Try.prog (fnC 133 [pA 0, eA e 3] (pS p ++ eS e) (iA (labE p.vars p.arrays d e))))
    (e : LExpr) (he : shapeB p.vars.length p.arrays.length (d + 1) e = true) : Ctr.ok Try.prog (fnC 133 [pA 0, eA e 3] (pS p ++ eS e) (iA (labE p.vars p.arrays (d + 1) e))) := by
  refine rx_enter 40 Try.func133 (by rfl) (by kernel_rfl) (by kernel_rfl) ?_
  intro ι φ ψ w0 w F ρ0 ρ a G
  replace G := Gam.at G [dI p.vars, dI p.arrays, dT p.body, dE e.kids] [(0, pA 0), (1, eA e 3)]
  refine wp_seq ?_
  refine rs0 G [0, 1, 2, 3, 4, 12] [dI p.vars, dI p.arrays, dT p.body, dE e.kids, .box (pL 0), .box (eL e 3)] [(2, .ptr 4 0), (3, .ptr 5 0), (4, iA 0)] ?_
  clear G; intro ρ a w G
  refine th_n ?_
  refine wp_seq ?_
  refine rs0s G [(2, .ptr 4 0), (3, .ptr 5 0), (4, iA 0), (5, iA 0)] ?_
  clear G; intro ρ a w G
  refine th_n ?_
  refine wp_seq ?_
  refine wp_seq ?_
  refine rs0s G [(2, .ptr 4 0), (3, .ptr 5 0), (4, iA 0), (5, iA 0), (9, iA e.kind)] ?_
  clear G; intro ρ a w G
  refine th_n ?_
  refine wp_block ?_
  refine wp_seq ?_
  refine rs0s G [(2, .ptr 4 0), (3, .ptr 5 0), (4, iA 0), (5, iA 0), (9, iA e.kind), (10, bA (e.kind == 2))] ?_
  clear G; intro ρ a w G
  refine th_n ?_
  cases h0 : (e.kind == (2 : Int))
  ·
   have q0 : ¬ (e.kind = 2) := ne_of_beq_false h0
   refine rF G (e.kind == (2 : Int)) (by assumption) ?_
   refine wp_seq ?_
   refine rs0s G [(2, .ptr 4 0), (3, .ptr 5 0), (4, iA 0), (5, iA 0), (18, bA (e.kind == 3))] ?_
   clear G; intro ρ a w G
   refine th_n ?_
   cases h1 : (e.kind == (3 : Int))
   ·
    have q1 : ¬ (e.kind = 3) := ne_of_beq_false h1
    refine rF G (e.kind == (3 : Int)) (by assumption) ?_
    refine wp_skip ?_
    refine bl_n ?_
    refine th_n ?_
    refine wp_seq ?_
    refine wp_seq ?_
    refine rs0 G [0, 1, 2, 3, 4] [dI p.vars, dI p.arrays, dT p.body, dE e.kids, .box (pL 0)] [(2, .ptr 4 0), (4, iA 0), (5, iA 0), (27, .ref 3), (28, iA (↑e.kids.length : Int)), (29, iA 0)] ?_
    clear G; intro ρ a w G
    refine th_n ?_
    refine wp_block ?_
    refine rx_for (κ := Nat) (fun k => k ≤ e.kids.length) (fun k => e.kids.length - k) (fun k => [dI p.vars, dI p.arrays, dT p.body, dE e.kids, .box (pL 0)]) (fun k => [(2, .ptr 4 0), (4, iA 0), (5, iA (labP p.vars p.arrays d 0 e.kids k)), (27, .ref 3), (28, iA (↑e.kids.length : Int)), (29, iA k)]) (0) (by simp [he, h0, h1]) (Gam.at G _ _) ?_
    clear G
    intro k ρ a w hp G
    replace G := Gam.at G [dI p.vars, dI p.arrays, dT p.body, dE e.kids, .box (pL 0)] [(2, .ptr 4 0), (4, iA 0), (5, iA (labP p.vars p.arrays d 0 e.kids k)), (27, .ref 3), (28, iA (↑e.kids.length : Int)), (29, iA (↑k : Int))]
    have hlen : e.kids.length ≤ 9223372036854775807 := G.len 3 (d := .exprs e.kids) (by kernel_rfl)
    refine wp_seq ?_
    refine rs0s G [(2, .ptr 4 0), (4, iA 0), (5, iA (labP p.vars p.arrays d 0 e.kids k)), (27, .ref 3), (28, iA (↑e.kids.length : Int)), (29, iA (↑k : Int)), (30, bA (decide ((↑k : Int) < (↑e.kids.length : Int))))] ?_
    clear G; intro ρ a w G
    refine th_n ?_
    refine wp_seq ?_
    cases h2 : (decide ((↑k : Int) < (↑e.kids.length : Int)))
    ·
     have q2 : ¬ ((↑k : Int) < (↑e.kids.length : Int)) := of_decide_eq_false h2
     refine rF G (decide ((↑k : Int) < (↑e.kids.length : Int))) (by assumption) ?_
     refine wp_exit ?_
     refine th_e ?_
     refine th_e ?_
     refine bl_hit ?_
     refine th_n ?_
     refine wp_seq ?_
     refine rs0 G [0, 1, 2, 3] [dI p.vars, dI p.arrays, dT p.body, dE e.kids] [(4, iA (labP p.vars p.arrays d 0 e.kids k))] ?_
     clear G; intro ρ a w G
     refine th_n ?_
     refine wp_ret ?_
     exact rx_ret (v := iA (labP p.vars p.arrays d 0 e.kids k)) G [0, 1, 2, 3] (by kernel_rfl) (by kernel_rfl) (by kernel_rfl) (by have e1 : (labE p.vars p.arrays (d + 1) e : Int) = (labP p.vars p.arrays d 0 e.kids k) := (by exact labP_end (by omega) (by simp [ownL, h0, q0, h1, q1, h2, q2]; done)); first | (rw [e1]; done) | (rw [e1]; rfl) | (simp only [e1]; done) | (simp only [e1]; rfl))
    ·
     have q2 : (↑k : Int) < (↑e.kids.length : Int) := of_decide_eq_true h2
     refine rT G (decide ((↑k : Int) < (↑e.kids.length : Int))) (by assumption) ?_
     refine wp_skip ?_
     refine th_n ?_
     refine wp_seq ?_
     refine wp_block ?_
     refine wp_seq ?_
     refine rs1 (dk := dkP) G ⟨[], [], []⟩ calls_nil trivial [0, 1, 2, 3, 4, 13, 21] [dI p.vars, dI p.arrays, dT p.body, dE e.kids, .box (pL 0), dE (e.kids.getD k default).kids, .box (eL (e.kids.getD k default) 5)] [(2, .ptr 4 0), (4, iA 0), (5, iA (labP p.vars p.arrays d 0 e.kids k)), (7, .ptr 6 0), (27, .ref 3), (28, iA (↑e.kids.length : Int)), (29, iA (↑k : Int))] [(0 : Int) ≤ (↑k : Int), (↑k : Int) < (↑e.kids.length : Int), k < e.kids.length] ⟨(by simp [he, h0, h1, h2]), (by assumption), (by omega), trivial⟩ ?_
     clear G; intro ρ a w G
     refine th_n ?_
     refine rs1 (dk := dkP) G ⟨[(3, _, [0, 1, 2, 5])], [], []⟩ (calls_cons (ih (e.kids.getD k default) (by exact sh_kid he (by omega))) calls_nil) trivial [0, 1, 2, 3, 4] [dI p.vars, dI p.arrays, dT p.body, dE e.kids, .box (pL 0)] [(2, .ptr 4 0), (4, iA 0), (5, iA (orI (labP p.vars p.arrays d 0 e.kids k) (labE p.vars p.arrays d (e.kids.getD k default)))), (27, .ref 3), (28, iA (↑e.kids.length : Int)), (29, iA (↑k : Int))] [] trivial ?_
     clear G; intro ρ a w G
     refine bl_n ?_
     refine th_n ?_
     refine rs1s G ⟨[], [], []⟩ calls_nil trivial [(2, .ptr 4 0), (4, iA 0), (5, iA (orI (labP p.vars p.arrays d 0 e.kids k) (labE p.vars p.arrays d (e.kids.getD k default)))), (27, .ref 3), (28, iA (↑e.kids.length : Int)), (29, iA ((↑k : Int) + 1))] [IntKind.i64.wrap ((↑k : Int) + (1 : Int)) = (↑k : Int) + (1 : Int)] ⟨(by exact w64 (by omega) (by omega)), trivial⟩ ?_
     clear G; intro ρ a w G
     refine th_n ?_
     exact rx_next G (k + 1) (by omega) (by omega) [0, 1, 2, 3, 4] [dI p.vars, dI p.arrays, dT p.body, dE e.kids, .box (pL 0)] [(2, .ptr 4 0), (4, iA 0), (5, iA (labP p.vars p.arrays d 0 e.kids (k + 1))), (27, .ref 3), (28, iA (↑e.kids.length : Int)), (29, iA (↑(k + 1) : Int))] (by kernel_rfl) (by kernel_rfl) (by kernel_rfl) (by kernel_rfl) (by have e1 : (labP p.vars p.arrays d 0 e.kids (k + 1) : Int) = (orI (labP p.vars p.arrays d 0 e.kids k) (labE p.vars p.arrays d (e.kids.getD k default))) := (by exact labP_succ (by omega)); first | (rw [e1]; done) | (rw [e1]; rfl) | (simp only [e1]; done) | (simp only [e1]; rfl))
   ·
    have q1 : e.kind = 3 := eq_of_beq h1
    refine rT G (e.kind == (3 : Int)) (by assumption) ?_
    refine rs1s G ⟨[], [], []⟩ calls_nil trivial [(2, .ptr 4 0), (3, .ptr 5 0), (4, iA 0), (5, iA (p.arrays.getD e.value.toNat 0))] [(0 : Int) ≤ e.value, e.value < (↑p.arrays.length : Int), e.value.toNat < p.arrays.length] ⟨(by exact (sh_arr he (by assumption)).1), (by exact (sh_arr he (by assumption)).2.1), (by exact (sh_arr he (by assumption)).2.2), trivial⟩ ?_
    clear G; intro ρ a w G
    refine bl_n ?_
    refine th_n ?_
    refine wp_seq ?_
    refine wp_seq ?_
    refine rs0 G [0, 1, 2, 3, 4] [dI p.vars, dI p.arrays, dT p.body, dE e.kids, .box (pL 0)] [(2, .ptr 4 0), (4, iA 0), (5, iA (p.arrays.getD e.value.toNat 0)), (27, .ref 3), (28, iA (↑e.kids.length : Int)), (29, iA 0)] ?_
    clear G; intro ρ a w G
    refine th_n ?_
    refine wp_block ?_
    refine rx_for (κ := Nat) (fun k => k ≤ e.kids.length) (fun k => e.kids.length - k) (fun k => [dI p.vars, dI p.arrays, dT p.body, dE e.kids, .box (pL 0)]) (fun k => [(2, .ptr 4 0), (4, iA 0), (5, iA (labP p.vars p.arrays d (p.arrays.getD e.value.toNat 0) e.kids k)), (27, .ref 3), (28, iA (↑e.kids.length : Int)), (29, iA k)]) (0) (by simp [he, h0, h1]) (Gam.at G _ _) ?_
    clear G
    intro k ρ a w hp G
    replace G := Gam.at G [dI p.vars, dI p.arrays, dT p.body, dE e.kids, .box (pL 0)] [(2, .ptr 4 0), (4, iA 0), (5, iA (labP p.vars p.arrays d (p.arrays.getD e.value.toNat 0) e.kids k)), (27, .ref 3), (28, iA (↑e.kids.length : Int)), (29, iA (↑k : Int))]
    have hlen : e.kids.length ≤ 9223372036854775807 := G.len 3 (d := .exprs e.kids) (by kernel_rfl)
    refine wp_seq ?_
    refine rs0s G [(2, .ptr 4 0), (4, iA 0), (5, iA (labP p.vars p.arrays d (p.arrays.getD e.value.toNat 0) e.kids k)), (27, .ref 3), (28, iA (↑e.kids.length : Int)), (29, iA (↑k : Int)), (30, bA (decide ((↑k : Int) < (↑e.kids.length : Int))))] ?_
    clear G; intro ρ a w G
    refine th_n ?_
    refine wp_seq ?_
    cases h3 : (decide ((↑k : Int) < (↑e.kids.length : Int)))
    ·
     have q3 : ¬ ((↑k : Int) < (↑e.kids.length : Int)) := of_decide_eq_false h3
     refine rF G (decide ((↑k : Int) < (↑e.kids.length : Int))) (by assumption) ?_
     refine wp_exit ?_
     refine th_e ?_
     refine th_e ?_
     refine bl_hit ?_
     refine th_n ?_
     refine wp_seq ?_
     refine rs0 G [0, 1, 2, 3] [dI p.vars, dI p.arrays, dT p.body, dE e.kids] [(4, iA (labP p.vars p.arrays d (p.arrays.getD e.value.toNat 0) e.kids k))] ?_
     clear G; intro ρ a w G
     refine th_n ?_
     refine wp_ret ?_
     exact rx_ret (v := iA (labP p.vars p.arrays d (p.arrays.getD e.value.toNat 0) e.kids k)) G [0, 1, 2, 3] (by kernel_rfl) (by kernel_rfl) (by kernel_rfl) (by have e1 : (labE p.vars p.arrays (d + 1) e : Int) = (labP p.vars p.arrays d (p.arrays.getD e.value.toNat 0) e.kids k) := (by exact labP_end (by omega) (by simp [ownL, h0, q0, h1, q1, h3, q3]; done)); first | (rw [e1]; done) | (rw [e1]; rfl) | (simp only [e1]; done) | (simp only [e1]; rfl))
    ·
     have q3 : (↑k : Int) < (↑e.kids.length : Int) := of_decide_eq_true h3
     refine rT G (decide ((↑k : Int) < (↑e.kids.length : Int))) (by assumption) ?_
     refine wp_skip ?_
     refine th_n ?_
     refine wp_seq ?_
     refine wp_block ?_
     refine wp_seq ?_
     refine rs1 (dk := dkP) G ⟨[], [], []⟩ calls_nil trivial [0, 1, 2, 3, 4, 13, 21] [dI p.vars, dI p.arrays, dT p.body, dE e.kids, .box (pL 0), dE (e.kids.getD k default).kids, .box (eL (e.kids.getD k default) 5)] [(2, .ptr 4 0), (4, iA 0), (5, iA (labP p.vars p.arrays d (p.arrays.getD e.value.toNat 0) e.kids k)), (7, .ptr 6 0), (27, .ref 3), (28, iA (↑e.kids.length : Int)), (29, iA (↑k : Int))] [(0 : Int) ≤ (↑k : Int), (↑k : Int) < (↑e.kids.length : Int), k < e.kids.length] ⟨(by simp [he, h0, h1, h3]), (by assumption), (by omega), trivial⟩ ?_
     clear G; intro ρ a w G
     refine th_n ?_
     refine rs1 (dk := dkP) G ⟨[(3, _, [0, 1, 2, 5])], [], []⟩ (calls_cons (ih (e.kids.getD k default) (by exact sh_kid he (by omega))) calls_nil) trivial [0, 1, 2, 3, 4] [dI p.vars, dI p.arrays, dT p.body, dE e.kids, .box (pL 0)] [(2, .ptr 4 0), (4, iA 0), (5, iA (orI (labP p.vars p.arrays d (p.arrays.getD e.value.toNat 0) e.kids k) (labE p.vars p.arrays d (e.kids.getD k default)))), (27, .ref 3), (28, iA (↑e.kids.length : Int)), (29, iA (↑k : Int))] [] trivial ?_
     clear G; intro ρ a w G
     refine bl_n ?_
     refine th_n ?_
     refine rs1s G ⟨[], [], []⟩ calls_nil trivial [(2, .ptr 4 0), (4, iA 0), (5, iA (orI (labP p.vars p.arrays d (p.arrays.getD e.value.toNat 0) e.kids k) (labE p.vars p.arrays d (e.kids.getD k default)))), (27, .ref 3), (28, iA (↑e.kids.length : Int)), (29, iA ((↑k : Int) + 1))] [IntKind.i64.wrap ((↑k : Int) + (1 : Int)) = (↑k : Int) + (1 : Int)] ⟨(by exact w64 (by omega) (by omega)), trivial⟩ ?_
     clear G; intro ρ a w G
     refine th_n ?_
     exact rx_next G (k + 1) (by omega) (by omega) [0, 1, 2, 3, 4] [dI p.vars, dI p.arrays, dT p.body, dE e.kids, .box (pL 0)] [(2, .ptr 4 0), (4, iA 0), (5, iA (labP p.vars p.arrays d (p.arrays.getD e.value.toNat 0) e.kids (k + 1))), (27, .ref 3), (28, iA (↑e.kids.length : Int)), (29, iA (↑(k + 1) : Int))] (by kernel_rfl) (by kernel_rfl) (by kernel_rfl) (by kernel_rfl) (by have e1 : (labP p.vars p.arrays d (p.arrays.getD e.value.toNat 0) e.kids (k + 1) : Int) = (orI (labP p.vars p.arrays d (p.arrays.getD e.value.toNat 0) e.kids k) (labE p.vars p.arrays d (e.kids.getD k default))) := (by exact labP_succ (by omega)); first | (rw [e1]; done) | (rw [e1]; rfl) | (simp only [e1]; done) | (simp only [e1]; rfl))
  ·
   have q0 : e.kind = 2 := eq_of_beq h0
   refine rT G (e.kind == (2 : Int)) (by assumption) ?_
   refine rs1s G ⟨[], [], []⟩ calls_nil trivial [(2, .ptr 4 0), (3, .ptr 5 0), (4, iA 0), (5, iA (p.vars.getD e.value.toNat 0))] [(0 : Int) ≤ e.value, e.value < (↑p.vars.length : Int), e.value.toNat < p.vars.length] ⟨(by exact (sh_var he (by assumption)).1), (by exact (sh_var he (by assumption)).2.1), (by exact (sh_var he (by assumption)).2.2), trivial⟩ ?_
   clear G; intro ρ a w G
   refine bl_n ?_
   refine th_n ?_
   refine wp_seq ?_
   refine wp_seq ?_
   refine rs0 G [0, 1, 2, 3, 4] [dI p.vars, dI p.arrays, dT p.body, dE e.kids, .box (pL 0)] [(2, .ptr 4 0), (4, iA 0), (5, iA (p.vars.getD e.value.toNat 0)), (27, .ref 3), (28, iA (↑e.kids.length : Int)), (29, iA 0)] ?_
   clear G; intro ρ a w G
   refine th_n ?_
   refine wp_block ?_
   refine rx_for (κ := Nat) (fun k => k ≤ e.kids.length) (fun k => e.kids.length - k) (fun k => [dI p.vars, dI p.arrays, dT p.body, dE e.kids, .box (pL 0)]) (fun k => [(2, .ptr 4 0), (4, iA 0), (5, iA (labP p.vars p.arrays d (p.vars.getD e.value.toNat 0) e.kids k)), (27, .ref 3), (28, iA (↑e.kids.length : Int)), (29, iA k)]) (0) (by simp [he, h0]) (Gam.at G _ _) ?_
   clear G
   intro k ρ a w hp G
   replace G := Gam.at G [dI p.vars, dI p.arrays, dT p.body, dE e.kids, .box (pL 0)] [(2, .ptr 4 0), (4, iA 0), (5, iA (labP p.vars p.arrays d (p.vars.getD e.value.toNat 0) e.kids k)), (27, .ref 3), (28, iA (↑e.kids.length : Int)), (29, iA (↑k : Int))]
   have hlen : e.kids.length ≤ 9223372036854775807 := G.len 3 (d := .exprs e.kids) (by kernel_rfl)
   refine wp_seq ?_
   refine rs0s G [(2, .ptr 4 0), (4, iA 0), (5, iA (labP p.vars p.arrays d (p.vars.getD e.value.toNat 0) e.kids k)), (27, .ref 3), (28, iA (↑e.kids.length : Int)), (29, iA (↑k : Int)), (30, bA (decide ((↑k : Int) < (↑e.kids.length : Int))))] ?_
   clear G; intro ρ a w G
   refine th_n ?_
   refine wp_seq ?_
   cases h4 : (decide ((↑k : Int) < (↑e.kids.length : Int)))
   ·
    have q4 : ¬ ((↑k : Int) < (↑e.kids.length : Int)) := of_decide_eq_false h4
    refine rF G (decide ((↑k : Int) < (↑e.kids.length : Int))) (by assumption) ?_
    refine wp_exit ?_
    refine th_e ?_
    refine th_e ?_
    refine bl_hit ?_
    refine th_n ?_
    refine wp_seq ?_
    refine rs0 G [0, 1, 2, 3] [dI p.vars, dI p.arrays, dT p.body, dE e.kids] [(4, iA (labP p.vars p.arrays d (p.vars.getD e.value.toNat 0) e.kids k))] ?_
    clear G; intro ρ a w G
    refine th_n ?_
    refine wp_ret ?_
    exact rx_ret (v := iA (labP p.vars p.arrays d (p.vars.getD e.value.toNat 0) e.kids k)) G [0, 1, 2, 3] (by kernel_rfl) (by kernel_rfl) (by kernel_rfl) (by have e1 : (labE p.vars p.arrays (d + 1) e : Int) = (labP p.vars p.arrays d (p.vars.getD e.value.toNat 0) e.kids k) := (by exact labP_end (by omega) (by simp [ownL, h0, q0, h4, q4]; done)); first | (rw [e1]; done) | (rw [e1]; rfl) | (simp only [e1]; done) | (simp only [e1]; rfl))
   ·
    have q4 : (↑k : Int) < (↑e.kids.length : Int) := of_decide_eq_true h4
    refine rT G (decide ((↑k : Int) < (↑e.kids.length : Int))) (by assumption) ?_
    refine wp_skip ?_
    refine th_n ?_
    refine wp_seq ?_
    refine wp_block ?_
    refine wp_seq ?_
    refine rs1 (dk := dkP) G ⟨[], [], []⟩ calls_nil trivial [0, 1, 2, 3, 4, 13, 21] [dI p.vars, dI p.arrays, dT p.body, dE e.kids, .box (pL 0), dE (e.kids.getD k default).kids, .box (eL (e.kids.getD k default) 5)] [(2, .ptr 4 0), (4, iA 0), (5, iA (labP p.vars p.arrays d (p.vars.getD e.value.toNat 0) e.kids k)), (7, .ptr 6 0), (27, .ref 3), (28, iA (↑e.kids.length : Int)), (29, iA (↑k : Int))] [(0 : Int) ≤ (↑k : Int), (↑k : Int) < (↑e.kids.length : Int), k < e.kids.length] ⟨(by simp [he, h0, h4]), (by assumption), (by omega), trivial⟩ ?_
    clear G; intro ρ a w G
    refine th_n ?_
    refine rs1 (dk := dkP) G ⟨[(3, _, [0, 1, 2, 5])], [], []⟩ (calls_cons (ih (e.kids.getD k default) (by exact sh_kid he (by omega))) calls_nil) trivial [0, 1, 2, 3, 4] [dI p.vars, dI p.arrays, dT p.body, dE e.kids, .box (pL 0)] [(2, .ptr 4 0), (4, iA 0), (5, iA (orI (labP p.vars p.arrays d (p.vars.getD e.value.toNat 0) e.kids k) (labE p.vars p.arrays d (e.kids.getD k default)))), (27, .ref 3), (28, iA (↑e.kids.length : Int)), (29, iA (↑k : Int))] [] trivial ?_
    clear G; intro ρ a w G
    refine bl_n ?_
    refine th_n ?_
    refine rs1s G ⟨[], [], []⟩ calls_nil trivial [(2, .ptr 4 0), (4, iA 0), (5, iA (orI (labP p.vars p.arrays d (p.vars.getD e.value.toNat 0) e.kids k) (labE p.vars p.arrays d (e.kids.getD k default)))), (27, .ref 3), (28, iA (↑e.kids.length : Int)), (29, iA ((↑k : Int) + 1))] [IntKind.i64.wrap ((↑k : Int) + (1 : Int)) = (↑k : Int) + (1 : Int)] ⟨(by exact w64 (by omega) (by omega)), trivial⟩ ?_
    clear G; intro ρ a w G
    refine th_n ?_
    exact rx_next G (k + 1) (by omega) (by omega) [0, 1, 2, 3, 4] [dI p.vars, dI p.arrays, dT p.body, dE e.kids, .box (pL 0)] [(2, .ptr 4 0), (4, iA 0), (5, iA (labP p.vars p.arrays d (p.vars.getD e.value.toNat 0) e.kids (k + 1))), (27, .ref 3), (28, iA (↑e.kids.length : Int)), (29, iA (↑(k + 1) : Int))] (by kernel_rfl) (by kernel_rfl) (by kernel_rfl) (by kernel_rfl) (by have e1 : (labP p.vars p.arrays d (p.vars.getD e.value.toNat 0) e.kids (k + 1) : Int) = (orI (labP p.vars p.arrays d (p.vars.getD e.value.toNat 0) e.kids k) (labE p.vars p.arrays d (e.kids.getD k default))) := (by exact labP_succ (by omega)); first | (rw [e1]; done) | (rw [e1]; rfl) | (simp only [e1]; done) | (simp only [e1]; rfl))

end Go.Proofs.Ytgpkdfefgcpbiaa
