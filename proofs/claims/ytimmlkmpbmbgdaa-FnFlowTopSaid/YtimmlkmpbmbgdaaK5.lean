/-
  Texts of this claim, part 5: what the functions on the way do, and plain laws. Conditions: as each statement says.
-/
import Derived.Test.YtimmlkmpbmbgdaaK4

namespace Go.Proofs.Ytimmlkmpbmbgdaa
set_option linter.unusedVariables false
set_option linter.unusedSimpArgs false
open Go Go.RowKit

abbrev fcB (f : Nat) (c n a : Int) : List It := [.box [iA c], .box [.bm f [pA 0]], .box [iA n], .box [iA a]]
abbrev FLOW : Nat := 77
abbrev RFl (p : LProg) : LStmt × Int → Int := fun x => iflR p x.1 x.2
section
variable {R : LStmt × Int → Int} {c a : Int} {n : Nat} {x : LStmt × Int}
theorem st_a (h : ¬ c = 0) : (stepF R (c, a, n) x).1 = c := by unfold stepF; rw [if_neg h]
theorem st_b (h : ¬ c = 0) : (stepF R (c, a, n) x).2.1 = a := by unfold stepF; rw [if_neg h]
theorem st_n : (stepF R (c, a, n) x).2.2 = n + 1 := by unfold stepF; split <;> rfl
theorem st_c (h : c = 0) : (stepF R (c, a, n) x).1 = R x := by unfold stepF; rw [if_pos h]
theorem st_d (h : c = 0) (hr : R x = 0) : (stepF R (c, a, n) x).2.1 = a := by unfold stepF; rw [if_pos h, if_pos hr]
theorem st_e (h : c = 0) (hr : ¬ R x = 0) : (stepF R (c, a, n) x).2.1 = n := by unfold stepF; rw [if_pos h, if_neg hr]
end

abbrev yRvN0 (p : LProg) (s : LStmt) (cx : Int) (c : Int) (b : Int) (n : Nat) : List It := [dI p.vars, dI p.arrays, dT p.body, .box [iA (stepF (RFl p) (c, b, n) (s, cx)).fst], .box [.bm FLOW [pA 0]], .box [iA (↑(stepF (RFl p) (c, b, n) (s, cx)).snd.snd : Int)], .box [iA (stepF (RFl p) (c, b, n) (s, cx)).snd.fst], dE s.index.kids, dE s.value.kids, dT s.body, dT s.els]
set_option maxRecDepth 100000 in
theorem c_closF (p : LProg) (s : LStmt) (cx : Int) (c b : Int) (n : Nat) (hn : n + 1 ≤ 4000000) (h : headB p.vars.length p.arrays.length s = true) :
    Ctr.ok Try.prog ⟨114, [sA s 7, iA cx, .ptr 3 0, .ptr 4 0, .ptr 5 0, .ptr 6 0], pS p ++ fcB FLOW c n b ++ sS s,
      pS p ++ fcB FLOW (stepF (RFl p) (c, b, n) (s, cx)).1 (stepF (RFl p) (c, b, n) (s, cx)).2.2 (stepF (RFl p) (c, b, n) (s, cx)).2.1 ++ sS s, .tup []⟩ := by
  refine rx_enter 19 Try.func114 (by rfl) (by kernel_rfl) (by kernel_rfl) ?_; intro ι φ ψ w0 w F ρ0 ρ a G; replace G := Gam.at G [dI p.vars, dI p.arrays, dT p.body, .box [iA c], .box [.bm 77 [pA 0]], .box [iA (↑n : Int)], .box [iA b], dE s.index.kids, dE s.value.kids, dT s.body, dT s.els] [(0, sA s 7), (1, iA cx), (2, .ptr 3 0), (3, .ptr 4 0), (4, .ptr 5 0), (5, .ptr 6 0)]; refine wp_seq ?_; refine rs0 G (rg 12) [dI p.vars, dI p.arrays, dT p.body, .box [iA c], .box [.bm 77 [pA 0]], .box [iA (↑n : Int)], .box [iA b], dE s.index.kids, dE s.value.kids, dT s.body, dT s.els, .box (sL s 7)] [(1, iA cx), (2, .ptr 3 0), (3, .ptr 4 0), (4, .ptr 5 0), (5, .ptr 6 0), (6, .ptr 11 0)] fun ρ a w G => th_n (wp_seq (wp_seq ?_)); refine rs0s G [(1, iA cx), (2, .ptr 3 0), (3, .ptr 4 0), (4, .ptr 5 0), (5, .ptr 6 0), (6, .ptr 11 0), (9, bA (c == 0))] fun ρ a w G => th_n ?_; cases h0 : (c == (0 : Int))
  · have q0 : ¬ (c = 0) := ne_of_beq_false h0; refine rF G (c == (0 : Int)) (by assumption) ?_; refine wp_skip (th_n ?_); refine rs1 (dk := dkP) G ⟨[], [], []⟩ calls_nil trivial (rg 11) [dI p.vars, dI p.arrays, dT p.body, .box [iA c], .box [.bm 77 [pA 0]], .box [iA ((↑n : Int) + 1)], .box [iA b], dE s.index.kids, dE s.value.kids, dT s.body, dT s.els] [] [IntKind.i64.wrap ((↑n : Int) + (1 : Int)) = (↑n : Int) + (1 : Int)] ⟨(by exact w64 (by omega) (by omega)), trivial⟩ ?_; intro ρ a w G; exact rx_retN (v := .tup []) G (rg 11) (by kernel_rfl) (by kernel_rfl) (by show _ = List.map (It.ren (nth (rg 11))) (yRvN0 p s cx c b n); unfold yRvN0; have e1 : ((stepF (RFl p) (c, b, n) (s, cx)).fst : Int) = (c) := (by exact st_a (by assumption)); have e2 : ((↑(stepF (RFl p) (c, b, n) (s, cx)).snd.snd : Int) : Int) = ((↑n : Int) + 1) := (by exact congrArg Int.ofNat st_n); have e3 : ((stepF (RFl p) (c, b, n) (s, cx)).snd.fst : Int) = (b) := (by exact st_b (by assumption)); (first | rw [e1, e2, e3] | simp only [e1, e2, e3]) <;> rfl) (by kernel_rfl)
  ·
   have q0 : c = 0 := eq_of_beq h0; refine rT G (c == (0 : Int)) (by assumption) ?_; refine wp_seq ?_; refine rs1 (dk := dkP) G ⟨[(3, _, [0, 1, 2, 7, 8, 9, 10])], [], []⟩ (calls_cons (c_flow (p) (s) (cx) (by assumption)) calls_nil) trivial (rg 11) [dI p.vars, dI p.arrays, dT p.body, .box [iA (iflR p s cx)], .box [.bm 77 [pA 0]], .box [iA (↑n : Int)], .box [iA b], dE s.index.kids, dE s.value.kids, dT s.body, dT s.els] [(2, .ptr 3 0), (4, .ptr 5 0), (5, .ptr 6 0)] [] trivial fun ρ a w G => th_n (wp_seq ?_); refine rs0s G [(4, .ptr 5 0), (5, .ptr 6 0), (15, bA (iflR p s cx != 0))] fun ρ a w G => th_n ?_; cases h1 : (iflR p s cx != (0 : Int))
   · have q1 : iflR p s cx = 0 := (by simpa using h1); refine rF G (iflR p s cx != (0 : Int)) (by assumption) ?_; refine wp_skip (th_n ?_); refine rs1 (dk := dkP) G ⟨[], [], []⟩ calls_nil trivial (rg 11) [dI p.vars, dI p.arrays, dT p.body, .box [iA (iflR p s cx)], .box [.bm 77 [pA 0]], .box [iA ((↑n : Int) + 1)], .box [iA b], dE s.index.kids, dE s.value.kids, dT s.body, dT s.els] [] [IntKind.i64.wrap ((↑n : Int) + (1 : Int)) = (↑n : Int) + (1 : Int)] ⟨(by exact w64 (by omega) (by omega)), trivial⟩ ?_; intro ρ a w G; exact rx_retN (v := .tup []) G (rg 11) (by kernel_rfl) (by kernel_rfl) (by show _ = List.map (It.ren (nth (rg 11))) (yRvN0 p s cx c b n); unfold yRvN0; have e1 : ((stepF (RFl p) (c, b, n) (s, cx)).fst : Int) = (iflR p s cx) := (by exact st_c (by assumption)); have e2 : ((↑(stepF (RFl p) (c, b, n) (s, cx)).snd.snd : Int) : Int) = ((↑n : Int) + 1) := (by exact congrArg Int.ofNat st_n); have e3 : ((stepF (RFl p) (c, b, n) (s, cx)).snd.fst : Int) = (b) := (by exact st_d (by assumption) (by assumption)); (first | rw [e1, e2, e3] | simp only [e1, e2, e3]) <;> rfl) (by kernel_rfl)
   · have q1 : ¬ (iflR p s cx = 0) := bne_iff_ne.1 h1; refine rT G (iflR p s cx != (0 : Int)) (by assumption) ?_; refine rs0 G (rg 11) [dI p.vars, dI p.arrays, dT p.body, .box [iA (iflR p s cx)], .box [.bm 77 [pA 0]], .box [iA (↑n : Int)], .box [iA (↑n : Int)], dE s.index.kids, dE s.value.kids, dT s.body, dT s.els] [(4, .ptr 5 0)] fun ρ a w G => th_n ?_; refine rs1 (dk := dkP) G ⟨[], [], []⟩ calls_nil trivial (rg 11) [dI p.vars, dI p.arrays, dT p.body, .box [iA (iflR p s cx)], .box [.bm 77 [pA 0]], .box [iA ((↑n : Int) + 1)], .box [iA (↑n : Int)], dE s.index.kids, dE s.value.kids, dT s.body, dT s.els] [] [IntKind.i64.wrap ((↑n : Int) + (1 : Int)) = (↑n : Int) + (1 : Int)] ⟨(by exact w64 (by omega) (by omega)), trivial⟩ ?_; intro ρ a w G; exact rx_retN (v := .tup []) G (rg 11) (by kernel_rfl) (by kernel_rfl) (by show _ = List.map (It.ren (nth (rg 11))) (yRvN0 p s cx c b n); unfold yRvN0; have e1 : ((stepF (RFl p) (c, b, n) (s, cx)).fst : Int) = (iflR p s cx) := (by exact st_c (by assumption)); have e2 : ((↑(stepF (RFl p) (c, b, n) (s, cx)).snd.snd : Int) : Int) = ((↑n : Int) + 1) := (by exact congrArg Int.ofNat st_n); have e3 : ((stepF (RFl p) (c, b, n) (s, cx)).snd.fst : Int) = ((↑n : Int)) := (by exact st_e (by assumption) (by assumption)); (first | rw [e1, e2, e3] | simp only [e1, e2, e3]) <;> rfl) (by kernel_rfl)

def fdF (R : LStmt × Int → Int) (p : LProg) (d : Nat) (cx : Int) (ss : List LStmt) (c b : Int) (n k : Nat) : Int × Int × Nat := (evs p (d + 1) cx (ss.take k)).foldl (stepF R) (c, b, n)
section
variable {R : LStmt × Int → Int} {p : LProg} {d : Nat} {cx : Int} {ss : List LStmt} {c b : Int} {n k : Nat}
theorem fd_3 (hk : k < ss.length) (h : (ss.getD k default).kind = 3) : fdF R p d cx ss c b n (k + 1) = (evs p d (orI cx (labV p (ss.getD k default).value)) (ss.getD k default).els).foldl (stepF R) ((evs p d (orI cx (labV p (ss.getD k default).value)) (ss.getD k default).body).foldl (stepF R) (stepF R (fdF R p d cx ss c b n k) (ss.getD k default, cx))) := by
  unfold fdF; rw [stepF_run hk]; unfold innR; rw [if_pos h]
theorem fd_n (hk : k < ss.length) (h : ¬ (ss.getD k default).kind = 3) : fdF R p d cx ss c b n (k + 1) = (evs p d cx (ss.getD k default).els).foldl (stepF R) ((evs p d cx (ss.getD k default).body).foldl (stepF R) (stepF R (fdF R p d cx ss c b n k) (ss.getD k default, cx))) := by
  unfold fdF; rw [stepF_run hk]; unfold innR; rw [if_neg h]
theorem fd_end (hk : ss.length ≤ k) : (evs p (d + 1) cx ss).foldl (stepF R) (c, b, n) = fdF R p d cx ss c b n k := by unfold fdF; rw [List.take_of_length_le hk]
theorem fd_cnt : (fdF R p d cx ss c b n k).2.2 ≤ n + nSs (ss.take k) := by
  unfold fdF; rw [stepF_len]
  have := evs_len p (d + 1) cx (ss.take k)
  simp only; omega
theorem fd_cnt1 (hk : k < ss.length) (hn : n + nSs ss ≤ 4000000) : (fdF R p d cx ss c b n k).2.2 + 1 ≤ 4000000 := by
  have h1 := fd_cnt (R := R) (p := p) (d := d) (cx := cx) (ss := ss) (c := c) (b := b) (n := n) (k := k)
  have h2 := blk_n hk
  omega
theorem fd_cnt2 (hk : k < ss.length) (hn : n + nSs ss ≤ 4000000) : (stepF R ((fdF R p d cx ss c b n k).1, (fdF R p d cx ss c b n k).2.1, (fdF R p d cx ss c b n k).2.2) (ss.getD k default, cx)).2.2 + nSs (ss.getD k default).body ≤ 4000000 := by
  have h1 := fd_cnt (R := R) (p := p) (d := d) (cx := cx) (ss := ss) (c := c) (b := b) (n := n) (k := k)
  have h2 := blk_n hk
  rw [st_n]
  omega
theorem fd_cnt3 {cy : Int} (hk : k < ss.length) (hn : n + nSs ss ≤ 4000000) {σ : Int × Int × Nat} (hσ : σ.2.2 = (fdF R p d cx ss c b n k).2.2 + 1) : ((evs p d cy (ss.getD k default).body).foldl (stepF R) σ).2.2 + nSs (ss.getD k default).els ≤ 4000000 := by
  have h1 := fd_cnt (R := R) (p := p) (d := d) (cx := cx) (ss := ss) (c := c) (b := b) (n := n) (k := k)
  have h2 := blk_n hk
  rw [stepF_len, hσ]
  have h3 := evs_len p d cy (ss.getD k default).body
  omega
end

abbrev yRvN1 (p : LProg) (d : Nat) (ss : List LStmt) (cx : Int) (c : Int) (b : Int) (n : Nat) (k : Nat) := List.foldl (stepF (RFl p)) (stepF (RFl p) (fdF (RFl p) p d cx ss c b n k) (ss.getD k default, cx)) (evs p d (orI cx (labV p (ss.getD k default).value)) (ss.getD k default).body)
abbrev yRvN2 (p : LProg) (d : Nat) (ss : List LStmt) (cx : Int) (c : Int) (b : Int) (n : Nat) (k : Nat) := List.foldl (stepF (RFl p)) (stepF (RFl p) (fdF (RFl p) p d cx ss c b n k) (ss.getD k default, cx)) (evs p d cx (ss.getD k default).body)
abbrev yRvN3 (p : LProg) (d : Nat) (ss : List LStmt) (cx : Int) (c : Int) (b : Int) (n : Nat) (k : Nat) := List.foldl (stepF (RFl p)) (yRvN1 p d ss cx c b n k) (evs p d (orI cx (labV p (ss.getD k default).value)) (ss.getD k default).els)
abbrev yRvN4 (p : LProg) (d : Nat) (ss : List LStmt) (cx : Int) (c : Int) (b : Int) (n : Nat) (k : Nat) := stepF (RFl p) (fdF (RFl p) p d cx ss c b n k) (ss.getD k default, cx)
abbrev yRvN5 (p : LProg) (d : Nat) (ss : List LStmt) (cx : Int) (c : Int) (b : Int) (n : Nat) (k : Nat) := List.foldl (stepF (RFl p)) (yRvN2 p d ss cx c b n k) (evs p d cx (ss.getD k default).els)
abbrev yRvN6 : AV := .fn 114 [.ptr 3 0, .ptr 4 0, .ptr 5 0, .ptr 6 0]
set_option maxRecDepth 100000 in
theorem c_eachFS (p : LProg) (d : Nat) (ss : List LStmt) (ih : ∀ (tt : List LStmt) (cx : Int) (c b : Int) (n : Nat), 0 < ss.length → tt.all (stmtB p.vars.length p.arrays.length d) = true → n + nSs tt ≤ 4000000 → Ctr.ok Try.prog ⟨67, [pA 0, .ref 7, iA cx, .fn 114 [.ptr 3 0, .ptr 4 0, .ptr 5 0, .ptr 6 0]], pS p ++ fcB FLOW c n b ++ [.dat (.stmts tt)],
      pS p ++ fcB FLOW ((evs p d cx tt).foldl (stepF (RFl p)) (c, b, n)).1 ((evs p d cx tt).foldl (stepF (RFl p)) (c, b, n)).2.2 ((evs p d cx tt).foldl (stepF (RFl p)) (c, b, n)).2.1 ++ [.dat (.stmts tt)], .tup []⟩)
    (cx : Int) (c b : Int) (n : Nat) (hs : ss.all (stmtB p.vars.length p.arrays.length (d + 1)) = true) (hn : n + nSs ss ≤ 4000000) : Ctr.ok Try.prog ⟨67, [pA 0, .ref 7, iA cx, .fn 114 [.ptr 3 0, .ptr 4 0, .ptr 5 0, .ptr 6 0]], pS p ++ fcB FLOW c n b ++ [.dat (.stmts ss)],
      pS p ++ fcB FLOW ((evs p (d + 1) cx ss).foldl (stepF (RFl p)) (c, b, n)).1 ((evs p (d + 1) cx ss).foldl (stepF (RFl p)) (c, b, n)).2.2 ((evs p (d + 1) cx ss).foldl (stepF (RFl p)) (c, b, n)).2.1 ++ [.dat (.stmts ss)], .tup []⟩ := by
  refine rx_enter 44 Try.func67 (by rfl) (by kernel_rfl) (by kernel_rfl) ?_; intro ι φ ψ w0 w F ρ0 ρ a G; replace G := Gam.at G [dI p.vars, dI p.arrays, dT p.body, .box [iA c], .box [.bm 77 [pA 0]], .box [iA (↑n : Int)], .box [iA b], dT ss] [(0, pA 0), (1, .ref 7), (2, iA cx), (3, yRvN6)]; have hlen : ss.length ≤ 9223372036854775807 := G.len 7 (d := .stmts ss) (by kernel_rfl); refine wp_seq ?_; refine rs0 G (rg 9) [dI p.vars, dI p.arrays, dT p.body, .box [iA c], .box [.bm 77 [pA 0]], .box [iA (↑n : Int)], .box [iA b], dT ss, .box (pL 0)] [(1, .ref 7), (2, iA cx), (3, yRvN6), (4, .ptr 8 0)] fun ρ a w G => th_n (wp_seq ?_); refine rs0s G [(2, iA cx), (3, yRvN6), (4, .ptr 8 0), (11, .ref 7), (12, iA (↑ss.length : Int)), (13, iA 0)] fun ρ a w G => th_n (wp_block ?_); refine rx_for (κ := Nat) (fun k => k ≤ ss.length) (fun k => ss.length - k) (fun k => [dI p.vars, dI p.arrays, dT p.body, .box [iA (fdF (RFl p) p d cx ss c b n k).1], .box [.bm 77 [pA 0]], .box [iA (fdF (RFl p) p d cx ss c b n k).2.2], .box [iA (fdF (RFl p) p d cx ss c b n k).2.1], dT ss, .box (pL 0)]) (fun k => [(2, iA cx), (3, yRvN6), (4, .ptr 8 0), (11, .ref 7), (12, iA (↑ss.length : Int)), (13, iA k)]) (0) (by simp [hs]) (Gam.at G _ _) ?_; clear G; intro k ρ a w hp G; replace G := Gam.at G [dI p.vars, dI p.arrays, dT p.body, .box [iA (fdF (RFl p) p d cx ss c b n k).fst], .box [.bm 77 [pA 0]], .box [iA (↑(fdF (RFl p) p d cx ss c b n k).snd.snd : Int)], .box [iA (fdF (RFl p) p d cx ss c b n k).snd.fst], dT ss, .box (pL 0)] [(2, iA cx), (3, yRvN6), (4, .ptr 8 0), (11, .ref 7), (12, iA (↑ss.length : Int)), (13, iA (↑k : Int))]; refine wp_seq ?_; refine rs0s G [(2, iA cx), (3, yRvN6), (4, .ptr 8 0), (11, .ref 7), (12, iA (↑ss.length : Int)), (13, iA (↑k : Int)), (14, bA (decide ((↑k : Int) < (↑ss.length : Int))))] fun ρ a w G => th_n (wp_seq ?_); cases h0 : (decide ((↑k : Int) < (↑ss.length : Int)))
  · have q0 : ¬ ((↑k : Int) < (↑ss.length : Int)) := dFf h0; refine rF G (decide ((↑k : Int) < (↑ss.length : Int))) (by assumption) ?_; refine wp_exit (th_e (th_e (bl_hit ?_))); exact rx_retN (v := .tup []) G (rg 8) (by kernel_rfl) (by kernel_rfl) (by show _ = List.map (It.ren (nth (rg 8))) [dI p.vars, dI p.arrays, dT p.body, .box [iA (List.foldl (stepF (RFl p)) (c, b, n) (evs p (d + 1) cx ss)).fst], .box [.bm FLOW [pA 0]], .box [iA (↑(List.foldl (stepF (RFl p)) (c, b, n) (evs p (d + 1) cx ss)).snd.snd : Int)], .box [iA (List.foldl (stepF (RFl p)) (c, b, n) (evs p (d + 1) cx ss)).snd.fst], dT ss]; have e1 : ((List.foldl (stepF (RFl p)) (c, b, n) (evs p (d + 1) cx ss)).fst : Int) = ((fdF (RFl p) p d cx ss c b n k).fst) := (by exact congrArg Prod.fst (fd_end (by omega))); have e2 : ((↑(List.foldl (stepF (RFl p)) (c, b, n) (evs p (d + 1) cx ss)).snd.snd : Int) : Int) = ((↑(fdF (RFl p) p d cx ss c b n k).snd.snd : Int)) := (by exact congrArg (fun x : Int × Int × Nat => Int.ofNat x.2.2) (fd_end (by omega))); have e3 : ((List.foldl (stepF (RFl p)) (c, b, n) (evs p (d + 1) cx ss)).snd.fst : Int) = ((fdF (RFl p) p d cx ss c b n k).snd.fst) := (by exact congrArg (fun x : Int × Int × Nat => x.2.1) (fd_end (by omega))); (first | rw [e1, e2, e3] | simp only [e1, e2, e3]) <;> rfl) (by kernel_rfl)
  ·
   have q0 : (↑k : Int) < (↑ss.length : Int) := dTt h0; refine rT G (decide ((↑k : Int) < (↑ss.length : Int))) (by assumption) ?_; refine wp_skip (th_n (wp_seq (wp_block (wp_seq ?_)))); refine rs1 (dk := dkP) G ⟨[], [], []⟩ calls_nil trivial [0, 1, 2, 3, 4, 5, 6, 7, 8, 17, 18, 19, 20, 25] [dI p.vars, dI p.arrays, dT p.body, .box [iA (fdF (RFl p) p d cx ss c b n k).fst], .box [.bm 77 [pA 0]], .box [iA (↑(fdF (RFl p) p d cx ss c b n k).snd.snd : Int)], .box [iA (fdF (RFl p) p d cx ss c b n k).snd.fst], dT ss, .box (pL 0), dE (ss.getD k default).index.kids, dE (ss.getD k default).value.kids, dT (ss.getD k default).body, dT (ss.getD k default).els, .box (sL (ss.getD k default) 9)] [(2, iA cx), (3, yRvN6), (4, .ptr 8 0), (9, .ptr 13 0), (11, .ref 7), (12, iA (↑ss.length : Int)), (13, iA (↑k : Int))] [(0 : Int) ≤ (↑k : Int), (↑k : Int) < (↑ss.length : Int), k < ss.length] ⟨(by simp [hs, h0]), (by assumption), (by omega), trivial⟩ fun ρ a w G => th_n (wp_seq ?_); refine rs1 (dk := dkP) G ⟨[(3, _, [0, 1, 2, 3, 4, 5, 6, 9, 10, 11, 12])], [], []⟩ (calls_cons (c_closF (p) (ss.getD k default) (cx) ((fdF (RFl p) p d cx ss c b n k).fst) ((fdF (RFl p) p d cx ss c b n k).snd.fst) ((fdF (RFl p) p d cx ss c b n k).snd.snd) (by exact fd_cnt1 (by omega) hn) (by exact (bl_at hs (by omega)).1)) calls_nil) trivial (rg 14) [dI p.vars, dI p.arrays, dT p.body, .box [iA (yRvN4 p d ss cx c b n k).fst], .box [.bm 77 [pA 0]], .box [iA (↑(yRvN4 p d ss cx c b n k).snd.snd : Int)], .box [iA (yRvN4 p d ss cx c b n k).snd.fst], dT ss, .box (pL 0), dE (ss.getD k default).index.kids, dE (ss.getD k default).value.kids, dT (ss.getD k default).body, dT (ss.getD k default).els, .box (sL (ss.getD k default) 9)] [(2, iA cx), (3, yRvN6), (4, .ptr 8 0), (9, .ptr 13 0), (11, .ref 7), (12, iA (↑ss.length : Int)), (13, iA (↑k : Int))] [] trivial fun ρ a w G => th_n (wp_seq ?_); refine rs0s G [(2, iA cx), (3, yRvN6), (4, .ptr 8 0), (9, .ptr 13 0), (10, iA cx), (11, .ref 7), (12, iA (↑ss.length : Int)), (13, iA (↑k : Int))] fun ρ a w G => th_n (wp_seq (wp_seq ?_)); refine rs0s G [(2, iA cx), (3, yRvN6), (4, .ptr 8 0), (9, .ptr 13 0), (10, iA cx), (11, .ref 7), (12, iA (↑ss.length : Int)), (13, iA (↑k : Int)), (24, bA ((ss.getD k default).kind == 3))] fun ρ a w G => th_n ?_; cases h1 : ((ss.getD k default).kind == (3 : Int))
   · have q1 : ¬ ((ss.getD k default).kind = 3) := ne_of_beq_false h1; refine rF G ((ss.getD k default).kind == (3 : Int)) (by assumption) ?_; refine wp_skip (th_n (wp_seq ?_)); refine rs1 (dk := dkP) G ⟨[(5, _, [0, 1, 2, 3, 4, 5, 6, 11])], [], []⟩ (calls_cons (ih ((ss.getD k default).body) (cx) ((yRvN4 p d ss cx c b n k).fst) ((yRvN4 p d ss cx c b n k).snd.fst) ((yRvN4 p d ss cx c b n k).snd.snd) (by omega) (by exact (bl_at hs (by omega)).2.1) (by exact fd_cnt2 (by omega) hn)) calls_nil) trivial (rg 14) [dI p.vars, dI p.arrays, dT p.body, .box [iA (yRvN2 p d ss cx c b n k).fst], .box [.bm 77 [pA 0]], .box [iA (↑(yRvN2 p d ss cx c b n k).snd.snd : Int)], .box [iA (yRvN2 p d ss cx c b n k).snd.fst], dT ss, .box (pL 0), dE (ss.getD k default).index.kids, dE (ss.getD k default).value.kids, dT (ss.getD k default).body, dT (ss.getD k default).els, .box (sL (ss.getD k default) 9)] [(2, iA cx), (3, yRvN6), (4, .ptr 8 0), (9, .ptr 13 0), (10, iA cx), (11, .ref 7), (12, iA (↑ss.length : Int)), (13, iA (↑k : Int))] [] trivial fun ρ a w G => th_n ?_; refine rs1 (dk := dkP) G ⟨[(5, _, [0, 1, 2, 3, 4, 5, 6, 12])], [], []⟩ (calls_cons (ih ((ss.getD k default).els) (cx) ((yRvN2 p d ss cx c b n k).fst) ((yRvN2 p d ss cx c b n k).snd.fst) ((yRvN2 p d ss cx c b n k).snd.snd) (by omega) (by exact (bl_at hs (by omega)).2.2) (by exact fd_cnt3 (by omega) hn st_n)) calls_nil) trivial (rg 9) [dI p.vars, dI p.arrays, dT p.body, .box [iA (yRvN5 p d ss cx c b n k).fst], .box [.bm 77 [pA 0]], .box [iA (↑(yRvN5 p d ss cx c b n k).snd.snd : Int)], .box [iA (yRvN5 p d ss cx c b n k).snd.fst], dT ss, .box (pL 0)] [(2, iA cx), (3, yRvN6), (4, .ptr 8 0), (11, .ref 7), (12, iA (↑ss.length : Int)), (13, iA (↑k : Int))] [] trivial ?_; intro ρ a w G; refine bl_n ?_; refine th_n ?_; refine rs1s G ⟨[], [], []⟩ calls_nil trivial [(2, iA cx), (3, yRvN6), (4, .ptr 8 0), (11, .ref 7), (12, iA (↑ss.length : Int)), (13, iA ((↑k : Int) + 1))] [IntKind.i64.wrap ((↑k : Int) + (1 : Int)) = (↑k : Int) + (1 : Int)] ⟨(by exact w64 (by omega) (by omega)), trivial⟩ fun ρ a w G => th_n ?_; exact rx_next G (k + 1) (by omega) (by omega) (rg 9) [dI p.vars, dI p.arrays, dT p.body, .box [iA (fdF (RFl p) p d cx ss c b n (k + 1)).fst], .box [.bm 77 [pA 0]], .box [iA (↑(fdF (RFl p) p d cx ss c b n (k + 1)).snd.snd : Int)], .box [iA (fdF (RFl p) p d cx ss c b n (k + 1)).snd.fst], dT ss, .box (pL 0)] [(2, iA cx), (3, .fn 114 [.ptr 3 0, .ptr 4 0, .ptr 5 0, .ptr 6 0]), (4, .ptr 8 0), (11, .ref 7), (12, iA (↑ss.length : Int)), (13, iA (↑(k + 1) : Int))] (by kernel_rfl) (by kernel_rfl) (by kernel_rfl) (by have e1 : ((fdF (RFl p) p d cx ss c b n (k + 1)).fst : Int) = ((yRvN5 p d ss cx c b n k).fst) := (by exact congrArg Prod.fst (fd_n (by omega) (by assumption))); have e2 : ((↑(fdF (RFl p) p d cx ss c b n (k + 1)).snd.snd : Int) : Int) = ((↑(yRvN5 p d ss cx c b n k).snd.snd : Int)) := (by exact congrArg (fun x : Int × Int × Nat => Int.ofNat x.2.2) (fd_n (by omega) (by assumption))); have e3 : ((fdF (RFl p) p d cx ss c b n (k + 1)).snd.fst : Int) = ((yRvN5 p d ss cx c b n k).snd.fst) := (by exact congrArg (fun x : Int × Int × Nat => x.2.1) (fd_n (by omega) (by assumption))); (first | rw [e1, e2, e3] | simp only [e1, e2, e3]) <;> rfl) (by kernel_rfl)
   · have q1 : (ss.getD k default).kind = 3 := eq_of_beq h1; refine rT G ((ss.getD k default).kind == (3 : Int)) (by assumption) ?_; refine rs1s G ⟨[(4, _, [0, 1, 2, 10])], [], []⟩ (calls_cons (c_label (p) ((ss.getD k default).value) (by exact hd_value (bl_at hs (by omega)).1 (by omega))) calls_nil) trivial [(2, iA cx), (3, yRvN6), (4, .ptr 8 0), (9, .ptr 13 0), (10, iA (orI cx (labV p (ss.getD k default).value))), (11, .ref 7), (12, iA (↑ss.length : Int)), (13, iA (↑k : Int))] [] trivial fun ρ a w G => th_n (wp_seq ?_); refine rs1 (dk := dkP) G ⟨[(5, _, [0, 1, 2, 3, 4, 5, 6, 11])], [], []⟩ (calls_cons (ih ((ss.getD k default).body) (orI cx (labV p (ss.getD k default).value)) ((yRvN4 p d ss cx c b n k).fst) ((yRvN4 p d ss cx c b n k).snd.fst) ((yRvN4 p d ss cx c b n k).snd.snd) (by omega) (by exact (bl_at hs (by omega)).2.1) (by exact fd_cnt2 (by omega) hn)) calls_nil) trivial (rg 14) [dI p.vars, dI p.arrays, dT p.body, .box [iA (yRvN1 p d ss cx c b n k).fst], .box [.bm 77 [pA 0]], .box [iA (↑(yRvN1 p d ss cx c b n k).snd.snd : Int)], .box [iA (yRvN1 p d ss cx c b n k).snd.fst], dT ss, .box (pL 0), dE (ss.getD k default).index.kids, dE (ss.getD k default).value.kids, dT (ss.getD k default).body, dT (ss.getD k default).els, .box (sL (ss.getD k default) 9)] [(2, iA cx), (3, yRvN6), (4, .ptr 8 0), (9, .ptr 13 0), (10, iA (orI cx (labV p (ss.getD k default).value))), (11, .ref 7), (12, iA (↑ss.length : Int)), (13, iA (↑k : Int))] [] trivial fun ρ a w G => th_n ?_; refine rs1 (dk := dkP) G ⟨[(5, _, [0, 1, 2, 3, 4, 5, 6, 12])], [], []⟩ (calls_cons (ih ((ss.getD k default).els) (orI cx (labV p (ss.getD k default).value)) ((yRvN1 p d ss cx c b n k).fst) ((yRvN1 p d ss cx c b n k).snd.fst) ((yRvN1 p d ss cx c b n k).snd.snd) (by omega) (by exact (bl_at hs (by omega)).2.2) (by exact fd_cnt3 (by omega) hn st_n)) calls_nil) trivial (rg 9) [dI p.vars, dI p.arrays, dT p.body, .box [iA (yRvN3 p d ss cx c b n k).fst], .box [.bm 77 [pA 0]], .box [iA (↑(yRvN3 p d ss cx c b n k).snd.snd : Int)], .box [iA (yRvN3 p d ss cx c b n k).snd.fst], dT ss, .box (pL 0)] [(2, iA cx), (3, yRvN6), (4, .ptr 8 0), (11, .ref 7), (12, iA (↑ss.length : Int)), (13, iA (↑k : Int))] [] trivial ?_; intro ρ a w G; refine bl_n ?_; refine th_n ?_; refine rs1s G ⟨[], [], []⟩ calls_nil trivial [(2, iA cx), (3, yRvN6), (4, .ptr 8 0), (11, .ref 7), (12, iA (↑ss.length : Int)), (13, iA ((↑k : Int) + 1))] [IntKind.i64.wrap ((↑k : Int) + (1 : Int)) = (↑k : Int) + (1 : Int)] ⟨(by exact w64 (by omega) (by omega)), trivial⟩ fun ρ a w G => th_n ?_; exact rx_next G (k + 1) (by omega) (by omega) (rg 9) [dI p.vars, dI p.arrays, dT p.body, .box [iA (fdF (RFl p) p d cx ss c b n (k + 1)).fst], .box [.bm 77 [pA 0]], .box [iA (↑(fdF (RFl p) p d cx ss c b n (k + 1)).snd.snd : Int)], .box [iA (fdF (RFl p) p d cx ss c b n (k + 1)).snd.fst], dT ss, .box (pL 0)] [(2, iA cx), (3, .fn 114 [.ptr 3 0, .ptr 4 0, .ptr 5 0, .ptr 6 0]), (4, .ptr 8 0), (11, .ref 7), (12, iA (↑ss.length : Int)), (13, iA (↑(k + 1) : Int))] (by kernel_rfl) (by kernel_rfl) (by kernel_rfl) (by have e1 : ((fdF (RFl p) p d cx ss c b n (k + 1)).fst : Int) = ((yRvN3 p d ss cx c b n k).fst) := (by exact congrArg Prod.fst (fd_3 (by omega) (by assumption))); have e2 : ((↑(fdF (RFl p) p d cx ss c b n (k + 1)).snd.snd : Int) : Int) = ((↑(yRvN3 p d ss cx c b n k).snd.snd : Int)) := (by exact congrArg (fun x : Int × Int × Nat => Int.ofNat x.2.2) (fd_3 (by omega) (by assumption))); have e3 : ((fdF (RFl p) p d cx ss c b n (k + 1)).snd.fst : Int) = ((yRvN3 p d ss cx c b n k).snd.fst) := (by exact congrArg (fun x : Int × Int × Nat => x.2.1) (fd_3 (by omega) (by assumption))); (first | rw [e1, e2, e3] | simp only [e1, e2, e3]) <;> rfl) (by kernel_rfl)

theorem c_eachFD (p : LProg) : ∀ (d : Nat) (ss : List LStmt) (cx : Int) (c b : Int) (n : Nat), ss.all (stmtB p.vars.length p.arrays.length d) = true → n + nSs ss ≤ 4000000 → Ctr.ok Try.prog ⟨67, [pA 0, .ref 7, iA cx, .fn 114 [.ptr 3 0, .ptr 4 0, .ptr 5 0, .ptr 6 0]], pS p ++ fcB FLOW c n b ++ [.dat (.stmts ss)],
      pS p ++ fcB FLOW ((evs p d cx ss).foldl (stepF (RFl p)) (c, b, n)).1 ((evs p d cx ss).foldl (stepF (RFl p)) (c, b, n)).2.2 ((evs p d cx ss).foldl (stepF (RFl p)) (c, b, n)).2.1 ++ [.dat (.stmts ss)], .tup []⟩ := by
  intro d
  induction d with
  | zero =>
    intro ss cx c b n hs hn
    have h0 : ss = [] := by
      cases ss with
      | nil => rfl
      | cons a r => simp [stmtB] at hs
    subst h0
    exact c_eachFS p 0 [] (fun _ _ _ _ _ h => absurd h (by simp)) cx c b n rfl hn
  | succ d ih => intro ss cx c b n hs hn; exact c_eachFS p d ss (fun tt cx c b n _ h1 h2 => ih tt cx c b n h1 h2) cx c b n hs hn
theorem c_eachFP (p : LProg) (h : progB p = true) : Ctr.ok Try.prog ⟨67, [pA 0, .ref 2, iA 0, .fn 114 [.ptr 3 0, .ptr 4 0, .ptr 5 0, .ptr 6 0]], pS p ++ fcB FLOW 0 0 (-1),
      pS p ++ fcB FLOW ((evs p 5 0 p.body).foldl (stepF (RFl p)) (0, -1, 0)).1 ((evs p 5 0 p.body).foldl (stepF (RFl p)) (0, -1, 0)).2.2 ((evs p 5 0 p.body).foldl (stepF (RFl p)) (0, -1, 0)).2.1, .tup []⟩ :=
  Ctr.dup (S := pS p ++ fcB FLOW 0 0 (-1)) (S' := pS p ++ fcB FLOW ((evs p 5 0 p.body).foldl (stepF (RFl p)) (0, -1, 0)).1 ((evs p 5 0 p.body).foldl (stepF (RFl p)) (0, -1, 0)).2.2 ((evs p 5 0 p.body).foldl (stepF (RFl p)) (0, -1, 0)).2.1) (d := .stmts p.body) (i := 2) (c_eachFD p 5 p.body 0 0 (-1) 0 (progB_all h).1 (by have := (progB_all h).2; omega)) rfl rfl rfl (fun ρ h => by simp only [AV.vals, AV.val]; rw [show ρ 7 = ρ 2 from h]) rfl

set_option maxRecDepth 100000 in
theorem c_firstOfF (p : LProg) (h : progB p = true) : Ctr.ok Try.prog (fnC 76 [pA 0, .bm FLOW [pA 0]] (pS p) (.tup [iA ((evs p 5 0 p.body).foldl (stepF (RFl p)) (0, -1, 0)).1, iA ((evs p 5 0 p.body).foldl (stepF (RFl p)) (0, -1, 0)).2.1])) := by
  refine rx_enter 16 Try.func76 (by rfl) (by kernel_rfl) (by kernel_rfl) ?_; intro ι φ ψ w0 w F ρ0 ρ a G; replace G := Gam.at G [dI p.vars, dI p.arrays, dT p.body] [(0, pA 0), (1, .bm 77 [pA 0])]; refine wp_seq ?_; refine rs0 G [0, 1, 2, 3, 11] [dI p.vars, dI p.arrays, dT p.body, .box (pL 0), .box [.bm 77 [pA 0]]] [(0, pA 0), (2, .ptr 3 0), (3, .ptr 4 0), (4, iA 0), (5, iA 0)] fun ρ a w G => th_n (wp_seq ?_); refine rs0 G [0, 1, 2, 3, 4, 5, 13, 21] [dI p.vars, dI p.arrays, dT p.body, .box (pL 0), .box [.bm 77 [pA 0]], .box [iA 0], .box [iA (-1)], .box [iA 0]] [(0, pA 0), (2, .ptr 3 0), (3, .ptr 4 0), (4, iA 0), (5, iA 0), (6, .ptr 5 0), (7, .ptr 6 0), (8, .ptr 7 0)] fun ρ a w G => th_n (wp_seq ?_); refine rs1 (dk := dkP) G ⟨[(4, _, [0, 1, 2, 5, 4, 7, 6])], [], []⟩ (calls_cons (c_eachFP (p) (by assumption)) calls_nil) trivial [0, 1, 2, 5, 6] [dI p.vars, dI p.arrays, dT p.body, .box [iA (List.foldl (stepF (RFl p)) (0, -1, 0) (evs p 5 0 p.body)).fst], .box [iA (List.foldl (stepF (RFl p)) (0, -1, 0) (evs p 5 0 p.body)).snd.fst]] [(0, pA 0), (4, iA 0), (5, iA 0), (6, .ptr 3 0), (7, .ptr 4 0)] [] trivial fun ρ a w G => th_n (wp_seq ?_); refine rd1 (dk := dkP) G ⟨[], [], []⟩ calls_nil trivial [0, 0, 1, 7] [0, 1, 2] [dI p.vars, dI p.arrays, dT p.body] [(0, pA 0), (4, iA (List.foldl (stepF (RFl p)) (0, -1, 0) (evs p 5 0 p.body)).fst), (5, iA (List.foldl (stepF (RFl p)) (0, -1, 0) (evs p 5 0 p.body)).snd.fst)] [] trivial fun ρ a w G => th_n (wp_ret ?_); exact rx_ret (v := .tup [iA (List.foldl (stepF (RFl p)) (0, -1, 0) (evs p 5 0 p.body)).fst, iA (List.foldl (stepF (RFl p)) (0, -1, 0) (evs p 5 0 p.body)).snd.fst]) G [0, 1, 2] (by kernel_rfl) (by kernel_rfl) (by kernel_rfl) (by kernel_rfl)


set_option maxRecDepth 100000 in
theorem c_iCheckFlow (p : LProg) (hb : szSs p.body ≤ 1048576) : Ctr.ok Try.prog (fnC 36 [pA 0] (pS p) (.tup [iA (ckR p false).1, iA (ckR p false).2])) := by
  refine rx_enter 13 Try.func36 (by rfl) (by kernel_rfl) (by kernel_rfl) ?_; intro ι φ ψ w0 w F ρ0 ρ a G; replace G := Gam.at G [dI p.vars, dI p.arrays, dT p.body] [(0, pA 0)]; refine wp_seq ?_; refine rs0 G (rg 4) [dI p.vars, dI p.arrays, dT p.body, .box (pL 0)] [(1, .ptr 3 0), (2, iA 0), (3, iA 0)] fun ρ a w G => th_n (wp_seq (wp_seq ?_)); refine rs1s G ⟨[(1, _, [0, 1, 2])], [], []⟩ (calls_cons (c_iProgramValid (p)) calls_nil) trivial [(1, .ptr 3 0), (2, iA 0), (3, iA 0), (6, .v (.bool !progB p))] [] trivial fun ρ a w G => th_n ?_; cases h0 : (!progB p)
  · have q0 : (progB p) = true := (Eq.mp (Bool.not_eq_false' _) h0); refine rF G (!progB p) (by assumption) ?_; refine wp_skip (th_n (wp_seq ?_)); refine rs1 (dk := dkP) G ⟨[(3, _, [0, 1, 2])], [], []⟩ (calls_cons (c_firstOfF (p) (by assumption)) calls_nil) trivial [0, 1, 2] [dI p.vars, dI p.arrays, dT p.body] [(2, iA (List.foldl (stepF (RFl p)) (0, -1, 0) (evs p 5 0 p.body)).fst), (3, iA (List.foldl (stepF (RFl p)) (0, -1, 0) (evs p 5 0 p.body)).snd.fst)] [] trivial fun ρ a w G => th_n (wp_ret ?_); exact rx_ret (v := .tup [iA (List.foldl (stepF (RFl p)) (0, -1, 0) (evs p 5 0 p.body)).fst, iA (List.foldl (stepF (RFl p)) (0, -1, 0) (evs p 5 0 p.body)).snd.fst]) G [0, 1, 2] (by kernel_rfl) (by kernel_rfl) (by kernel_rfl) (by have e1 : ((ckR p false).fst : Int) = ((List.foldl (stepF (RFl p)) (0, -1, 0) (evs p 5 0 p.body)).fst) := (by exact (ck_flow (by assumption)).1.symm); have e2 : ((ckR p false).snd : Int) = ((List.foldl (stepF (RFl p)) (0, -1, 0) (evs p 5 0 p.body)).snd.fst) := (by exact (ck_flow (by assumption)).2.symm); (first | rw [e1, e2] | simp only [e1, e2]) <;> rfl)
  · have q0 : (progB p) = false := (Eq.mp (Bool.not_eq_true' _) h0); refine rT G (!progB p) (by assumption) ?_; refine wp_seq ?_; refine rs0s G [(1, .ptr 3 0), (2, iA 5), (3, iA (-1))] fun ρ a w G => th_n (wp_ret (th_r ?_)); exact rx_ret (v := .tup [iA 5, iA (-1)]) G [0, 1, 2] (by kernel_rfl) (by kernel_rfl) (by kernel_rfl) (by have e1 : ((ckR p false).fst : Int) = (5) := (by rw [ck_no (by assumption)]; done); have e2 : ((ckR p false).snd : Int) = (-1) := (by rw [ck_no (by assumption)]; done); (first | rw [e1, e2] | simp only [e1, e2]) <;> rfl)


abbrev Lab : Type := List Int × List Int
def bv (x : Int) : BitVec 64 := BitVec.ofInt 64 x
def ofb (b : BitVec 64) : Int := IntKind.i64.wrap (b.toNat : Int)
theorem bv_ofb (b : BitVec 64) : bv (ofb b) = b := by
  apply BitVec.eq_of_toNat_eq
  unfold bv ofb
  rw [BitVec.toNat_ofInt]
  have h := b.isLt
  unfold IntKind.wrap
  simp only [IntKind.bits, IntKind.signed, Bool.true_and, decide_eq_true_eq]
  split <;> omega
theorem orI_ofb (x y : Int) : orI x y = ofb (bv x ||| bv y) := rfl
theorem bv_or (x y : Int) : bv (orI x y) = bv x ||| bv y := by rw [orI_ofb, bv_ofb]
def leI (x y : Int) : Prop := bv x ||| bv y = bv y
theorem leI.refl (x : Int) : leI x x := BitVec.or_self
theorem leI.trans {x y z : Int} (h : leI x y) (k : leI y z) : leI x z := by
  unfold leI at *
  rw [← k, ← BitVec.or_assoc, h]
theorem le_or1 (x y : Int) : leI x (orI x y) := by unfold leI; rw [bv_or, ← BitVec.or_assoc, BitVec.or_self]
theorem or_mono {x y a b : Int} (h : leI x a) (k : leI y b) : leI (orI x y) (orI a b) := by
  unfold leI at *
  rw [bv_or, bv_or, BitVec.or_assoc, ← BitVec.or_assoc (bv y), BitVec.or_comm (bv y) (bv a), BitVec.or_assoc (bv a), k, ← BitVec.or_assoc, h]
theorem bv_fin : ∀ x : Fin 4, ∀ y : Fin 4, bv x.val = bv y.val → x = y := by decide +kernel
theorem le_fin : ∀ x : Fin 4, ∀ y : Fin 4, bv x.val ||| bv y.val = bv y.val → x.val ≤ y.val := by decide +kernel
theorem leI.anti {x y : Int} (h : leI x y) (k : leI y x) (hx : labOk x = true) (hy : labOk y = true) : x = y := by
  obtain ⟨a, rfl⟩ := lab_fin hx
  obtain ⟨b, rfl⟩ := lab_fin hy
  unfold leI at *
  rw [BitVec.or_comm, h] at k
  rw [bv_fin b a k]
theorem leI.nat {x y : Int} (h : leI x y) (hx : labOk x = true) (hy : labOk y = true) : x.toNat ≤ y.toNat := by
  obtain ⟨a, rfl⟩ := lab_fin hx
  obtain ⟨b, rfl⟩ := lab_fin hy
  have := le_fin a b h
  omega

def leP (q r : Lab) : Prop := (∀ i, leI (q.1.getD i 0) (r.1.getD i 0)) ∧ ∀ i, leI (q.2.getD i 0) (r.2.getD i 0)
def shP (q r : Lab) : Prop := r.1.length = q.1.length ∧ r.2.length = q.2.length
def okP (q : Lab) : Prop := q.1.all labOk = true ∧ q.2.all labOk = true
theorem leP.refl (q : Lab) : leP q q := ⟨fun _ => leI.refl _, fun _ => leI.refl _⟩
theorem leP.trans {q r s : Lab} (h : leP q r) (k : leP r s) : leP q s := ⟨fun i => (h.1 i).trans (k.1 i), fun i => (h.2 i).trans (k.2 i)⟩
theorem shP.refl (q : Lab) : shP q q := ⟨rfl, rfl⟩
theorem shP.trans {q r s : Lab} (h : shP q r) (k : shP r s) : shP q s := ⟨k.1.trans h.1, k.2.trans h.2⟩
theorem shP.symm {q r : Lab} (h : shP q r) : shP r q := ⟨h.1.symm, h.2.symm⟩
theorem list_anti {a b : List Int} (hl : b.length = a.length) (h : ∀ i, leI (a.getD i 0) (b.getD i 0)) (k : ∀ i, leI (b.getD i 0) (a.getD i 0)) (ha : a.all labOk = true) (hb : b.all labOk = true) : a = b := by
  apply List.ext_getElem (by omega)
  intro i h1 h2
  have := (h i).anti (k i) (getD_ok ha i) (getD_ok hb i)
  rw [getD_lt h1, getD_lt h2] at this
  exact this
theorem leP.anti {q r : Lab} (h : leP q r) (k : leP r q) (hs : shP q r) (hq : okP q) (hr : okP r) : q = r :=
  Prod.ext (list_anti hs.1 h.1 k.1 hq.1 hr.1) (list_anti hs.2 h.2 k.2 hq.2 hr.2)

theorem own_mono {q r : Lab} (h : leP q r) (e : LExpr) : leI (ownL q.1 q.2 e) (ownL r.1 r.2 e) := by
  unfold ownL
  split
  · exact h.1 _
  · split
    · exact h.2 _
    · exact leI.refl _
theorem lab_mono {q r : Lab} (h : leP q r) : ∀ (d : Nat) (e : LExpr), leI (labE q.1 q.2 d e) (labE r.1 r.2 d e)
  | 0, _ => leI.refl _
  | d + 1, e => by
    rw [labE, labE]
    have key : ∀ (ks : List LExpr) (a b : Int), leI a b → leI (ks.foldl (fun a k => orI a (labE q.1 q.2 d k)) a) (ks.foldl (fun a k => orI a (labE r.1 r.2 d k)) b) := by
      intro ks
      induction ks with
      | nil => intro a b hab; exact hab
      | cons x t ih => intro a b hab; rw [List.foldl_cons, List.foldl_cons]; exact ih _ _ (or_mono hab (lab_mono h d x))
    exact key _ _ _ (own_mono h e)

def oneL (q : Lab) (s : LStmt) (cx : Int) : Lab :=
  if s.kind = 1 then (q.1.set s.target.toNat (orI (orI (q.1.getD s.target.toNat 0) (labE q.1 q.2 5 s.value)) cx), q.2)
  else if s.kind = 2 then (q.1, q.2.set s.target.toNat (orI (orI (orI (q.2.getD s.target.toNat 0) (labE q.1 q.2 5 s.value)) (labE q.1 q.2 5 s.index)) cx))
  else q
def innL (q : Lab) (s : LStmt) (cx : Int) : Int := if s.kind = 3 then orI cx (labE q.1 q.2 5 s.value) else cx
def upS (b : Bool) : Nat → Lab → Int → LStmt → Lab
  | 0, q, _, _ => q
  | d + 1, q, cx, s => s.els.foldl (fun r t => upS b d r (innL (if b then s.body.foldl (fun r t => upS b d r (innL (oneL q s cx) s cx) t) (oneL q s cx) else oneL q s cx) s cx) t) (s.body.foldl (fun r t => upS b d r (innL (oneL q s cx) s cx) t) (oneL q s cx))
abbrev upB (b : Bool) (d : Nat) (q : Lab) (cx : Int) (ss : List LStmt) : Lab := ss.foldl (fun r t => upS b d r cx t) q
theorem upS_eq (b : Bool) (d : Nat) (q : Lab) (cx : Int) (s : LStmt) : upS b (d + 1) q cx s = upB b d (upB b d (oneL q s cx) (innL (oneL q s cx) s cx) s.body) (innL (if b then upB b d (oneL q s cx) (innL (oneL q s cx) s cx) s.body else oneL q s cx) s cx) s.els := by rw [upS]

theorem set_getD (l : List Int) (t i : Nat) (x : Int) : (l.set t x).getD i 0 = if t = i ∧ t < l.length then x else l.getD i 0 := by
  simp only [List.getD_eq_getElem?_getD, List.getElem?_set]
  by_cases h : t = i
  · subst h
    by_cases h2 : t < l.length
    · simp [h2]
    · simp [h2]
  · simp [h]
theorem set_all {l : List Int} {t : Nat} {x : Int} (h : l.all labOk = true) (hx : labOk x = true) : (l.set t x).all labOk = true := by
  rw [List.all_eq_true] at *
  intro y hy
  rcases List.mem_or_eq_of_mem_set hy with h1 | h1
  · exact h y h1
  · rw [h1]; exact hx
theorem one_sh (q : Lab) (s : LStmt) (cx : Int) : shP q (oneL q s cx) := by
  unfold oneL
  split
  · exact ⟨by simp, rfl⟩
  · split
    · exact ⟨rfl, by simp⟩
    · exact shP.refl _
theorem set_infl {l : List Int} {t : Nat} {x : Int} (h : leI (l.getD t 0) x) (i : Nat) : leI (l.getD i 0) ((l.set t x).getD i 0) := by
  rw [set_getD]
  split
  · rename_i h1; rw [← h1.1]; exact h
  · exact leI.refl _
theorem set_mono {l m : List Int} {t : Nat} {x y : Int} (hl : m.length = l.length) (h : ∀ i, leI (l.getD i 0) (m.getD i 0)) (hx : leI x y) (i : Nat) : leI ((l.set t x).getD i 0) ((m.set t y).getD i 0) := by
  rw [set_getD, set_getD, hl]
  split
  · exact hx
  · exact h i
theorem one_infl (q : Lab) (s : LStmt) (cx : Int) : leP q (oneL q s cx) := by
  unfold oneL
  split
  · exact ⟨set_infl ((le_or1 _ _).trans (le_or1 _ _)), fun _ => leI.refl _⟩
  · split
    · exact ⟨fun _ => leI.refl _, set_infl (((le_or1 _ _).trans (le_or1 _ _)).trans (le_or1 _ _))⟩
    · exact leP.refl _
theorem one_mono {q r : Lab} (h : leP q r) (hs : shP q r) {cx cy : Int} (hc : leI cx cy) (s : LStmt) : leP (oneL q s cx) (oneL r s cy) := by
  unfold oneL
  split
  · exact ⟨set_mono hs.1 h.1 (or_mono (or_mono (h.1 _) (lab_mono h 5 _)) hc), h.2⟩
  · split
    · exact ⟨h.1, set_mono hs.2 h.2 (or_mono (or_mono (or_mono (h.2 _) (lab_mono h 5 _)) (lab_mono h 5 _)) hc)⟩
    · exact h
theorem one_ok {q : Lab} (h : okP q) {cx : Int} (hc : labOk cx = true) (s : LStmt) : okP (oneL q s cx) := by
  unfold oneL
  split
  · exact ⟨set_all h.1 (or_ok (or_ok (getD_ok h.1 _) (labE_ok h.1 h.2 5 _)) hc), h.2⟩
  · split
    · exact ⟨h.1, set_all h.2 (or_ok (or_ok (or_ok (getD_ok h.2 _) (labE_ok h.1 h.2 5 _)) (labE_ok h.1 h.2 5 _)) hc)⟩
    · exact h
theorem inn_mono {q r : Lab} (h : leP q r) {cx cy : Int} (hc : leI cx cy) (s : LStmt) : leI (innL q s cx) (innL r s cy) := by
  unfold innL
  split
  · exact or_mono hc (lab_mono h 5 _)
  · exact hc
theorem inn_ok {q : Lab} (h : okP q) {cx : Int} (hc : labOk cx = true) (s : LStmt) : labOk (innL q s cx) = true := by
  unfold innL
  split
  · exact or_ok hc (labE_ok h.1 h.2 5 _)
  · exact hc

theorem fold_sh {F : Lab → LStmt → Lab} (hF : ∀ q s, shP q (F q s)) : ∀ (ss : List LStmt) (q : Lab), shP q (ss.foldl F q)
  | [], q => shP.refl q
  | s :: r, q => (hF q s).trans (fold_sh hF r _)
theorem fold_infl {F : Lab → LStmt → Lab} (hF : ∀ q s, leP q (F q s)) : ∀ (ss : List LStmt) (q : Lab), leP q (ss.foldl F q)
  | [], q => leP.refl q
  | s :: r, q => (hF q s).trans (fold_infl hF r _)
theorem fold_ok {F : Lab → LStmt → Lab} (hF : ∀ q s, okP q → okP (F q s)) : ∀ (ss : List LStmt) (q : Lab), okP q → okP (ss.foldl F q)
  | [], _, h => h
  | s :: r, q, h => fold_ok hF r _ (hF q s h)
theorem fold_mono {F G : Lab → LStmt → Lab} (hF : ∀ q s, shP q (F q s)) (hG : ∀ q s, shP q (G q s)) (h : ∀ q r s, shP q r → leP q r → leP (F q s) (G r s)) : ∀ (ss : List LStmt) (q r : Lab), shP q r → leP q r → leP (ss.foldl F q) (ss.foldl G r)
  | [], _, _, _, hl => hl
  | s :: t, q, r, hs, hl => fold_mono hF hG h t _ _ (((hF q s).symm.trans hs).trans (hG r s)) (h q r s hs hl)

theorem up_sh (b : Bool) : ∀ (d : Nat) (cx : Int) (q : Lab) (s : LStmt), shP q (upS b d q cx s)
  | 0, _, q, _ => shP.refl q
  | d + 1, cx, q, s => by
    rw [upS_eq]
    exact ((one_sh q s cx).trans (fold_sh (fun q s => up_sh b d _ q s) _ _)).trans (fold_sh (fun q s => up_sh b d _ q s) _ _)
theorem up_infl (b : Bool) : ∀ (d : Nat) (cx : Int) (q : Lab) (s : LStmt), leP q (upS b d q cx s)
  | 0, _, q, _ => leP.refl q
  | d + 1, cx, q, s => by
    rw [upS_eq]
    exact ((one_infl q s cx).trans (fold_infl (fun q s => up_infl b d _ q s) _ _)).trans (fold_infl (fun q s => up_infl b d _ q s) _ _)
theorem up_ok (b : Bool) : ∀ (d : Nat) (cx : Int) (q : Lab) (s : LStmt), labOk cx = true → okP q → okP (upS b d q cx s)
  | 0, _, _, _, _, h => h
  | d + 1, cx, q, s, hc, h => by
    rw [upS_eq]
    have h1 := one_ok h hc s
    have h2 : okP (upB b d (oneL q s cx) (innL (oneL q s cx) s cx) s.body) := fold_ok (fun q t hq => up_ok b d _ q t (inn_ok h1 hc s) hq) _ _ h1
    refine fold_ok (fun q t hq => up_ok b d _ q t (inn_ok ?_ hc s) hq) _ _ h2
    split
    · exact h2
    · exact h1
theorem up_mono {b b' : Bool} (hb : b = true → b' = true) : ∀ (d : Nat) (cx cy : Int) (q r : Lab) (s : LStmt), leI cx cy → shP q r → leP q r → leP (upS b d q cx s) (upS b' d r cy s)
  | 0, _, _, _, _, _, _, _, h => h
  | d + 1, cx, cy, q, r, s, hc, hs, h => by
    rw [upS_eq, upS_eq]
    have h1 := one_mono h hs hc s
    have s1 : shP (oneL q s cx) (oneL r s cy) := ((one_sh q s cx).symm.trans hs).trans (one_sh r s cy)
    have hi := inn_mono h1 hc s
    have h2 : leP (upB b d (oneL q s cx) (innL (oneL q s cx) s cx) s.body) (upB b' d (oneL r s cy) (innL (oneL r s cy) s cy) s.body) := fold_mono (fun q t => up_sh b d _ q t) (fun q t => up_sh b' d _ q t) (fun q r t hs hl => up_mono hb d _ _ q r t hi hs hl) _ _ _ s1 h1
    have s2 : shP (upB b d (oneL q s cx) (innL (oneL q s cx) s cx) s.body) (upB b' d (oneL r s cy) (innL (oneL r s cy) s cy) s.body) := ((fold_sh (fun q t => up_sh b d _ q t) _ _).symm.trans s1).trans (fold_sh (fun q t => up_sh b' d _ q t) _ _)
    refine fold_mono (fun q t => up_sh b d _ q t) (fun q t => up_sh b' d _ q t) (fun q r t hs hl => up_mono hb d _ _ q r t ?_ hs hl) _ _ _ s2 h2
    refine inn_mono ?_ hc s
    cases b with
    | true =>
      have e := hb rfl
      subst e
      exact h2
    | false =>
      simp only [Bool.false_eq_true, if_false]
      split
      · exact h1.trans (fold_infl (fun q t => up_infl b' d _ q t) _ _)
      · exact h1
section
variable {b : Bool} {d : Nat} {cx : Int} {q r : Lab} {ss : List LStmt}
theorem upB_sh : shP q (upB b d q cx ss) := fold_sh (fun q t => up_sh b d _ q t) _ _
theorem upB_infl : leP q (upB b d q cx ss) := fold_infl (fun q t => up_infl b d _ q t) _ _
theorem upB_ok (hc : labOk cx = true) (h : okP q) : okP (upB b d q cx ss) := fold_ok (fun q t hq => up_ok b d _ q t hc hq) _ _ h
end

def sumL (l : List Int) : Nat := (l.map Int.toNat).sum
def sumP (q : Lab) : Nat := sumL q.1 + sumL q.2
theorem sumL_le : ∀ {a b : List Int}, b.length = a.length → a.all labOk = true → b.all labOk = true → (∀ i, leI (a.getD i 0) (b.getD i 0)) → sumL a ≤ sumL b ∧ (sumL a = sumL b → a = b)
  | [], b, hl, _, _, _ => by rw [List.eq_nil_of_length_eq_zero hl]; exact ⟨Nat.le_refl _, fun _ => rfl⟩
  | x :: r, [], hl, _, _, _ => by cases hl
  | x :: r, y :: t, hl, ha, hb, h => by
    simp only [List.all_cons, Bool.and_eq_true] at ha hb
    have h0 := h 0
    simp at h0
    obtain ⟨k1, k2⟩ := sumL_le (a := r) (b := t) (by simpa using hl) ha.2 hb.2 fun i => by have := h (i + 1); simpa using this
    have k3 := h0.nat ha.1 hb.1
    simp only [sumL, List.map_cons, List.sum_cons] at k1 k2 ⊢
    refine ⟨by omega, fun e => ?_⟩
    obtain ⟨a, rfl⟩ := lab_fin ha.1
    obtain ⟨b, rfl⟩ := lab_fin hb.1
    rw [k2 (by omega)]
    congr 1
    omega
theorem sumL_max : ∀ {l : List Int}, l.all labOk = true → sumL l ≤ 3 * l.length
  | [], _ => Nat.zero_le _
  | x :: r, h => by
    simp only [List.all_cons, Bool.and_eq_true] at h
    have h1 := sumL_max h.2
    obtain ⟨a, rfl⟩ := lab_fin h.1
    simp only [sumL, List.map_cons, List.sum_cons, List.length_cons] at h1 ⊢
    omega
theorem sumP_lt {q r : Lab} (hs : shP q r) (hq : okP q) (hr : okP r) (h : leP q r) (hne : ¬ r = q) : sumP q < sumP r := by
  obtain ⟨a1, a2⟩ := sumL_le hs.1 hq.1 hr.1 h.1
  obtain ⟨b1, b2⟩ := sumL_le hs.2 hq.2 hr.2 h.2
  unfold sumP
  refine Nat.lt_of_not_le fun hle => hne (Prod.ext (a2 (by omega)).symm (b2 (by omega)).symm)
theorem sumP_max {q : Lab} (hq : okP q) : sumP q ≤ 3 * (q.1.length + q.2.length) := by
  have h1 := sumL_max hq.1
  have h2 := sumL_max hq.2
  unfold sumP; omega

def InfW (b : List LStmt) (p q : Lab) : Prop := shP p q ∧ okP q ∧ leP p q ∧ ∀ r, shP p r → okP r → leP p r → upB true 5 r 0 b = r → leP q r
theorem infW_start {b : List LStmt} {p : Lab} (h : okP p) : InfW b p p := ⟨shP.refl _, h, leP.refl _, fun _ _ _ h _ => h⟩
theorem infW_step {b : List LStmt} {p q : Lab} {f : Bool} (h : InfW b p q) : InfW b p (upB f 5 q 0 b) :=
  ⟨h.1.trans upB_sh, upB_ok rfl h.2.1, h.2.2.1.trans upB_infl, fun r h1 h2 h3 h4 => by
    have h5 := h.2.2.2 r h1 h2 h3 h4
    have := fold_mono (fun q t => up_sh f 5 0 q t) (fun q t => up_sh true 5 0 q t) (fun q r t hs hl => up_mono (b := f) (b' := true) (fun _ => rfl) 5 0 0 q r t (leI.refl _) hs hl) b q r (h.1.symm.trans h1) h5
    rw [show b.foldl (fun q t => upS true 5 q 0 t) r = r from h4] at this
    exact this⟩
theorem infW_unique {b : List LStmt} {p q r : Lab} (hq : InfW b p q) (hr : InfW b p r) (fq : upB true 5 q 0 b = q) (fr : upB true 5 r 0 b = r) : q = r :=
  (hq.2.2.2 r hr.1 hr.2.1 hr.2.2.1 fr).anti (hr.2.2.2 q hq.1 hq.2.1 hq.2.2.1 fq) (hq.1.symm.trans hr.1) hq.2.1 hr.2.1
def infF (b : List LStmt) : Nat → Lab → Lab
  | 0, q => q
  | n + 1, q => infF b n (upB true 5 q 0 b)
def infL (p : LProg) : Lab := infF p.body 64 (p.vars, p.arrays)
theorem infF_way {b : List LStmt} {p : Lab} : ∀ (n : Nat) (q : Lab), InfW b p q → InfW b p (infF b n q)
  | 0, _, h => h
  | n + 1, q, h => infF_way n _ (infW_step h)
theorem infF_fix {b : List LStmt} : ∀ (n : Nat) {q : Lab}, upB true 5 q 0 b = q → infF b n q = q
  | 0, _, _ => rfl
  | n + 1, q, h => by rw [infF, h]; exact infF_fix n h
theorem infF_end {b : List LStmt} {p : Lab} : ∀ (n : Nat) (q : Lab), InfW b p q → upB true 5 (infF b n q) 0 b = infF b n q ∨ sumP q + n ≤ sumP (infF b n q)
  | 0, _, _ => .inr (Nat.le_refl _)
  | n + 1, q, h => by
    rw [infF]
    by_cases e : upB true 5 q 0 b = q
    · left
      rw [e, infF_fix n e, e]
    · have h1 := sumP_lt upB_sh h.2.1 (upB_ok rfl h.2.1) upB_infl e
      rcases infF_end n _ (infW_step (f := true) h) with h2 | h2
      · exact .inl h2
      · right; omega
theorem labs_ok {p : LProg} (h : progB p = true) : okP (p.vars, p.arrays) := by
  have := progB_labs h
  simp only [labsB, Bool.and_eq_true] at this
  exact this
theorem infL_way {p : LProg} (h : progB p = true) : InfW p.body (p.vars, p.arrays) (infL p) := infF_way 64 _ (infW_start (labs_ok h))
theorem infL_fix {p : LProg} (h : progB p = true) (hl : p.vars.length + p.arrays.length ≤ 14) : upB true 5 (infL p) 0 p.body = infL p := by
  rcases infF_end (b := p.body) 64 (p.vars, p.arrays) (infW_start (labs_ok h)) with h1 | h1
  · exact h1
  · have h2 := infL_way h
    have h3 := sumP_max h2.2.1
    have h4 := h2.1
    have h5 : infF p.body 64 (p.vars, p.arrays) = infL p := rfl
    rw [h5] at h1
    rw [h4.1, h4.2] at h3
    simp only at h3
    omega
theorem infL_is {p : LProg} {q : Lab} (h : progB p = true) (hl : p.vars.length + p.arrays.length ≤ 14) (hq : InfW p.body (p.vars, p.arrays) q) (hf : upB true 5 q 0 p.body = q) : infL p = q :=
  infW_unique (infL_way h) hq (infL_fix h hl) hf

theorem sx_no {a b : LExpr} (h : ¬ a = b) : sameE a b = false := by
  cases e : sameE a b
  · rfl
  · exact absurd ((sameE_eq a b).1 e) h
section
variable {a b : LExpr} {k : Nat}
theorem sx1 (h : ¬ a.kind = b.kind) : sameE a b = false := sx_no fun e => h (by rw [e])
theorem sx2 (h : ¬ a.value = b.value) : sameE a b = false := sx_no fun e => h (by rw [e])
theorem sx3 (h : ¬ (a.kids.length : Int) = b.kids.length) : sameE a b = false := sx_no fun e => h (by rw [e])
theorem sx4 (h : sameE (a.kids.getD k default) (b.kids.getD k default) = false) : sameE a b = false := sx_no fun e => by
  subst e
  rw [(sameE_eq _ _).2 rfl] at h; cases h
theorem take_next {α : Type} {l m : List α} {k : Nat} {z : α} (h : l.take k = m.take k) (h1 : k < l.length) (h2 : k < m.length) (e : l.getD k z = m.getD k z) : l.take (k + 1) = m.take (k + 1) := by
  rw [take_succ_get _ _ h1, take_succ_get _ _ h2, h, ← getD_lt (d := z) h1, ← getD_lt (d := z) h2, e]
theorem take_fin {α : Type} {l m : List α} {k : Nat} (h : l.take k = m.take k) (h1 : l.length ≤ k) (h2 : (l.length : Int) = m.length) : l = m := by
  rw [List.take_of_length_le h1, List.take_of_length_le (by omega)] at h
  exact h
theorem sx5 (h1 : a.kind = b.kind) (h2 : a.value = b.value) (h3 : (a.kids.length : Int) = b.kids.length) (h : a.kids.take k = b.kids.take k) (hk : a.kids.length ≤ k) : sameE a b = true := by
  refine (sameE_eq _ _).2 ?_
  rw [← LExpr.eta a, ← LExpr.eta b, h1, h2, take_fin h hk h3]
end
abbrev sxC (a b : LExpr) : Ctr := fnC 167 [eA a 0, eA b 1] [dE a.kids, dE b.kids] (bA (sameE a b))
set_option maxRecDepth 100000 in
theorem s_sameX (x y : LExpr) (ih : ∀ (u : LExpr), u ∈ x.kids → ∀ (v : LExpr), Ctr.ok Try.prog (sxC u v)) : Ctr.ok Try.prog (sxC x y) := by
  refine rx_enter 46 Try.func167 (by rfl) (by kernel_rfl) (by kernel_rfl) ?_; intro ι φ ψ w0 w F ρ0 ρ a G; replace G := Gam.at G [dE x.kids, dE y.kids] [(0, eA x 0), (1, eA y 1)]; have hl : x.kids.length ≤ 9223372036854775807 := G.len 0 (d := .exprs x.kids) (by kernel_rfl); refine wp_seq ?_; refine rs0 G [0, 1, 2, 10] [dE x.kids, dE y.kids, .box (eL x 0), .box (eL y 1)] [(2, .ptr 2 0), (3, .ptr 3 0), (4, bA false)] fun ρ a w G => th_n (wp_seq (wp_seq ?_)); cases h0 : (x.kind != y.kind)
  ·
   have q0 : x.kind = y.kind := (by simpa using h0); cases h1 : (x.value != y.value)
   ·
    have q1 : x.value = y.value := (by simpa using h1); refine rs1s G ⟨[], [(x.kind != y.kind, false), (x.value != y.value, false)], us [(6, 10, 0), (1011, 1011, 0), (13, 19, 1), (1020, 1020, 1)]⟩ calls_nil ⟨(by assumption), (by assumption), trivial⟩ [(2, .ptr 2 0), (3, .ptr 3 0), (4, bA false), (26, bA ((↑x.kids.length : Int) != (↑y.kids.length : Int)))] [] trivial fun ρ a w G => th_n ?_; cases h2 : ((↑x.kids.length : Int) != (↑y.kids.length : Int))
    ·
     have q2 : (↑x.kids.length : Int) = (↑y.kids.length : Int) := (by simpa using h2); refine rF G ((↑x.kids.length : Int) != (↑y.kids.length : Int)) (by assumption) ?_; refine wp_skip (th_n (wp_seq (wp_seq ?_))); refine rs0s G [(2, .ptr 2 0), (3, .ptr 3 0), (4, bA false), (5, iA 0)] fun ρ a w G => th_n (wp_block ?_); refine rx_for (κ := Nat) (fun k => k ≤ x.kids.length ∧ x.kids.take k = y.kids.take k) (fun k => x.kids.length - k) (fun k => [dE x.kids, dE y.kids, .box (eL x 0), .box (eL y 1)]) (fun k => [(2, .ptr 2 0), (3, .ptr 3 0), (4, bA false), (5, iA k)]) (0) (by simp [h0, h1, h2]) (Gam.at G _ _) ?_; clear G; intro k ρ a w hp G; replace G := Gam.at G [dE x.kids, dE y.kids, .box (eL x 0), .box (eL y 1)] [(2, .ptr 2 0), (3, .ptr 3 0), (4, bA false), (5, iA (↑k : Int))]; refine wp_seq (wp_seq ?_); refine rs0s G [(2, .ptr 2 0), (3, .ptr 3 0), (4, bA false), (5, iA (↑k : Int)), (31, bA (decide ((↑k : Int) < (↑x.kids.length : Int))))] fun ρ a w G => th_n ?_; cases h3 : (decide ((↑k : Int) < (↑x.kids.length : Int)))
     · have q3 : ¬ ((↑k : Int) < (↑x.kids.length : Int)) := dFf h3; refine rF G (decide ((↑k : Int) < (↑x.kids.length : Int))) (by assumption) ?_; refine wp_exit (th_e (th_e (bl_hit (th_n (wp_seq ?_))))); refine rs0 G [0, 1] [dE x.kids, dE y.kids] [(4, bA true)] fun ρ a w G => th_n (wp_ret ?_); exact rx_ret (v := bA true) G [0, 1] (by kernel_rfl) (by kernel_rfl) (by kernel_rfl) (by have e1 : (sameE x y : Bool) = (true) := (by exact sx5 (by omega) (by omega) (by omega) hp.2 (by omega)); (first | rw [e1] | simp only [e1]) <;> rfl)
     ·
      have q3 : (↑k : Int) < (↑x.kids.length : Int) := dTt h3; refine rT G (decide ((↑k : Int) < (↑x.kids.length : Int))) (by assumption) ?_; refine wp_skip (th_n (wp_seq (wp_block (wp_seq ?_)))); refine rd1s G ⟨[(10, _, [36, 76])], [], []⟩ (calls_cons (ih (x.kids.getD k default) (by exact getE_mem (by omega)) (y.kids.getD k default)) calls_nil) trivial [0, 1, 0, 7, 15, 0, 32, 0, 224, 480, 1023, 2047] [(2, .ptr 2 0), (3, .ptr 3 0), (4, bA false), (5, iA (↑k : Int)), (45, .v (.bool !sameE (x.kids.getD k default) (y.kids.getD k default)))] [(0 : Int) ≤ (↑k : Int), (↑k : Int) < (↑x.kids.length : Int), k < x.kids.length, (0 : Int) ≤ (↑k : Int), (↑k : Int) < (↑y.kids.length : Int), k < y.kids.length] ⟨(by simp [h0, h1, h2, h3]), (by assumption), (by have hp := hp; omega), (by simp [h0, h1, h2, h3]), (by have hp := hp; omega), (by have hp := hp; omega), trivial⟩ fun ρ a w G => th_n ?_; cases h4 : (!sameE (x.kids.getD k default) (y.kids.getD k default))
      · have q4 : (sameE (x.kids.getD k default) (y.kids.getD k default)) = true := (Eq.mp (Bool.not_eq_false' _) h4); refine rF G (!sameE (x.kids.getD k default) (y.kids.getD k default)) (by assumption) ?_; refine wp_skip ?_; refine bl_n ?_; refine th_n ?_; refine rs1s G ⟨[], [], []⟩ calls_nil trivial [(2, .ptr 2 0), (3, .ptr 3 0), (4, bA false), (5, iA ((↑k : Int) + 1))] [IntKind.i64.wrap ((↑k : Int) + (1 : Int)) = (↑k : Int) + (1 : Int)] ⟨(by exact w64 (by omega) (by omega)), trivial⟩ fun ρ a w G => th_n ?_; exact rx_next G (k + 1) (by exact ⟨by omega, take_next hp.2 (by omega) (by omega) ((sameE_eq _ _).1 (by with_reducible assumption))⟩) (by have hp := hp; omega) (rg 4) [dE x.kids, dE y.kids, .box (eL x 0), .box (eL y 1)] [(2, .ptr 2 0), (3, .ptr 3 0), (4, bA false), (5, iA (↑(k + 1) : Int))] (by kernel_rfl) (by kernel_rfl) (by kernel_rfl) (by kernel_rfl) (by kernel_rfl)
      · have q4 : (sameE (x.kids.getD k default) (y.kids.getD k default)) = false := (Eq.mp (Bool.not_eq_true' _) h4); refine rT G (!sameE (x.kids.getD k default) (y.kids.getD k default)) (by assumption) ?_; refine wp_seq ?_; refine rs0s G [(2, .ptr 2 0), (3, .ptr 3 0), (4, bA false), (5, iA (↑k : Int))] fun ρ a w G => th_n (wp_ret (bl_r (th_r (th_r (bl_r (th_r ?_)))))); exact rx_ret (v := bA false) G [0, 1] (by kernel_rfl) (by kernel_rfl) (by kernel_rfl) (by have e1 : (sameE x y : Bool) = (false) := (by exact sx4 (by with_reducible assumption)); (first | rw [e1] | simp only [e1]) <;> rfl)
    · have q2 : ¬ ((↑x.kids.length : Int) = (↑y.kids.length : Int)) := bne_iff_ne.1 h2; refine rT G ((↑x.kids.length : Int) != (↑y.kids.length : Int)) (by assumption) ?_; refine wp_seq ?_; refine rs0s G [(2, .ptr 2 0), (3, .ptr 3 0), (4, bA false)] fun ρ a w G => th_n (wp_ret (th_r ?_)); exact rx_ret (v := bA false) G [0, 1] (by kernel_rfl) (by kernel_rfl) (by kernel_rfl) (by have e1 : (sameE x y : Bool) = (false) := (by exact sx3 (by omega)); (first | rw [e1] | simp only [e1]) <;> rfl)
   · have q1 : ¬ (x.value = y.value) := bne_iff_ne.1 h1; refine rs1s G ⟨[], [(x.kind != y.kind, false), (x.value != y.value, true)], us [(6, 10, 0), (1011, 1011, 0), (13, 19, 1), (1020, 1020, 1)]⟩ calls_nil ⟨(by assumption), (by assumption), trivial⟩ [(2, .ptr 2 0), (3, .ptr 3 0), (4, bA false), (26, bA true)] [] trivial fun ρ a w G => th_n ?_; refine rT G (true) (by kernel_rfl) ?_; refine wp_seq ?_; refine rs0s G [(2, .ptr 2 0), (3, .ptr 3 0), (4, bA false)] fun ρ a w G => th_n (wp_ret (th_r ?_)); exact rx_ret (v := bA false) G [0, 1] (by kernel_rfl) (by kernel_rfl) (by kernel_rfl) (by have e1 : (sameE x y : Bool) = (false) := (by exact sx2 (by omega)); (first | rw [e1] | simp only [e1]) <;> rfl)
  · have q0 : ¬ (x.kind = y.kind) := bne_iff_ne.1 h0; refine rs1s G ⟨[], [(x.kind != y.kind, true), (true, true)], us [(6, 10, 0), (1011, 1011, 0), (13, 19, 1), (1020, 1020, 1)]⟩ calls_nil ⟨(by assumption), (by kernel_rfl), trivial⟩ [(2, .ptr 2 0), (3, .ptr 3 0), (4, bA false), (26, bA true)] [] trivial fun ρ a w G => th_n ?_; refine rT G (true) (by kernel_rfl) ?_; refine wp_seq ?_; refine rs0s G [(2, .ptr 2 0), (3, .ptr 3 0), (4, bA false)] fun ρ a w G => th_n (wp_ret (th_r ?_)); exact rx_ret (v := bA false) G [0, 1] (by kernel_rfl) (by kernel_rfl) (by kernel_rfl) (by have e1 : (sameE x y : Bool) = (false) := (by exact sx1 (by omega)); (first | rw [e1] | simp only [e1]) <;> rfl)

theorem c_sameX (x : LExpr) : ∀ (y : LExpr), Ctr.ok Try.prog (sxC x y) :=
  LExpr.ind (P := fun x => ∀ (y : LExpr), Ctr.ok Try.prog (sxC x y)) (fun k n ks ih y => s_sameX ⟨k, n, ks⟩ y fun u hu => ih u hu) x

set_option maxRecDepth 100000 in
theorem c_l2Ints (xs ys : List Int) : Ctr.ok Try.prog (fnC 131 [.ref 0, .ref 1] [dI xs, dI ys] (bA (decide (xs = ys)))) := by
  refine rx_enter 26 Try.func131 (by rfl) (by kernel_rfl) (by kernel_rfl) ?_; intro ι φ ψ w0 w F ρ0 ρ a G; replace G := Gam.at G [dI xs, dI ys] [(0, .ref 0), (1, .ref 1)]; have hl : xs.length ≤ 9223372036854775807 := G.len 0 (d := .ints xs) (by kernel_rfl); refine wp_seq ?_; refine rs0s G [(0, .ref 0), (1, .ref 1), (4, bA false)] fun ρ a w G => th_n (wp_seq (wp_seq ?_)); refine rs0s G [(0, .ref 0), (1, .ref 1), (4, bA false), (10, bA ((↑xs.length : Int) != (↑ys.length : Int)))] fun ρ a w G => th_n ?_; cases h0 : ((↑xs.length : Int) != (↑ys.length : Int))
  ·
   have q0 : (↑xs.length : Int) = (↑ys.length : Int) := (by simpa using h0); refine rF G ((↑xs.length : Int) != (↑ys.length : Int)) (by assumption) ?_; refine wp_skip (th_n (wp_seq (wp_seq ?_))); refine rs0s G [(0, .ref 0), (1, .ref 1), (4, bA false), (5, iA 0)] fun ρ a w G => th_n (wp_block ?_); refine rx_for (κ := Nat) (fun k => k ≤ xs.length ∧ xs.take k = ys.take k) (fun k => xs.length - k) (fun k => [dI xs, dI ys]) (fun k => [(0, .ref 0), (1, .ref 1), (4, bA false), (5, iA k)]) (0) (by simp [h0]) (Gam.at G _ _) ?_; clear G; intro k ρ a w hp G; replace G := Gam.at G [dI xs, dI ys] [(0, .ref 0), (1, .ref 1), (4, bA false), (5, iA (↑k : Int))]; refine wp_seq (wp_seq ?_); refine rs0s G [(0, .ref 0), (1, .ref 1), (4, bA false), (5, iA (↑k : Int)), (14, bA (decide ((↑k : Int) < (↑xs.length : Int))))] fun ρ a w G => th_n ?_; cases h1 : (decide ((↑k : Int) < (↑xs.length : Int)))
   · have q1 : ¬ ((↑k : Int) < (↑xs.length : Int)) := dFf h1; refine rF G (decide ((↑k : Int) < (↑xs.length : Int))) (by assumption) ?_; refine wp_exit (th_e (th_e (bl_hit (th_n (wp_seq ?_))))); refine rs0s G [(4, bA true)] fun ρ a w G => th_n (wp_ret ?_); exact rx_ret (v := bA true) G [0, 1] (by kernel_rfl) (by kernel_rfl) (by kernel_rfl) (by have e1 : (decide (xs = ys) : Bool) = (true) := (by exact decide_eq_true (take_fin hp.2 (by omega) (by omega))); (first | rw [e1] | simp only [e1]) <;> rfl)
   ·
    have q1 : (↑k : Int) < (↑xs.length : Int) := dTt h1; refine rT G (decide ((↑k : Int) < (↑xs.length : Int))) (by assumption) ?_; refine wp_skip (th_n (wp_seq (wp_block (wp_seq ?_)))); refine rd1s G ⟨[], [], []⟩ calls_nil trivial [0, 0, 3, 7, 0, 0, 48, 112, 255] [(0, .ref 0), (1, .ref 1), (4, bA false), (5, iA (↑k : Int)), (25, bA (xs.getD k 0 != ys.getD k 0))] [(0 : Int) ≤ (↑k : Int), (↑k : Int) < (↑xs.length : Int), k < xs.length, (0 : Int) ≤ (↑k : Int), (↑k : Int) < (↑ys.length : Int), k < ys.length] ⟨(by simp [h0, h1]), (by assumption), (by have hp := hp; omega), (by simp [h0, h1]), (by have hp := hp; omega), (by have hp := hp; omega), trivial⟩ fun ρ a w G => th_n ?_; cases h2 : (xs.getD k (0 : Int) != ys.getD k (0 : Int))
    · have q2 : xs.getD k 0 = ys.getD k 0 := (by simpa using h2); refine rF G (xs.getD k (0 : Int) != ys.getD k (0 : Int)) (by assumption) ?_; refine wp_skip ?_; refine bl_n ?_; refine th_n ?_; refine rs1s G ⟨[], [], []⟩ calls_nil trivial [(0, .ref 0), (1, .ref 1), (4, bA false), (5, iA ((↑k : Int) + 1))] [IntKind.i64.wrap ((↑k : Int) + (1 : Int)) = (↑k : Int) + (1 : Int)] ⟨(by exact w64 (by omega) (by omega)), trivial⟩ fun ρ a w G => th_n ?_; exact rx_next G (k + 1) (by exact ⟨by omega, take_next hp.2 (by omega) (by omega) (by omega)⟩) (by have hp := hp; omega) [0, 1] [dI xs, dI ys] [(0, .ref 0), (1, .ref 1), (4, bA false), (5, iA (↑(k + 1) : Int))] (by kernel_rfl) (by kernel_rfl) (by kernel_rfl) (by kernel_rfl) (by kernel_rfl)
    · have q2 : ¬ (xs.getD k 0 = ys.getD k 0) := bne_iff_ne.1 h2; refine rT G (xs.getD k (0 : Int) != ys.getD k (0 : Int)) (by assumption) ?_; refine wp_seq ?_; refine rs0s G [(0, .ref 0), (1, .ref 1), (4, bA false), (5, iA (↑k : Int))] fun ρ a w G => th_n (wp_ret (bl_r (th_r (th_r (bl_r (th_r ?_)))))); exact rx_ret (v := bA false) G [0, 1] (by kernel_rfl) (by kernel_rfl) (by kernel_rfl) (by have e1 : (decide (xs = ys) : Bool) = (false) := (by exact decide_eq_false fun e => by subst e; omega); (first | rw [e1] | simp only [e1]) <;> rfl)
  · have q0 : ¬ ((↑xs.length : Int) = (↑ys.length : Int)) := bne_iff_ne.1 h0; refine rT G ((↑xs.length : Int) != (↑ys.length : Int)) (by assumption) ?_; refine wp_seq ?_; refine rs0s G [(0, .ref 0), (1, .ref 1), (4, bA false)] fun ρ a w G => th_n (wp_ret (th_r ?_)); exact rx_ret (v := bA false) G [0, 1] (by kernel_rfl) (by kernel_rfl) (by kernel_rfl) (by have e1 : (decide (xs = ys) : Bool) = (false) := (by exact decide_eq_false fun e => by subst e; omega); (first | rw [e1] | simp only [e1]) <;> rfl)

theorem ss_no {s t : LStmt} (h : ¬ s = t) : sameS s t = false := by
  cases e : sameS s t
  · rfl
  · exact absurd ((sameS_eq s t).1 e) h
theorem sb_no {l m : List LStmt} (h : ¬ l = m) : sameSs l m = false := by
  cases e : sameSs l m
  · rfl
  · exact absurd ((sameSs_eq l m).1 e) h
section
variable {s t : LStmt} {l m : List LStmt} {k : Nat}
theorem sr1 (h : ¬ s.kind = t.kind) : sameS s t = false := ss_no fun e => h (by rw [e])
theorem sr2 (h : ¬ s.target = t.target) : sameS s t = false := ss_no fun e => h (by rw [e])
theorem sr3 (h : ¬ s.count = t.count) : sameS s t = false := ss_no fun e => h (by rw [e])
theorem sr4 (h : sameE s.index t.index = false) : sameS s t = false := ss_no fun e => by subst e; rw [(sameE_eq _ _).2 rfl] at h; cases h
theorem sr5 (h : sameE s.value t.value = false) : sameS s t = false := ss_no fun e => by subst e; rw [(sameE_eq _ _).2 rfl] at h; cases h
theorem sr6 (h : sameSs s.body t.body = false) : sameS s t = false := ss_no fun e => by subst e; rw [(sameSs_eq _ _).2 rfl] at h; cases h
theorem sr7 (h : sameSs s.els t.els = false) : sameS s t = false := ss_no fun e => by subst e; rw [(sameSs_eq _ _).2 rfl] at h; cases h
theorem sr8 (h1 : s.kind = t.kind) (h2 : s.target = t.target) (h3 : s.count = t.count) (h4 : sameE s.index t.index = true) (h5 : sameE s.value t.value = true) (h6 : sameSs s.body t.body = true) : sameS s t = sameSs s.els t.els := by
  cases e : sameSs s.els t.els
  · exact sr7 e
  · refine (sameS_eq _ _).2 ?_
    rw [← LStmt.eta s, ← LStmt.eta t, h1, h2, h3, (sameE_eq _ _).1 h4, (sameE_eq _ _).1 h5, (sameSs_eq _ _).1 h6, (sameSs_eq _ _).1 e]
theorem sb1 (h : ¬ (l.length : Int) = m.length) : sameSs l m = false := sb_no fun e => h (by rw [e])
theorem sb2 (h : sameS (l.getD k default) (m.getD k default) = false) : sameSs l m = false := sb_no fun e => by
  subst e
  rw [(sameS_eq _ _).2 rfl] at h; cases h
theorem sb3 (h3 : (l.length : Int) = m.length) (h : l.take k = m.take k) (hk : l.length ≤ k) : sameSs l m = true := (sameSs_eq _ _).2 (take_fin h hk h3)
end
abbrev sbC (l m : List LStmt) : Ctr := fnC 132 [.ref 0, .ref 1] [dT l, dT m] (bA (sameSs l m))
abbrev ssC (s t : LStmt) : Ctr := fnC 151 [sA s 0, sA t 4] (sS s ++ sS t) (bA (sameS s t))
set_option maxRecDepth 100000 in
theorem s_sameS (s t : LStmt) (ih1 : ∀ (m : List LStmt), Ctr.ok Try.prog (sbC s.body m)) (ih2 : ∀ (m : List LStmt), Ctr.ok Try.prog (sbC s.els m)) : Ctr.ok Try.prog (ssC s t) := by
  refine rx_enter 52 Try.func151 (by rfl) (by kernel_rfl) (by kernel_rfl) ?_; intro ι φ ψ w0 w F ρ0 ρ a G; replace G := Gam.at G [dE s.index.kids, dE s.value.kids, dT s.body, dT s.els, dE t.index.kids, dE t.value.kids, dT t.body, dT t.els] [(0, sA s 0), (1, sA t 4)]; refine wp_seq ?_; refine rs0 G [0, 1, 2, 3, 4, 5, 6, 7, 8, 16] [dE s.index.kids, dE s.value.kids, dT s.body, dT s.els, dE t.index.kids, dE t.value.kids, dT t.body, dT t.els, .box (sL s 0), .box (sL t 4)] [(2, .ptr 8 0), (3, .ptr 9 0), (4, bA false)] fun ρ a w G => th_n (wp_seq ?_); cases h0 : (s.kind == t.kind)
  · have q0 : ¬ (s.kind = t.kind) := ne_of_beq_false h0; refine rs1 (dk := dkP) G ⟨[], [(s.kind == t.kind, false), (false, false)], us [(6, 10, 0), (1011, 1011, 0), (13, 17, 1), (1018, 1018, 1), (20, 24, 1), (1025, 1025, 1), (27, 31, 1), (1032, 1032, 1), (34, 38, 1), (1039, 1039, 1), (41, 45, 1), (1046, 1046, 1)]⟩ calls_nil ⟨(by assumption), (by kernel_rfl), trivial⟩ (rg 8) [dE s.index.kids, dE s.value.kids, dT s.body, dT s.els, dE t.index.kids, dE t.value.kids, dT t.body, dT t.els] [(4, bA false)] [] trivial fun ρ a w G => th_n (wp_ret ?_); exact rx_ret (v := bA false) G (rg 8) (by kernel_rfl) (by kernel_rfl) (by kernel_rfl) (by have e1 : (sameS s t : Bool) = (false) := (by exact sr1 (by omega)); (first | rw [e1] | simp only [e1]) <;> rfl)
  ·
   have q0 : s.kind = t.kind := eq_of_beq h0; cases h1 : (s.target == t.target)
   · have q1 : ¬ (s.target = t.target) := ne_of_beq_false h1; refine rs1 (dk := dkP) G ⟨[], [(s.kind == t.kind, true), (s.target == t.target, false), (false, false)], us [(6, 10, 0), (1011, 1011, 0), (13, 17, 1), (1018, 1018, 1), (20, 24, 2), (1025, 1025, 2), (27, 31, 2), (1032, 1032, 2), (34, 38, 2), (1039, 1039, 2), (41, 45, 2), (1046, 1046, 2)]⟩ calls_nil ⟨(by assumption), (by assumption), (by kernel_rfl), trivial⟩ (rg 8) [dE s.index.kids, dE s.value.kids, dT s.body, dT s.els, dE t.index.kids, dE t.value.kids, dT t.body, dT t.els] [(4, bA false)] [] trivial fun ρ a w G => th_n (wp_ret ?_); exact rx_ret (v := bA false) G (rg 8) (by kernel_rfl) (by kernel_rfl) (by kernel_rfl) (by have e1 : (sameS s t : Bool) = (false) := (by exact sr2 (by omega)); (first | rw [e1] | simp only [e1]) <;> rfl)
   ·
    have q1 : s.target = t.target := eq_of_beq h1; cases h2 : (s.count == t.count)
    · have q2 : ¬ (s.count = t.count) := ne_of_beq_false h2; refine rs1 (dk := dkP) G ⟨[], [(s.kind == t.kind, true), (s.target == t.target, true), (s.count == t.count, false), (false, false)], us [(6, 10, 0), (1011, 1011, 0), (13, 17, 1), (1018, 1018, 1), (20, 24, 2), (1025, 1025, 2), (27, 31, 3), (1032, 1032, 3), (34, 38, 3), (1039, 1039, 3), (41, 45, 3), (1046, 1046, 3)]⟩ calls_nil ⟨(by assumption), (by assumption), (by assumption), (by kernel_rfl), trivial⟩ (rg 8) [dE s.index.kids, dE s.value.kids, dT s.body, dT s.els, dE t.index.kids, dE t.value.kids, dT t.body, dT t.els] [(4, bA false)] [] trivial fun ρ a w G => th_n (wp_ret ?_); exact rx_ret (v := bA false) G (rg 8) (by kernel_rfl) (by kernel_rfl) (by kernel_rfl) (by have e1 : (sameS s t : Bool) = (false) := (by exact sr3 (by omega)); (first | rw [e1] | simp only [e1]) <;> rfl)
    ·
     have q2 : s.count = t.count := eq_of_beq h2; cases h3 : (sameE s.index t.index)
     · refine rs1 (dk := dkP) G ⟨[(24, _, [0, 4])], [(s.kind == t.kind, true), (s.target == t.target, true), (s.count == t.count, true), (sameE s.index t.index, false), (false, false)], us [(6, 10, 0), (1011, 1011, 0), (13, 17, 1), (1018, 1018, 1), (20, 24, 2), (1025, 1025, 2), (27, 31, 3), (1032, 1032, 3), (34, 38, 4), (1039, 1039, 4), (41, 45, 4), (1046, 1046, 4)]⟩ (calls_cons (c_sameX (s.index) (t.index)) calls_nil) ⟨(by assumption), (by assumption), (by assumption), (by assumption), (by kernel_rfl), trivial⟩ (rg 8) [dE s.index.kids, dE s.value.kids, dT s.body, dT s.els, dE t.index.kids, dE t.value.kids, dT t.body, dT t.els] [(4, bA false)] [] trivial fun ρ a w G => th_n (wp_ret ?_); exact rx_ret (v := bA false) G (rg 8) (by kernel_rfl) (by kernel_rfl) (by kernel_rfl) (by have e1 : (sameS s t : Bool) = (false) := (by exact sr4 (by with_reducible assumption)); (first | rw [e1] | simp only [e1]) <;> rfl)
     ·
      cases h4 : (sameE s.value t.value)
      · refine rs1 (dk := dkP) G ⟨[(24, _, [0, 4]), (31, _, [1, 5])], [(s.kind == t.kind, true), (s.target == t.target, true), (s.count == t.count, true), (sameE s.index t.index, true), (sameE s.value t.value, false), (false, false)], us [(6, 10, 0), (1011, 1011, 0), (13, 17, 1), (1018, 1018, 1), (20, 24, 2), (1025, 1025, 2), (27, 31, 3), (1032, 1032, 3), (34, 38, 4), (1039, 1039, 4), (41, 45, 5), (1046, 1046, 5)]⟩ (calls_cons (c_sameX (s.index) (t.index)) (calls_cons (c_sameX (s.value) (t.value)) calls_nil)) ⟨(by assumption), (by assumption), (by assumption), (by assumption), (by assumption), (by kernel_rfl), trivial⟩ (rg 8) [dE s.index.kids, dE s.value.kids, dT s.body, dT s.els, dE t.index.kids, dE t.value.kids, dT t.body, dT t.els] [(4, bA false)] [] trivial fun ρ a w G => th_n (wp_ret ?_); exact rx_ret (v := bA false) G (rg 8) (by kernel_rfl) (by kernel_rfl) (by kernel_rfl) (by have e1 : (sameS s t : Bool) = (false) := (by exact sr5 (by with_reducible assumption)); (first | rw [e1] | simp only [e1]) <;> rfl)
      ·
       cases h5 : (sameSs s.body t.body)
       · refine rs1 (dk := dkP) G ⟨[(24, _, [0, 4]), (31, _, [1, 5]), (38, _, [2, 6])], [(s.kind == t.kind, true), (s.target == t.target, true), (s.count == t.count, true), (sameE s.index t.index, true), (sameE s.value t.value, true), (sameSs s.body t.body, false)], us [(6, 10, 0), (1011, 1011, 0), (13, 17, 1), (1018, 1018, 1), (20, 24, 2), (1025, 1025, 2), (27, 31, 3), (1032, 1032, 3), (34, 38, 4), (1039, 1039, 4), (41, 45, 5), (1046, 1046, 5)]⟩ (calls_cons (c_sameX (s.index) (t.index)) (calls_cons (c_sameX (s.value) (t.value)) (calls_cons (ih1 (t.body)) calls_nil))) ⟨(by assumption), (by assumption), (by assumption), (by assumption), (by assumption), (by assumption), trivial⟩ (rg 8) [dE s.index.kids, dE s.value.kids, dT s.body, dT s.els, dE t.index.kids, dE t.value.kids, dT t.body, dT t.els] [(4, bA false)] [] trivial fun ρ a w G => th_n (wp_ret ?_); exact rx_ret (v := bA false) G (rg 8) (by kernel_rfl) (by kernel_rfl) (by kernel_rfl) (by have e1 : (sameS s t : Bool) = (false) := (by exact sr6 (by with_reducible assumption)); (first | rw [e1] | simp only [e1]) <;> rfl)
       · refine rs1 (dk := dkP) G ⟨[(24, _, [0, 4]), (31, _, [1, 5]), (38, _, [2, 6]), (45, _, [3, 7])], [(s.kind == t.kind, true), (s.target == t.target, true), (s.count == t.count, true), (sameE s.index t.index, true), (sameE s.value t.value, true), (sameSs s.body t.body, true)], us [(6, 10, 0), (1011, 1011, 0), (13, 17, 1), (1018, 1018, 1), (20, 24, 2), (1025, 1025, 2), (27, 31, 3), (1032, 1032, 3), (34, 38, 4), (1039, 1039, 4), (41, 45, 5), (1046, 1046, 5)]⟩ (calls_cons (c_sameX (s.index) (t.index)) (calls_cons (c_sameX (s.value) (t.value)) (calls_cons (ih1 (t.body)) (calls_cons (ih2 (t.els)) calls_nil)))) ⟨(by assumption), (by assumption), (by assumption), (by assumption), (by assumption), (by assumption), trivial⟩ (rg 8) [dE s.index.kids, dE s.value.kids, dT s.body, dT s.els, dE t.index.kids, dE t.value.kids, dT t.body, dT t.els] [(4, bA (sameSs s.els t.els))] [] trivial fun ρ a w G => th_n (wp_ret ?_); exact rx_ret (v := bA (sameSs s.els t.els)) G (rg 8) (by kernel_rfl) (by kernel_rfl) (by kernel_rfl) (by have e1 : (sameS s t : Bool) = (sameSs s.els t.els) := (by exact sr8 (by omega) (by omega) (by omega) (by with_reducible assumption) (by with_reducible assumption) (by with_reducible assumption)); (first | rw [e1] | simp only [e1]) <;> rfl)

set_option maxRecDepth 100000 in
theorem s_sameB (l m : List LStmt) (ih : ∀ (s : LStmt), s ∈ l → ∀ (t : LStmt), Ctr.ok Try.prog (ssC s t)) : Ctr.ok Try.prog (sbC l m) := by
  refine rx_enter 27 Try.func132 (by rfl) (by kernel_rfl) (by kernel_rfl) ?_; intro ι φ ψ w0 w F ρ0 ρ a G; replace G := Gam.at G [dT l, dT m] [(0, .ref 0), (1, .ref 1)]; have hl : l.length ≤ 9223372036854775807 := G.len 0 (d := .stmts l) (by kernel_rfl); refine wp_seq ?_; refine rs0s G [(0, .ref 0), (1, .ref 1), (4, bA false)] fun ρ a w G => th_n (wp_seq (wp_seq ?_)); refine rs0s G [(0, .ref 0), (1, .ref 1), (4, bA false), (10, bA ((↑l.length : Int) != (↑m.length : Int)))] fun ρ a w G => th_n ?_; cases h0 : ((↑l.length : Int) != (↑m.length : Int))
  ·
   have q0 : (↑l.length : Int) = (↑m.length : Int) := (by simpa using h0); refine rF G ((↑l.length : Int) != (↑m.length : Int)) (by assumption) ?_; refine wp_skip (th_n (wp_seq (wp_seq ?_))); refine rs0s G [(0, .ref 0), (1, .ref 1), (4, bA false), (5, iA 0)] fun ρ a w G => th_n (wp_block ?_); refine rx_for (κ := Nat) (fun k => k ≤ l.length ∧ l.take k = m.take k) (fun k => l.length - k) (fun k => [dT l, dT m]) (fun k => [(0, .ref 0), (1, .ref 1), (4, bA false), (5, iA k)]) (0) (by simp [h0]) (Gam.at G _ _) ?_; clear G; intro k ρ a w hp G; replace G := Gam.at G [dT l, dT m] [(0, .ref 0), (1, .ref 1), (4, bA false), (5, iA (↑k : Int))]; refine wp_seq (wp_seq ?_); refine rs0s G [(0, .ref 0), (1, .ref 1), (4, bA false), (5, iA (↑k : Int)), (14, bA (decide ((↑k : Int) < (↑l.length : Int))))] fun ρ a w G => th_n ?_; cases h1 : (decide ((↑k : Int) < (↑l.length : Int)))
   · have q1 : ¬ ((↑k : Int) < (↑l.length : Int)) := dFf h1; refine rF G (decide ((↑k : Int) < (↑l.length : Int))) (by assumption) ?_; refine wp_exit (th_e (th_e (bl_hit (th_n (wp_seq ?_))))); refine rs0s G [(4, bA true)] fun ρ a w G => th_n (wp_ret ?_); exact rx_ret (v := bA true) G [0, 1] (by kernel_rfl) (by kernel_rfl) (by kernel_rfl) (by have e1 : (sameSs l m : Bool) = (true) := (by exact sb3 (by omega) hp.2 (by omega)); (first | rw [e1] | simp only [e1]) <;> rfl)
   ·
    have q1 : (↑k : Int) < (↑l.length : Int) := dTt h1; refine rT G (decide ((↑k : Int) < (↑l.length : Int))) (by assumption) ?_; refine wp_skip (th_n (wp_seq (wp_block (wp_seq ?_)))); refine rd1s G ⟨[(8, _, [26, 27, 28, 29, 58, 59, 60, 61])], [], []⟩ (calls_cons (ih (l.getD k default) (by exact getS_mem (by omega)) (m.getD k default)) calls_nil) trivial [0, 0, 3, 7, 0, 0, 48, 112, 255, 511] [(0, .ref 0), (1, .ref 1), (4, bA false), (5, iA (↑k : Int)), (26, .v (.bool !sameS (l.getD k default) (m.getD k default)))] [(0 : Int) ≤ (↑k : Int), (↑k : Int) < (↑l.length : Int), k < l.length, (0 : Int) ≤ (↑k : Int), (↑k : Int) < (↑m.length : Int), k < m.length] ⟨(by simp [h0, h1]), (by assumption), (by have hp := hp; omega), (by simp [h0, h1]), (by have hp := hp; omega), (by have hp := hp; omega), trivial⟩ fun ρ a w G => th_n ?_; cases h2 : (!sameS (l.getD k default) (m.getD k default))
    · have q2 : (sameS (l.getD k default) (m.getD k default)) = true := (Eq.mp (Bool.not_eq_false' _) h2); refine rF G (!sameS (l.getD k default) (m.getD k default)) (by assumption) ?_; refine wp_skip ?_; refine bl_n ?_; refine th_n ?_; refine rs1s G ⟨[], [], []⟩ calls_nil trivial [(0, .ref 0), (1, .ref 1), (4, bA false), (5, iA ((↑k : Int) + 1))] [IntKind.i64.wrap ((↑k : Int) + (1 : Int)) = (↑k : Int) + (1 : Int)] ⟨(by exact w64 (by omega) (by omega)), trivial⟩ fun ρ a w G => th_n ?_; exact rx_next G (k + 1) (by exact ⟨by omega, take_next hp.2 (by omega) (by omega) ((sameS_eq _ _).1 (by with_reducible assumption))⟩) (by have hp := hp; omega) [0, 1] [dT l, dT m] [(0, .ref 0), (1, .ref 1), (4, bA false), (5, iA (↑(k + 1) : Int))] (by kernel_rfl) (by kernel_rfl) (by kernel_rfl) (by kernel_rfl) (by kernel_rfl)
    · have q2 : (sameS (l.getD k default) (m.getD k default)) = false := (Eq.mp (Bool.not_eq_true' _) h2); refine rT G (!sameS (l.getD k default) (m.getD k default)) (by assumption) ?_; refine wp_seq ?_; refine rs0s G [(0, .ref 0), (1, .ref 1), (4, bA false), (5, iA (↑k : Int))] fun ρ a w G => th_n (wp_ret (bl_r (th_r (th_r (bl_r (th_r ?_)))))); exact rx_ret (v := bA false) G [0, 1] (by kernel_rfl) (by kernel_rfl) (by kernel_rfl) (by have e1 : (sameSs l m : Bool) = (false) := (by exact sb2 (by with_reducible assumption)); (first | rw [e1] | simp only [e1]) <;> rfl)
  · have q0 : ¬ ((↑l.length : Int) = (↑m.length : Int)) := bne_iff_ne.1 h0; refine rT G ((↑l.length : Int) != (↑m.length : Int)) (by assumption) ?_; refine wp_seq ?_; refine rs0s G [(0, .ref 0), (1, .ref 1), (4, bA false)] fun ρ a w G => th_n (wp_ret (th_r ?_)); exact rx_ret (v := bA false) G [0, 1] (by kernel_rfl) (by kernel_rfl) (by kernel_rfl) (by have e1 : (sameSs l m : Bool) = (false) := (by exact sb1 (by omega)); (first | rw [e1] | simp only [e1]) <;> rfl)

theorem sameS2 (s : LStmt) : ∀ (t : LStmt), Ctr.ok Try.prog (ssC s t) :=
  LStmt.ind (P := fun s => ∀ (t : LStmt), Ctr.ok Try.prog (ssC s t)) (fun k t i v c b e h1 h2 u => s_sameS ⟨k, t, i, v, c, b, e⟩ u (fun m => s_sameB b m fun s hs => h1 s hs) fun m => s_sameB e m fun s hs => h2 s hs) s
theorem c_sameB (l m : List LStmt) : Ctr.ok Try.prog (sbC l m) := s_sameB l m fun s _ => sameS2 s
set_option maxRecDepth 100000 in
theorem c_ProgramSame (xs xt : List Int) (l : List LStmt) (ys yt : List Int) (m : List LStmt) : Ctr.ok Try.prog (fnC 96 [pA 0, pA 3] [dI xs, dI xt, dT l, dI ys, dI yt, dT m] (bA (decide (xs = ys) && (decide (xt = yt) && sameSs l m)))) := by
  refine rx_enter 24 Try.func96 (by rfl) (by kernel_rfl) (by kernel_rfl) ?_; intro ι φ ψ w0 w F ρ0 ρ a G; replace G := Gam.at G [dI xs, dI xt, dT l, dI ys, dI yt, dT m] [(0, pA 0), (1, pA 3)]; refine wp_seq ?_; refine rs0 G [0, 1, 2, 3, 4, 5, 6, 14] [dI xs, dI xt, dT l, dI ys, dI yt, dT m, .box (pL 0), .box (pL 3)] [(2, .ptr 6 0), (3, .ptr 7 0), (4, bA false)] fun ρ a w G => th_n (wp_seq ?_); cases h0 : (decide (xs = ys))
  · have q0 : ¬ (xs = ys) := dFf h0; refine rs1 (dk := dkP) G ⟨[(4, _, [0, 3])], [(decide (xs = ys), false), (false, false)], us [(6, 10, 0), (1011, 1011, 0), (13, 17, 1), (1018, 1018, 1)]⟩ (calls_cons (c_l2Ints (xs) (ys)) calls_nil) ⟨(by assumption), (by kernel_rfl), trivial⟩ (rg 6) [dI xs, dI xt, dT l, dI ys, dI yt, dT m] [(4, bA false)] [] trivial fun ρ a w G => th_n (wp_ret ?_); exact rx_ret (v := bA false) G (rg 6) (by kernel_rfl) (by kernel_rfl) (by kernel_rfl) (by kernel_rfl)
  ·
   have q0 : xs = ys := dTt h0; cases h1 : (decide (xt = yt))
   · have q1 : ¬ (xt = yt) := dFf h1; refine rs1 (dk := dkP) G ⟨[(4, _, [0, 3]), (10, _, [1, 4])], [(decide (xs = ys), true), (decide (xt = yt), false)], us [(6, 10, 0), (1011, 1011, 0), (13, 17, 1), (1018, 1018, 1)]⟩ (calls_cons (c_l2Ints (xs) (ys)) (calls_cons (c_l2Ints (xt) (yt)) calls_nil)) ⟨(by assumption), (by assumption), trivial⟩ (rg 6) [dI xs, dI xt, dT l, dI ys, dI yt, dT m] [(4, bA false)] [] trivial fun ρ a w G => th_n (wp_ret ?_); exact rx_ret (v := bA false) G (rg 6) (by kernel_rfl) (by kernel_rfl) (by kernel_rfl) (by kernel_rfl)
   · have q1 : xt = yt := dTt h1; refine rs1 (dk := dkP) G ⟨[(4, _, [0, 3]), (10, _, [1, 4]), (17, _, [2, 5])], [(decide (xs = ys), true), (decide (xt = yt), true)], us [(6, 10, 0), (1011, 1011, 0), (13, 17, 1), (1018, 1018, 1)]⟩ (calls_cons (c_l2Ints (xs) (ys)) (calls_cons (c_l2Ints (xt) (yt)) (calls_cons (c_sameB (l) (m)) calls_nil))) ⟨(by assumption), (by assumption), trivial⟩ (rg 6) [dI xs, dI xt, dT l, dI ys, dI yt, dT m] [(4, bA (sameSs l m))] [] trivial fun ρ a w G => th_n (wp_ret ?_); exact rx_ret (v := bA (sameSs l m)) G (rg 6) (by kernel_rfl) (by kernel_rfl) (by kernel_rfl) (by kernel_rfl)


theorem c_l4LabelV (vs ars : List Int) (b : List LStmt) (e : LExpr) (he : shapeB vs.length ars.length 5 e = true) : Ctr.ok Try.prog (fnC 130 [pA 0, eA e 3] ([dI vs, dI ars, dT b] ++ eS e) (iA (labE vs ars 5 e))) := c_l4Label ⟨vs, ars, b⟩ e he
theorem c_l2CopyV (vs ars : List Int) (b : List LStmt) (hb : vs.length + ars.length + szSs b ≤ 1048576) : Ctr.ok Try.prog ⟨91, [pA 0], [dI vs, dI ars, dT b], [dI vs, dI ars, dT b, .row 3 (.ints vs), .row 3 (.ints ars), .tree (.stmts b)], oA 3⟩ := c_l2Copy ⟨vs, ars, b⟩ hb
theorem c_CheckFlowV (vs ars : List Int) (b : List LStmt) (hb : szSs b ≤ 1048576) : Ctr.ok Try.prog (fnC 38 [pA 0] [dI vs, dI ars, dT b] (.tup [iA (ckR ⟨vs, ars, b⟩ false).1, iA (ckR ⟨vs, ars, b⟩ false).2])) := c_CheckFlow ⟨vs, ars, b⟩ hb

section
variable {vs ars : List Int} {cx : Int} {s : LStmt} {d : Nat} {b : Bool}
theorem on1 (k : s.kind = 1) : oneL (vs, ars) s cx = (vs.set s.target.toNat (orI (orI (vs.getD s.target.toNat 0) (labE vs ars 5 s.value)) cx), ars) := if_pos k
theorem on2 (k : s.kind = 2) : oneL (vs, ars) s cx = (vs, ars.set s.target.toNat (orI (orI (orI (ars.getD s.target.toNat 0) (labE vs ars 5 s.value)) (labE vs ars 5 s.index)) cx)) := by unfold oneL; rw [if_neg (by omega), if_pos k]
theorem on0 {q : Lab} (k1 : ¬ s.kind = 1) (k2 : ¬ s.kind = 2) : oneL q s cx = q := by unfold oneL; rw [if_neg k1, if_neg k2]
theorem up1 {q : Lab} (h1 : s.body = []) (h2 : s.els = []) : upS b (d + 1) q cx s = oneL q s cx := by rw [upS_eq, h1, h2]; rfl
theorem up3 {q : Lab} (k : s.kind = 3) : upS true (d + 1) q cx s = upB true d (upB true d q (orI cx (labE q.1 q.2 5 s.value)) s.body) (orI cx (labE (upB true d q (orI cx (labE q.1 q.2 5 s.value)) s.body).1 (upB true d q (orI cx (labE q.1 q.2 5 s.value)) s.body).2 5 s.value)) s.els := by
  rw [upS_eq, on0 (by omega) (by omega)]
  unfold innL
  simp only [if_pos k, if_true]
theorem up4 {q : Lab} (k : s.kind = 4) (h2 : s.els = []) : upS b (d + 1) q cx s = upB b d q cx s.body := by
  rw [upS_eq, on0 (by omega) (by omega), h2]
  unfold innL
  simp only [if_neg (show ¬ s.kind = 3 by omega)]
  rfl
theorem upB_next {q : Lab} {ss : List LStmt} {k : Nat} (hk : k < ss.length) : upB b d q cx (ss.take (k + 1)) = upS b d (upB b d q cx (ss.take k)) cx (ss.getD k default) := by
  unfold upB
  rw [take_succ_get _ _ hk, List.foldl_append, getD_lt hk]; rfl
theorem st_flat {nv na d k : Nat} {ss : List LStmt} (hs : ss.all (stmtB nv na (d + 1)) = true) (hk : k < ss.length) (k3 : ¬ (ss.getD k default).kind = 3) : (ss.getD k default).els = [] ∧ (¬ (ss.getD k default).kind = 4 → (ss.getD k default).body = []) := by
  have h0 := List.all_eq_true.1 hs _ (List.getElem_mem hk)
  rw [← getD_lt (d := default) hk] at h0
  rw [stmtB, Bool.and_eq_true] at h0
  have h1 := h0.1
  unfold partsB at h1
  by_cases k4 : (ss.getD k default).kind = 4
  · rw [if_pos (.inr k4), if_pos k4] at h1
    simp only [Bool.and_eq_true, decide_eq_true_eq] at h1
    exact ⟨List.eq_nil_of_length_eq_zero h1.2.1.1.1.1, fun h => absurd k4 h⟩
  · rw [if_neg (by omega)] at h1
    simp only [Bool.and_eq_true, decide_eq_true_eq] at h1
    exact ⟨List.eq_nil_of_length_eq_zero h1.1.1.2, fun _ => List.eq_nil_of_length_eq_zero h1.1.1.1⟩
section
variable {nv na d k : Nat} {ss : List LStmt} {q : Lab} {cx : Int}
theorem rn1 (hs : ss.all (stmtB nv na (d + 1)) = true) (hk : k < ss.length) (k1 : (ss.getD k default).kind = 1) : upB true (d + 1) q cx (ss.take (k + 1)) = ((upB true (d + 1) q cx (ss.take k)).1.set (ss.getD k default).target.toNat (orI (orI ((upB true (d + 1) q cx (ss.take k)).1.getD (ss.getD k default).target.toNat 0) (labE (upB true (d + 1) q cx (ss.take k)).1 (upB true (d + 1) q cx (ss.take k)).2 5 (ss.getD k default).value)) cx), (upB true (d + 1) q cx (ss.take k)).2) := by
  have h1 := st_flat hs hk (by omega)
  rw [upB_next hk, up1 (h1.2 (by omega)) h1.1]
  exact on1 k1
theorem rn2 (hs : ss.all (stmtB nv na (d + 1)) = true) (hk : k < ss.length) (k2 : (ss.getD k default).kind = 2) : upB true (d + 1) q cx (ss.take (k + 1)) = ((upB true (d + 1) q cx (ss.take k)).1, (upB true (d + 1) q cx (ss.take k)).2.set (ss.getD k default).target.toNat (orI (orI (orI ((upB true (d + 1) q cx (ss.take k)).2.getD (ss.getD k default).target.toNat 0) (labE (upB true (d + 1) q cx (ss.take k)).1 (upB true (d + 1) q cx (ss.take k)).2 5 (ss.getD k default).value)) (labE (upB true (d + 1) q cx (ss.take k)).1 (upB true (d + 1) q cx (ss.take k)).2 5 (ss.getD k default).index)) cx)) := by
  have h1 := st_flat hs hk (by omega)
  rw [upB_next hk, up1 (h1.2 (by omega)) h1.1]
  exact on2 k2
theorem rn3 (hk : k < ss.length) (k3 : (ss.getD k default).kind = 3) : upB true (d + 1) q cx (ss.take (k + 1)) = upB true d (upB true d (upB true (d + 1) q cx (ss.take k)) (orI cx (labE (upB true (d + 1) q cx (ss.take k)).1 (upB true (d + 1) q cx (ss.take k)).2 5 (ss.getD k default).value)) (ss.getD k default).body) (orI cx (labE (upB true d (upB true (d + 1) q cx (ss.take k)) (orI cx (labE (upB true (d + 1) q cx (ss.take k)).1 (upB true (d + 1) q cx (ss.take k)).2 5 (ss.getD k default).value)) (ss.getD k default).body).1 (upB true d (upB true (d + 1) q cx (ss.take k)) (orI cx (labE (upB true (d + 1) q cx (ss.take k)).1 (upB true (d + 1) q cx (ss.take k)).2 5 (ss.getD k default).value)) (ss.getD k default).body).2 5 (ss.getD k default).value)) (ss.getD k default).els := by
  rw [upB_next hk, up3 k3]
theorem rn4 (hs : ss.all (stmtB nv na (d + 1)) = true) (hk : k < ss.length) (k4 : (ss.getD k default).kind = 4) : upB true (d + 1) q cx (ss.take (k + 1)) = upB true d (upB true (d + 1) q cx (ss.take k)) cx (ss.getD k default).body := by
  rw [upB_next hk, up4 k4 (st_flat hs hk (by omega)).1]
theorem rn0 (hs : ss.all (stmtB nv na (d + 1)) = true) (hk : k < ss.length) (k1 : ¬ (ss.getD k default).kind = 1) (k2 : ¬ (ss.getD k default).kind = 2) (k3 : ¬ (ss.getD k default).kind = 3) (k4 : ¬ (ss.getD k default).kind = 4) : upB true (d + 1) q cx (ss.take (k + 1)) = upB true (d + 1) q cx (ss.take k) := by
  have h1 := st_flat hs hk k3
  rw [upB_next hk, up1 (h1.2 k4) h1.1, on0 k1 k2]
theorem rn_end (hk : ss.length ≤ k) : upB true (d + 1) q cx ss = upB true (d + 1) q cx (ss.take k) := by rw [List.take_of_length_le hk]
theorem sh_val {q r : Lab} {s : LStmt} (h : shP q r) (hv : q.1.length = nv) (ha : q.2.length = na) (hh : headB nv na s = true) (k : ¬ s.kind = 4) : shapeB r.1.length r.2.length 5 s.value = true := by rw [h.1, h.2, hv, ha]; exact hd_value hh k
theorem sh_idx {q r : Lab} {s : LStmt} (h : shP q r) (hv : q.1.length = nv) (ha : q.2.length = na) (hh : headB nv na s = true) (k : s.kind = 2) : shapeB r.1.length r.2.length 5 s.index = true := by rw [h.1, h.2, hv, ha]; exact hd_index hh k
end
end

abbrev raC (vs ars : List Int) (d : Nat) (bd ss : List LStmt) (cx : Int) : Ctr := ⟨95, [pA 0, .ref 3, iA cx], [.row 3 (.ints vs), .row 3 (.ints ars), dT bd, dT ss], [.row 3 (.ints (upB true d (vs, ars) cx ss).1), .row 3 (.ints (upB true d (vs, ars) cx ss).2), dT bd, dT ss], .tup []⟩
abbrev yRvT0 (d : Nat) (ss : List LStmt) (vs : List Int) (ars : List Int) (cx : Int) (k : Nat) := upB true d (upB true (d + 1) (vs, ars) cx (List.take k ss)) (orI cx (labE (upB true (d + 1) (vs, ars) cx (List.take k ss)).fst (upB true (d + 1) (vs, ars) cx (List.take k ss)).snd 5 (ss.getD k default).value)) (ss.getD k default).body
abbrev yRvT1 (d : Nat) (ss : List LStmt) (vs : List Int) (ars : List Int) (cx : Int) (k : Nat) := upB true (d + 1) (vs, ars) cx (List.take k ss)
abbrev yRvT2 (d : Nat) (ss : List LStmt) (vs : List Int) (ars : List Int) (cx : Int) (k : Nat) := upB true d (yRvT0 d ss vs ars cx k) (orI cx (labE (yRvT0 d ss vs ars cx k).fst (yRvT0 d ss vs ars cx k).snd 5 (ss.getD k default).value)) (ss.getD k default).els
set_option maxHeartbeats 4000000 in
set_option maxRecDepth 100000 in
theorem s_l4Raise (nv na d : Nat) (bd ss : List LStmt) (ih : ∀ (vs ars : List Int) (tt : List LStmt) (cx : Int), 0 < ss.length → vs.length = nv → ars.length = na → tt.all (stmtB nv na d) = true → Ctr.ok Try.prog (raC vs ars d bd tt cx))
    (vs ars : List Int) (cx : Int) (hv : vs.length = nv) (ha : ars.length = na) (hs : ss.all (stmtB nv na (d + 1)) = true) : Ctr.ok Try.prog (raC vs ars (d + 1) bd ss cx) := by
  refine rx_enter 94 Try.func95 (by rfl) (by kernel_rfl) (by kernel_rfl) ?_; intro ι φ ψ w0 w F ρ0 ρ a G; replace G := Gam.at G [.row 3 (D.ints vs), .row 3 (D.ints ars), dT bd, dT ss] [(0, pA 0), (1, .ref 3), (2, iA cx)]; have hlen : ss.length ≤ 9223372036854775807 := G.len 3 (d := .stmts ss) (by kernel_rfl); refine wp_seq ?_; refine rs0 G (rg 5) [.row 3 (D.ints vs), .row 3 (D.ints ars), dT bd, dT ss, .box (pL 0)] [(1, .ref 3), (2, iA cx), (3, .ptr 4 0)] fun ρ a w G => th_n (wp_seq ?_); refine rs0s G [(1, .ref 3), (2, iA cx), (3, .ptr 4 0), (6, iA 0)] fun ρ a w G => th_n (wp_block ?_); refine rx_for (κ := Nat) (fun k => k ≤ ss.length) (fun k => ss.length - k) (fun k => [.row 3 (.ints (upB true (d + 1) (vs, ars) cx (ss.take k)).1), .row 3 (.ints (upB true (d + 1) (vs, ars) cx (ss.take k)).2), dT bd, dT ss, .box (pL 0)]) (fun k => [(1, .ref 3), (2, iA cx), (3, .ptr 4 0), (6, iA k)]) (0) (by simp [hs]) (Gam.at G _ _) ?_; clear G; intro k ρ a w hp G; replace G := Gam.at G [.row 3 (D.ints (yRvT1 d ss vs ars cx k).fst), .row 3 (D.ints (yRvT1 d ss vs ars cx k).snd), dT bd, dT ss, .box (pL 0)] [(1, .ref 3), (2, iA cx), (3, .ptr 4 0), (6, iA (↑k : Int))]; have hsh : shP (vs, ars) (upB true (d + 1) (vs, ars) cx (ss.take k)) := upB_sh; refine wp_seq (wp_seq ?_); refine rs0s G [(1, .ref 3), (2, iA cx), (3, .ptr 4 0), (6, iA (↑k : Int)), (11, bA (decide ((↑k : Int) < (↑ss.length : Int))))] fun ρ a w G => th_n ?_; cases h0 : (decide ((↑k : Int) < (↑ss.length : Int)))
  · have q0 : ¬ ((↑k : Int) < (↑ss.length : Int)) := dFf h0; refine rF G (decide ((↑k : Int) < (↑ss.length : Int))) (by assumption) ?_; refine wp_exit (th_e (th_e (bl_hit ?_))); exact rx_retN (v := .tup []) G (rg 4) (by kernel_rfl) (by kernel_rfl) (by show _ = List.map (It.ren (nth (rg 4))) [.row 3 (D.ints (upB true (d + 1) (vs, ars) cx ss).fst), .row 3 (D.ints (upB true (d + 1) (vs, ars) cx ss).snd), dT bd, dT ss]; have e1 : ((upB true (d + 1) (vs, ars) cx ss).fst : List Int) = ((yRvT1 d ss vs ars cx k).fst) := (by exact congrArg Prod.fst (rn_end (by omega))); have e2 : ((upB true (d + 1) (vs, ars) cx ss).snd : List Int) = ((yRvT1 d ss vs ars cx k).snd) := (by exact congrArg Prod.snd (rn_end (by omega))); (first | rw [e1, e2] | simp only [e1, e2]) <;> rfl) (by kernel_rfl)
  ·
   have q0 : (↑k : Int) < (↑ss.length : Int) := dTt h0; refine rT G (decide ((↑k : Int) < (↑ss.length : Int))) (by assumption) ?_; refine wp_skip (th_n (wp_seq (wp_block (wp_seq ?_)))); refine rs1 (dk := dkP) G ⟨[], [], []⟩ calls_nil trivial [0, 1, 2, 3, 4, 29, 30, 31, 32, 37] [.row 3 (D.ints (yRvT1 d ss vs ars cx k).fst), .row 3 (D.ints (yRvT1 d ss vs ars cx k).snd), dT bd, dT ss, .box (pL 0), dE (ss.getD k default).index.kids, dE (ss.getD k default).value.kids, dT (ss.getD k default).body, dT (ss.getD k default).els, .box (sL (ss.getD k default) 5)] [(1, .ref 3), (2, iA cx), (3, .ptr 4 0), (6, iA (↑k : Int)), (7, .ptr 9 0)] [(0 : Int) ≤ (↑k : Int), (↑k : Int) < (↑ss.length : Int), k < ss.length] ⟨(by simp [hs, h0]), (by assumption), (by omega), trivial⟩ fun ρ a w G => th_n (wp_seq ?_); refine rs0s G [(1, .ref 3), (2, iA cx), (3, .ptr 4 0), (6, iA (↑k : Int)), (7, .ptr 9 0), (19, iA (ss.getD k default).kind)] fun ρ a w G => th_n (wp_block (wp_seq ?_)); refine rs0s G [(1, .ref 3), (2, iA cx), (3, .ptr 4 0), (6, iA (↑k : Int)), (7, .ptr 9 0), (19, iA (ss.getD k default).kind), (20, bA ((ss.getD k default).kind == 1))] fun ρ a w G => th_n ?_; cases h1 : ((ss.getD k default).kind == (1 : Int))
   ·
    have q1 : ¬ ((ss.getD k default).kind = 1) := ne_of_beq_false h1; refine rF G ((ss.getD k default).kind == (1 : Int)) (by assumption) ?_; refine wp_seq ?_; refine rs0s G [(1, .ref 3), (2, iA cx), (3, .ptr 4 0), (6, iA (↑k : Int)), (7, .ptr 9 0), (19, iA (ss.getD k default).kind), (40, bA ((ss.getD k default).kind == 2))] fun ρ a w G => th_n ?_; cases h2 : ((ss.getD k default).kind == (2 : Int))
    ·
     have q2 : ¬ ((ss.getD k default).kind = 2) := ne_of_beq_false h2; refine rF G ((ss.getD k default).kind == (2 : Int)) (by assumption) ?_; refine wp_seq ?_; refine rs0s G [(1, .ref 3), (2, iA cx), (3, .ptr 4 0), (6, iA (↑k : Int)), (7, .ptr 9 0), (19, iA (ss.getD k default).kind), (65, bA ((ss.getD k default).kind == 3))] fun ρ a w G => th_n ?_; cases h3 : ((ss.getD k default).kind == (3 : Int))
     ·
      have q3 : ¬ ((ss.getD k default).kind = 3) := ne_of_beq_false h3; refine rF G ((ss.getD k default).kind == (3 : Int)) (by assumption) ?_; refine wp_seq ?_; refine rs0s G [(1, .ref 3), (2, iA cx), (3, .ptr 4 0), (6, iA (↑k : Int)), (7, .ptr 9 0), (87, bA ((ss.getD k default).kind == 4))] fun ρ a w G => th_n ?_; cases h4 : ((ss.getD k default).kind == (4 : Int))
      · have q4 : ¬ ((ss.getD k default).kind = 4) := ne_of_beq_false h4; refine rF G ((ss.getD k default).kind == (4 : Int)) (by assumption) ?_; refine wp_skip ?_; refine bl_n ?_; refine bl_n ?_; refine th_n ?_; refine rs1 (dk := dkP) G ⟨[], [], []⟩ calls_nil trivial (rg 5) [.row 3 (D.ints (yRvT1 d ss vs ars cx k).fst), .row 3 (D.ints (yRvT1 d ss vs ars cx k).snd), dT bd, dT ss, .box (pL 0)] [(1, .ref 3), (2, iA cx), (3, .ptr 4 0), (6, iA ((↑k : Int) + 1))] [IntKind.i64.wrap ((↑k : Int) + (1 : Int)) = (↑k : Int) + (1 : Int)] ⟨(by exact w64 (by omega) (by omega)), trivial⟩ fun ρ a w G => th_n ?_; exact rx_next G (k + 1) (by omega) (by omega) (rg 5) [.row 3 (D.ints (upB true (d + 1) (vs, ars) cx (List.take (k + 1) ss)).fst), .row 3 (D.ints (upB true (d + 1) (vs, ars) cx (List.take (k + 1) ss)).snd), dT bd, dT ss, .box (pL 0)] [(1, .ref 3), (2, iA cx), (3, .ptr 4 0), (6, iA (↑(k + 1) : Int))] (by kernel_rfl) (by kernel_rfl) (by kernel_rfl) (by have e1 : ((upB true (d + 1) (vs, ars) cx (List.take (k + 1) ss)).fst : List Int) = ((yRvT1 d ss vs ars cx k).fst) := (by exact congrArg Prod.fst (rn0 hs (by omega) (by omega) (by omega) (by omega) (by omega))); have e2 : ((upB true (d + 1) (vs, ars) cx (List.take (k + 1) ss)).snd : List Int) = ((yRvT1 d ss vs ars cx k).snd) := (by exact congrArg Prod.snd (rn0 hs (by omega) (by omega) (by omega) (by omega) (by omega))); (first | rw [e1, e2] | simp only [e1, e2]) <;> rfl) (by kernel_rfl)
      · have q4 : (ss.getD k default).kind = 4 := eq_of_beq h4; refine rT G ((ss.getD k default).kind == (4 : Int)) (by assumption) ?_; refine rs1 (dk := dkP) G ⟨[(4, _, [0, 1, 2, 7])], [], []⟩ (calls_cons (ih ((yRvT1 d ss vs ars cx k).fst) ((yRvT1 d ss vs ars cx k).snd) ((ss.getD k default).body) (cx) (by omega) (by exact hsh.1.trans hv) (by exact hsh.2.trans ha) (by exact (bl_at hs (by omega)).2.1)) calls_nil) trivial (rg 5) [.row 3 (D.ints (upB true d (yRvT1 d ss vs ars cx k) cx (ss.getD k default).body).fst), .row 3 (D.ints (upB true d (yRvT1 d ss vs ars cx k) cx (ss.getD k default).body).snd), dT bd, dT ss, .box (pL 0)] [(1, .ref 3), (2, iA cx), (3, .ptr 4 0), (6, iA (↑k : Int))] [] trivial ?_; intro ρ a w G; refine bl_n ?_; refine bl_n ?_; refine th_n ?_; refine rs1s G ⟨[], [], []⟩ calls_nil trivial [(1, .ref 3), (2, iA cx), (3, .ptr 4 0), (6, iA ((↑k : Int) + 1))] [IntKind.i64.wrap ((↑k : Int) + (1 : Int)) = (↑k : Int) + (1 : Int)] ⟨(by exact w64 (by omega) (by omega)), trivial⟩ fun ρ a w G => th_n ?_; exact rx_next G (k + 1) (by omega) (by omega) (rg 5) [.row 3 (D.ints (upB true (d + 1) (vs, ars) cx (List.take (k + 1) ss)).fst), .row 3 (D.ints (upB true (d + 1) (vs, ars) cx (List.take (k + 1) ss)).snd), dT bd, dT ss, .box (pL 0)] [(1, .ref 3), (2, iA cx), (3, .ptr 4 0), (6, iA (↑(k + 1) : Int))] (by kernel_rfl) (by kernel_rfl) (by kernel_rfl) (by have e1 : ((upB true (d + 1) (vs, ars) cx (List.take (k + 1) ss)).fst : List Int) = ((upB true d (yRvT1 d ss vs ars cx k) cx (ss.getD k default).body).fst) := (by exact congrArg Prod.fst (rn4 hs (by omega) (by omega))); have e2 : ((upB true (d + 1) (vs, ars) cx (List.take (k + 1) ss)).snd : List Int) = ((upB true d (yRvT1 d ss vs ars cx k) cx (ss.getD k default).body).snd) := (by exact congrArg Prod.snd (rn4 hs (by omega) (by omega))); (first | rw [e1, e2] | simp only [e1, e2]) <;> rfl) (by kernel_rfl)
     · have q3 : (ss.getD k default).kind = 3 := eq_of_beq h3; refine rT G ((ss.getD k default).kind == (3 : Int)) (by assumption) ?_; refine wp_seq ?_; refine rd1 (dk := dkP) G ⟨[(7, _, [0, 1, 2, 6]), (9, _, [0, 1, 2, 7])], [], []⟩ (calls_cons (Ctr.lend (c_l4LabelV ((yRvT1 d ss vs ars cx k).fst) ((yRvT1 d ss vs ars cx k).snd) (bd) ((ss.getD k default).value) (by exact sh_val hsh hv ha (bl_at hs (by omega)).1 (by omega))) [.row 3, .row 3]) (calls_cons (ih ((yRvT1 d ss vs ars cx k).fst) ((yRvT1 d ss vs ars cx k).snd) ((ss.getD k default).body) (orI cx (labE (yRvT1 d ss vs ars cx k).fst (yRvT1 d ss vs ars cx k).snd 5 (ss.getD k default).value)) (by omega) (by exact hsh.1.trans hv) (by exact hsh.2.trans ha) (by exact (bl_at hs (by omega)).2.1)) calls_nil)) trivial [0, 0, 2, 0, 0, 0, 32, 112, 248, 511] (rg 10) [.row 3 (D.ints (yRvT0 d ss vs ars cx k).fst), .row 3 (D.ints (yRvT0 d ss vs ars cx k).snd), dT bd, dT ss, .box (pL 0), dE (ss.getD k default).index.kids, dE (ss.getD k default).value.kids, dT (ss.getD k default).body, dT (ss.getD k default).els, .box (sL (ss.getD k default) 5)] [(1, .ref 3), (2, iA cx), (3, .ptr 4 0), (6, iA (↑k : Int)), (7, .ptr 9 0)] [] trivial fun ρ a w G => th_n ?_; refine rd1 (dk := dkP) G ⟨[(7, _, [0, 1, 2, 6]), (9, _, [0, 1, 2, 8])], [], []⟩ (calls_cons (Ctr.lend (c_l4LabelV ((yRvT0 d ss vs ars cx k).fst) ((yRvT0 d ss vs ars cx k).snd) (bd) ((ss.getD k default).value) (by exact sh_val (hsh.trans upB_sh) hv ha (bl_at hs (by omega)).1 (by omega))) [.row 3, .row 3]) (calls_cons (ih ((yRvT0 d ss vs ars cx k).fst) ((yRvT0 d ss vs ars cx k).snd) ((ss.getD k default).els) (orI cx (labE (yRvT0 d ss vs ars cx k).fst (yRvT0 d ss vs ars cx k).snd 5 (ss.getD k default).value)) (by omega) (by exact (hsh.trans upB_sh).1.trans hv) (by exact (hsh.trans upB_sh).2.trans ha) (by exact (bl_at hs (by omega)).2.2)) calls_nil)) trivial [0, 0, 2, 0, 0, 0, 32, 112, 248, 511] (rg 5) [.row 3 (D.ints (yRvT2 d ss vs ars cx k).fst), .row 3 (D.ints (yRvT2 d ss vs ars cx k).snd), dT bd, dT ss, .box (pL 0)] [(1, .ref 3), (2, iA cx), (3, .ptr 4 0), (6, iA (↑k : Int))] [] trivial ?_; intro ρ a w G; refine bl_n ?_; refine bl_n ?_; refine th_n ?_; refine rs1s G ⟨[], [], []⟩ calls_nil trivial [(1, .ref 3), (2, iA cx), (3, .ptr 4 0), (6, iA ((↑k : Int) + 1))] [IntKind.i64.wrap ((↑k : Int) + (1 : Int)) = (↑k : Int) + (1 : Int)] ⟨(by exact w64 (by omega) (by omega)), trivial⟩ fun ρ a w G => th_n ?_; exact rx_next G (k + 1) (by omega) (by omega) (rg 5) [.row 3 (D.ints (upB true (d + 1) (vs, ars) cx (List.take (k + 1) ss)).fst), .row 3 (D.ints (upB true (d + 1) (vs, ars) cx (List.take (k + 1) ss)).snd), dT bd, dT ss, .box (pL 0)] [(1, .ref 3), (2, iA cx), (3, .ptr 4 0), (6, iA (↑(k + 1) : Int))] (by kernel_rfl) (by kernel_rfl) (by kernel_rfl) (by have e1 : ((upB true (d + 1) (vs, ars) cx (List.take (k + 1) ss)).fst : List Int) = ((yRvT2 d ss vs ars cx k).fst) := (by exact congrArg Prod.fst (rn3 (by omega) (by omega))); have e2 : ((upB true (d + 1) (vs, ars) cx (List.take (k + 1) ss)).snd : List Int) = ((yRvT2 d ss vs ars cx k).snd) := (by exact congrArg Prod.snd (rn3 (by omega) (by omega))); (first | rw [e1, e2] | simp only [e1, e2]) <;> rfl) (by kernel_rfl)
    · have q2 : (ss.getD k default).kind = 2 := eq_of_beq h2; refine rT G ((ss.getD k default).kind == (2 : Int)) (by assumption) ?_; refine rd1 (dk := dkP) G ⟨[(13, _, [0, 1, 2, 6]), (18, _, [0, 1, 2, 5])], [], []⟩ (calls_cons (Ctr.lend (c_l4LabelV ((yRvT1 d ss vs ars cx k).fst) ((yRvT1 d ss vs ars cx k).snd) (bd) ((ss.getD k default).value) (by exact sh_val hsh hv ha (bl_at hs (by omega)).1 (by omega))) [.row 3, .row 3]) (calls_cons (Ctr.lend (c_l4LabelV ((yRvT1 d ss vs ars cx k).fst) ((yRvT1 d ss vs ars cx k).snd) (bd) ((ss.getD k default).index) (by exact sh_idx hsh hv ha (bl_at hs (by omega)).1 (by omega))) [.row 3, .row 3]) calls_nil)) trivial [0, 1, 0, 4, 0, 16, 0, 64, 240, 496, 0, 0, 2048, 7168, 16368, 0, 0, 65536, 244736, 524272, 0, 2097136, 4194303, 8388607] (rg 5) [.row 3 (D.ints (yRvT1 d ss vs ars cx k).fst), .row 3 (D.ints ((yRvT1 d ss vs ars cx k).snd.set (ss.getD k default).target.toNat (orI (orI (orI ((yRvT1 d ss vs ars cx k).snd.getD (ss.getD k default).target.toNat 0) (labE (yRvT1 d ss vs ars cx k).fst (yRvT1 d ss vs ars cx k).snd 5 (ss.getD k default).value)) (labE (yRvT1 d ss vs ars cx k).fst (yRvT1 d ss vs ars cx k).snd 5 (ss.getD k default).index)) cx))), dT bd, dT ss, .box (pL 0)] [(1, .ref 3), (2, iA cx), (3, .ptr 4 0), (6, iA (↑k : Int))] [(0 : Int) ≤ (ss.getD k default).target, (ss.getD k default).target < (↑(upB true (d + (1 : Nat)) (vs, ars) cx (List.take k ss)).snd.length : Int), (ss.getD k default).target.toNat < (upB true (d + (1 : Nat)) (vs, ars) cx (List.take k ss)).snd.length, (0 : Int) ≤ (ss.getD k default).target, (ss.getD k default).target < (↑(upB true (d + (1 : Nat)) (vs, ars) cx (List.take k ss)).snd.length : Int), (ss.getD k default).target.toNat < (upB true (d + (1 : Nat)) (vs, ars) cx (List.take k ss)).snd.length] ⟨(by have h9 := hd_arr (bl_at (k := k) hs (by omega)).1 (by omega); have h8 := hsh.2.trans ha; omega), (by have h9 := hd_arr (bl_at (k := k) hs (by omega)).1 (by omega); have h8 := hsh.2.trans ha; omega), (by have h9 := hd_arr (bl_at (k := k) hs (by omega)).1 (by omega); have h8 := hsh.2.trans ha; omega), (by have h9 := hd_arr (bl_at (k := k) hs (by omega)).1 (by omega); have h8 := hsh.2.trans ha; omega), (by have h9 := hd_arr (bl_at (k := k) hs (by omega)).1 (by omega); have h8 := hsh.2.trans ha; omega), (by have h9 := hd_arr (bl_at (k := k) hs (by omega)).1 (by omega); have h8 := hsh.2.trans ha; omega), trivial⟩ ?_; intro ρ a w G; refine bl_n ?_; refine bl_n ?_; refine th_n ?_; refine rs1s G ⟨[], [], []⟩ calls_nil trivial [(1, .ref 3), (2, iA cx), (3, .ptr 4 0), (6, iA ((↑k : Int) + 1))] [IntKind.i64.wrap ((↑k : Int) + (1 : Int)) = (↑k : Int) + (1 : Int)] ⟨(by exact w64 (by omega) (by omega)), trivial⟩ fun ρ a w G => th_n ?_; exact rx_next G (k + 1) (by have h9 := hd_arr (bl_at (k := k) hs (by omega)).1 (by omega); have h8 := hsh.2.trans ha; omega) (by have h9 := hd_arr (bl_at (k := k) hs (by omega)).1 (by omega); have h8 := hsh.2.trans ha; omega) (rg 5) [.row 3 (D.ints (upB true (d + 1) (vs, ars) cx (List.take (k + 1) ss)).fst), .row 3 (D.ints (upB true (d + 1) (vs, ars) cx (List.take (k + 1) ss)).snd), dT bd, dT ss, .box (pL 0)] [(1, .ref 3), (2, iA cx), (3, .ptr 4 0), (6, iA (↑(k + 1) : Int))] (by kernel_rfl) (by kernel_rfl) (by kernel_rfl) (by have e1 : ((upB true (d + 1) (vs, ars) cx (List.take (k + 1) ss)).fst : List Int) = ((upB true (d + 1) (vs, ars) cx (List.take k ss)).fst) := (by have h9 := congrArg Prod.fst (rn2 (q := (vs, ars)) (cx := cx) hs (show k < _ by omega) (by omega)); exact h9); have e2 : ((upB true (d + 1) (vs, ars) cx (List.take (k + 1) ss)).snd : List Int) = ((yRvT1 d ss vs ars cx k).snd.set (ss.getD k default).target.toNat (orI (orI (orI ((yRvT1 d ss vs ars cx k).snd.getD (ss.getD k default).target.toNat 0) (labE (yRvT1 d ss vs ars cx k).fst (yRvT1 d ss vs ars cx k).snd 5 (ss.getD k default).value)) (labE (yRvT1 d ss vs ars cx k).fst (yRvT1 d ss vs ars cx k).snd 5 (ss.getD k default).index)) cx)) := (by exact congrArg Prod.snd (rn2 hs (by omega) (by omega))); (first | rw [e1, e2] | simp only [e1, e2]) <;> rfl) (by kernel_rfl)
   · have q1 : (ss.getD k default).kind = 1 := eq_of_beq h1; refine rT G ((ss.getD k default).kind == (1 : Int)) (by assumption) ?_; refine rd1 (dk := dkP) G ⟨[(13, _, [0, 1, 2, 6])], [], []⟩ (calls_cons (Ctr.lend (c_l4LabelV ((yRvT1 d ss vs ars cx k).fst) ((yRvT1 d ss vs ars cx k).snd) (bd) ((ss.getD k default).value) (by exact sh_val hsh hv ha (bl_at hs (by omega)).1 (by omega))) [.row 3, .row 3]) calls_nil) trivial [0, 1, 0, 4, 0, 16, 0, 64, 240, 496, 0, 0, 2048, 7168, 16368, 0, 65520, 131071, 262143] (rg 5) [.row 3 (D.ints ((yRvT1 d ss vs ars cx k).fst.set (ss.getD k default).target.toNat (orI (orI ((yRvT1 d ss vs ars cx k).fst.getD (ss.getD k default).target.toNat 0) (labE (yRvT1 d ss vs ars cx k).fst (yRvT1 d ss vs ars cx k).snd 5 (ss.getD k default).value)) cx))), .row 3 (D.ints (yRvT1 d ss vs ars cx k).snd), dT bd, dT ss, .box (pL 0)] [(1, .ref 3), (2, iA cx), (3, .ptr 4 0), (6, iA (↑k : Int))] [(0 : Int) ≤ (ss.getD k default).target, (ss.getD k default).target < (↑(upB true (d + (1 : Nat)) (vs, ars) cx (List.take k ss)).fst.length : Int), (ss.getD k default).target.toNat < (upB true (d + (1 : Nat)) (vs, ars) cx (List.take k ss)).fst.length, (0 : Int) ≤ (ss.getD k default).target, (ss.getD k default).target < (↑(upB true (d + (1 : Nat)) (vs, ars) cx (List.take k ss)).fst.length : Int), (ss.getD k default).target.toNat < (upB true (d + (1 : Nat)) (vs, ars) cx (List.take k ss)).fst.length] ⟨(by have h9 := hd_var (bl_at (k := k) hs (by omega)).1 (by omega); have h8 := hsh.1.trans hv; omega), (by have h9 := hd_var (bl_at (k := k) hs (by omega)).1 (by omega); have h8 := hsh.1.trans hv; omega), (by have h9 := hd_var (bl_at (k := k) hs (by omega)).1 (by omega); have h8 := hsh.1.trans hv; omega), (by have h9 := hd_var (bl_at (k := k) hs (by omega)).1 (by omega); have h8 := hsh.1.trans hv; omega), (by have h9 := hd_var (bl_at (k := k) hs (by omega)).1 (by omega); have h8 := hsh.1.trans hv; omega), (by have h9 := hd_var (bl_at (k := k) hs (by omega)).1 (by omega); have h8 := hsh.1.trans hv; omega), trivial⟩ ?_; intro ρ a w G; refine bl_n ?_; refine bl_n ?_; refine th_n ?_; refine rs1s G ⟨[], [], []⟩ calls_nil trivial [(1, .ref 3), (2, iA cx), (3, .ptr 4 0), (6, iA ((↑k : Int) + 1))] [IntKind.i64.wrap ((↑k : Int) + (1 : Int)) = (↑k : Int) + (1 : Int)] ⟨(by exact w64 (by omega) (by omega)), trivial⟩ fun ρ a w G => th_n ?_; exact rx_next G (k + 1) (by have h9 := hd_var (bl_at (k := k) hs (by omega)).1 (by omega); have h8 := hsh.1.trans hv; omega) (by have h9 := hd_var (bl_at (k := k) hs (by omega)).1 (by omega); have h8 := hsh.1.trans hv; omega) (rg 5) [.row 3 (D.ints (upB true (d + 1) (vs, ars) cx (List.take (k + 1) ss)).fst), .row 3 (D.ints (upB true (d + 1) (vs, ars) cx (List.take (k + 1) ss)).snd), dT bd, dT ss, .box (pL 0)] [(1, .ref 3), (2, iA cx), (3, .ptr 4 0), (6, iA (↑(k + 1) : Int))] (by kernel_rfl) (by kernel_rfl) (by kernel_rfl) (by have e1 : ((upB true (d + 1) (vs, ars) cx (List.take (k + 1) ss)).fst : List Int) = ((yRvT1 d ss vs ars cx k).fst.set (ss.getD k default).target.toNat (orI (orI ((yRvT1 d ss vs ars cx k).fst.getD (ss.getD k default).target.toNat 0) (labE (yRvT1 d ss vs ars cx k).fst (yRvT1 d ss vs ars cx k).snd 5 (ss.getD k default).value)) cx)) := (by exact congrArg Prod.fst (rn1 hs (by omega) (by omega))); have e2 : ((upB true (d + 1) (vs, ars) cx (List.take (k + 1) ss)).snd : List Int) = ((upB true (d + 1) (vs, ars) cx (List.take k ss)).snd) := (by have h9 := congrArg Prod.snd (rn1 (q := (vs, ars)) (cx := cx) hs (show k < _ by omega) (by omega)); exact h9); (first | rw [e1, e2] | simp only [e1, e2]) <;> rfl) (by kernel_rfl)

theorem c_l4RaiseD (nv na : Nat) (bd : List LStmt) : ∀ (d : Nat) (vs ars : List Int) (ss : List LStmt) (cx : Int), vs.length = nv → ars.length = na → ss.all (stmtB nv na d) = true → Ctr.ok Try.prog (raC vs ars d bd ss cx) := by
  intro d
  induction d with
  | zero =>
    intro vs ars ss cx hv ha hs
    have h0 : ss = [] := by
      cases ss with
      | nil => rfl
      | cons a r => simp [stmtB] at hs
    subst h0
    exact s_l4Raise nv na 0 bd [] (fun _ _ _ _ h => absurd h (by simp)) vs ars cx hv ha rfl
  | succ d ih => intro vs ars ss cx hv ha hs; exact s_l4Raise nv na d bd ss (fun vs ars tt cx _ h1 h2 h3 => ih vs ars tt cx h1 h2 h3) vs ars cx hv ha hs
theorem c_l4RaiseP (vs ars : List Int) (b : List LStmt) (hs : b.all (stmtB vs.length ars.length 5) = true) : Ctr.ok Try.prog ⟨95, [pA 0, .ref 2, iA 0], [.row 3 (.ints vs), .row 3 (.ints ars), dT b], [.row 3 (.ints (upB true 5 (vs, ars) 0 b).1), .row 3 (.ints (upB true 5 (vs, ars) 0 b).2), dT b], .tup []⟩ :=
  Ctr.dup (S := [.row 3 (.ints vs), .row 3 (.ints ars), dT b]) (S' := [.row 3 (.ints (upB true 5 (vs, ars) 0 b).1), .row 3 (.ints (upB true 5 (vs, ars) 0 b).2), dT b]) (d := .stmts b) (i := 2) (c_l4RaiseD _ _ b 5 vs ars b 0 rfl rfl hs) rfl rfl rfl (fun ρ h => by simp only [AV.vals, AV.val]; rw [show ρ 3 = ρ 2 from h]) rfl


def okI (p : LProg) : Bool := progB p && decide ((ckR ⟨(infL p).1, (infL p).2, p.body⟩ false).1 = 0)
def infR (p : LProg) : LProg := if okI p = true then ⟨(infL p).1, (infL p).2, p.body⟩ else ⟨[], [], []⟩
theorem prog_len {p : LProg} (h : progB p = true) : p.vars.length + p.arrays.length ≤ 14 := by
  unfold progB headsB at h
  simp only [Bool.and_eq_true, decide_eq_true_eq] at h
  omega
section
variable {p : LProg} {q : Lab} {b : List LStmt} {X : Lab}
theorem same_true (h : (decide (X.1 = q.1) && (decide (X.2 = q.2) && sameSs b b)) = true) : X = q := by
  simp only [Bool.and_eq_true, decide_eq_true_eq] at h
  exact Prod.ext h.1 h.2.1
theorem same_false (h : (decide (X.1 = q.1) && (decide (X.2 = q.2) && sameSs b b)) = false) : ¬ X = q := fun e => by
  subst e
  rw [(sameSs_eq b b).2 rfl] at h
  simp at h
theorem inf_less {f : Bool} (hp : progB p = true) (h : InfW p.body (p.vars, p.arrays) q) (hne : ¬ upB f 5 q 0 p.body = q) : 100 - sumP (upB f 5 q 0 p.body) < 100 - sumP q := by
  have h1 := infW_step (f := f) h
  have h2 := sumP_lt upB_sh h.2.1 h1.2.1 upB_infl hne
  have h3 := sumP_max h1.2.1
  have h4 := prog_len hp
  rw [h1.1.1, h1.1.2] at h3
  simp only at h3
  omega
theorem inf_fit (hb : p.size ≤ 1048576) (h : InfW p.body (p.vars, p.arrays) q) : q.1.length + q.2.length + szSs p.body ≤ 1048576 := by
  have h1 := h.1.1
  have h2 := h.1.2
  unfold LProg.size at hb
  simp only at h1 h2
  omega
theorem inf_valid (hp : progB p = true) (h : InfW p.body (p.vars, p.arrays) q) : p.body.all (stmtB q.1.length q.2.length 5) = true := by
  rw [h.1.1, h.1.2]; exact (progB_all hp).1
theorem okI_no (h : progB p = false) : okI p = false := by unfold okI; rw [h]; rfl
theorem okI_at (hp : progB p = true) (h : InfW p.body (p.vars, p.arrays) q) (hf : upB true 5 q 0 p.body = q) : okI p = decide ((ckR ⟨q.1, q.2, p.body⟩ false).1 = 0) := by
  unfold okI; rw [hp, infL_is hp (prog_len hp) h hf]; rfl
theorem infR_no (h : okI p = false) : infR p = ⟨[], [], []⟩ := by unfold infR; rw [h]; rfl
theorem infR_at (hp : progB p = true) (h : InfW p.body (p.vars, p.arrays) q) (hf : upB true 5 q 0 p.body = q) (hk : okI p = true) : infR p = ⟨q.1, q.2, p.body⟩ := by unfold infR; rw [hk, infL_is hp (prog_len hp) h hf]; rfl
theorem ok_t (hp : progB p = true) (h : InfW p.body (p.vars, p.arrays) q) (hf : upB true 5 q 0 p.body = q) (hc : (ckR ⟨q.1, q.2, p.body⟩ false).1 = 0) : okI p = true := by rw [okI_at hp h hf]; exact decide_eq_true hc
theorem ok_f (hp : progB p = true) (h : InfW p.body (p.vars, p.arrays) q) (hf : upB true 5 q 0 p.body = q) (hc : ¬ (ckR ⟨q.1, q.2, p.body⟩ false).1 = 0) : okI p = false := by rw [okI_at hp h hf]; exact decide_eq_false hc
end
abbrev yRvU0 (p : LProg) : List It := [dI p.vars, dI p.arrays, dT p.body, .row 3 (D.ints (infR p).vars), .row 3 (D.ints (infR p).arrays), .tree (D.stmts (infR p).body)]
abbrev yRvU1 : It := .box [.v (.slice none 0 0), .v (.slice none 0 0), .v (.slice none 0 0)]
abbrev yRvU2 : It := .box [.ref 4, .ref 5, .tref 6]
set_option maxHeartbeats 4000000 in
set_option maxRecDepth 100000 in
theorem c_InferLabels (p : LProg) (hb : p.size ≤ 1048576) : Ctr.ok Try.prog ⟨50, [pA 0], pS p, pS p ++ oP (infR p), .tup [oA 3, bA (okI p)]⟩ := by
  refine rx_enter 33 Try.func50 (by rfl) (by kernel_rfl) (by kernel_rfl) ?_; intro ι φ ψ w0 w F ρ0 ρ a G; replace G := Gam.at G [dI p.vars, dI p.arrays, dT p.body] [(0, pA 0)]
  have hb1 : p.vars.length ≤ 1048576 ∧ p.arrays.length ≤ 1048576 ∧ szSs p.body ≤ 1048576 := by unfold LProg.size at hb; omega
  refine wp_seq ?_; refine rs0 G [0, 1, 2, 3, 11] [dI p.vars, dI p.arrays, dT p.body, .box (pL 0), yRvU1] [(1, .ptr 3 0), (2, .ptr 4 0), (3, bA false)] fun ρ a w G => th_n (wp_seq (wp_seq ?_)); refine rs1s G ⟨[(1, _, [0, 1, 2])], [], []⟩ (calls_cons (c_ProgramValid (p) (by exact hb1.2.2)) calls_nil) trivial [(1, .ptr 3 0), (2, .ptr 4 0), (3, bA false), (10, .v (.bool !progB p))] [] trivial fun ρ a w G => th_n ?_; cases h0 : (!progB p)
  ·
   have q0 : (progB p) = true := (Eq.mp (Bool.not_eq_false' _) h0); refine rF G (!progB p) (by assumption) ?_; refine wp_skip (th_n (wp_seq ?_)); refine rs1 (dk := dkP) G ⟨[(1, _, [0, 1, 2])], [], []⟩ (calls_cons (c_l2Copy (p) (by assumption)) calls_nil) trivial [0, 1, 2, 4, 13, 14, 15, 21] [dI p.vars, dI p.arrays, dT p.body, yRvU1, .row 3 (D.ints p.vars), .row 3 (D.ints p.arrays), .tree (D.stmts p.body), yRvU2] [(2, .ptr 3 0), (3, bA false), (4, .ptr 7 0)] [] trivial fun ρ a w G => th_n (wp_seq (wp_block ?_)); refine rx_for (κ := Lab) (fun q => InfW p.body (p.vars, p.arrays) q) (fun q => 100 - sumP q) (fun q => [dI p.vars, dI p.arrays, dT p.body, yRvU1, .row 3 (.ints q.1), .row 3 (.ints q.2), .tree (D.stmts p.body), yRvU2]) (fun q => [(2, .ptr 3 0), (3, bA false), (4, .ptr 7 0)]) ((p.vars, p.arrays)) (by exact infW_start (labs_ok (by with_reducible assumption))) (Gam.at G _ _) ?_; clear G; intro q ρ a w hp G; replace G := Gam.at G [dI p.vars, dI p.arrays, dT p.body, yRvU1, .row 3 (D.ints q.fst), .row 3 (D.ints q.snd), .tree (D.stmts p.body), yRvU2] [(2, .ptr 3 0), (3, bA false), (4, .ptr 7 0)]; refine wp_block (wp_seq ?_); refine rs1 (dk := dkP) G ⟨[(1, _, [4, 5, 6])], [], []⟩ (calls_cons (Ctr.lend (c_l2CopyV (q.fst) (q.snd) (p.body) (by exact inf_fit hb (by with_reducible assumption))) [.row 3, .row 3, .tree]) calls_nil) trivial [0, 1, 2, 3, 4, 5, 6, 7, 16, 17, 18, 24] [dI p.vars, dI p.arrays, dT p.body, yRvU1, .row 3 (D.ints q.fst), .row 3 (D.ints q.snd), .tree (D.stmts p.body), yRvU2, .row 3 (D.ints q.fst), .row 3 (D.ints q.snd), .tree (D.stmts p.body), .box [.ref 8, .ref 9, .tref 10]] [(2, .ptr 3 0), (3, bA false), (4, .ptr 7 0), (5, .ptr 11 0)] [] trivial fun ρ a w G => th_n (wp_seq ?_); refine rs1 (dk := dkP) G ⟨[(3, _, [8, 9, 10])], [], []⟩ (calls_cons (Ctr.lend (c_l4RaiseP (q.fst) (q.snd) (p.body) (by exact inf_valid (by with_reducible assumption) (by with_reducible assumption))) [.no, .no, .tree]) calls_nil) trivial (rg 12) [dI p.vars, dI p.arrays, dT p.body, yRvU1, .row 3 (D.ints q.fst), .row 3 (D.ints q.snd), .tree (D.stmts p.body), yRvU2, .row 3 (D.ints (upB true 5 q 0 p.body).fst), .row 3 (D.ints (upB true 5 q 0 p.body).snd), .tree (D.stmts p.body), .box [.ref 8, .ref 9, .tref 10]] [(2, .ptr 3 0), (3, bA false), (4, .ptr 7 0), (5, .ptr 11 0)] [] trivial fun ρ a w G => th_n (wp_seq (wp_seq ?_)); refine rs1s G ⟨[(2, _, [8, 9, 10, 4, 5, 6])], [], []⟩ (calls_cons (Ctr.lend (c_ProgramSame ((upB true 5 q 0 p.body).fst) ((upB true 5 q 0 p.body).snd) (p.body) (q.fst) (q.snd) (p.body)) [.row 3, .row 3, .tree, .row 3, .row 3, .tree]) calls_nil) trivial [(2, .ptr 3 0), (3, bA false), (4, .ptr 7 0), (5, .ptr 11 0), (22, bA (decide ((upB true 5 q 0 p.body).fst = q.fst) && (decide ((upB true 5 q 0 p.body).snd = q.snd) && sameSs p.body p.body)))] [] trivial fun ρ a w G => th_n ?_; cases h1 : (decide ((upB true (5 : Nat) q (0 : Int) p.body).fst = q.fst) && (decide ((upB true (5 : Nat) q (0 : Int) p.body).snd = q.snd) && sameSs p.body p.body))
   · have q1 : (¬ ((upB true 5 q 0 p.body).fst = q.fst)) ∨ ((¬ ((upB true 5 q 0 p.body).snd = q.snd)) ∨ ((sameSs p.body p.body) = false)) := Or.imp (fun hq => of_decide_eq_false (hq)) (fun hq => Or.imp (fun hq => of_decide_eq_false (hq)) (fun hq => (hq)) (Bool.and_eq_false_iff.1 (hq))) (Bool.and_eq_false_iff.1 h1); refine rF G (decide ((upB true (5 : Nat) q (0 : Int) p.body).fst = q.fst) && (decide ((upB true (5 : Nat) q (0 : Int) p.body).snd = q.snd) && sameSs p.body p.body)) (by assumption) ?_; refine wp_skip (th_n ?_); refine rs0 G [0, 1, 2, 3, 7, 8, 9, 10] [dI p.vars, dI p.arrays, dT p.body, yRvU1, .box [.ref 5, .ref 6, .tref 7], .row 3 (D.ints (upB true 5 q 0 p.body).fst), .row 3 (D.ints (upB true 5 q 0 p.body).snd), .tree (D.stmts p.body)] [(2, .ptr 3 0), (3, bA false), (4, .ptr 4 0)] ?_; intro ρ a w G; refine bl_n ?_; refine th_n ?_; exact rx_next G (upB true 5 q 0 p.body) (by exact infW_step (by with_reducible assumption)) (by exact inf_less (by with_reducible assumption) (by with_reducible assumption) (same_false (by with_reducible assumption))) [0, 1, 2, 3, 5, 6, 7, 4] [dI p.vars, dI p.arrays, dT p.body, .box [.v (.slice none 0 0), .v (.slice none 0 0), .v (.slice none 0 0)], .row 3 (D.ints (upB true 5 q 0 p.body).fst), .row 3 (D.ints (upB true 5 q 0 p.body).snd), .tree (D.stmts p.body), .box [.ref 4, .ref 5, .tref 6]] [(2, .ptr 3 0), (3, bA false), (4, .ptr 7 0)] (by kernel_rfl) (by kernel_rfl) (by kernel_rfl) (by kernel_rfl) (by kernel_rfl)
   ·
    have q1 : ((upB true 5 q 0 p.body).fst = q.fst) ∧ (((upB true 5 q 0 p.body).snd = q.snd) ∧ ((sameSs p.body p.body) = true)) := And.imp (fun hq => of_decide_eq_true (hq)) (fun hq => And.imp (fun hq => of_decide_eq_true (hq)) (fun hq => (hq)) (Bool.and_eq_true_iff.1 (hq))) (Bool.and_eq_true_iff.1 h1); refine rT G (decide ((upB true (5 : Nat) q (0 : Int) p.body).fst = q.fst) && (decide ((upB true (5 : Nat) q (0 : Int) p.body).snd = q.snd) && sameSs p.body p.body)) (by assumption) ?_; refine wp_exit (th_e ?_); refine bl_miss (by kernel_rfl) ?_; refine th_e (bl_hit (th_n (wp_seq ?_))); refine rs1 (dk := dkP) G ⟨[(1, _, [4, 5, 6])], [], []⟩ (calls_cons (Ctr.lend (c_CheckFlowV (q.fst) (q.snd) (p.body) (by exact hb1.2.2)) [.row 3, .row 3, .tree]) calls_nil) trivial (rg 8) [dI p.vars, dI p.arrays, dT p.body, yRvU1, .row 3 (D.ints q.fst), .row 3 (D.ints q.snd), .tree (D.stmts p.body), yRvU2] [(2, .ptr 3 0), (3, bA false), (4, .ptr 7 0), (6, iA (ckR (LProg.mk q.fst q.snd p.body) false).fst)] [] trivial fun ρ a w G => th_n (wp_seq (wp_seq ?_)); refine rs0s G [(2, .ptr 3 0), (3, bA false), (4, .ptr 7 0), (30, bA ((ckR (LProg.mk q.fst q.snd p.body) false).fst != 0))] fun ρ a w G => th_n ?_; cases h2 : ((ckR (LProg.mk q.fst q.snd p.body) false).fst != (0 : Int))
    · have q2 : (ckR (LProg.mk q.fst q.snd p.body) false).fst = 0 := (by simpa using h2); refine rF G ((ckR (LProg.mk q.fst q.snd p.body) false).fst != (0 : Int)) (by assumption) ?_; refine wp_skip (th_n (wp_seq ?_)); refine rs0 G (rg 7) [dI p.vars, dI p.arrays, dT p.body, yRvU2, .row 3 (D.ints q.fst), .row 3 (D.ints q.snd), .tree (D.stmts p.body)] [(2, .ptr 3 0), (3, bA true)] fun ρ a w G => th_n (wp_ret ?_); exact rx_ret (v := .tup [.agg [.ref 4, .ref 5, .tref 6], bA true]) G [0, 1, 2, 4, 5, 6] (by kernel_rfl) (by kernel_rfl) (by show _ = List.map (It.ren (nth [0, 1, 2, 4, 5, 6])) (yRvU0 p); unfold yRvU0; rw [infR_at (by with_reducible assumption) (by with_reducible assumption) (same_true (by with_reducible assumption)) (ok_t (by with_reducible assumption) (by with_reducible assumption) (same_true (by with_reducible assumption)) (by with_reducible assumption))] <;> rfl) (by have e1 : (okI p : Bool) = (true) := (by exact ok_t (by with_reducible assumption) (by with_reducible assumption) (same_true (by with_reducible assumption)) (by with_reducible assumption)); (first | rw [e1] | simp only [e1]) <;> rfl)
    · have q2 : ¬ ((ckR (LProg.mk q.fst q.snd p.body) false).fst = 0) := bne_iff_ne.1 h2; refine rT G ((ckR (LProg.mk q.fst q.snd p.body) false).fst != (0 : Int)) (by assumption) ?_; refine wp_seq ?_; refine rs0s G [(2, .ptr 3 0), (3, bA false), (4, .ptr 7 0)] fun ρ a w G => th_n (wp_ret (th_r ?_)); have Gx := G.nil 8 3 (.ints []) 1 [dI p.vars, dI p.arrays, dT p.body, .box [.ref 8, .v (.slice none 0 0), .v (.slice none 0 0)], .row 3 (D.ints q.fst), .row 3 (D.ints q.snd), .tree (D.stmts p.body), yRvU2] [(2, .ptr 3 0), (3, bA false), (4, .ptr 7 0)]; clear G; obtain ⟨ρ, G⟩ := Gx; replace G := Gam.at G [dI p.vars, dI p.arrays, dT p.body, .box [.ref 8, .v (.slice none 0 0), .v (.slice none 0 0)], .row 3 (D.ints q.fst), .row 3 (D.ints q.snd), .tree (D.stmts p.body), yRvU2, .row 3 (D.ints [])] [(2, .ptr 3 0), (3, bA false), (4, .ptr 7 0)]; have Gx := G.nil 9 3 (.ints []) 1 [dI p.vars, dI p.arrays, dT p.body, .box [.ref 8, .ref 9, .v (.slice none 0 0)], .row 3 (D.ints q.fst), .row 3 (D.ints q.snd), .tree (D.stmts p.body), yRvU2, .row 3 (D.ints [])] [(2, .ptr 3 0), (3, bA false), (4, .ptr 7 0)]; clear G; obtain ⟨ρ, G⟩ := Gx; replace G := Gam.at G [dI p.vars, dI p.arrays, dT p.body, .box [.ref 8, .ref 9, .v (.slice none 0 0)], .row 3 (D.ints q.fst), .row 3 (D.ints q.snd), .tree (D.stmts p.body), yRvU2, .row 3 (D.ints []), .row 3 (D.ints [])] [(2, .ptr 3 0), (3, bA false), (4, .ptr 7 0)]; have Gx := G.nilT 10 (.stmts []) [dI p.vars, dI p.arrays, dT p.body, .box [.ref 8, .ref 9, .tref 10], .row 3 (D.ints q.fst), .row 3 (D.ints q.snd), .tree (D.stmts p.body), yRvU2, .row 3 (D.ints []), .row 3 (D.ints [])] [(2, .ptr 3 0), (3, bA false), (4, .ptr 7 0)]; clear G; obtain ⟨ρ, G⟩ := Gx; replace G := Gam.at G [dI p.vars, dI p.arrays, dT p.body, .box [.ref 8, .ref 9, .tref 10], .row 3 (D.ints q.fst), .row 3 (D.ints q.snd), .tree (D.stmts p.body), yRvU2, .row 3 (D.ints []), .row 3 (D.ints []), .tree (D.stmts [])] [(2, .ptr 3 0), (3, bA false), (4, .ptr 7 0)]; exact rx_ret (v := .tup [.agg [.ref 8, .ref 9, .tref 10], bA false]) G [0, 1, 2, 8, 9, 10] (by kernel_rfl) (by kernel_rfl) (by show _ = List.map (It.ren (nth [0, 1, 2, 8, 9, 10])) (yRvU0 p); unfold yRvU0; rw [infR_no (ok_f (by with_reducible assumption) (by with_reducible assumption) (same_true (by with_reducible assumption)) (by with_reducible assumption))] <;> rfl) (by have e1 : (okI p : Bool) = (false) := (by exact ok_f (by with_reducible assumption) (by with_reducible assumption) (same_true (by with_reducible assumption)) (by with_reducible assumption)); (first | rw [e1] | simp only [e1]) <;> rfl)
  · have q0 : (progB p) = false := (Eq.mp (Bool.not_eq_true' _) h0); refine rT G (!progB p) (by assumption) ?_; refine wp_seq ?_; refine rs0s G [(1, .ptr 3 0), (2, .ptr 4 0), (3, bA false)] fun ρ a w G => th_n (wp_ret (th_r ?_)); have Gx := G.nil 5 3 (.ints []) 1 [dI p.vars, dI p.arrays, dT p.body, .box (pL 0), .box [.ref 5, .v (.slice none 0 0), .v (.slice none 0 0)]] [(1, .ptr 3 0), (2, .ptr 4 0), (3, bA false)]; clear G; obtain ⟨ρ, G⟩ := Gx; replace G := Gam.at G [dI p.vars, dI p.arrays, dT p.body, .box (pL 0), .box [.ref 5, .v (.slice none 0 0), .v (.slice none 0 0)], .row 3 (D.ints [])] [(1, .ptr 3 0), (2, .ptr 4 0), (3, bA false)]; have Gx := G.nil 6 3 (.ints []) 1 [dI p.vars, dI p.arrays, dT p.body, .box (pL 0), .box [.ref 5, .ref 6, .v (.slice none 0 0)], .row 3 (D.ints [])] [(1, .ptr 3 0), (2, .ptr 4 0), (3, bA false)]; clear G; obtain ⟨ρ, G⟩ := Gx; replace G := Gam.at G [dI p.vars, dI p.arrays, dT p.body, .box (pL 0), .box [.ref 5, .ref 6, .v (.slice none 0 0)], .row 3 (D.ints []), .row 3 (D.ints [])] [(1, .ptr 3 0), (2, .ptr 4 0), (3, bA false)]; have Gx := G.nilT 7 (.stmts []) [dI p.vars, dI p.arrays, dT p.body, .box (pL 0), .box [.ref 5, .ref 6, .tref 7], .row 3 (D.ints []), .row 3 (D.ints [])] [(1, .ptr 3 0), (2, .ptr 4 0), (3, bA false)]; clear G; obtain ⟨ρ, G⟩ := Gx; replace G := Gam.at G [dI p.vars, dI p.arrays, dT p.body, .box (pL 0), .box [.ref 5, .ref 6, .tref 7], .row 3 (D.ints []), .row 3 (D.ints []), .tree (D.stmts [])] [(1, .ptr 3 0), (2, .ptr 4 0), (3, bA false)]; exact rx_ret (v := .tup [.agg [.ref 5, .ref 6, .tref 7], bA false]) G [0, 1, 2, 5, 6, 7] (by kernel_rfl) (by kernel_rfl) (by show _ = List.map (It.ren (nth [0, 1, 2, 5, 6, 7])) (yRvU0 p); unfold yRvU0; rw [infR_no (okI_no (by with_reducible assumption))] <;> rfl) (by have e1 : (okI p : Bool) = (false) := (by exact okI_no (by with_reducible assumption)); (first | rw [e1] | simp only [e1]) <;> rfl)


abbrev nvL : List Int := [3] ++ ([4] ++ ([2] ++ ([5] ++ [])))
abbrev viL : List Int := [0] ++ ([1] ++ ([0] ++ ([1] ++ ([2] ++ ([3] ++ [])))))
abbrev naL : List Int := [1] ++ ([2] ++ ([0] ++ ([1] ++ [])))
abbrev aiL : List Int := [0] ++ ([1] ++ ([0] ++ ([1] ++ ([3] ++ []))))
abbrev nbL : List Int := [2] ++ ([3] ++ ([1] ++ ([4] ++ [])))
def nsD (b : List UInt8) (l : List Int) (n : Nat) (k : Int) : List Int := (List.range n).map fun (i : Nat) => nm b (k + (i : Int)) l
theorem nsD_len (b : List UInt8) (l : List Int) (n : Nat) (k : Int) : (nsD b l n k).length = n := by simp [nsD]
theorem nsD_succ (b : List UInt8) (l : List Int) (n : Nat) (k : Int) : nsD b l (n + 1) k = nsD b l n k ++ [nm b (k + (n : Int)) l] := by
  unfold nsD; rw [List.range_succ, List.map_append]; rfl
def kp1 (b : List UInt8) (k : Int) : Int := k + 1 + nm b k nvL
def kp2 (b : List UInt8) (k : Int) : Int := kp1 b k + 1 + nm b (kp1 b k) naL
def vsD (b : List UInt8) (k : Int) : List Int := nsD b viL (nm b k nvL).toNat (k + 1)
def asD (b : List UInt8) (k : Int) : List Int := nsD b aiL (nm b (kp1 b k) naL).toNat (kp1 b k + 1)
def bdD (b : List UInt8) (k : Int) : List LStmt × Int := drN (stD b (vsD b k).length (asD b k).length 3) (nm b (kp2 b k) nbL).toNat (kp2 b k + 1)
def rwD (b : List UInt8) (k : Int) : LProg := ⟨vsD b k, asD b k, (bdD b k).1⟩
def fbP : LProg := ⟨[0, 1], [], [⟨1, 1, noE, ⟨2, 0, []⟩, 0, [], []⟩]⟩
def pgD (b : List UInt8) (k : Int) : LProg := if progB (rwD b k) = true then rwD b k else fbP
section
variable (b : List UInt8) {k : Int}
theorem nv_r (hk : 0 ≤ k) (hk2 : k ≤ 1000000000) : 0 ≤ nm b k nvL ∧ nm b k nvL ≤ 5 := rg_of b (by simp) (by simp) hk hk2
theorem nb_r (hk : 0 ≤ k) (hk2 : k ≤ 1000000000) : 0 ≤ nm b k nbL ∧ nm b k nbL ≤ 4 := rg_of b (by simp) (by simp) hk hk2
theorem na_r (hk : 0 ≤ k) (hk2 : k ≤ 1000000000) : 0 ≤ nm b k naL ∧ nm b k naL ≤ 2 := rg_of b (by simp) (by simp) hk hk2
theorem kp1_b (hk : 0 ≤ k) (hk2 : k ≤ 100000) : k + 1 ≤ kp1 b k ∧ kp1 b k ≤ k + 6 := by
  have := nv_r b hk (by omega); unfold kp1; omega
theorem kp2_b (hk : 0 ≤ k) (hk2 : k ≤ 100000) : k + 2 ≤ kp2 b k ∧ kp2 b k ≤ k + 9 := by
  have h1 := kp1_b b hk hk2
  have := na_r b (k := kp1 b k) (by omega) (by omega); unfold kp2; omega
theorem cS3 : cS 3 = 34170 ∧ cS 2 = 8442 := by decide
theorem drw3 (nv na : Nat) : Drw (stD b nv na 3) 34170 := fun j h1 h2 => by
  have e := cS3.1
  have h3 := stD_b b nv na 3 j h1 (by omega)
  have h4 := stD_sz b nv na 3 j h1 (by omega)
  omega
theorem bdD_b (hk : 0 ≤ k) (hk2 : k ≤ 100000) : kp2 b k ≤ (bdD b k).2 ∧ (bdD b k).2 ≤ k + 150000 ∧ szSs (bdD b k).1 ≤ 150000 := by
  have h1 := kp2_b b hk hk2
  have h2 := nb_r b (k := kp2 b k) (by omega) (by omega)
  have h3 := drN_sz (f := stD b (vsD b k).length (asD b k).length 3) (by omega) (drw3 b _ _) (nm b (kp2 b k) nbL).toNat (kp2 b k + 1) (by omega) (by omega)
  unfold bdD
  omega
theorem vs_len (hk : 0 ≤ k) (hk2 : k ≤ 100000) : (vsD b k).length ≤ 5 := by
  have := nv_r b hk (by omega); unfold vsD; rw [nsD_len]; omega
theorem as_len (hk : 0 ≤ k) (hk2 : k ≤ 100000) : (asD b k).length ≤ 2 := by
  have h1 := kp1_b b hk hk2
  have := na_r b (k := kp1 b k) (by omega) (by omega); unfold asD; rw [nsD_len]; omega
theorem pgD_sz (hk : 0 ≤ k) (hk2 : k ≤ 100000) : (pgD b k).size ≤ 160000 := by
  have h1 := bdD_b b hk hk2
  have h2 := vs_len b hk hk2
  have h3 := as_len b hk hk2
  unfold pgD; split
  · show (vsD b k).length + (asD b k).length + szSs (bdD b k).1 ≤ 160000
    omega
  · decide
end

abbrev m2L : List Int := [0] ++ ([6] ++ ([1] ++ ([5] ++ ([2] ++ []))))
abbrev m3L : List Int := [-1] ++ ([12] ++ ([1] ++ ([9223372036854775807] ++ [])))
abbrev m4L : List Int := [-1] ++ ([256] ++ ([12] ++ ([1] ++ [])))
abbrev m5L : List Int := [1] ++ ([4] ++ ([-1] ++ ([2] ++ [])))
def kdS (s : LStmt) (x : Int) : LStmt := ⟨x, s.target, s.index, s.value, s.count, s.body, s.els⟩
def tgS (s : LStmt) (x : Int) : LStmt := ⟨s.kind, x, s.index, s.value, s.count, s.body, s.els⟩
def vvS (s : LStmt) (x : Int) : LStmt := ⟨s.kind, s.target, s.index, ⟨s.value.kind, x, s.value.kids⟩, s.count, s.body, s.els⟩
def ctS (s : LStmt) (x : Int) : LStmt := ⟨s.kind, s.target, s.index, s.value, x, s.body, s.els⟩
def mtD (b : List UInt8) (p : LProg) (k : Int) : LProg × Int :=
  if pk b k 60 = 0 then (if 0 < p.vars.length then (⟨p.vars.set 0 (l1D b (k + 1)), p.arrays, p.body⟩, k + 1 + 2) else (p, k + 1))
  else if pk b k 60 = 1 then (⟨p.vars ++ List.replicate (13 - p.vars.length) 1, p.arrays, p.body⟩, k + 1)
  else if pk b k 60 = 2 then (if 0 < p.body.length then (⟨p.vars, p.arrays, p.body.set 0 (kdS (p.body.getD 0 default) (nm b (k + 1) m2L))⟩, k + 1 + 1) else (p, k + 1))
  else if pk b k 60 = 3 then (if 0 < p.body.length then (⟨p.vars, p.arrays, p.body.set ((p.body.length : Int) - 1).toNat (tgS (p.body.getD ((p.body.length : Int) - 1).toNat default) (nm b (k + 1) m3L))⟩, k + 1 + 1) else (p, k + 1))
  else if pk b k 60 = 4 then (if 0 < p.body.length then (⟨p.vars, p.arrays, p.body.set 0 (vvS (p.body.getD 0 default) (nm b (k + 1) m4L))⟩, k + 1 + 1) else (p, k + 1))
  else if pk b k 60 = 5 then (if 0 < p.body.length then (⟨p.vars, p.arrays, p.body.set 0 (ctS (p.body.getD 0 default) (nm b (k + 1) m5L))⟩, k + 1 + 1) else (p, k + 1))
  else if pk b k 60 = 6 then (⟨[], [], []⟩, k + 1)
  else (p, k + 1)
theorem szSs_set {l : List LStmt} {i : Nat} {s : LStmt} (h : szS s ≤ szS (l.getD i default)) : szSs (l.set i s) ≤ szSs l := by
  induction l generalizing i with
  | nil => simp [szSs]
  | cons a r ih =>
    cases i with
    | zero => simp only [List.set_cons_zero, szSs]; simp at h; omega
    | succ i =>
      simp only [List.set_cons_succ, szSs]
      have := ih (i := i) (by simpa using h)
      omega
theorem kdS_sz (s : LStmt) (x : Int) : szS (kdS s x) = szS s := by cases s; rfl
theorem tgS_sz (s : LStmt) (x : Int) : szS (tgS s x) = szS s := by cases s; rfl
theorem vvS_sz (s : LStmt) (x : Int) : szS (vvS s x) = szS s := by obtain ⟨_, _, _, ⟨_, _, _⟩, _, _, _⟩ := s; rfl
theorem ctS_sz (s : LStmt) (x : Int) : szS (ctS s x) = szS s := by cases s; rfl
theorem mtD_sz (b : List UInt8) (p : LProg) (k : Int) : (mtD b p k).1.size ≤ p.size + 13 ∧ k ≤ (mtD b p k).2 ∧ (mtD b p k).2 ≤ k + 3 := by
  have hs : ∀ i s, szS s = szS (p.body.getD i default) → szSs (p.body.set i s) ≤ szSs p.body := fun i s h => szSs_set (by omega)
  have h2 := hs 0 _ (kdS_sz (p.body.getD 0 default) (nm b (k + 1) m2L))
  have h3 := hs ((p.body.length : Int) - 1).toNat _ (tgS_sz (p.body.getD ((p.body.length : Int) - 1).toNat default) (nm b (k + 1) m3L))
  have h4 := hs 0 _ (vvS_sz (p.body.getD 0 default) (nm b (k + 1) m4L))
  have h5 := hs 0 _ (ctS_sz (p.body.getD 0 default) (nm b (k + 1) m5L))
  unfold mtD
  simp only [LProg.size]
  (repeat' split) <;> (simp only [List.length_set, List.length_append, List.length_replicate, List.length_nil, szSs]; omega)

def tyD (b : List UInt8) (k : Int) : LProg := if pk b (bdD b k).2 4 = 0 then pgD b k else if okI (pgD b k) = true then infR (pgD b k) else pgD b k
theorem infR_sz {p : LProg} : (infR p).size ≤ p.size := by
  unfold infR
  split
  · have h := (infL_way (p := p) (by rename_i h; unfold okI at h; simp at h; exact h.1)).1
    show (infL p).1.length + (infL p).2.length + szSs p.body ≤ _
    unfold LProg.size
    have h1 : (infL p).1.length = p.vars.length := h.1
    have h2 : (infL p).2.length = p.arrays.length := h.2
    omega
  · simp [LProg.size, szSs]
theorem tyD_sz (b : List UInt8) {k : Int} (hk : 0 ≤ k) (hk2 : k ≤ 100000) : (tyD b k).size ≤ 160000 := by
  have h1 := pgD_sz b hk hk2
  have h2 := infR_sz (p := pgD b k)
  unfold tyD
  (repeat' split) <;> omega
def bsD (c : List UInt8) : List UInt8 := c.take 2000
def drF (c : List UInt8) : LProg := (mtD (bsD c) (tyD (bsD c) 0) ((bdD (bsD c) 0).2 + 1)).1
def drL (c : List UInt8) : Int := l1D (bsD c) (mtD (bsD c) (tyD (bsD c) 0) ((bdD (bsD c) 0).2 + 1)).2
theorem drF_sz (c : List UInt8) : (drF c).size ≤ 200000 := by
  have h1 := tyD_sz (bsD c) (k := 0) (by omega) (by omega)
  have h2 := (mtD_sz (bsD c) (tyD (bsD c) 0) ((bdD (bsD c) 0).2 + 1)).1
  unfold drF; omega

theorem pk_0 {b : List UInt8} {j n : Int} (h : n < 1) : pk b j n = 0 := by unfold pk; rw [if_pos (.inl h)]
theorem pk_1 {b : List UInt8} {j n : Int} (h : (b.length : Int) = 0) : pk b j n = 0 := by unfold pk; rw [if_pos (.inr (by omega))]
theorem pk_2 {b : List UInt8} {j n : Int} (h : ¬ n < 1) (h1 : ¬ (b.length : Int) = 0) (h2 : j + 1 - 1 < b.length) : pk b j n = ((b.getD (j + 1 - 1).toNat 0).toNat : Int).tmod n := by
  unfold pk; rw [if_neg (by omega), if_pos (by omega), Int.add_sub_cancel]
theorem pk_3 {b : List UInt8} {j n : Int} (h : ¬ n < 1) (h1 : ¬ (b.length : Int) = 0) (h2 : ¬ j + 1 - 1 < b.length) : pk b j n = (xorI (pkX b (j + 1 - 1)) ((pkX b (j + 1 - 1)).tdiv 64)).tmod n := by
  unfold pk; rw [if_neg (by omega), if_neg (by omega), Int.add_sub_cancel]
theorem md_b {x : Int} {n : Nat} (hx : 0 ≤ x) (hn : ¬ (n : Int) = 0) : 0 ≤ x.tmod n ∧ x.tmod n < n ∧ (x.tmod n).toNat < n := by
  have := tmod_b (x := x) (n := n) hx (by omega); omega
set_option maxHeartbeats 4000000 in
set_option maxRecDepth 100000 in
theorem c_pick (b : List UInt8) (j n : Int) (r0 : 0 ≤ j) (r1 : j ≤ 1000000000) : Ctr.ok Try.prog ⟨123, [.ptr 0 0, iA n], [.box [.ref 1, iA j], dY b], [.box [.ref 1, iA (j + 1)], dY b], iA (pk b j n)⟩ := by
  refine rx_enter 99 Try.func123 (by rfl) (by kernel_rfl) (by kernel_rfl) ?_; intro ι φ ψ w0 w F ρ0 ρ a G; replace G := Gam.at G [.box [.ref 1, iA j], dY b] [(0, .ptr 0 0), (1, iA n)]; have hu1 := u8_le (b.getD ((j + 1 - 1).tmod b.length).toNat 0); have hu2 := u8_le (b.getD (((j + 1 - 1) * 7 + 3).tmod b.length).toNat 0); refine wp_seq ?_; refine rs0s G [(0, .ptr 0 0), (1, iA n), (4, iA 0)] fun ρ a w G => th_n (wp_seq ?_); refine rs1 (dk := dkP) G ⟨[], [], []⟩ calls_nil trivial [0, 1] [.box [.ref 1, iA (j + 1)], dY b] [(0, .ptr 0 0), (1, iA n), (4, iA 0)] [IntKind.i64.wrap (j + (1 : Int)) = j + (1 : Int)] ⟨(by have := u8_le (b.getD (j + 1 - 1).toNat 0); exact w64 (by omega) (by omega)), trivial⟩ fun ρ a w G => th_n (wp_seq (wp_seq ?_)); cases h0 : (decide (n < (1 : Int)))
  ·
   have q0 : ¬ (n < 1) := dFf h0; refine rs1s G ⟨[], [(decide (n < (1 : Int)), false)], us [(3, 8, 0), (1009, 1009, 0)]⟩ calls_nil ⟨(by assumption), trivial⟩ [(0, .ptr 0 0), (1, iA n), (4, iA 0), (24, bA ((↑b.length : Int) == 0))] [] trivial fun ρ a w G => th_n ?_; cases h1 : ((↑b.length : Int) == (0 : Int))
   ·
    have q1 : ¬ ((↑b.length : Int) = 0) := ne_of_beq_false h1; refine rF G ((↑b.length : Int) == (0 : Int)) (by assumption) ?_; refine wp_skip (th_n (wp_seq ?_)); refine rs1s G ⟨[], [], []⟩ calls_nil trivial [(0, .ptr 0 0), (1, iA n), (4, iA 0), (5, iA (j + 1 - 1))] [IntKind.i64.wrap (j + (1 : Int) - (1 : Int)) = j + (1 : Int) - (1 : Int)] ⟨(by have := pkX_d (b := b) (k := j + 1 - 1) (by omega) (by omega) (by omega); exact w64 (by unfold pkX at this; omega) (by unfold pkX at this; omega)), trivial⟩ fun ρ a w G => th_n (wp_seq (wp_seq ?_)); refine rs0s G [(0, .ptr 0 0), (1, iA n), (4, iA 0), (5, iA (j + 1 - 1)), (36, bA (decide (j + 1 - 1 < (↑b.length : Int))))] fun ρ a w G => th_n ?_; cases h2 : (decide (j + (1 : Int) - (1 : Int) < (↑b.length : Int)))
    ·
     have q2 : ¬ (j + 1 - 1 < (↑b.length : Int)) := dFf h2; refine rF G (decide (j + (1 : Int) - (1 : Int) < (↑b.length : Int))) (by assumption) ?_; refine wp_skip (th_n (wp_seq ?_)); refine rd1s G ⟨[], [], []⟩ calls_nil trivial [0, 1, 3, 7, 0, 0, 32, 96, 224, 480, 1008, 2047, 4095, 8191, 16383, 0, 32768, 98304, 229376, 0, 524288, 1572864, 0, 4194304, 12582912, 29360128, 62914560, 133693440, 268402688, 536838144, 1073709056, 2147450880, 4294967295, 0, 8589934592, 34359738367, 0, 0, 137438953472, 412316860416, 962072674304, 2061584302080, 4329327034368, 8727373545472, 17592186044415, 35184372088831] [(1, iA n), (4, iA 0), (6, iA ((↑(b.getD ((j + 1 - 1).tmod (↑b.length : Int)).toNat 0).toNat : Int) * 131 + (↑(b.getD (((j + 1 - 1) * 7 + 3).tmod (↑b.length : Int)).toNat 0).toNat : Int) * 1117 + (j + 1 - 1) * 29 + (j + 1 - 1).tdiv (↑b.length : Int) * 53))] [(↑b.length : Int) ≠ (0 : Int), (0 : Int) ≤ (j + (1 : Int) - (1 : Int)).tmod (↑b.length : Int), (j + (1 : Int) - (1 : Int)).tmod (↑b.length : Int) < (↑b.length : Int), ((j + (1 : Int) - (1 : Int)).tmod (↑b.length : Int)).toNat < b.length, IntKind.i64.wrap (↑(b.getD ((j + (1 : Int) - (1 : Int)).tmod (↑b.length : Int)).toNat (0 : UInt8)).toNat : Int) = (↑(b.getD ((j + (1 : Int) - (1 : Int)).tmod (↑b.length : Int)).toNat (0 : UInt8)).toNat : Int), IntKind.i64.wrap ((↑(b.getD ((j + (1 : Int) - (1 : Int)).tmod (↑b.length : Int)).toNat (0 : UInt8)).toNat : Int) * (131 : Int)) = (↑(b.getD ((j + (1 : Int) - (1 : Int)).tmod (↑b.length : Int)).toNat (0 : UInt8)).toNat : Int) * (131 : Int), IntKind.i64.wrap ((j + (1 : Int) - (1 : Int)) * (7 : Int)) = (j + (1 : Int) - (1 : Int)) * (7 : Int), IntKind.i64.wrap ((j + (1 : Int) - (1 : Int)) * (7 : Int) + (3 : Int)) = (j + (1 : Int) - (1 : Int)) * (7 : Int) + (3 : Int), (↑b.length : Int) ≠ (0 : Int), (0 : Int) ≤ ((j + (1 : Int) - (1 : Int)) * (7 : Int) + (3 : Int)).tmod (↑b.length : Int), ((j + (1 : Int) - (1 : Int)) * (7 : Int) + (3 : Int)).tmod (↑b.length : Int) < (↑b.length : Int), (((j + (1 : Int) - (1 : Int)) * (7 : Int) + (3 : Int)).tmod (↑b.length : Int)).toNat < b.length, IntKind.i64.wrap (↑(b.getD (((j + (1 : Int) - (1 : Int)) * (7 : Int) + (3 : Int)).tmod (↑b.length : Int)).toNat (0 : UInt8)).toNat : Int) = (↑(b.getD (((j + (1 : Int) - (1 : Int)) * (7 : Int) + (3 : Int)).tmod (↑b.length : Int)).toNat (0 : UInt8)).toNat : Int), IntKind.i64.wrap ((↑(b.getD (((j + (1 : Int) - (1 : Int)) * (7 : Int) + (3 : Int)).tmod (↑b.length : Int)).toNat (0 : UInt8)).toNat : Int) * (1117 : Int)) = (↑(b.getD (((j + (1 : Int) - (1 : Int)) * (7 : Int) + (3 : Int)).tmod (↑b.length : Int)).toNat (0 : UInt8)).toNat : Int) * (1117 : Int), IntKind.i64.wrap ((↑(b.getD ((j + (1 : Int) - (1 : Int)).tmod (↑b.length : Int)).toNat (0 : UInt8)).toNat : Int) * (131 : Int) + (↑(b.getD (((j + (1 : Int) - (1 : Int)) * (7 : Int) + (3 : Int)).tmod (↑b.length : Int)).toNat (0 : UInt8)).toNat : Int) * (1117 : Int)) = (↑(b.getD ((j + (1 : Int) - (1 : Int)).tmod (↑b.length : Int)).toNat (0 : UInt8)).toNat : Int) * (131 : Int) + (↑(b.getD (((j + (1 : Int) - (1 : Int)) * (7 : Int) + (3 : Int)).tmod (↑b.length : Int)).toNat (0 : UInt8)).toNat : Int) * (1117 : Int), IntKind.i64.wrap ((j + (1 : Int) - (1 : Int)) * (29 : Int)) = (j + (1 : Int) - (1 : Int)) * (29 : Int), IntKind.i64.wrap ((↑(b.getD ((j + (1 : Int) - (1 : Int)).tmod (↑b.length : Int)).toNat (0 : UInt8)).toNat : Int) * (131 : Int) + (↑(b.getD (((j + (1 : Int) - (1 : Int)) * (7 : Int) + (3 : Int)).tmod (↑b.length : Int)).toNat (0 : UInt8)).toNat : Int) * (1117 : Int) + (j + (1 : Int) - (1 : Int)) * (29 : Int)) = (↑(b.getD ((j + (1 : Int) - (1 : Int)).tmod (↑b.length : Int)).toNat (0 : UInt8)).toNat : Int) * (131 : Int) + (↑(b.getD (((j + (1 : Int) - (1 : Int)) * (7 : Int) + (3 : Int)).tmod (↑b.length : Int)).toNat (0 : UInt8)).toNat : Int) * (1117 : Int) + (j + (1 : Int) - (1 : Int)) * (29 : Int), (↑b.length : Int) ≠ (0 : Int), IntKind.i64.wrap ((j + (1 : Int) - (1 : Int)).tdiv (↑b.length : Int)) = (j + (1 : Int) - (1 : Int)).tdiv (↑b.length : Int), IntKind.i64.wrap ((j + (1 : Int) - (1 : Int)).tdiv (↑b.length : Int) * (53 : Int)) = (j + (1 : Int) - (1 : Int)).tdiv (↑b.length : Int) * (53 : Int), IntKind.i64.wrap ((↑(b.getD ((j + (1 : Int) - (1 : Int)).tmod (↑b.length : Int)).toNat (0 : UInt8)).toNat : Int) * (131 : Int) + (↑(b.getD (((j + (1 : Int) - (1 : Int)) * (7 : Int) + (3 : Int)).tmod (↑b.length : Int)).toNat (0 : UInt8)).toNat : Int) * (1117 : Int) + (j + (1 : Int) - (1 : Int)) * (29 : Int) + (j + (1 : Int) - (1 : Int)).tdiv (↑b.length : Int) * (53 : Int)) = (↑(b.getD ((j + (1 : Int) - (1 : Int)).tmod (↑b.length : Int)).toNat (0 : UInt8)).toNat : Int) * (131 : Int) + (↑(b.getD (((j + (1 : Int) - (1 : Int)) * (7 : Int) + (3 : Int)).tmod (↑b.length : Int)).toNat (0 : UInt8)).toNat : Int) * (1117 : Int) + (j + (1 : Int) - (1 : Int)) * (29 : Int) + (j + (1 : Int) - (1 : Int)).tdiv (↑b.length : Int) * (53 : Int)] ⟨(by assumption), (by exact (md_b (by omega) (by omega)).1), (by exact (md_b (by omega) (by omega)).2.1), (by exact (md_b (by omega) (by omega)).2.2), (by have := pkX_d (b := b) (k := j + 1 - 1) (by omega) (by omega) (by omega); exact w64 (by unfold pkX at this; omega) (by unfold pkX at this; omega)), (by have := pkX_d (b := b) (k := j + 1 - 1) (by omega) (by omega) (by omega); exact w64 (by unfold pkX at this; omega) (by unfold pkX at this; omega)), (by have := pkX_d (b := b) (k := j + 1 - 1) (by omega) (by omega) (by omega); exact w64 (by unfold pkX at this; omega) (by unfold pkX at this; omega)), (by have := pkX_d (b := b) (k := j + 1 - 1) (by omega) (by omega) (by omega); exact w64 (by unfold pkX at this; omega) (by unfold pkX at this; omega)), (by assumption), (by exact (md_b (by omega) (by omega)).1), (by exact (md_b (by omega) (by omega)).2.1), (by exact (md_b (by omega) (by omega)).2.2), (by have := pkX_d (b := b) (k := j + 1 - 1) (by omega) (by omega) (by omega); exact w64 (by unfold pkX at this; omega) (by unfold pkX at this; omega)), (by have := pkX_d (b := b) (k := j + 1 - 1) (by omega) (by omega) (by omega); exact w64 (by unfold pkX at this; omega) (by unfold pkX at this; omega)), (by have := pkX_d (b := b) (k := j + 1 - 1) (by omega) (by omega) (by omega); exact w64 (by unfold pkX at this; omega) (by unfold pkX at this; omega)), (by have := pkX_d (b := b) (k := j + 1 - 1) (by omega) (by omega) (by omega); exact w64 (by unfold pkX at this; omega) (by unfold pkX at this; omega)), (by have := pkX_d (b := b) (k := j + 1 - 1) (by omega) (by omega) (by omega); exact w64 (by unfold pkX at this; omega) (by unfold pkX at this; omega)), (by assumption), (by have := pkX_b (b := b) (k := j + 1 - 1) (by omega) (by omega) (by omega); exact w64 (by unfold pkX at this; omega) (by unfold pkX at this; omega)), (by have := pkX_b (b := b) (k := j + 1 - 1) (by omega) (by omega) (by omega); exact w64 (by unfold pkX at this; omega) (by unfold pkX at this; omega)), (by have := pkX_b (b := b) (k := j + 1 - 1) (by omega) (by omega) (by omega); exact w64 (by unfold pkX at this; omega) (by unfold pkX at this; omega)), trivial⟩ ?_
     clear G; intro ρ a w G; refine th_n (wp_seq ?_); refine rs1s G ⟨[], [], []⟩ calls_nil trivial [(1, iA n), (4, iA 0), (6, iA (xorI ((↑(b.getD ((j + 1 - 1).tmod (↑b.length : Int)).toNat 0).toNat : Int) * 131 + (↑(b.getD (((j + 1 - 1) * 7 + 3).tmod (↑b.length : Int)).toNat 0).toNat : Int) * 1117 + (j + 1 - 1) * 29 + (j + 1 - 1).tdiv (↑b.length : Int) * 53) (((↑(b.getD ((j + 1 - 1).tmod (↑b.length : Int)).toNat 0).toNat : Int) * 131 + (↑(b.getD (((j + 1 - 1) * 7 + 3).tmod (↑b.length : Int)).toNat 0).toNat : Int) * 1117 + (j + 1 - 1) * 29 + (j + 1 - 1).tdiv (↑b.length : Int) * 53).tdiv 64)))] [(64 : Int) ≠ (0 : Int), IntKind.i64.wrap (((↑(b.getD ((j + (1 : Int) - (1 : Int)).tmod (↑b.length : Int)).toNat (0 : UInt8)).toNat : Int) * (131 : Int) + (↑(b.getD (((j + (1 : Int) - (1 : Int)) * (7 : Int) + (3 : Int)).tmod (↑b.length : Int)).toNat (0 : UInt8)).toNat : Int) * (1117 : Int) + (j + (1 : Int) - (1 : Int)) * (29 : Int) + (j + (1 : Int) - (1 : Int)).tdiv (↑b.length : Int) * (53 : Int)).tdiv (64 : Int)) = ((↑(b.getD ((j + (1 : Int) - (1 : Int)).tmod (↑b.length : Int)).toNat (0 : UInt8)).toNat : Int) * (131 : Int) + (↑(b.getD (((j + (1 : Int) - (1 : Int)) * (7 : Int) + (3 : Int)).tmod (↑b.length : Int)).toNat (0 : UInt8)).toNat : Int) * (1117 : Int) + (j + (1 : Int) - (1 : Int)) * (29 : Int) + (j + (1 : Int) - (1 : Int)).tdiv (↑b.length : Int) * (53 : Int)).tdiv (64 : Int)] ⟨(by simp [h0, h1, h2]), (by have := pkX_d (b := b) (k := j + 1 - 1) (by omega) (by omega) (by omega); exact w64 (by unfold pkX at this; omega) (by unfold pkX at this; omega)), trivial⟩ fun ρ a w G => th_n (wp_seq ?_); refine rs1s G ⟨[], [], []⟩ calls_nil trivial [(4, iA ((xorI ((↑(b.getD ((j + 1 - 1).tmod (↑b.length : Int)).toNat 0).toNat : Int) * 131 + (↑(b.getD (((j + 1 - 1) * 7 + 3).tmod (↑b.length : Int)).toNat 0).toNat : Int) * 1117 + (j + 1 - 1) * 29 + (j + 1 - 1).tdiv (↑b.length : Int) * 53) (((↑(b.getD ((j + 1 - 1).tmod (↑b.length : Int)).toNat 0).toNat : Int) * 131 + (↑(b.getD (((j + 1 - 1) * 7 + 3).tmod (↑b.length : Int)).toNat 0).toNat : Int) * 1117 + (j + 1 - 1) * 29 + (j + 1 - 1).tdiv (↑b.length : Int) * 53).tdiv 64)).tmod n))] [n ≠ (0 : Int)] ⟨(by omega), trivial⟩ fun ρ a w G => th_n (wp_ret ?_); exact rx_ret (v := iA ((xorI ((↑(b.getD ((j + 1 - 1).tmod (↑b.length : Int)).toNat 0).toNat : Int) * 131 + (↑(b.getD (((j + 1 - 1) * 7 + 3).tmod (↑b.length : Int)).toNat 0).toNat : Int) * 1117 + (j + 1 - 1) * 29 + (j + 1 - 1).tdiv (↑b.length : Int) * 53) (((↑(b.getD ((j + 1 - 1).tmod (↑b.length : Int)).toNat 0).toNat : Int) * 131 + (↑(b.getD (((j + 1 - 1) * 7 + 3).tmod (↑b.length : Int)).toNat 0).toNat : Int) * 1117 + (j + 1 - 1) * 29 + (j + 1 - 1).tdiv (↑b.length : Int) * 53).tdiv 64)).tmod n)) G [0, 1] (by kernel_rfl) (by kernel_rfl) (by kernel_rfl) (by have e1 : (pk b j n : Int) = ((xorI ((↑(b.getD ((j + 1 - 1).tmod (↑b.length : Int)).toNat 0).toNat : Int) * 131 + (↑(b.getD (((j + 1 - 1) * 7 + 3).tmod (↑b.length : Int)).toNat 0).toNat : Int) * 1117 + (j + 1 - 1) * 29 + (j + 1 - 1).tdiv (↑b.length : Int) * 53) (((↑(b.getD ((j + 1 - 1).tmod (↑b.length : Int)).toNat 0).toNat : Int) * 131 + (↑(b.getD (((j + 1 - 1) * 7 + 3).tmod (↑b.length : Int)).toNat 0).toNat : Int) * 1117 + (j + 1 - 1) * 29 + (j + 1 - 1).tdiv (↑b.length : Int) * 53).tdiv 64)).tmod n) := (by exact pk_3 (by omega) (by omega) (by omega)); (first | rw [e1] | simp only [e1]) <;> rfl)
    · have q2 : j + 1 - 1 < (↑b.length : Int) := dTt h2; refine rT G (decide (j + (1 : Int) - (1 : Int) < (↑b.length : Int))) (by assumption) ?_; refine wp_seq ?_; refine rs1s G ⟨[], [], []⟩ calls_nil trivial [(0, .ptr 0 0), (1, iA n), (4, iA ((↑(b.getD (j + 1 - 1).toNat 0).toNat : Int).tmod n)), (5, iA (j + 1 - 1))] [(0 : Int) ≤ j + (1 : Int) - (1 : Int), j + (1 : Int) - (1 : Int) < (↑b.length : Int), (j + (1 : Int) - (1 : Int)).toNat < b.length, IntKind.i64.wrap (↑(b.getD (j + (1 : Int) - (1 : Int)).toNat (0 : UInt8)).toNat : Int) = (↑(b.getD (j + (1 : Int) - (1 : Int)).toNat (0 : UInt8)).toNat : Int), n ≠ (0 : Int)] ⟨(by omega), (by assumption), (by omega), (by have := u8_le (b.getD (j + 1 - 1).toNat 0); exact w64 (by omega) (by omega)), (by omega), trivial⟩ fun ρ a w G => th_n (wp_ret (th_r ?_)); exact rx_ret (v := iA ((↑(b.getD (j + 1 - 1).toNat 0).toNat : Int).tmod n)) G [0, 1] (by kernel_rfl) (by kernel_rfl) (by kernel_rfl) (by have e1 : (pk b j n : Int) = ((↑(b.getD (j + 1 - 1).toNat 0).toNat : Int).tmod n) := (by exact pk_2 (by omega) (by omega) (by omega)); (first | rw [e1] | simp only [e1]) <;> rfl)
   · have q1 : (↑b.length : Int) = 0 := eq_of_beq h1; refine rT G ((↑b.length : Int) == (0 : Int)) (by assumption) ?_; refine wp_seq ?_; refine rs0s G [(0, .ptr 0 0), (1, iA n), (4, iA 0)] fun ρ a w G => th_n (wp_ret (th_r ?_)); exact rx_ret (v := iA 0) G [0, 1] (by kernel_rfl) (by kernel_rfl) (by kernel_rfl) (by have e1 : (pk b j n : Int) = (0) := (by exact pk_1 (by omega)); (first | rw [e1] | simp only [e1]) <;> rfl)
  · have q0 : n < 1 := dTt h0; refine rs1s G ⟨[], [(decide (n < (1 : Int)), true)], us [(3, 8, 0), (1009, 1009, 0)]⟩ calls_nil ⟨(by assumption), trivial⟩ [(0, .ptr 0 0), (1, iA n), (4, iA 0), (24, bA true)] [] trivial fun ρ a w G => th_n ?_; refine rT G (true) (by kernel_rfl) ?_; refine wp_seq ?_; refine rs0s G [(0, .ptr 0 0), (1, iA n), (4, iA 0)] fun ρ a w G => th_n (wp_ret (th_r ?_)); exact rx_ret (v := iA 0) G [0, 1] (by kernel_rfl) (by kernel_rfl) (by kernel_rfl) (by have e1 : (pk b j n : Int) = (0) := (by exact pk_0 (by omega)); (first | rw [e1] | simp only [e1]) <;> rfl)

set_option maxRecDepth 100000 in
theorem c_num (b : List UInt8) (j : Int) (l : List Int) (hl : l ≠ []) (r0 : 0 ≤ j) (r1 : j ≤ 1000000000) : Ctr.ok Try.prog ⟨124, [.ptr 0 0, .ref 2], [.box [.ref 1, iA j], dY b, dI l], [.box [.ref 1, iA (j + 1)], dY b, dI l], iA (nm b j l)⟩ := by
  refine rx_enter 12 Try.func124 (by rfl) (by kernel_rfl) (by kernel_rfl) ?_; intro ι φ ψ w0 w F ρ0 ρ a G; replace G := Gam.at G [.box [.ref 1, iA j], dY b, dI l] [(0, .ptr 0 0), (1, .ref 2)]; refine wp_seq ?_; refine rs0s G [(0, .ptr 0 0), (1, .ref 2), (4, iA 0)] fun ρ a w G => th_n (wp_seq ?_); refine rs1 (dk := dkP) G ⟨[(4, _, [0, 1])], [], []⟩ (calls_cons (c_pick (b) (j) ((↑l.length : Int)) (by assumption) (by assumption)) calls_nil) trivial [0, 1, 2] [.box [.ref 1, iA (j + 1)], dY b, dI l] [(4, iA (l.getD (pk b j (↑l.length : Int)).toNat 0))] [(0 : Int) ≤ pk b j (↑l.length : Int), pk b j (↑l.length : Int) < (↑l.length : Int), (pk b j (↑l.length : Int)).toNat < l.length] ⟨(by exact (nm_at b r0 r1 hl).1), (by exact (nm_at b r0 r1 hl).2.1), (by exact (nm_at b r0 r1 hl).2.2), trivial⟩ fun ρ a w G => th_n (wp_ret ?_); exact rx_ret (v := iA (l.getD (pk b j (↑l.length : Int)).toNat 0)) G [0, 1, 2] (by kernel_rfl) (by kernel_rfl) (by kernel_rfl) (by kernel_rfl)

set_option maxRecDepth 100000 in
theorem c_l1Draw (b : List UInt8) (j : Int) (r0 : 0 ≤ j) (r1 : j ≤ 900000000) : Ctr.ok Try.prog ⟨87, [.ptr 0 0], [.box [.ref 1, iA j], dY b], [.box [.ref 1, iA (j + 2)], dY b], iA (l1D b j)⟩ := by
  refine rx_enter 11 Try.func87 (by rfl) (by kernel_rfl) (by kernel_rfl) ?_; intro ι φ ψ w0 w F ρ0 ρ a G; replace G := Gam.at G [.box [.ref 1, iA j], dY b] [(0, .ptr 0 0)]; refine wp_seq ?_; refine rs0s G [(0, .ptr 0 0), (2, iA 0)] fun ρ a w G => th_n (wp_seq (wp_seq ?_)); refine rs1 (dk := dkP) G ⟨[(1, _, [0, 1])], [], []⟩ (calls_cons (c_pick (b) (j) (12) (by assumption) (by omega)) calls_nil) trivial [0, 1] [.box [.ref 1, iA (j + 1)], dY b] [(0, .ptr 0 0), (2, iA 0), (5, bA (pk b j 12 == 0))] [] trivial fun ρ a w G => th_n ?_; cases h0 : (pk b j (12 : Int) == (0 : Int))
  · have q0 : ¬ (pk b j 12 = 0) := ne_of_beq_false h0; refine rF G (pk b j (12 : Int) == (0 : Int)) (by assumption) ?_; refine wp_skip (th_n (wp_seq ?_)); refine rs1 (dk := dkP) G ⟨[(1, _, [0, 1])], [], []⟩ (calls_cons (c_pick (b) (j + 1) (4) (by omega) (by omega)) calls_nil) trivial [0, 1] [.box [.ref 1, iA (j + 1 + 1)], dY b] [(2, iA (pk b (j + 1) 4))] [] trivial fun ρ a w G => th_n (wp_ret ?_); exact rx_ret (v := iA (pk b (j + 1) 4)) G [0, 1] (by kernel_rfl) (by kernel_rfl) (by show _ = List.map (It.ren (nth [0, 1])) [.box [.ref 1, iA (j + 2)], dY b]; have e1 : (j + 2 : Int) = (j + 1 + 1) := (by omega); (first | rw [e1] | simp only [e1]) <;> rfl) (by have e1 : (l1D b j : Int) = (pk b (j + 1) 4) := (by unfold l1D; rw [if_neg (by omega)]; done); (first | rw [e1] | simp only [e1]) <;> rfl)
  · have q0 : pk b j 12 = 0 := eq_of_beq h0; refine rT G (pk b j (12 : Int) == (0 : Int)) (by assumption) ?_; refine wp_seq ?_; refine rs1 (dk := dkP) G ⟨[(2, _, [0, 1, 10])], [], []⟩ (calls_cons (Ctr.lend (c_num (b) (j + 1) l1L (by simp [h0]) (by omega) (by omega)) [.no, .no, .row 3]) calls_nil) trivial [0, 1] [.box [.ref 1, iA (j + 1 + 1)], dY b] [(0, .ptr 0 0), (2, iA (nm b (j + 1) l1L))] [] trivial fun ρ a w G => th_n (wp_ret (th_r ?_)); exact rx_ret (v := iA (nm b (j + 1) l1L)) G [0, 1] (by kernel_rfl) (by kernel_rfl) (by show _ = List.map (It.ren (nth [0, 1])) [.box [.ref 1, iA (j + 2)], dY b]; have e1 : (j + 2 : Int) = (j + 1 + 1) := (by omega); (first | rw [e1] | simp only [e1]) <;> rfl) (by have e1 : (l1D b j : Int) = (nm b (j + 1) l1L) := (by unfold l1D; rw [if_pos (by omega)]; done); (first | rw [e1] | simp only [e1]) <;> rfl)

set_option maxRecDepth 100000 in
theorem c_l17OpenA (c : List UInt8) (hc : c.length ≤ 2000) : Ctr.ok Try.prog ⟨84, [.ref 0], [dY c], [dY c, .box [.ref 0, iA 0]], .ptr 1 0⟩ := by
  refine rx_enter 11 Try.func84 (by rfl) (by kernel_rfl) (by kernel_rfl) ?_; intro ι φ ψ w0 w F ρ0 ρ a G; replace G := Gam.at G [dY c] [(0, .ref 0)]; refine wp_seq ?_; refine rs0s G [(0, .ref 0), (2, .v (.pointer none))] fun ρ a w G => th_n (wp_seq (wp_seq ?_)); refine rs0s G [(0, .ref 0), (2, .v (.pointer none)), (5, bA (decide ((↑c.length : Int) > 2000)))] fun ρ a w G => th_n ?_; cases h0 : (decide ((↑c.length : Int) > (2000 : Int)))
  · have q0 : ¬ ((↑c.length : Int) > 2000) := dFf h0; refine rF G (decide ((↑c.length : Int) > (2000 : Int))) (by assumption) ?_; refine wp_skip (th_n (wp_seq ?_)); refine rs0 G [0, 17] [dY c, .box [.ref 0, iA 0]] [(2, .ptr 1 0)] fun ρ a w G => th_n (wp_ret ?_); exact rx_ret (v := .ptr 1 0) G [0, 1] (by kernel_rfl) (by kernel_rfl) (by kernel_rfl) (by kernel_rfl)
  · have q0 : (↑c.length : Int) > 2000 := dTt h0; exact False.elim (by omega)

set_option maxRecDepth 100000 in
theorem c_l17OpenB (c : List UInt8) (hc : 2000 < c.length) : Ctr.ok Try.prog ⟨84, [.ref 0], [dY c], [dY c, .box [.ref 2, iA 0], dY ((c.take 2000).drop 0)], .ptr 1 0⟩ := by
  refine rx_enter 11 Try.func84 (by rfl) (by kernel_rfl) (by kernel_rfl) ?_; intro ι φ ψ w0 w F ρ0 ρ a G; replace G := Gam.at G [dY c] [(0, .ref 0)]; refine wp_seq ?_; refine rs0s G [(0, .ref 0), (2, .v (.pointer none))] fun ρ a w G => th_n (wp_seq (wp_seq ?_)); refine rs0s G [(0, .ref 0), (2, .v (.pointer none)), (5, bA (decide ((↑c.length : Int) > 2000)))] fun ρ a w G => th_n ?_; cases h0 : (decide ((↑c.length : Int) > (2000 : Int)))
  · have q0 : ¬ ((↑c.length : Int) > 2000) := dFf h0; exact False.elim (by omega)
  · have q0 : (↑c.length : Int) > 2000 := dTt h0; refine rT G (decide ((↑c.length : Int) > (2000 : Int))) (by assumption) ?_; refine rs1 (dk := dkP) G ⟨[], [], []⟩ calls_nil trivial [0, 9] [dY c, dY (List.drop 0 (List.take (Int.toNat 2000) c))] [(0, .ref 1), (2, .v (.pointer none))] [(0 : Int) ≤ (2000 : Int), (2000 : Int) ≤ (↑c.length : Int)] ⟨(by simp [h0]), (by omega), trivial⟩ fun ρ a w G => th_n (wp_seq ?_); refine rs0 G [0, 1, 18] [dY c, dY (List.drop 0 (List.take (Int.toNat 2000) c)), .box [.ref 1, iA 0]] [(2, .ptr 2 0)] fun ρ a w G => th_n (wp_ret ?_); exact rx_ret (v := .ptr 2 0) G [0, 2, 1] (by kernel_rfl) (by kernel_rfl) (by kernel_rfl) (by kernel_rfl)


abbrev dwS (b : List UInt8) (j : Int) (vs ars : List Int) (bd : List LStmt) : List It := [.box [.ref 1, iA j], dY b, dI vs, dI ars, dT bd]
abbrev exO (e : LExpr) : List It := [.tree (.exprs e.kids)]
abbrev exA (e : LExpr) (r : Nat) : AV := .agg [iA e.kind, iA e.value, .tref r]
theorem at_1 {b : List UInt8} {nv j : Int} (h : pk b j 3 = 0) : atomD b nv j = ⟨1, nm b (j + 1) atL, []⟩ := if_pos h
theorem at_2 {b : List UInt8} {nv j : Int} (h : ¬ pk b j 3 = 0) : atomD b nv j = ⟨2, pk b (j + 1) nv, []⟩ := if_neg h
set_option maxRecDepth 100000 in
theorem c_atom (b : List UInt8) (j : Int) (vs ars : List Int) (bd : List LStmt) (r0 : 0 ≤ j) (r1 : j ≤ 900000000) : Ctr.ok Try.prog ⟨168, [.ptr 0 0, pA 2], dwS b j vs ars bd, dwS b (j + 2) vs ars bd ++ exO (atomD b vs.length j), exA (atomD b vs.length j) 5⟩ := by
  refine rx_enter 18 Try.func168 (by rfl) (by kernel_rfl) (by kernel_rfl) ?_; intro ι φ ψ w0 w F ρ0 ρ a G; replace G := Gam.at G [.box [.ref 1, iA j], dY b, dI vs, dI ars, dT bd] [(0, .ptr 0 0), (1, pA 2)]; refine wp_seq ?_; refine rs0 G [0, 1, 2, 3, 4, 5, 13] [.box [.ref 1, iA j], dY b, dI vs, dI ars, dT bd, .box (pL 2), .box [iA 0, iA 0, .v (.slice none 0 0)]] [(0, .ptr 0 0), (3, .ptr 5 0), (4, .ptr 6 0)] fun ρ a w G => th_n (wp_seq (wp_seq ?_)); refine rs1 (dk := dkP) G ⟨[(1, _, [0, 1])], [], []⟩ (calls_cons (c_pick (b) (j) (3) (by assumption) (by omega)) calls_nil) trivial (rg 7) [.box [.ref 1, iA (j + 1)], dY b, dI vs, dI ars, dT bd, .box (pL 2), .box [iA 0, iA 0, .v (.slice none 0 0)]] [(0, .ptr 0 0), (3, .ptr 5 0), (4, .ptr 6 0), (7, bA (pk b j 3 == 0))] [] trivial fun ρ a w G => th_n ?_; cases h0 : (pk b j (3 : Int) == (0 : Int))
  · have q0 : ¬ (pk b j 3 = 0) := ne_of_beq_false h0; refine rF G (pk b j (3 : Int) == (0 : Int)) (by assumption) ?_; refine wp_skip (th_n (wp_seq ?_)); refine rs1 (dk := dkP) G ⟨[(4, _, [0, 1])], [], []⟩ (calls_cons (c_pick (b) (j + 1) ((↑vs.length : Int)) (by omega) (by omega)) calls_nil) trivial [0, 1, 2, 3, 4, 6] [.box [.ref 1, iA (j + 1 + 1)], dY b, dI vs, dI ars, dT bd, .box [iA 2, iA (pk b (j + 1) (↑vs.length : Int)), .v (.slice none 0 0)]] [(4, .ptr 5 0)] [] trivial fun ρ a w G => th_n (wp_ret ?_); have Gx := G.nilT 6 (.exprs []) [.box [.ref 1, iA (j + 1 + 1)], dY b, dI vs, dI ars, dT bd, .box [iA 2, iA (pk b (j + 1) (↑vs.length : Int)), .tref 6]] [(4, .ptr 5 0)]; clear G; obtain ⟨ρ, G⟩ := Gx; replace G := Gam.at G [.box [.ref 1, iA (j + 1 + 1)], dY b, dI vs, dI ars, dT bd, .box [iA 2, iA (pk b (j + 1) (↑vs.length : Int)), .tref 6], .tree (D.exprs [])] [(4, .ptr 5 0)]; exact rx_ret (v := .agg [iA 2, iA (pk b (j + 1) (↑vs.length : Int)), .tref 6]) G [0, 1, 2, 3, 4, 6] (by kernel_rfl) (by kernel_rfl) (by show _ = List.map (It.ren (nth [0, 1, 2, 3, 4, 6])) [.box [.ref 1, iA (j + 2)], dY b, dI vs, dI ars, dT bd, .tree (D.exprs (atomD b (↑vs.length : Int) j).kids)]; have e1 : (j + 2 : Int) = (j + 1 + 1) := (by omega); rw [e1]; rw [at_2 (by omega)] <;> rfl) (by show _ = AV.ren (nth [0, 1, 2, 3, 4, 6]) (.agg [iA (atomD b (↑vs.length : Int) j).kind, iA (atomD b (↑vs.length : Int) j).value, .tref 5]); rw [at_2 (by omega)] <;> rfl)
  · have q0 : pk b j 3 = 0 := eq_of_beq h0; refine rT G (pk b j (3 : Int) == (0 : Int)) (by assumption) ?_; refine wp_seq ?_; refine rs1 (dk := dkP) G ⟨[(2, _, [0, 1, 15])], [], []⟩ (calls_cons (Ctr.lend (c_num (b) (j + 1) atL (by simp [h0]) (by omega) (by omega)) [.no, .no, .row 3]) calls_nil) trivial (rg 7) [.box [.ref 1, iA (j + 1 + 1)], dY b, dI vs, dI ars, dT bd, .box (pL 2), .box [iA 1, iA (nm b (j + 1) atL), .v (.slice none 0 0)]] [(0, .ptr 0 0), (3, .ptr 5 0), (4, .ptr 6 0)] [] trivial fun ρ a w G => th_n (wp_ret (th_r ?_)); have Gx := G.nilT 7 (.exprs []) [.box [.ref 1, iA (j + 1 + 1)], dY b, dI vs, dI ars, dT bd, .box (pL 2), .box [iA 1, iA (nm b (j + 1) atL), .tref 7]] [(0, .ptr 0 0), (3, .ptr 5 0), (4, .ptr 6 0)]; clear G; obtain ⟨ρ, G⟩ := Gx; replace G := Gam.at G [.box [.ref 1, iA (j + 1 + 1)], dY b, dI vs, dI ars, dT bd, .box (pL 2), .box [iA 1, iA (nm b (j + 1) atL), .tref 7], .tree (D.exprs [])] [(0, .ptr 0 0), (3, .ptr 5 0), (4, .ptr 6 0)]; exact rx_ret (v := .agg [iA 1, iA (nm b (j + 1) atL), .tref 7]) G [0, 1, 2, 3, 4, 7] (by kernel_rfl) (by kernel_rfl) (by show _ = List.map (It.ren (nth [0, 1, 2, 3, 4, 7])) [.box [.ref 1, iA (j + 2)], dY b, dI vs, dI ars, dT bd, .tree (D.exprs (atomD b (↑vs.length : Int) j).kids)]; have e1 : (j + 2 : Int) = (j + 1 + 1) := (by omega); rw [e1]; rw [at_1 (by omega)] <;> rfl) (by show _ = AV.ren (nth [0, 1, 2, 3, 4, 7]) (.agg [iA (atomD b (↑vs.length : Int) j).kind, iA (atomD b (↑vs.length : Int) j).value, .tref 5]); rw [at_1 (by omega)] <;> rfl)

theorem c_l2RightV (vs ars : List Int) (bd : List LStmt) (e : LExpr) : Ctr.ok Try.prog (fnC 164 [pA 0, eA e 3] ([dI vs, dI ars, dT bd] ++ eS e) (bA (rightB vs.length ars.length e))) := c_l2Right ⟨vs, ars, bd⟩ e
abbrev drC (b : List UInt8) (vs ars : List Int) (bd : List LStmt) (d : Nat) (j n : Int) : Ctr := ⟨174, [.ptr 0 0, pA 2, iA n], dwS b j vs ars bd, dwS b (drE b vs.length ars.length d j).2 vs ars bd ++ exO (drE b vs.length ars.length d j).1, exA (drE b vs.length ars.length d j).1 5⟩
section
variable {b : List UInt8} {nv na : Int} {d : Nat} {j : Int}
theorem dr_0 (h : d < 2) : drE b nv na d j = (atomD b nv j, j + 2) := by
  match d, h with
  | 0, _ => rfl
  | 1, _ => simp [drE]
theorem dr_1 (h : 0 < d) (h1 : pk b j 4 = 0) : drE b nv na (d + 1) j = (atomD b nv (j + 1), j + 3) := by rw [drE, if_neg (by omega), if_pos h1]
theorem dr_2 (h : 0 < d) (h1 : ¬ pk b j 4 = 0) (h2 : nm b (j + 1) kdL = 3) (h3 : na = 0) : drE b nv na (d + 1) j = (atomD b nv (j + 2), j + 4) := by rw [drE, if_neg (by omega), if_neg h1, if_pos h2, if_pos h3]
theorem dr_3 (h : 0 < d) (h1 : ¬ pk b j 4 = 0) (h2 : nm b (j + 1) kdL = 3) (h3 : ¬ na = 0) : drE b nv na (d + 1) j = (⟨3, pk b (j + 2) na, [atomD b nv (j + 3)]⟩, j + 5) := by rw [drE, if_neg (by omega), if_neg h1, if_pos h2, if_neg h3]
abbrev drK (b : List UInt8) (nv na : Int) (d : Nat) (j : Int) (k : Nat) : List LExpr × Int := drN (drE b nv na d) k (j + 2)
theorem dr_4 (h : 0 < d) (h1 : ¬ pk b j 4 = 0) (h2 : ¬ nm b (j + 1) kdL = 3) {m : Int} (h3 : 0 ≤ m) (h4 : ¬ m > 0) : drE b nv na (d + 1) j = (⟨nm b (j + 1) kdL, 0, (drK b nv na d j (arity (nm b (j + 1) kdL) - m).toNat).1⟩, (drK b nv na d j (arity (nm b (j + 1) kdL) - m).toNat).2) := by
  have e : m = 0 := by omega
  rw [e, Int.sub_zero, drE, if_neg (by omega), if_neg h1, if_neg h2]
theorem dr_next {x m : Int} (h3 : m > 0) (h4 : m ≤ x) : drK b nv na d j (x - (m - 1)).toNat = ((drK b nv na d j (x - m).toNat).1 ++ [(drE b nv na d (drK b nv na d j (x - m).toNat).2).1], (drE b nv na d (drK b nv na d j (x - m).toNat).2).2) := by
  rw [show (x - (m - 1)).toNat = (x - m).toNat + 1 by omega]; rfl
theorem ar_nn (r0 : 0 ≤ j) (r1 : j ≤ 900000000) : 0 ≤ arity (nm b (j + 1) kdL) ∧ arity (nm b (j + 1) kdL) ≤ 3 := by
  have h := nm_mem b (k := j + 1) (l := kdL) (by omega) (by omega) (by simp)
  simp only [List.mem_append, List.mem_cons, List.not_mem_nil, or_false] at h
  rcases h with h | h | h | h | h | h | h | h | h <;> rw [h] <;> decide
theorem drK_b (r0 : 0 ≤ j) {k : Nat} (hk : k ≤ 3) : j + 2 ≤ (drK b nv na d j k).2 ∧ (drK b nv na d j k).2 ≤ j + 2 + 3 * cE d := by
  have hc := cE_nn d
  have h := drN_b (f := drE b nv na d) (c := cE d) (m := 3) (by omega) k (j + 2) hk fun i _ _ => drE_b b nv na d i
  have h4 : (k : Int) * cE d ≤ 3 * cE d := Int.mul_le_mul_of_nonneg_right (by omega) (by omega)
  unfold drK; omega
theorem drK_d {x m : Int} (r0 : 0 ≤ j) (h3 : m > 0) (h4 : m ≤ x) (h5 : x ≤ 3) (r1 : j + cE (d + 1) ≤ 800000000) : (drK b nv na d j (x - m).toNat).2 + cE d ≤ 800000000 := by
  have hc := cE_nn d
  have hce : cE (d + 1) = 5 + 3 * cE d := rfl
  have hm : (x - m).toNat ≤ 2 := by omega
  have h := drN_b (f := drE b nv na d) (c := cE d) (m := 2) (by omega) (x - m).toNat (j + 2) hm fun i _ _ => drE_b b nv na d i
  have h4 : ((x - m).toNat : Int) * cE d ≤ 2 * cE d := Int.mul_le_mul_of_nonneg_right (by omega) (by omega)
  unfold drK; omega
end
set_option maxHeartbeats 4000000 in
set_option maxRecDepth 100000 in
theorem s_draw0 (b : List UInt8) (vs ars : List Int) (bd : List LStmt) (d : Nat) (hd : d < 2) (j n : Int) (hn : n = d) (r0 : 0 ≤ j) (r1 : j ≤ 900000000) : Ctr.ok Try.prog (drC b vs ars bd d j n) := by
  refine rx_enter 62 Try.func174 (by rfl) (by kernel_rfl) (by kernel_rfl) ?_; intro ι φ ψ w0 w F ρ0 ρ a G; replace G := Gam.at G [.box [.ref 1, iA j], dY b, dI vs, dI ars, dT bd] [(0, .ptr 0 0), (1, pA 2), (2, iA n)]; refine wp_seq ?_; refine rs0 G [0, 1, 2, 3, 4, 5, 13] [.box [.ref 1, iA j], dY b, dI vs, dI ars, dT bd, .box (pL 2), .box [iA 0, iA 0, .v (.slice none 0 0)]] [(0, .ptr 0 0), (2, iA n), (4, .ptr 5 0), (6, .ptr 6 0)] fun ρ a w G => th_n (wp_seq (wp_seq ?_)); cases h0 : (decide (n < (2 : Int)))
  · have q0 : ¬ (n < 2) := dFf h0; exact False.elim (by omega)
  · have q0 : n < 2 := dTt h0; refine rs1s G ⟨[], [(decide (n < (2 : Int)), true)], [(3, 0), (4, 0), (5, 0), (1006, 0)]⟩ calls_nil ⟨(by assumption), trivial⟩ [(0, .ptr 0 0), (2, iA n), (4, .ptr 5 0), (6, .ptr 6 0), (16, bA true)] [] trivial fun ρ a w G => th_n ?_; refine rT G (true) (by kernel_rfl) ?_; refine wp_seq ?_; refine rs1 (dk := dkP) G ⟨[(2, _, (rg 5))], [], []⟩ (calls_cons (c_atom (b) (j) (vs) (ars) (bd) (by assumption) (by assumption)) calls_nil) trivial [0, 1, 2, 3, 4, 5, 6, 23] [.box [.ref 1, iA (j + 2)], dY b, dI vs, dI ars, dT bd, .box (pL 2), .box [iA (atomD b (↑vs.length : Int) j).kind, iA (atomD b (↑vs.length : Int) j).value, .tref 7], .tree (D.exprs (atomD b (↑vs.length : Int) j).kids)] [(0, .ptr 0 0), (2, iA n), (4, .ptr 5 0), (6, .ptr 6 0)] [] trivial fun ρ a w G => th_n (wp_ret (th_r ?_)); exact rx_ret (v := .agg [iA (atomD b (↑vs.length : Int) j).kind, iA (atomD b (↑vs.length : Int) j).value, .tref 7]) G [0, 1, 2, 3, 4, 7] (by kernel_rfl) (by kernel_rfl) (by show _ = List.map (It.ren (nth [0, 1, 2, 3, 4, 7])) [.box [.ref 1, iA (drE b (↑vs.length : Int) (↑ars.length : Int) d j).snd], dY b, dI vs, dI ars, dT bd, .tree (D.exprs (drE b (↑vs.length : Int) (↑ars.length : Int) d j).fst.kids)]; rw [dr_0 hd] <;> rfl) (by show _ = AV.ren (nth [0, 1, 2, 3, 4, 7]) (.agg [iA (drE b (↑vs.length : Int) (↑ars.length : Int) d j).fst.kind, iA (drE b (↑vs.length : Int) (↑ars.length : Int) d j).fst.value, .tref 5]); rw [dr_0 hd] <;> rfl)

abbrev yDrB0 (b : List UInt8) (vs : List Int) (ars : List Int) (d : Nat) (j : Int) (k : Int) := drK b (↑vs.length : Int) (↑ars.length : Int) d j (arity (nm b (j + 1) kdL) - k).toNat
abbrev yDrB1 (b : List UInt8) (vs : List Int) (ars : List Int) (bd : List LStmt) (d : Nat) (j : Int) : List It := [.box [.ref 1, iA (drE b (↑vs.length : Int) (↑ars.length : Int) (d + 1) j).snd], dY b, dI vs, dI ars, dT bd, .tree (D.exprs (drE b (↑vs.length : Int) (↑ars.length : Int) (d + 1) j).fst.kids)]
abbrev yDrB2 (b : List UInt8) (vs : List Int) (ars : List Int) (d : Nat) (j : Int) : AV := (.agg [iA (drE b (↑vs.length : Int) (↑ars.length : Int) (d + 1) j).fst.kind, iA (drE b (↑vs.length : Int) (↑ars.length : Int) (d + 1) j).fst.value, .tref 5])
abbrev yDrB3 : It := .box [iA 0, iA 0, .v (.slice none 0 0)]
abbrev yDrB4 (b : List UInt8) (j : Int) : It := .box [iA (nm b (j + 1) kdL), iA 0, .tref 8]
set_option maxHeartbeats 4000000 in
set_option maxRecDepth 100000 in
theorem s_drawS (b : List UInt8) (vs ars : List Int) (bd : List LStmt) (d : Nat) (hd : 0 < d) (hd2 : d ≤ 100) (ih : ∀ (j n : Int), n = d → 0 ≤ j → j + cE d ≤ 800000000 → Ctr.ok Try.prog (drC b vs ars bd d j n)) (j n : Int) (hn : n = ((d + 1 : Nat) : Int)) (r0 : 0 ≤ j) (r1 : j + cE (d + 1) ≤ 800000000) : Ctr.ok Try.prog (drC b vs ars bd (d + 1) j n) := by
  refine rx_enter 62 Try.func174 (by rfl) (by kernel_rfl) (by kernel_rfl) ?_; intro ι φ ψ w0 w F ρ0 ρ a G; replace G := Gam.at G [.box [.ref 1, iA j], dY b, dI vs, dI ars, dT bd] [(0, .ptr 0 0), (1, pA 2), (2, iA n)]; have hc := cE_nn d; have hce : cE (d + 1) = 5 + 3 * cE d := rfl; have har := ar_nn (b := b) (j := j) r0 (by omega); refine wp_seq ?_; refine rs0 G [0, 1, 2, 3, 4, 5, 13] [.box [.ref 1, iA j], dY b, dI vs, dI ars, dT bd, .box (pL 2), yDrB3] [(0, .ptr 0 0), (2, iA n), (4, .ptr 5 0), (6, .ptr 6 0)] fun ρ a w G => th_n (wp_seq (wp_seq ?_)); cases h0 : (decide (n < (2 : Int)))
  ·
   have q0 : ¬ (n < 2) := dFf h0; refine rs1 (dk := dkP) G ⟨[(4, _, [0, 1])], [(decide (n < (2 : Int)), false)], [(3, 0), (4, 0), (5, 0), (1006, 0)]⟩ (calls_cons (c_pick (b) (j) (4) (by assumption) (by omega)) calls_nil) ⟨(by assumption), trivial⟩ (rg 7) [.box [.ref 1, iA (j + 1)], dY b, dI vs, dI ars, dT bd, .box (pL 2), yDrB3] [(0, .ptr 0 0), (2, iA n), (4, .ptr 5 0), (6, .ptr 6 0), (16, bA (pk b j 4 == 0))] [] trivial fun ρ a w G => th_n ?_; cases h1 : (pk b j (4 : Int) == (0 : Int))
   ·
    have q1 : ¬ (pk b j 4 = 0) := ne_of_beq_false h1; refine rF G (pk b j (4 : Int) == (0 : Int)) (by assumption) ?_; refine wp_skip (th_n (wp_seq ?_)); refine rs1 (dk := dkP) G ⟨[(2, _, [0, 1, 15])], [], []⟩ (calls_cons (Ctr.lend (c_num (b) (j + 1) kdL (by simp [h0, h1]) (by omega) (by omega)) [.no, .no, .row 3]) calls_nil) trivial (rg 7) [.box [.ref 1, iA (j + 1 + 1)], dY b, dI vs, dI ars, dT bd, .box (pL 2), yDrB3] [(0, .ptr 0 0), (2, iA n), (4, .ptr 5 0), (6, .ptr 6 0), (7, iA (nm b (j + 1) kdL))] [] trivial fun ρ a w G => th_n (wp_seq (wp_seq ?_)); refine rs0s G [(0, .ptr 0 0), (2, iA n), (4, .ptr 5 0), (6, .ptr 6 0), (7, iA (nm b (j + 1) kdL)), (24, bA (nm b (j + 1) kdL == 3))] fun ρ a w G => th_n ?_; cases h2 : (nm b (j + (1 : Int)) kdL == (3 : Int))
    ·
     have q2 : ¬ (nm b (j + 1) kdL = 3) := ne_of_beq_false h2; refine rF G (nm b (j + (1 : Int)) kdL == (3 : Int)) (by assumption) ?_; refine wp_skip (th_n (wp_seq ?_)); refine rs0 G [0, 1, 2, 3, 4, 5, 6, 23] [.box [.ref 1, iA (j + 1 + 1)], dY b, dI vs, dI ars, dT bd, .box (pL 2), yDrB3, .box [iA (nm b (j + 1) kdL), iA 0, .v (.slice none 0 0)]] [(0, .ptr 0 0), (2, iA n), (4, .ptr 5 0), (6, .ptr 6 0), (7, iA (nm b (j + 1) kdL)), (8, .ptr 7 0)] fun ρ a w G => th_n (wp_seq (wp_seq ?_)); refine rs1s G ⟨[(1, _, [])], [], []⟩ (calls_cons (c_l2Arity (nm b (j + 1) kdL)) calls_nil) trivial [(0, .ptr 0 0), (2, iA n), (4, .ptr 5 0), (6, .ptr 6 0), (8, .ptr 7 0), (9, iA (arity (nm b (j + 1) kdL)))] [] trivial fun ρ a w G => th_n (wp_block ?_); have Gx := G.nilT 8 (.exprs []) [.box [.ref 1, iA (j + 1 + 1)], dY b, dI vs, dI ars, dT bd, .box (pL 2), yDrB3, yDrB4 b j] [(0, .ptr 0 0), (2, iA n), (4, .ptr 5 0), (6, .ptr 6 0), (8, .ptr 7 0), (9, iA (arity (nm b (j + 1) kdL)))]; clear G; obtain ⟨ρ, G⟩ := Gx; replace G := Gam.at G [.box [.ref 1, iA (j + 1 + 1)], dY b, dI vs, dI ars, dT bd, .box (pL 2), yDrB3, yDrB4 b j, .tree (D.exprs [])] [(0, .ptr 0 0), (2, iA n), (4, .ptr 5 0), (6, .ptr 6 0), (8, .ptr 7 0), (9, iA (arity (nm b (j + 1) kdL)))]; replace G := G.as [.box [.ref 1, iA (drK b (↑vs.length : Int) (↑ars.length : Int) d j (arity (nm b (j + 1) kdL) - arity (nm b (j + 1) kdL)).toNat).snd], dY b, dI vs, dI ars, dT bd, .box (pL 2), .box [iA 0, iA 0, .v (.slice none 0 0)], .box [iA (nm b (j + 1) kdL), iA 0, .tref 8], .tree (D.exprs (drK b (↑vs.length : Int) (↑ars.length : Int) d j (arity (nm b (j + 1) kdL) - arity (nm b (j + 1) kdL)).toNat).fst)] [(0, .ptr 0 0), (2, iA n), (4, .ptr 5 0), (6, .ptr 6 0), (8, .ptr 7 0), (9, iA (arity (nm b (j + 1) kdL)))] (by have e1 : ((drK b (↑vs.length : Int) (↑ars.length : Int) d j (arity (nm b (j + 1) kdL) - arity (nm b (j + 1) kdL)).toNat).snd : Int) = (j + 1 + 1) := (by rw [Int.sub_self]; show j + 2 = j + 1 + 1; omega); have e2 : ((drK b (↑vs.length : Int) (↑ars.length : Int) d j (arity (nm b (j + 1) kdL) - arity (nm b (j + 1) kdL)).toNat).fst : List LExpr) = ([]) := (by rw [Int.sub_self]; rfl); (first | rw [e1, e2] | simp only [e1, e2]) <;> rfl) (by kernel_rfl); refine rx_for (κ := Int) (fun k => 0 ≤ k ∧ k ≤ arity (nm b (j + 1) kdL)) (fun k => k.toNat) (fun k => [.box [.ref 1, iA (drK b vs.length ars.length d j (arity (nm b (j + 1) kdL) - k).toNat).2], dY b, dI vs, dI ars, dT bd, .box (pL 2), yDrB3, yDrB4 b j, .tree (.exprs (drK b vs.length ars.length d j (arity (nm b (j + 1) kdL) - k).toNat).1)]) (fun k => [(0, .ptr 0 0), (2, iA n), (4, .ptr 5 0), (6, .ptr 6 0), (8, .ptr 7 0), (9, iA k)]) (arity (nm b (j + 1) kdL)) (by omega) (Gam.at G _ _) ?_; clear G; intro k ρ a w hp G; replace G := Gam.at G [.box [.ref 1, iA (yDrB0 b vs ars d j k).snd], dY b, dI vs, dI ars, dT bd, .box (pL 2), yDrB3, yDrB4 b j, .tree (D.exprs (yDrB0 b vs ars d j k).fst)] [(0, .ptr 0 0), (2, iA n), (4, .ptr 5 0), (6, .ptr 6 0), (8, .ptr 7 0), (9, iA k)]; have hkb := drK_b (b := b) (nv := vs.length) (na := ars.length) (d := d) (j := j) r0 (k := (arity (nm b (j + 1) kdL) - k).toNat) (by omega); have hkl : (drK b vs.length ars.length d j (arity (nm b (j + 1) kdL) - k).toNat).1.length = (arity (nm b (j + 1) kdL) - k).toNat := drN_len _ _ _; refine wp_seq (wp_seq ?_); refine rs0s G [(0, .ptr 0 0), (2, iA n), (4, .ptr 5 0), (6, .ptr 6 0), (8, .ptr 7 0), (9, iA k), (48, bA (decide (k > 0)))] fun ρ a w G => th_n ?_; cases h4 : (decide (k > (0 : Int)))
     · have q4 : ¬ (k > 0) := dFf h4; refine rF G (decide (k > (0 : Int))) (by assumption) ?_; refine wp_exit (th_e (th_e (bl_hit (th_n (wp_seq ?_))))); refine rs0 G [0, 1, 2, 3, 4, 6, 8] [.box [.ref 1, iA (yDrB0 b vs ars d j k).snd], dY b, dI vs, dI ars, dT bd, .box [iA (nm b (j + 1) kdL), iA 0, .tref 6], .tree (D.exprs (yDrB0 b vs ars d j k).fst)] [(6, .ptr 5 0)] fun ρ a w G => th_n (wp_ret ?_); exact rx_ret (v := .agg [iA (nm b (j + 1) kdL), iA 0, .tref 6]) G [0, 1, 2, 3, 4, 6] (by kernel_rfl) (by kernel_rfl) (by show _ = List.map (It.ren (nth [0, 1, 2, 3, 4, 6])) (yDrB1 b vs ars bd d j); unfold yDrB1; rw [dr_4 (m := k) hd (by omega) (by omega) (by omega) (by omega)] <;> rfl) (by show _ = AV.ren (nth [0, 1, 2, 3, 4, 6]) (yDrB2 b vs ars d j); unfold yDrB2; rw [dr_4 (m := k) hd (by omega) (by omega) (by omega) (by omega)] <;> rfl)
     · have q4 : k > 0 := dTt h4; refine rT G (decide (k > (0 : Int))) (by assumption) ?_; refine wp_skip (th_n (wp_seq (wp_block ?_))); refine rd1 (dk := dkP) G ⟨[(6, _, (rg 5))], [], []⟩ (calls_cons (ih ((drK b (↑vs.length : Int) (↑ars.length : Int) d j (arity (nm b (j + 1) kdL) - k).toNat).snd) (n - 1) (by omega) (by omega) (by exact drK_d (by omega) (by omega) (by omega) (by omega) r1)) calls_nil) trivial [0, 1, 0, 0, 0, 16, 60, 124, 255, 511, 1023] [0, 1, 2, 3, 4, 5, 6, 7, 73] [.box [.ref 1, iA (drE b (↑vs.length : Int) (↑ars.length : Int) d (yDrB0 b vs ars d j k).snd).snd], dY b, dI vs, dI ars, dT bd, .box (pL 2), yDrB3, yDrB4 b j, .tree (D.exprs ((yDrB0 b vs ars d j k).fst ++ [LExpr.mk (drE b (↑vs.length : Int) (↑ars.length : Int) d (yDrB0 b vs ars d j k).snd).fst.kind (drE b (↑vs.length : Int) (↑ars.length : Int) d (yDrB0 b vs ars d j k).snd).fst.value (drE b (↑vs.length : Int) (↑ars.length : Int) d (yDrB0 b vs ars d j k).snd).fst.kids]))] [(0, .ptr 0 0), (2, iA n), (4, .ptr 5 0), (6, .ptr 6 0), (8, .ptr 7 0), (9, iA k)] [IntKind.i64.wrap (n - (1 : Int)) = n - (1 : Int), (drK b (↑vs.length : Int) (↑ars.length : Int) d j (arity (nm b (j + (1 : Int)) kdL) - k).toNat).fst.length + [LExpr.mk (drE b (↑vs.length : Int) (↑ars.length : Int) d (drK b (↑vs.length : Int) (↑ars.length : Int) d j (arity (nm b (j + (1 : Int)) kdL) - k).toNat).snd).fst.kind (drE b (↑vs.length : Int) (↑ars.length : Int) d (drK b (↑vs.length : Int) (↑ars.length : Int) d j (arity (nm b (j + (1 : Int)) kdL) - k).toNat).snd).fst.value (drE b (↑vs.length : Int) (↑ars.length : Int) d (drK b (↑vs.length : Int) (↑ars.length : Int) d j (arity (nm b (j + (1 : Int)) kdL) - k).toNat).snd).fst.kids].length ≤ (9223372036854775807 : Nat), ((drK b (↑vs.length : Int) (↑ars.length : Int) d j (arity (nm b (j + (1 : Int)) kdL) - k).toNat).fst.length + [LExpr.mk (drE b (↑vs.length : Int) (↑ars.length : Int) d (drK b (↑vs.length : Int) (↑ars.length : Int) d j (arity (nm b (j + (1 : Int)) kdL) - k).toNat).snd).fst.kind (drE b (↑vs.length : Int) (↑ars.length : Int) d (drK b (↑vs.length : Int) (↑ars.length : Int) d j (arity (nm b (j + (1 : Int)) kdL) - k).toNat).snd).fst.value (drE b (↑vs.length : Int) (↑ars.length : Int) d (drK b (↑vs.length : Int) (↑ars.length : Int) d j (arity (nm b (j + (1 : Int)) kdL) - k).toNat).snd).fst.kids].length) * (40 : Nat) ≤ (140737488355328 : Nat)] ⟨(by exact w64 (by omega) (by omega)), (by simp only [List.length_cons, List.length_nil]; omega), (by simp only [List.length_cons, List.length_nil]; omega), trivial⟩ ?_; intro ρ a w G; refine bl_n ?_; refine th_n ?_; refine rs1s G ⟨[], [], []⟩ calls_nil trivial [(0, .ptr 0 0), (2, iA n), (4, .ptr 5 0), (6, .ptr 6 0), (8, .ptr 7 0), (9, iA (k - 1))] [IntKind.i64.wrap (k - (1 : Int)) = k - (1 : Int)] ⟨(by exact w64 (by omega) (by omega)), trivial⟩ fun ρ a w G => th_n ?_; exact rx_next G (k - 1) (by omega) (by omega) (rg 9) [.box [.ref 1, iA (drK b (↑vs.length : Int) (↑ars.length : Int) d j (arity (nm b (j + 1) kdL) - (k - 1)).toNat).snd], dY b, dI vs, dI ars, dT bd, .box (pL 2), .box [iA 0, iA 0, .v (.slice none 0 0)], .box [iA (nm b (j + 1) kdL), iA 0, .tref 8], .tree (D.exprs (drK b (↑vs.length : Int) (↑ars.length : Int) d j (arity (nm b (j + 1) kdL) - (k - 1)).toNat).fst)] [(0, .ptr 0 0), (2, iA n), (4, .ptr 5 0), (6, .ptr 6 0), (8, .ptr 7 0), (9, iA (k - 1))] (by kernel_rfl) (by kernel_rfl) (by kernel_rfl) (by have e1 : ((drK b (↑vs.length : Int) (↑ars.length : Int) d j (arity (nm b (j + 1) kdL) - (k - 1)).toNat).snd : Int) = ((drE b (↑vs.length : Int) (↑ars.length : Int) d (drK b (↑vs.length : Int) (↑ars.length : Int) d j (arity (nm b (j + 1) kdL) - k).toNat).snd).snd) := (by rw [dr_next (by omega) (by omega)]; done); have e2 : ((drK b (↑vs.length : Int) (↑ars.length : Int) d j (arity (nm b (j + 1) kdL) - (k - 1)).toNat).fst : List LExpr) = ((drK b (↑vs.length : Int) (↑ars.length : Int) d j (arity (nm b (j + 1) kdL) - k).toNat).fst ++ [LExpr.mk (drE b (↑vs.length : Int) (↑ars.length : Int) d (drK b (↑vs.length : Int) (↑ars.length : Int) d j (arity (nm b (j + 1) kdL) - k).toNat).snd).fst.kind (drE b (↑vs.length : Int) (↑ars.length : Int) d (drK b (↑vs.length : Int) (↑ars.length : Int) d j (arity (nm b (j + 1) kdL) - k).toNat).snd).fst.value (drE b (↑vs.length : Int) (↑ars.length : Int) d (drK b (↑vs.length : Int) (↑ars.length : Int) d j (arity (nm b (j + 1) kdL) - k).toNat).snd).fst.kids]) := (by rw [dr_next (by omega) (by omega)]; (simp only [LExpr.eta]; done)); (first | rw [e1, e2] | simp only [e1, e2]) <;> rfl) (by kernel_rfl)
    ·
     have q2 : nm b (j + 1) kdL = 3 := eq_of_beq h2; refine rT G (nm b (j + (1 : Int)) kdL == (3 : Int)) (by assumption) ?_; refine wp_seq (wp_seq ?_); refine rs0s G [(0, .ptr 0 0), (2, iA n), (4, .ptr 5 0), (6, .ptr 6 0), (7, iA (nm b (j + 1) kdL)), (28, bA ((↑ars.length : Int) == 0))] fun ρ a w G => th_n ?_; cases h3 : ((↑ars.length : Int) == (0 : Int))
     · have q3 : ¬ ((↑ars.length : Int) = 0) := ne_of_beq_false h3; refine rF G ((↑ars.length : Int) == (0 : Int)) (by assumption) ?_; refine wp_skip (th_n (wp_seq ?_)); refine rd1 (dk := dkP) G ⟨[(5, _, [0, 1]), (8, _, (rg 5))], [], []⟩ (calls_cons (c_pick (b) (j + 1 + 1) ((↑ars.length : Int)) (by omega) (by omega)) (calls_cons (c_atom (b) (j + 1 + 1 + 1) (vs) (ars) (bd) (by omega) (by omega)) calls_nil)) trivial [0, 0, 0, 4, 12, 30, 0, 0, 254, 510, 1023, 2047] [0, 1, 2, 3, 4, 5, 6, 79] [.box [.ref 1, iA (j + 1 + 1 + 1 + 2)], dY b, dI vs, dI ars, dT bd, .box (pL 2), .box [iA (nm b (j + 1) kdL), iA (pk b (j + 1 + 1) (↑ars.length : Int)), .tref 7], .tree (D.exprs [LExpr.mk (atomD b (↑vs.length : Int) (j + 1 + 1 + 1)).kind (atomD b (↑vs.length : Int) (j + 1 + 1 + 1)).value (atomD b (↑vs.length : Int) (j + 1 + 1 + 1)).kids])] [(0, .ptr 0 0), (2, iA n), (4, .ptr 5 0), (6, .ptr 6 0), (7, iA (nm b (j + 1) kdL))] [] trivial fun ρ a w G => th_n (wp_ret (th_r ?_)); exact rx_ret (v := .agg [iA (nm b (j + 1) kdL), iA (pk b (j + 1 + 1) (↑ars.length : Int)), .tref 7]) G [0, 1, 2, 3, 4, 7] (by kernel_rfl) (by kernel_rfl) (by show _ = List.map (It.ren (nth [0, 1, 2, 3, 4, 7])) (yDrB1 b vs ars bd d j); unfold yDrB1; have e1 : ((drE b (↑vs.length : Int) (↑ars.length : Int) (d + 1) j).snd : Int) = (j + 1 + 1 + 1 + 2) := (by rw [dr_3 hd (by omega) (by omega) (by omega)]; (simp only [Int.add_assoc, Int.reduceAdd, LExpr.eta, LExpr.kids, LExpr.kind, LExpr.value]; done)); have e2 : ((drE b (↑vs.length : Int) (↑ars.length : Int) (d + 1) j).fst.kids : List LExpr) = ([LExpr.mk (atomD b (↑vs.length : Int) (j + 1 + 1 + 1)).kind (atomD b (↑vs.length : Int) (j + 1 + 1 + 1)).value (atomD b (↑vs.length : Int) (j + 1 + 1 + 1)).kids]) := (by rw [dr_3 hd (by omega) (by omega) (by omega)]; show [_] = _; simp only [Int.add_assoc, Int.reduceAdd, LExpr.eta]; done); (first | rw [e1, e2] | simp only [e1, e2]) <;> rfl) (by show _ = AV.ren (nth [0, 1, 2, 3, 4, 7]) (yDrB2 b vs ars d j); unfold yDrB2; have e1 : ((drE b (↑vs.length : Int) (↑ars.length : Int) (d + 1) j).fst.kind : Int) = (nm b (j + 1) kdL) := (by rw [dr_3 hd (by omega) (by omega) (by omega)]; (simp only [Int.add_assoc, Int.reduceAdd, LExpr.eta, LExpr.kids, LExpr.kind, LExpr.value]; omega)); have e2 : ((drE b (↑vs.length : Int) (↑ars.length : Int) (d + 1) j).fst.value : Int) = (pk b (j + 1 + 1) (↑ars.length : Int)) := (by rw [dr_3 hd (by omega) (by omega) (by omega)]; (simp only [Int.add_assoc, Int.reduceAdd, LExpr.eta, LExpr.kids, LExpr.kind, LExpr.value]; done)); (first | rw [e1, e2] | simp only [e1, e2]) <;> rfl)
     · have q3 : (↑ars.length : Int) = 0 := eq_of_beq h3; refine rT G ((↑ars.length : Int) == (0 : Int)) (by assumption) ?_; refine wp_seq ?_; refine rs1 (dk := dkP) G ⟨[(2, _, (rg 5))], [], []⟩ (calls_cons (c_atom (b) (j + 1 + 1) (vs) (ars) (bd) (by omega) (by omega)) calls_nil) trivial [0, 1, 2, 3, 4, 5, 6, 23] [.box [.ref 1, iA (j + 1 + 1 + 2)], dY b, dI vs, dI ars, dT bd, .box (pL 2), .box [iA (atomD b (↑vs.length : Int) (j + 1 + 1)).kind, iA (atomD b (↑vs.length : Int) (j + 1 + 1)).value, .tref 7], .tree (D.exprs (atomD b (↑vs.length : Int) (j + 1 + 1)).kids)] [(0, .ptr 0 0), (2, iA n), (4, .ptr 5 0), (6, .ptr 6 0), (7, iA (nm b (j + 1) kdL))] [] trivial fun ρ a w G => th_n (wp_ret (th_r (th_r ?_))); exact rx_ret (v := .agg [iA (atomD b (↑vs.length : Int) (j + 1 + 1)).kind, iA (atomD b (↑vs.length : Int) (j + 1 + 1)).value, .tref 7]) G [0, 1, 2, 3, 4, 7] (by kernel_rfl) (by kernel_rfl) (by show _ = List.map (It.ren (nth [0, 1, 2, 3, 4, 7])) (yDrB1 b vs ars bd d j); unfold yDrB1; have e1 : ((drE b (↑vs.length : Int) (↑ars.length : Int) (d + 1) j).snd : Int) = (j + 1 + 1 + 2) := (by rw [dr_2 hd (by omega) (by omega) (by omega)]; (simp only [Int.add_assoc, Int.reduceAdd, LExpr.eta, LExpr.kids, LExpr.kind, LExpr.value]; done)); have e2 : ((drE b (↑vs.length : Int) (↑ars.length : Int) (d + 1) j).fst : LExpr) = (atomD b (↑vs.length : Int) (j + 1 + 1)) := (by rw [dr_2 hd (by omega) (by omega) (by omega)]; (simp only [Int.add_assoc, Int.reduceAdd, LExpr.eta, LExpr.kids, LExpr.kind, LExpr.value]; done)); (first | rw [e1, e2] | simp only [e1, e2]) <;> rfl) (by show _ = AV.ren (nth [0, 1, 2, 3, 4, 7]) (yDrB2 b vs ars d j); unfold yDrB2; have e1 : ((drE b (↑vs.length : Int) (↑ars.length : Int) (d + 1) j).fst.kind : Int) = ((atomD b (↑vs.length : Int) (j + 1 + 1)).kind) := (by rw [dr_2 hd (by omega) (by omega) (by omega)]; (simp only [Int.add_assoc, Int.reduceAdd, LExpr.eta, LExpr.kids, LExpr.kind, LExpr.value]; done)); have e2 : ((drE b (↑vs.length : Int) (↑ars.length : Int) (d + 1) j).fst.value : Int) = ((atomD b (↑vs.length : Int) (j + 1 + 1)).value) := (by rw [dr_2 hd (by omega) (by omega) (by omega)]; (simp only [Int.add_assoc, Int.reduceAdd, LExpr.eta, LExpr.kids, LExpr.kind, LExpr.value]; done)); (first | rw [e1, e2] | simp only [e1, e2]) <;> rfl)
   · have q1 : pk b j 4 = 0 := eq_of_beq h1; refine rT G (pk b j (4 : Int) == (0 : Int)) (by assumption) ?_; refine wp_seq ?_; refine rs1 (dk := dkP) G ⟨[(2, _, (rg 5))], [], []⟩ (calls_cons (c_atom (b) (j + 1) (vs) (ars) (bd) (by omega) (by omega)) calls_nil) trivial [0, 1, 2, 3, 4, 5, 6, 23] [.box [.ref 1, iA (j + 1 + 2)], dY b, dI vs, dI ars, dT bd, .box (pL 2), .box [iA (atomD b (↑vs.length : Int) (j + 1)).kind, iA (atomD b (↑vs.length : Int) (j + 1)).value, .tref 7], .tree (D.exprs (atomD b (↑vs.length : Int) (j + 1)).kids)] [(0, .ptr 0 0), (2, iA n), (4, .ptr 5 0), (6, .ptr 6 0)] [] trivial fun ρ a w G => th_n (wp_ret (th_r ?_)); exact rx_ret (v := .agg [iA (atomD b (↑vs.length : Int) (j + 1)).kind, iA (atomD b (↑vs.length : Int) (j + 1)).value, .tref 7]) G [0, 1, 2, 3, 4, 7] (by kernel_rfl) (by kernel_rfl) (by show _ = List.map (It.ren (nth [0, 1, 2, 3, 4, 7])) (yDrB1 b vs ars bd d j); unfold yDrB1; have e1 : ((drE b (↑vs.length : Int) (↑ars.length : Int) (d + 1) j).snd : Int) = (j + 1 + 2) := (by rw [dr_1 hd (by omega)]; (simp only [Int.add_assoc, Int.reduceAdd, LExpr.eta, LExpr.kids, LExpr.kind, LExpr.value]; done)); rw [e1]; rw [dr_1 hd (by omega)] <;> rfl) (by show _ = AV.ren (nth [0, 1, 2, 3, 4, 7]) (yDrB2 b vs ars d j); unfold yDrB2; rw [dr_1 hd (by omega)] <;> rfl)
  · have q0 : n < 2 := dTt h0; refine rs1s G ⟨[], [(decide (n < (2 : Int)), true)], [(3, 0), (4, 0), (5, 0), (1006, 0)]⟩ calls_nil ⟨(by assumption), trivial⟩ [(0, .ptr 0 0), (2, iA n), (4, .ptr 5 0), (6, .ptr 6 0), (16, bA true)] [] trivial fun ρ a w G => th_n ?_; refine rT G (true) (by kernel_rfl) ?_; refine wp_seq ?_; refine rs1 (dk := dkP) G ⟨[(2, _, (rg 5))], [], []⟩ (calls_cons (c_atom (b) (j) (vs) (ars) (bd) (by assumption) (by omega)) calls_nil) trivial [0, 1, 2, 3, 4, 5, 6, 23] [.box [.ref 1, iA (j + 2)], dY b, dI vs, dI ars, dT bd, .box (pL 2), .box [iA (atomD b (↑vs.length : Int) j).kind, iA (atomD b (↑vs.length : Int) j).value, .tref 7], .tree (D.exprs (atomD b (↑vs.length : Int) j).kids)] [(0, .ptr 0 0), (2, iA n), (4, .ptr 5 0), (6, .ptr 6 0)] [] trivial fun ρ a w G => th_n (wp_ret (th_r ?_)); exact rx_ret (v := .agg [iA (atomD b (↑vs.length : Int) j).kind, iA (atomD b (↑vs.length : Int) j).value, .tref 7]) G [0, 1, 2, 3, 4, 7] (by kernel_rfl) (by kernel_rfl) (by show _ = List.map (It.ren (nth [0, 1, 2, 3, 4, 7])) (yDrB1 b vs ars bd d j); unfold yDrB1; have e1 : ((drE b (↑vs.length : Int) (↑ars.length : Int) (d + 1) j).snd : Int) = (j + 2) := (by rw [dr_3 hd (by omega) (by omega) (by omega)]; (simp only [Int.add_assoc, Int.reduceAdd, LExpr.eta, LExpr.kids, LExpr.kind, LExpr.value]; omega)); have e2 : ((drE b (↑vs.length : Int) (↑ars.length : Int) (d + 1) j).fst : LExpr) = (atomD b (↑vs.length : Int) j) := (by rw [dr_3 hd (by omega) (by omega) (by omega)]; (simp only [Int.add_assoc, Int.reduceAdd, LExpr.eta, LExpr.kids, LExpr.kind, LExpr.value]; omega)); (first | rw [e1, e2] | simp only [e1, e2]) <;> rfl) (by show _ = AV.ren (nth [0, 1, 2, 3, 4, 7]) (yDrB2 b vs ars d j); unfold yDrB2; have e1 : ((drE b (↑vs.length : Int) (↑ars.length : Int) (d + 1) j).fst.kind : Int) = ((atomD b (↑vs.length : Int) j).kind) := (by rw [dr_3 hd (by omega) (by omega) (by omega)]; (simp only [Int.add_assoc, Int.reduceAdd, LExpr.eta, LExpr.kids, LExpr.kind, LExpr.value]; omega)); have e2 : ((drE b (↑vs.length : Int) (↑ars.length : Int) (d + 1) j).fst.value : Int) = ((atomD b (↑vs.length : Int) j).value) := (by rw [dr_3 hd (by omega) (by omega) (by omega)]; (simp only [Int.add_assoc, Int.reduceAdd, LExpr.eta, LExpr.kids, LExpr.kind, LExpr.value]; omega)); (first | rw [e1, e2] | simp only [e1, e2]) <;> rfl)

theorem c_draw (b : List UInt8) (vs ars : List Int) (bd : List LStmt) : ∀ (d : Nat) (j n : Int), d ≤ 100 → n = d → 0 ≤ j → j + cE d ≤ 800000000 → Ctr.ok Try.prog (drC b vs ars bd d j n)
  | 0, j, n, _, hn, r0, r1 => s_draw0 b vs ars bd 0 (by omega) j n hn r0 (by have := cE_nn 0; omega)
  | 1, j, n, _, hn, r0, r1 => s_draw0 b vs ars bd 1 (by omega) j n hn r0 (by have := cE_nn 1; omega)
  | d + 2, j, n, hd, hn, r0, r1 => s_drawS b vs ars bd (d + 1) (by omega) (by omega) (fun j n => c_draw b vs ars bd (d + 1) j n (by omega)) j n hn r0 r1
abbrev smC (b : List UInt8) (vs ars : List Int) (bd : List LStmt) (j : Int) : Ctr := ⟨169, [.ptr 0 0, pA 2], dwS b j vs ars bd, dwS b (smD b vs.length ars.length j).2 vs ars bd ++ exO (smD b vs.length ars.length j).1, exA (smD b vs.length ars.length j).1 5⟩
section
variable {b : List UInt8} {nv na : Nat} {j : Int}
theorem sm_1 (h : rightB nv na (drE b nv na (nm b j dpL).toNat (j + 1)).1 = true) : smD b nv na j = drE b nv na (nm b j dpL).toNat (j + 1) := if_pos h
theorem sm_2 (h : rightB nv na (drE b nv na (nm b j dpL).toNat (j + 1)).1 = false) : smD b nv na j = (atomD b nv (drE b nv na (nm b j dpL).toNat (j + 1)).2, (drE b nv na (nm b j dpL).toNat (j + 1)).2 + 2) := if_neg (by rw [h]; decide)
theorem sm_d (r0 : 0 ≤ j) (r1 : j ≤ 700000000) : cE (nm b j dpL).toNat ≤ 364 := cE4 (dp4 b r0 (by omega)).2.2
end
abbrev yDrB5 (b : List UInt8) (vs : List Int) (ars : List Int) (j : Int) := drE b (↑vs.length : Int) (↑ars.length : Int) (nm b j dpL).toNat (j + 1)
set_option maxHeartbeats 4000000 in
set_option maxRecDepth 100000 in
theorem c_small (b : List UInt8) (vs ars : List Int) (bd : List LStmt) (j : Int) (r0 : 0 ≤ j) (r1 : j ≤ 700000000) : Ctr.ok Try.prog (smC b vs ars bd j) := by
  have hdr := fun (i n : Int) => c_draw b vs ars bd (nm b j dpL).toNat i n (Nat.le_trans (dp4 b r0 (by omega)).2.2 (by omega))
  refine rx_enter 19 Try.func169 (by rfl) (by kernel_rfl) (by kernel_rfl) ?_; intro ι φ ψ w0 w F ρ0 ρ a G; replace G := Gam.at G [.box [.ref 1, iA j], dY b, dI vs, dI ars, dT bd] [(0, .ptr 0 0), (1, pA 2)]; have hd4 := sm_d (b := b) r0 r1; have hdb := drE_b b vs.length ars.length (nm b j dpL).toNat (j + 1); refine wp_seq ?_; refine rs0 G [0, 1, 2, 3, 4, 5, 13] [.box [.ref 1, iA j], dY b, dI vs, dI ars, dT bd, .box (pL 2), .box [iA 0, iA 0, .v (.slice none 0 0)]] [(0, .ptr 0 0), (3, .ptr 5 0), (4, .ptr 6 0)] fun ρ a w G => th_n (wp_seq ?_); refine rd1 (dk := dkP) G ⟨[(4, _, [0, 1, 31]), (5, _, (rg 5))], [], []⟩ (calls_cons (Ctr.lend (c_num (b) (j) dpL (by exact List.cons_ne_nil _ _) (by assumption) (by omega)) [.no, .no, .row 3]) (calls_cons (hdr (j + 1) (nm b j dpL) (by exact dp_nat b (by omega) (by omega)) (by omega) (by omega)) calls_nil)) trivial [0, 0, 0, 0, 12, 31, 0, 127] [0, 1, 2, 3, 4, 5, 6, 47, 55] [.box [.ref 1, iA (yDrB5 b vs ars j).snd], dY b, dI vs, dI ars, dT bd, .box (pL 2), .box [iA 0, iA 0, .v (.slice none 0 0)], .tree (D.exprs (yDrB5 b vs ars j).fst.kids), .box [iA (yDrB5 b vs ars j).fst.kind, iA (yDrB5 b vs ars j).fst.value, .tref 7]] [(0, .ptr 0 0), (3, .ptr 5 0), (4, .ptr 6 0), (5, .ptr 8 0)] [] trivial fun ρ a w G => th_n (wp_seq (wp_seq ?_)); refine rs1s G ⟨[(2, _, [2, 3, 4, 7])], [], []⟩ (calls_cons (Ctr.lend (c_l2RightV (vs) (ars) (bd) ((drE b (↑vs.length : Int) (↑ars.length : Int) (nm b j dpL).toNat (j + 1)).fst)) [.no, .no, .no, .tree]) calls_nil) trivial [(0, .ptr 0 0), (3, .ptr 5 0), (4, .ptr 6 0), (5, .ptr 8 0), (14, bA (rightB vs.length ars.length (yDrB5 b vs ars j).fst))] [] trivial fun ρ a w G => th_n ?_; cases h0 : (rightB vs.length ars.length (drE b (↑vs.length : Int) (↑ars.length : Int) (nm b j dpL).toNat (j + (1 : Int))).fst)
  · refine rF G (rightB vs.length ars.length (drE b (↑vs.length : Int) (↑ars.length : Int) (nm b j dpL).toNat (j + (1 : Int))).fst) (by assumption) ?_; refine wp_skip (th_n (wp_seq ?_)); refine rs1 (dk := dkP) G ⟨[(2, _, (rg 5))], [], []⟩ (calls_cons (c_atom (b) ((drE b (↑vs.length : Int) (↑ars.length : Int) (nm b j dpL).toNat (j + 1)).snd) (vs) (ars) (bd) (by omega) (by omega)) calls_nil) trivial [0, 1, 2, 3, 4, 6, 25] [.box [.ref 1, iA ((yDrB5 b vs ars j).snd + 2)], dY b, dI vs, dI ars, dT bd, .box [iA (atomD b (↑vs.length : Int) (yDrB5 b vs ars j).snd).kind, iA (atomD b (↑vs.length : Int) (yDrB5 b vs ars j).snd).value, .tref 6], .tree (D.exprs (atomD b (↑vs.length : Int) (yDrB5 b vs ars j).snd).kids)] [(4, .ptr 5 0)] [] trivial fun ρ a w G => th_n (wp_ret ?_); exact rx_ret (v := .agg [iA (atomD b (↑vs.length : Int) (drE b (↑vs.length : Int) (↑ars.length : Int) (nm b j dpL).toNat (j + 1)).snd).kind, iA (atomD b (↑vs.length : Int) (drE b (↑vs.length : Int) (↑ars.length : Int) (nm b j dpL).toNat (j + 1)).snd).value, .tref 6]) G [0, 1, 2, 3, 4, 6] (by kernel_rfl) (by kernel_rfl) (by show _ = List.map (It.ren (nth [0, 1, 2, 3, 4, 6])) [.box [.ref 1, iA (smD b vs.length ars.length j).snd], dY b, dI vs, dI ars, dT bd, .tree (D.exprs (smD b vs.length ars.length j).fst.kids)]; rw [sm_2 (by with_reducible assumption)] <;> rfl) (by show _ = AV.ren (nth [0, 1, 2, 3, 4, 6]) (.agg [iA (smD b vs.length ars.length j).fst.kind, iA (smD b vs.length ars.length j).fst.value, .tref 5]); rw [sm_2 (by with_reducible assumption)] <;> rfl)
  · refine rT G (rightB vs.length ars.length (drE b (↑vs.length : Int) (↑ars.length : Int) (nm b j dpL).toNat (j + (1 : Int))).fst) (by assumption) ?_; refine wp_seq ?_; refine rs0 G (rg 8) [.box [.ref 1, iA (yDrB5 b vs ars j).snd], dY b, dI vs, dI ars, dT bd, .box (pL 2), .box [iA (yDrB5 b vs ars j).fst.kind, iA (yDrB5 b vs ars j).fst.value, .tref 7], .tree (D.exprs (yDrB5 b vs ars j).fst.kids)] [(0, .ptr 0 0), (3, .ptr 5 0), (4, .ptr 6 0)] fun ρ a w G => th_n (wp_ret (th_r ?_)); exact rx_ret (v := .agg [iA (drE b (↑vs.length : Int) (↑ars.length : Int) (nm b j dpL).toNat (j + 1)).fst.kind, iA (drE b (↑vs.length : Int) (↑ars.length : Int) (nm b j dpL).toNat (j + 1)).fst.value, .tref 7]) G [0, 1, 2, 3, 4, 7] (by kernel_rfl) (by kernel_rfl) (by show _ = List.map (It.ren (nth [0, 1, 2, 3, 4, 7])) [.box [.ref 1, iA (smD b vs.length ars.length j).snd], dY b, dI vs, dI ars, dT bd, .tree (D.exprs (smD b vs.length ars.length j).fst.kids)]; rw [sm_1 (by with_reducible assumption)] <;> rfl) (by show _ = AV.ren (nth [0, 1, 2, 3, 4, 7]) (.agg [iA (smD b vs.length ars.length j).fst.kind, iA (smD b vs.length ars.length j).fst.value, .tref 5]); rw [sm_1 (by with_reducible assumption)] <;> rfl)

end Go.Proofs.Ytimmlkmpbmbgdaa
