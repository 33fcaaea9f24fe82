/-
  Texts of this claim, part 6: what the functions on the way do, and plain laws. Conditions: as each statement says.
-/
import Derived.Test.YthikdkjjdeehoaaGreatK5
set_option maxRecDepth 100000
set_option maxHeartbeats 16000000
open Bool renaming and_eq_false_iff → cb4, and_eq_true → b85, and_eq_true_iff → cb6, not_eq_false' → ca0, not_eq_true' → b99
open Inhabited renaming default → b81
open Int renaming mul_le_mul_of_nonneg_right → cd1
open List renaming all_eq_true → b93, append_assoc → cc0, eq_nil_of_length_eq_zero → ca3, foldl → cb0, getElem_mem → ca5, length_append → b83, length_cons → b84, length_nil → b86, length_replicate → b87, length_set → b97, mem_append → ca1, mem_cons → cb7, mem_cons_of_mem → ca9, mem_cons_self → ca6, mem_singleton → ca4, range → ca2, replicate → b82, take → b88, take_of_length_le → b98
open Nat renaming le_refl → b94, le_trans → cb5, mul_le_mul_right → cc7, zero_le → cb1
open True renaming intro → b91

namespace Go.Proofs.YthikdkjjdeehoaaGreat
set_option linter.unusedVariables false
set_option linter.unusedSimpArgs false
open Go Go.RowKit
abbrev fcB (f : Nat) (c n a : Int) : List It := [.box [iA c], .box [.bm f [pA 0]], .box [iA n], .box [iA a]]
abbrev as1 : Nat := 67
abbrev as0 : Nat := 68
abbrev I7 (p : f7) : b5 × Int → Int := fun x => R7 p x.1 x.2
abbrev I6 (p : f7) : b5 × Int → Int := fun x => aa1 p x.1
section
variable {R : b5 × Int → Int} {c a : Int} {n : Nat} {x : b5 × Int}
theorem bY4 (h : ¬ c = 0) : (k8 R (c, a, n) x).1 = c := by unfold k8; rw [if_neg h]
theorem bY3 (h : ¬ c = 0) : (k8 R (c, a, n) x).2.1 = a := by unfold k8; rw [if_neg h]
theorem aJ2 : (k8 R (c, a, n) x).2.2 = n + 1 := by unfold k8; split <;> rfl
theorem bI7 (h : c = 0) : (k8 R (c, a, n) x).1 = R x := by unfold k8; rw [if_pos h]
theorem bY2 (h : c = 0) (hr : R x = 0) : (k8 R (c, a, n) x).2.1 = a := by unfold k8; rw [if_pos h, if_pos hr]
theorem bY1 (h : c = 0) (hr : ¬ R x = 0) : (k8 R (c, a, n) x).2.1 = n := by unfold k8; rw [if_pos h, if_neg hr]
end
abbrev aR4 (p : f7) (s : b5) (cx : Int) (c : Int) (b : Int) (n : Nat) : List It := [dI p.vars, dI p.arrays, dT p.body, .box [iA (k8 (I7 p) (c, b, n) (s, cx)).fst], .box [.bm as1 [pA 0]], .box [iA ((k8 (I7 p) (c, b, n) (s, cx)).snd.snd : Int)], .box [iA (k8 (I7 p) (c, b, n) (s, cx)).snd.fst], dE s.index.kids, dE s.value.kids, dT s.body, dT s.els]
abbrev aG8 (s : b5) (r0 : List It) : List It := dE s.index.kids :: dE s.value.kids :: dT s.body :: dT s.els :: r0
theorem bP1 (p : f7) (s : b5) (cx : Int) (c b : Int) (n : Nat) (hn : n + 1 ≤ 4000000) (h : D5 p.vars.length p.arrays.length s = true) :
    m7.ok Tryz.prog ⟨137, [sA s 7, iA cx, .ptr 3 0, .ptr 4 0, .ptr 5 0, .ptr 6 0], pS p ++ fcB as1 c n b ++ sS s,
      pS p ++ fcB as1 (k8 (I7 p) (c, b, n) (s, cx)).1 (k8 (I7 p) (c, b, n) (s, cx)).2.2 (k8 (I7 p) (c, b, n) (s, cx)).2.1 ++ sS s, .tup []⟩ := by
  refine H8 19 Tryz.func137 (dI p.vars :: dI p.arrays :: dT p.body :: .box [iA c] :: .box [.bm 67 [pA 0]] :: .box [iA n] :: .box [iA b] :: (aG8 s [])) [(0, sA s 7), (1, iA cx), (2, .ptr 3 0), (3, .ptr 4 0), (4, .ptr 5 0), (5, .ptr 6 0)] fun G => ?_; refine wp_seq (m5 G i7 (rg 12) (dI p.vars :: dI p.arrays :: dT p.body :: .box [iA c] :: .box [.bm 67 [pA 0]] :: .box [iA n] :: .box [iA b] :: (aG8 s [.box (sL s 7)])) [(1, iA cx), (2, .ptr 3 0), (3, .ptr 4 0), (4, .ptr 5 0), (5, .ptr 6 0), (6, .ptr 11 0)] fun G => b0 (wp_seq (wp_seq (l8 G i7 [(9, bA (c == 0))] fun G => b0 (T1 G (fun h0 q0 => ?_) fun h0 q0 => ?_)))))
  · refine wp_skip (b0 (U0 G i7 (rg 11) (dI p.vars :: dI p.arrays :: dT p.body :: .box [iA c] :: .box [.bm 67 [pA 0]] :: .box [iA ((n : Int) + 1)] :: .box [iA b] :: (aG8 s [])) [] [wO ((n : Int) + 1)] (o1 (by omega)) fun G => ?_)); exact aq6 G (rg 11) (by show _ = mR (rg 11) (aR4 p s cx c b n); unfold aR4; have e1 : ((k8 (I7 p) (c, b, n) (s, cx)).fst : Int) = (c) := (bY4 (by assumption)); have e2 : (((k8 (I7 p) (c, b, n) (s, cx)).snd.snd : Int) : Int) = ((n : Int) + 1) := (congrArg Int.ofNat aJ2); have e3 : ((k8 (I7 p) (c, b, n) (s, cx)).snd.fst : Int) = (b) := (bY3 (by assumption)); (first | rw [e1, e2, e3] | simp only [e1, e2, e3]) <;> rfl)
  ·
   refine wp_seq (m5 G (t5 3 [0, 1, 2, 7, 8, 9, 10] (bW4 p s cx (by assumption))) (rg 11) (dI p.vars :: dI p.arrays :: dT p.body :: .box [iA (R7 p s cx)] :: .box [.bm 67 [pA 0]] :: .box [iA n] :: .box [iA b] :: (aG8 s [])) [(2, .ptr 3 0), (4, .ptr 5 0), (5, .ptr 6 0)] fun G => b0 (wp_seq (l8 G i7 [(15, bA (R7 p s cx != 0))] fun G => b0 (rcN G (fun h1 q1 => ?_) fun h1 q1 => ?_))))
   · refine wp_skip (b0 (U0 G i7 (rg 11) (dI p.vars :: dI p.arrays :: dT p.body :: .box [iA (R7 p s cx)] :: .box [.bm 67 [pA 0]] :: .box [iA ((n : Int) + 1)] :: .box [iA b] :: (aG8 s [])) [] [wO ((n : Int) + 1)] (o1 (by omega)) fun G => ?_)); exact aq6 G (rg 11) (by show _ = mR (rg 11) (aR4 p s cx c b n); unfold aR4; have e1 : ((k8 (I7 p) (c, b, n) (s, cx)).fst : Int) = (R7 p s cx) := (bI7 (by assumption)); have e2 : (((k8 (I7 p) (c, b, n) (s, cx)).snd.snd : Int) : Int) = ((n : Int) + 1) := (congrArg Int.ofNat aJ2); have e3 : ((k8 (I7 p) (c, b, n) (s, cx)).snd.fst : Int) = (b) := (bY2 (by assumption) (by assumption)); (first | rw [e1, e2, e3] | simp only [e1, e2, e3]) <;> rfl)
   · refine m5 G i7 (rg 11) (dI p.vars :: dI p.arrays :: dT p.body :: .box [iA (R7 p s cx)] :: .box [.bm 67 [pA 0]] :: .box [iA n] :: .box [iA n] :: (aG8 s [])) [(4, .ptr 5 0)] fun G => b0 (U0 G i7 (rg 11) (dI p.vars :: dI p.arrays :: dT p.body :: .box [iA (R7 p s cx)] :: .box [.bm 67 [pA 0]] :: .box [iA ((n : Int) + 1)] :: .box [iA n] :: (aG8 s [])) [] [wO ((n : Int) + 1)] (o1 (by omega)) fun G => ?_); exact aq6 G (rg 11) (by show _ = mR (rg 11) (aR4 p s cx c b n); unfold aR4; have e1 : ((k8 (I7 p) (c, b, n) (s, cx)).fst : Int) = (R7 p s cx) := (bI7 (by assumption)); have e2 : (((k8 (I7 p) (c, b, n) (s, cx)).snd.snd : Int) : Int) = ((n : Int) + 1) := (congrArg Int.ofNat aJ2); have e3 : ((k8 (I7 p) (c, b, n) (s, cx)).snd.fst : Int) = ((n : Int)) := (bY1 (by assumption) (by assumption)); (first | rw [e1, e2, e3] | simp only [e1, e2, e3]) <;> rfl)
def T3 (R : b5 × Int → Int) (p : f7) (d : Nat) (cx : Int) (ss : List b5) (c b : Int) (n k : Nat) : Int × Int × Nat := (A5 p (d + 1) cx (ss.take k)).foldl (k8 R) (c, b, n)
section
variable {R : b5 × Int → Int} {p : f7} {d : Nat} {cx : Int} {ss : List b5} {c b : Int} {n k : Nat}
theorem bt4 (hk : k < ss.length) (h : (ss.getD k b81).kind = 3) : T3 R p d cx ss c b n (k + 1) = (A5 p d (r8 cx (l5 p (ss.getD k b81).value)) (ss.getD k b81).els).foldl (k8 R) ((A5 p d (r8 cx (l5 p (ss.getD k b81).value)) (ss.getD k b81).body).foldl (k8 R) (k8 R (T3 R p d cx ss c b n k) (ss.getD k b81, cx))) := by
 unfold T3; rw [aS3 hk]; unfold I5; rw [if_pos h]
theorem b13 (hk : k < ss.length) (h : ¬ (ss.getD k b81).kind = 3) : T3 R p d cx ss c b n (k + 1) = (A5 p d cx (ss.getD k b81).els).foldl (k8 R) ((A5 p d cx (ss.getD k b81).body).foldl (k8 R) (k8 R (T3 R p d cx ss c b n k) (ss.getD k b81, cx))) := by
 unfold T3; rw [aS3 hk]; unfold I5; rw [if_neg h]
theorem ay8 (hk : ss.length ≤ k) : (A5 p (d + 1) cx ss).foldl (k8 R) (c, b, n) = T3 R p d cx ss c b n k := by unfold T3; rw [b98 hk]
theorem bg4 : (T3 R p d cx ss c b n k).2.2 ≤ n + E9 (ss.take k) := by
 unfold T3; rw [ay1]
 have := av8 p (d + 1) cx (ss.take k)
 simp only; omega
theorem bo1 (hk : k < ss.length) (hn : n + E9 ss ≤ 4000000) : (T3 R p d cx ss c b n k).2.2 + 1 ≤ 4000000 := by
 have h1 := bg4 (R := R) (p := p) (d := d) (cx := cx) (ss := ss) (c := c) (b := b) (n := n) (k := k)
 have h2 := ba3 hk
 omega
theorem aF5 (hk : k < ss.length) (hn : n + E9 ss ≤ 4000000) : (k8 R ((T3 R p d cx ss c b n k).1, (T3 R p d cx ss c b n k).2.1, (T3 R p d cx ss c b n k).2.2) (ss.getD k b81, cx)).2.2 + E9 (ss.getD k b81).body ≤ 4000000 := by
 have h1 := bg4 (R := R) (p := p) (d := d) (cx := cx) (ss := ss) (c := c) (b := b) (n := n) (k := k)
 have h2 := ba3 hk
 rw [aJ2]
 omega
theorem aF4 {cy : Int} (hk : k < ss.length) (hn : n + E9 ss ≤ 4000000) {σ : Int × Int × Nat} (hσ : σ.2.2 = (T3 R p d cx ss c b n k).2.2 + 1) : ((A5 p d cy (ss.getD k b81).body).foldl (k8 R) σ).2.2 + E9 (ss.getD k b81).els ≤ 4000000 := by
 have h1 := bg4 (R := R) (p := p) (d := d) (cx := cx) (ss := ss) (c := c) (b := b) (n := n) (k := k)
 have h2 := ba3 hk
 rw [ay1, hσ]
 have h3 := av8 p d cy (ss.getD k b81).body
 omega
end
abbrev aH4 (p : f7) (d : Nat) (ss : List b5) (cx : Int) (c : Int) (b : Int) (n : Nat) (k : Nat) := cb0 (k8 (I7 p)) (k8 (I7 p) (T3 (I7 p) p d cx ss c b n k) (ss.getD k b81, cx)) (A5 p d (r8 cx (l5 p (ss.getD k b81).value)) (ss.getD k b81).body)
abbrev at1 (p : f7) (d : Nat) (ss : List b5) (cx : Int) (c : Int) (b : Int) (n : Nat) (k : Nat) := cb0 (k8 (I7 p)) (k8 (I7 p) (T3 (I7 p) p d cx ss c b n k) (ss.getD k b81, cx)) (A5 p d cx (ss.getD k b81).body)
abbrev aR3 (p : f7) (d : Nat) (ss : List b5) (cx : Int) (c : Int) (b : Int) (n : Nat) (k : Nat) := cb0 (k8 (I7 p)) (aH4 p d ss cx c b n k) (A5 p d (r8 cx (l5 p (ss.getD k b81).value)) (ss.getD k b81).els)
abbrev as9 (p : f7) (d : Nat) (ss : List b5) (cx : Int) (c : Int) (b : Int) (n : Nat) (k : Nat) := k8 (I7 p) (T3 (I7 p) p d cx ss c b n k) (ss.getD k b81, cx)
abbrev ao6 : AV := .fn 137 [.ptr 3 0, .ptr 4 0, .ptr 5 0, .ptr 6 0]
abbrev bj2 (ss : List b5) (k : Nat) (r0 : List It) : List It := dT ss :: .box (pL 0) :: dE (ss.getD k b81).index.kids :: dE (ss.getD k b81).value.kids :: dT (ss.getD k b81).body :: dT (ss.getD k b81).els :: .box (sL (ss.getD k b81) 9) :: r0
abbrev aG7 (ss : List b5) (k : Nat) (r0 : List (Nat × AV)) : List (Nat × AV) := (11, .ref 7) :: (12, iA (ss.length : Int)) :: (13, iA (k : Int)) :: r0
theorem a98 (p : f7) (d : Nat) (ss : List b5) (ih : ∀ (tt : List b5) (cx : Int) (c b : Int) (n : Nat), 0 < ss.length → tt.all (i9 p.vars.length p.arrays.length d) = true → n + E9 tt ≤ 4000000 → m7.ok Tryz.prog ⟨93, [pA 0, .ref 7, iA cx, .fn 137 [.ptr 3 0, .ptr 4 0, .ptr 5 0, .ptr 6 0]], pS p ++ fcB as1 c n b ++ [.dat (.stmts tt)],
      pS p ++ fcB as1 ((A5 p d cx tt).foldl (k8 (I7 p)) (c, b, n)).1 ((A5 p d cx tt).foldl (k8 (I7 p)) (c, b, n)).2.2 ((A5 p d cx tt).foldl (k8 (I7 p)) (c, b, n)).2.1 ++ [.dat (.stmts tt)], .tup []⟩)
    (cx : Int) (c b : Int) (n : Nat) (hs : ss.all (i9 p.vars.length p.arrays.length (d + 1)) = true) (hn : n + E9 ss ≤ 4000000) : m7.ok Tryz.prog ⟨93, [pA 0, .ref 7, iA cx, .fn 137 [.ptr 3 0, .ptr 4 0, .ptr 5 0, .ptr 6 0]], pS p ++ fcB as1 c n b ++ [.dat (.stmts ss)],
      pS p ++ fcB as1 ((A5 p (d + 1) cx ss).foldl (k8 (I7 p)) (c, b, n)).1 ((A5 p (d + 1) cx ss).foldl (k8 (I7 p)) (c, b, n)).2.2 ((A5 p (d + 1) cx ss).foldl (k8 (I7 p)) (c, b, n)).2.1 ++ [.dat (.stmts ss)], .tup []⟩ := by
  refine H8 44 Tryz.func93 [dI p.vars, dI p.arrays, dT p.body, .box [iA c], .box [.bm 67 [pA 0]], .box [iA n], .box [iA b], dT ss] [(0, pA 0), (1, .ref 7), (2, iA cx), (3, ao6)] fun G => ?_; have hlen : ss.length ≤ 9223372036854775807 := G.len 7 (d := .stmts ss) (by kernel_rfl); refine wp_seq (m5 G i7 (rg 9) [dI p.vars, dI p.arrays, dT p.body, .box [iA c], .box [.bm 67 [pA 0]], .box [iA n], .box [iA b], dT ss, .box (pL 0)] [(1, .ref 7), (2, iA cx), (3, ao6), (4, .ptr 8 0)] fun G => b0 (wp_seq (K8 G i7 [(2, iA cx), (3, ao6), (4, .ptr 8 0), (11, .ref 7), (12, iA (ss.length : Int)), (13, iA 0)] fun G => b0 (wp_block ?_)))); refine y9 (κ := Nat) (fun k => k ≤ ss.length) (fun k => ss.length - k) (fun k => [dI p.vars, dI p.arrays, dT p.body, .box [iA (T3 (I7 p) p d cx ss c b n k).1], .box [.bm 67 [pA 0]], .box [iA (T3 (I7 p) p d cx ss c b n k).2.2], .box [iA (T3 (I7 p) p d cx ss c b n k).2.1], dT ss, .box (pL 0)]) (fun k => [(2, iA cx), (3, .fn 137 [.ptr 3 0, .ptr 4 0, .ptr 5 0, .ptr 6 0]), (4, .ptr 8 0), (11, .ref 7), (12, iA (ss.length : Int)), (13, iA k)]) 0 (by simp [hs]) (x8.at G _ _) ?_; clear G; intro k ρ a w hp G; replace G := x8.at G [dI p.vars, dI p.arrays, dT p.body, .box [iA (T3 (I7 p) p d cx ss c b n k).fst], .box [.bm 67 [pA 0]], .box [iA ((T3 (I7 p) p d cx ss c b n k).snd.snd : Int)], .box [iA (T3 (I7 p) p d cx ss c b n k).snd.fst], dT ss, .box (pL 0)] ((2, iA cx) :: (3, ao6) :: (4, .ptr 8 0) :: (aG7 ss k [])); refine wp_seq (l8 G i7 [(14, bA (decide ((k : Int) < ss.length)))] fun G => b0 (wp_seq (rcD G (fun h0 q0 => ?_) fun h0 q0 => ?_)))
  · refine wp_exit (y7 (y7 (y6 ?_))); exact aq6 G (rg 8) (by show _ = mR (rg 8) [dI p.vars, dI p.arrays, dT p.body, .box [iA (cb0 (k8 (I7 p)) (c, b, n) (A5 p (d + 1) cx ss)).fst], .box [.bm as1 [pA 0]], .box [iA ((cb0 (k8 (I7 p)) (c, b, n) (A5 p (d + 1) cx ss)).snd.snd : Int)], .box [iA (cb0 (k8 (I7 p)) (c, b, n) (A5 p (d + 1) cx ss)).snd.fst], dT ss]; have e1 : ((cb0 (k8 (I7 p)) (c, b, n) (A5 p (d + 1) cx ss)).fst : Int) = ((T3 (I7 p) p d cx ss c b n k).fst) := (congrArg Prod.fst (ay8 (by omega))); have e2 : (((cb0 (k8 (I7 p)) (c, b, n) (A5 p (d + 1) cx ss)).snd.snd : Int) : Int) = (((T3 (I7 p) p d cx ss c b n k).snd.snd : Int)) := (congrArg (fun x : Int × Int × Nat => Int.ofNat x.2.2) (ay8 (by omega))); have e3 : ((cb0 (k8 (I7 p)) (c, b, n) (A5 p (d + 1) cx ss)).snd.fst : Int) = ((T3 (I7 p) p d cx ss c b n k).snd.fst) := (congrArg (fun x : Int × Int × Nat => x.2.1) (ay8 (by omega))); (first | rw [e1, e2, e3] | simp only [e1, e2, e3]) <;> rfl)
  ·
   refine wp_skip (b0 (wp_seq (wp_block (wp_seq (U0 G i7 [0, 1, 2, 3, 4, 5, 6, 7, 8, 17, 18, 19, 20, 25] (dI p.vars :: dI p.arrays :: dT p.body :: .box [iA (T3 (I7 p) p d cx ss c b n k).fst] :: .box [.bm 67 [pA 0]] :: .box [iA ((T3 (I7 p) p d cx ss c b n k).snd.snd : Int)] :: .box [iA (T3 (I7 p) p d cx ss c b n k).snd.fst] :: (bj2 ss k [])) ((2, iA cx) :: (3, ao6) :: (4, .ptr 8 0) :: (9, .ptr 13 0) :: (aG7 ss k [])) (iX k k ss.length []) (iK (by omega) b91) fun G => b0 (wp_seq (m5 G (t5 3 [0, 1, 2, 3, 4, 5, 6, 9, 10, 11, 12] (bP1 p (ss.getD k b81) cx ((T3 (I7 p) p d cx ss c b n k).fst) ((T3 (I7 p) p d cx ss c b n k).snd.fst) ((T3 (I7 p) p d cx ss c b n k).snd.snd) (bo1 (by omega) hn) ((z9 hs (by omega)).1))) (rg 14) (dI p.vars :: dI p.arrays :: dT p.body :: .box [iA (as9 p d ss cx c b n k).fst] :: .box [.bm 67 [pA 0]] :: .box [iA ((as9 p d ss cx c b n k).snd.snd : Int)] :: .box [iA (as9 p d ss cx c b n k).snd.fst] :: (bj2 ss k [])) ((2, iA cx) :: (3, ao6) :: (4, .ptr 8 0) :: (9, .ptr 13 0) :: (aG7 ss k [])) fun G => b0 (wp_seq (l8 G i7 [(10, iA cx)] fun G => b0 (wp_seq (wp_seq (l8 G i7 [(24, bA ((ss.getD k b81).kind == 3))] fun G => b0 (T1 G (fun h1 q1 => ?_) fun h1 q1 => ?_)))))))))))))
   · refine wp_skip (b0 (wp_seq (m5 G (t5 5 [0, 1, 2, 3, 4, 5, 6, 11] (ih ((ss.getD k b81).body) cx ((as9 p d ss cx c b n k).fst) ((as9 p d ss cx c b n k).snd.fst) ((as9 p d ss cx c b n k).snd.snd) (by omega) ((z9 hs (by omega)).2.1) (aF5 (by omega) hn))) (rg 14) (dI p.vars :: dI p.arrays :: dT p.body :: .box [iA (at1 p d ss cx c b n k).fst] :: .box [.bm 67 [pA 0]] :: .box [iA ((at1 p d ss cx c b n k).snd.snd : Int)] :: .box [iA (at1 p d ss cx c b n k).snd.fst] :: (bj2 ss k [])) ((2, iA cx) :: (3, ao6) :: (4, .ptr 8 0) :: (9, .ptr 13 0) :: (10, iA cx) :: (aG7 ss k [])) fun G => b0 (m5 G (t5 5 [0, 1, 2, 3, 4, 5, 6, 12] (ih ((ss.getD k b81).els) cx ((at1 p d ss cx c b n k).fst) ((at1 p d ss cx c b n k).snd.fst) ((at1 p d ss cx c b n k).snd.snd) (by omega) ((z9 hs (by omega)).2.2) (aF4 (by omega) hn aJ2))) (rg 9) [dI p.vars, dI p.arrays, dT p.body, .box [iA (cb0 (k8 (I7 p)) (at1 p d ss cx c b n k) (A5 p d cx (ss.getD k b81).els)).fst], .box [.bm 67 [pA 0]], .box [iA ((cb0 (k8 (I7 p)) (at1 p d ss cx c b n k) (A5 p d cx (ss.getD k b81).els)).snd.snd : Int)], .box [iA (cb0 (k8 (I7 p)) (at1 p d ss cx c b n k) (A5 p d cx (ss.getD k b81).els)).snd.fst], dT ss, .box (pL 0)] ((2, iA cx) :: (3, ao6) :: (4, .ptr 8 0) :: (aG7 ss k [])) fun G => r7 (b0 (K7 G i7 [(13, iA ((k : Int) + 1))] [wO ((k : Int) + 1)] (o1 (by omega)) fun G => b0 ?_)))))); exact rxn G (k + 1) (by omega) (by omega) (rg 9) (by have h9 := b13 (R := (I7 p)) (p := p) (d := d) (cx := cx) (ss := ss) (c := c) (b := b) (n := n) (k := k) (by omega) (by assumption); rw [h9] <;> rfl)
   · refine l8 G (t5 4 [0, 1, 2, 10] (Y3 p ((ss.getD k b81).value) (v9 (z9 hs (by omega)).1 (by omega)))) [(10, iA (r8 cx (l5 p (ss.getD k b81).value)))] fun G => b0 (wp_seq (m5 G (t5 5 [0, 1, 2, 3, 4, 5, 6, 11] (ih ((ss.getD k b81).body) (r8 cx (l5 p (ss.getD k b81).value)) ((as9 p d ss cx c b n k).fst) ((as9 p d ss cx c b n k).snd.fst) ((as9 p d ss cx c b n k).snd.snd) (by omega) ((z9 hs (by omega)).2.1) (aF5 (by omega) hn))) (rg 14) (dI p.vars :: dI p.arrays :: dT p.body :: .box [iA (aH4 p d ss cx c b n k).fst] :: .box [.bm 67 [pA 0]] :: .box [iA ((aH4 p d ss cx c b n k).snd.snd : Int)] :: .box [iA (aH4 p d ss cx c b n k).snd.fst] :: (bj2 ss k [])) ((2, iA cx) :: (3, ao6) :: (4, .ptr 8 0) :: (9, .ptr 13 0) :: (10, iA (r8 cx (l5 p (ss.getD k b81).value))) :: (aG7 ss k [])) fun G => b0 (m5 G (t5 5 [0, 1, 2, 3, 4, 5, 6, 12] (ih ((ss.getD k b81).els) (r8 cx (l5 p (ss.getD k b81).value)) ((aH4 p d ss cx c b n k).fst) ((aH4 p d ss cx c b n k).snd.fst) ((aH4 p d ss cx c b n k).snd.snd) (by omega) ((z9 hs (by omega)).2.2) (aF4 (by omega) hn aJ2))) (rg 9) [dI p.vars, dI p.arrays, dT p.body, .box [iA (aR3 p d ss cx c b n k).fst], .box [.bm 67 [pA 0]], .box [iA ((aR3 p d ss cx c b n k).snd.snd : Int)], .box [iA (aR3 p d ss cx c b n k).snd.fst], dT ss, .box (pL 0)] ((2, iA cx) :: (3, ao6) :: (4, .ptr 8 0) :: (aG7 ss k [])) fun G => r7 (b0 (K7 G i7 [(13, iA ((k : Int) + 1))] [wO ((k : Int) + 1)] (o1 (by omega)) fun G => b0 ?_))))); exact rxn G (k + 1) (by omega) (by omega) (rg 9) (by have e1 : ((T3 (I7 p) p d cx ss c b n (k + 1)).fst : Int) = ((aR3 p d ss cx c b n k).fst) := (congrArg Prod.fst (bt4 (by omega) (by assumption))); have e2 : (((T3 (I7 p) p d cx ss c b n (k + 1)).snd.snd : Int) : Int) = (((aR3 p d ss cx c b n k).snd.snd : Int)) := (congrArg (fun x : Int × Int × Nat => Int.ofNat x.2.2) (bt4 (by omega) (by assumption))); have e3 : ((T3 (I7 p) p d cx ss c b n (k + 1)).snd.fst : Int) = ((aR3 p d ss cx c b n k).snd.fst) := (congrArg (fun x : Int × Int × Nat => x.2.1) (bt4 (by omega) (by assumption))); (first | rw [e1, e2, e3] | simp only [e1, e2, e3]) <;> rfl)
theorem bW8 {nv na d k : Nat} {ss : List b5} (hs : ss.all (i9 nv na (d + 1)) = true) (hk : k < ss.length) : okS nv na 5 (ss.getD k b81).value := by
 have h1 := z9 hs hk
 by_cases k4 : (ss.getD k b81).kind = 4
 ·have h0 := b93.1 hs _ (ca5 hk)
  rw [← p6 (d := b81) hk] at h0
  rw [i9, b85] at h0
  have h2 := h0.1
  unfold A7 at h2
  rw [if_pos (.inr k4), if_pos k4] at h2
  simp only [b85, decide_eq_true_eq, noneB] at h2
  exact .inl ⟨h2.2.2.1.1, ca3 h2.2.2.2⟩
 ·exact .inr (v9 h1.1 k4)
abbrev aR2 (p : f7) (s : b5) (cx : Int) (c : Int) (b : Int) (n : Nat) : List It := [dI p.vars, dI p.arrays, dT p.body, .box [iA (k8 (I6 p) (c, b, n) (s, cx)).fst], .box [.bm as0 [pA 0]], .box [iA ((k8 (I6 p) (c, b, n) (s, cx)).snd.snd : Int)], .box [iA (k8 (I6 p) (c, b, n) (s, cx)).snd.fst], dE s.index.kids, dE s.value.kids, dT s.body, dT s.els]
abbrev aG6 (s : b5) (r0 : List It) : List It := dE s.index.kids :: dE s.value.kids :: dT s.body :: dT s.els :: r0
theorem bP0 (p : f7) (s : b5) (cx : Int) (c b : Int) (n : Nat) (hn : n + 1 ≤ 4000000) (h : D5 p.vars.length p.arrays.length s = true) (hv : okS p.vars.length p.arrays.length 5 s.value) :
    m7.ok Tryz.prog ⟨137, [sA s 7, iA cx, .ptr 3 0, .ptr 4 0, .ptr 5 0, .ptr 6 0], pS p ++ fcB as0 c n b ++ sS s,
      pS p ++ fcB as0 (k8 (I6 p) (c, b, n) (s, cx)).1 (k8 (I6 p) (c, b, n) (s, cx)).2.2 (k8 (I6 p) (c, b, n) (s, cx)).2.1 ++ sS s, .tup []⟩ := by
  refine H8 19 Tryz.func137 (dI p.vars :: dI p.arrays :: dT p.body :: .box [iA c] :: .box [.bm 68 [pA 0]] :: .box [iA n] :: .box [iA b] :: (aG6 s [])) [(0, sA s 7), (1, iA cx), (2, .ptr 3 0), (3, .ptr 4 0), (4, .ptr 5 0), (5, .ptr 6 0)] fun G => ?_; refine wp_seq (m5 G i7 (rg 12) (dI p.vars :: dI p.arrays :: dT p.body :: .box [iA c] :: .box [.bm 68 [pA 0]] :: .box [iA n] :: .box [iA b] :: (aG6 s [.box (sL s 7)])) [(1, iA cx), (2, .ptr 3 0), (3, .ptr 4 0), (4, .ptr 5 0), (5, .ptr 6 0), (6, .ptr 11 0)] fun G => b0 (wp_seq (wp_seq (l8 G i7 [(9, bA (c == 0))] fun G => b0 (T1 G (fun h0 q0 => ?_) fun h0 q0 => ?_)))))
  · refine wp_skip (b0 (U0 G i7 (rg 11) (dI p.vars :: dI p.arrays :: dT p.body :: .box [iA c] :: .box [.bm 68 [pA 0]] :: .box [iA ((n : Int) + 1)] :: .box [iA b] :: (aG6 s [])) [] [wO ((n : Int) + 1)] (o1 (by omega)) fun G => ?_)); exact aq6 G (rg 11) (by show _ = mR (rg 11) (aR2 p s cx c b n); unfold aR2; have e1 : ((k8 (I6 p) (c, b, n) (s, cx)).fst : Int) = (c) := (bY4 (by assumption)); have e2 : (((k8 (I6 p) (c, b, n) (s, cx)).snd.snd : Int) : Int) = ((n : Int) + 1) := (congrArg Int.ofNat aJ2); have e3 : ((k8 (I6 p) (c, b, n) (s, cx)).snd.fst : Int) = (b) := (bY3 (by assumption)); (first | rw [e1, e2, e3] | simp only [e1, e2, e3]) <;> rfl)
  ·
   refine wp_seq (m5 G (t5 3 [0, 1, 2, 7, 8, 9, 10] (bW3 p s cx (by assumption) (by assumption))) (rg 11) (dI p.vars :: dI p.arrays :: dT p.body :: .box [iA (aa1 p s)] :: .box [.bm 68 [pA 0]] :: .box [iA n] :: .box [iA b] :: (aG6 s [])) [(2, .ptr 3 0), (4, .ptr 5 0), (5, .ptr 6 0)] fun G => b0 (wp_seq (l8 G i7 [(15, bA (aa1 p s != 0))] fun G => b0 (rcN G (fun h1 q1 => ?_) fun h1 q1 => ?_))))
   · refine wp_skip (b0 (U0 G i7 (rg 11) (dI p.vars :: dI p.arrays :: dT p.body :: .box [iA (aa1 p s)] :: .box [.bm 68 [pA 0]] :: .box [iA ((n : Int) + 1)] :: .box [iA b] :: (aG6 s [])) [] [wO ((n : Int) + 1)] (o1 (by omega)) fun G => ?_)); exact aq6 G (rg 11) (by show _ = mR (rg 11) (aR2 p s cx c b n); unfold aR2; have e1 : ((k8 (I6 p) (c, b, n) (s, cx)).fst : Int) = (aa1 p s) := (bI7 (by assumption)); have e2 : (((k8 (I6 p) (c, b, n) (s, cx)).snd.snd : Int) : Int) = ((n : Int) + 1) := (congrArg Int.ofNat aJ2); have e3 : ((k8 (I6 p) (c, b, n) (s, cx)).snd.fst : Int) = (b) := (bY2 (by assumption) (by assumption)); (first | rw [e1, e2, e3] | simp only [e1, e2, e3]) <;> rfl)
   · refine m5 G i7 (rg 11) (dI p.vars :: dI p.arrays :: dT p.body :: .box [iA (aa1 p s)] :: .box [.bm 68 [pA 0]] :: .box [iA n] :: .box [iA n] :: (aG6 s [])) [(4, .ptr 5 0)] fun G => b0 (U0 G i7 (rg 11) (dI p.vars :: dI p.arrays :: dT p.body :: .box [iA (aa1 p s)] :: .box [.bm 68 [pA 0]] :: .box [iA ((n : Int) + 1)] :: .box [iA n] :: (aG6 s [])) [] [wO ((n : Int) + 1)] (o1 (by omega)) fun G => ?_); exact aq6 G (rg 11) (by show _ = mR (rg 11) (aR2 p s cx c b n); unfold aR2; have e1 : ((k8 (I6 p) (c, b, n) (s, cx)).fst : Int) = (aa1 p s) := (bI7 (by assumption)); have e2 : (((k8 (I6 p) (c, b, n) (s, cx)).snd.snd : Int) : Int) = ((n : Int) + 1) := (congrArg Int.ofNat aJ2); have e3 : ((k8 (I6 p) (c, b, n) (s, cx)).snd.fst : Int) = ((n : Int)) := (bY1 (by assumption) (by assumption)); (first | rw [e1, e2, e3] | simp only [e1, e2, e3]) <;> rfl)
abbrev aH3 (p : f7) (d : Nat) (ss : List b5) (cx : Int) (c : Int) (b : Int) (n : Nat) (k : Nat) := cb0 (k8 (I6 p)) (k8 (I6 p) (T3 (I6 p) p d cx ss c b n k) (ss.getD k b81, cx)) (A5 p d (r8 cx (l5 p (ss.getD k b81).value)) (ss.getD k b81).body)
abbrev as8 (p : f7) (d : Nat) (ss : List b5) (cx : Int) (c : Int) (b : Int) (n : Nat) (k : Nat) := cb0 (k8 (I6 p)) (k8 (I6 p) (T3 (I6 p) p d cx ss c b n k) (ss.getD k b81, cx)) (A5 p d cx (ss.getD k b81).body)
abbrev aR1 (p : f7) (d : Nat) (ss : List b5) (cx : Int) (c : Int) (b : Int) (n : Nat) (k : Nat) := cb0 (k8 (I6 p)) (aH3 p d ss cx c b n k) (A5 p d (r8 cx (l5 p (ss.getD k b81).value)) (ss.getD k b81).els)
abbrev af0 (p : f7) (d : Nat) (ss : List b5) (cx : Int) (c : Int) (b : Int) (n : Nat) (k : Nat) := k8 (I6 p) (T3 (I6 p) p d cx ss c b n k) (ss.getD k b81, cx)
abbrev ac0 : AV := .fn 137 [.ptr 3 0, .ptr 4 0, .ptr 5 0, .ptr 6 0]
abbrev bj1 (ss : List b5) (k : Nat) (r0 : List It) : List It := dT ss :: .box (pL 0) :: dE (ss.getD k b81).index.kids :: dE (ss.getD k b81).value.kids :: dT (ss.getD k b81).body :: dT (ss.getD k b81).els :: .box (sL (ss.getD k b81) 9) :: r0
abbrev aG5 (ss : List b5) (k : Nat) (r0 : List (Nat × AV)) : List (Nat × AV) := (11, .ref 7) :: (12, iA (ss.length : Int)) :: (13, iA (k : Int)) :: r0
theorem a97 (p : f7) (d : Nat) (ss : List b5) (ih : ∀ (tt : List b5) (cx : Int) (c b : Int) (n : Nat), 0 < ss.length → tt.all (i9 p.vars.length p.arrays.length d) = true → n + E9 tt ≤ 4000000 → m7.ok Tryz.prog ⟨93, [pA 0, .ref 7, iA cx, .fn 137 [.ptr 3 0, .ptr 4 0, .ptr 5 0, .ptr 6 0]], pS p ++ fcB as0 c n b ++ [.dat (.stmts tt)],
      pS p ++ fcB as0 ((A5 p d cx tt).foldl (k8 (I6 p)) (c, b, n)).1 ((A5 p d cx tt).foldl (k8 (I6 p)) (c, b, n)).2.2 ((A5 p d cx tt).foldl (k8 (I6 p)) (c, b, n)).2.1 ++ [.dat (.stmts tt)], .tup []⟩)
    (cx : Int) (c b : Int) (n : Nat) (hs : ss.all (i9 p.vars.length p.arrays.length (d + 1)) = true) (hn : n + E9 ss ≤ 4000000) : m7.ok Tryz.prog ⟨93, [pA 0, .ref 7, iA cx, .fn 137 [.ptr 3 0, .ptr 4 0, .ptr 5 0, .ptr 6 0]], pS p ++ fcB as0 c n b ++ [.dat (.stmts ss)],
      pS p ++ fcB as0 ((A5 p (d + 1) cx ss).foldl (k8 (I6 p)) (c, b, n)).1 ((A5 p (d + 1) cx ss).foldl (k8 (I6 p)) (c, b, n)).2.2 ((A5 p (d + 1) cx ss).foldl (k8 (I6 p)) (c, b, n)).2.1 ++ [.dat (.stmts ss)], .tup []⟩ := by
  refine H8 44 Tryz.func93 [dI p.vars, dI p.arrays, dT p.body, .box [iA c], .box [.bm 68 [pA 0]], .box [iA n], .box [iA b], dT ss] [(0, pA 0), (1, .ref 7), (2, iA cx), (3, ac0)] fun G => ?_; have hlen : ss.length ≤ 9223372036854775807 := G.len 7 (d := .stmts ss) (by kernel_rfl); refine wp_seq (m5 G i7 (rg 9) [dI p.vars, dI p.arrays, dT p.body, .box [iA c], .box [.bm 68 [pA 0]], .box [iA n], .box [iA b], dT ss, .box (pL 0)] [(1, .ref 7), (2, iA cx), (3, ac0), (4, .ptr 8 0)] fun G => b0 (wp_seq (K8 G i7 [(2, iA cx), (3, ac0), (4, .ptr 8 0), (11, .ref 7), (12, iA (ss.length : Int)), (13, iA 0)] fun G => b0 (wp_block ?_)))); refine y9 (κ := Nat) (fun k => k ≤ ss.length) (fun k => ss.length - k) (fun k => [dI p.vars, dI p.arrays, dT p.body, .box [iA (T3 (I6 p) p d cx ss c b n k).1], .box [.bm 68 [pA 0]], .box [iA (T3 (I6 p) p d cx ss c b n k).2.2], .box [iA (T3 (I6 p) p d cx ss c b n k).2.1], dT ss, .box (pL 0)]) (fun k => [(2, iA cx), (3, .fn 137 [.ptr 3 0, .ptr 4 0, .ptr 5 0, .ptr 6 0]), (4, .ptr 8 0), (11, .ref 7), (12, iA (ss.length : Int)), (13, iA k)]) 0 (by simp [hs]) (x8.at G _ _) ?_; clear G; intro k ρ a w hp G; replace G := x8.at G [dI p.vars, dI p.arrays, dT p.body, .box [iA (T3 (I6 p) p d cx ss c b n k).fst], .box [.bm 68 [pA 0]], .box [iA ((T3 (I6 p) p d cx ss c b n k).snd.snd : Int)], .box [iA (T3 (I6 p) p d cx ss c b n k).snd.fst], dT ss, .box (pL 0)] ((2, iA cx) :: (3, ac0) :: (4, .ptr 8 0) :: (aG5 ss k [])); refine wp_seq (l8 G i7 [(14, bA (decide ((k : Int) < ss.length)))] fun G => b0 (wp_seq (rcD G (fun h0 q0 => ?_) fun h0 q0 => ?_)))
  · refine wp_exit (y7 (y7 (y6 ?_))); exact aq6 G (rg 8) (by show _ = mR (rg 8) [dI p.vars, dI p.arrays, dT p.body, .box [iA (cb0 (k8 (I6 p)) (c, b, n) (A5 p (d + 1) cx ss)).fst], .box [.bm as0 [pA 0]], .box [iA ((cb0 (k8 (I6 p)) (c, b, n) (A5 p (d + 1) cx ss)).snd.snd : Int)], .box [iA (cb0 (k8 (I6 p)) (c, b, n) (A5 p (d + 1) cx ss)).snd.fst], dT ss]; have e1 : ((cb0 (k8 (I6 p)) (c, b, n) (A5 p (d + 1) cx ss)).fst : Int) = ((T3 (I6 p) p d cx ss c b n k).fst) := (congrArg Prod.fst (ay8 (by omega))); have e2 : (((cb0 (k8 (I6 p)) (c, b, n) (A5 p (d + 1) cx ss)).snd.snd : Int) : Int) = (((T3 (I6 p) p d cx ss c b n k).snd.snd : Int)) := (congrArg (fun x : Int × Int × Nat => Int.ofNat x.2.2) (ay8 (by omega))); have e3 : ((cb0 (k8 (I6 p)) (c, b, n) (A5 p (d + 1) cx ss)).snd.fst : Int) = ((T3 (I6 p) p d cx ss c b n k).snd.fst) := (congrArg (fun x : Int × Int × Nat => x.2.1) (ay8 (by omega))); (first | rw [e1, e2, e3] | simp only [e1, e2, e3]) <;> rfl)
  ·
   refine wp_skip (b0 (wp_seq (wp_block (wp_seq (U0 G i7 [0, 1, 2, 3, 4, 5, 6, 7, 8, 17, 18, 19, 20, 25] (dI p.vars :: dI p.arrays :: dT p.body :: .box [iA (T3 (I6 p) p d cx ss c b n k).fst] :: .box [.bm 68 [pA 0]] :: .box [iA ((T3 (I6 p) p d cx ss c b n k).snd.snd : Int)] :: .box [iA (T3 (I6 p) p d cx ss c b n k).snd.fst] :: (bj1 ss k [])) ((2, iA cx) :: (3, ac0) :: (4, .ptr 8 0) :: (9, .ptr 13 0) :: (aG5 ss k [])) (iX k k ss.length []) (iK (by omega) b91) fun G => b0 (wp_seq (m5 G (t5 3 [0, 1, 2, 3, 4, 5, 6, 9, 10, 11, 12] (bP0 p (ss.getD k b81) cx ((T3 (I6 p) p d cx ss c b n k).fst) ((T3 (I6 p) p d cx ss c b n k).snd.fst) ((T3 (I6 p) p d cx ss c b n k).snd.snd) (bo1 (by omega) hn) ((z9 hs (by omega)).1) (bW8 hs (by omega)))) (rg 14) (dI p.vars :: dI p.arrays :: dT p.body :: .box [iA (af0 p d ss cx c b n k).fst] :: .box [.bm 68 [pA 0]] :: .box [iA ((af0 p d ss cx c b n k).snd.snd : Int)] :: .box [iA (af0 p d ss cx c b n k).snd.fst] :: (bj1 ss k [])) ((2, iA cx) :: (3, ac0) :: (4, .ptr 8 0) :: (9, .ptr 13 0) :: (aG5 ss k [])) fun G => b0 (wp_seq (l8 G i7 [(10, iA cx)] fun G => b0 (wp_seq (wp_seq (l8 G i7 [(24, bA ((ss.getD k b81).kind == 3))] fun G => b0 (T1 G (fun h1 q1 => ?_) fun h1 q1 => ?_)))))))))))))
   · refine wp_skip (b0 (wp_seq (m5 G (t5 5 [0, 1, 2, 3, 4, 5, 6, 11] (ih ((ss.getD k b81).body) cx ((af0 p d ss cx c b n k).fst) ((af0 p d ss cx c b n k).snd.fst) ((af0 p d ss cx c b n k).snd.snd) (by omega) ((z9 hs (by omega)).2.1) (aF5 (by omega) hn))) (rg 14) (dI p.vars :: dI p.arrays :: dT p.body :: .box [iA (as8 p d ss cx c b n k).fst] :: .box [.bm 68 [pA 0]] :: .box [iA ((as8 p d ss cx c b n k).snd.snd : Int)] :: .box [iA (as8 p d ss cx c b n k).snd.fst] :: (bj1 ss k [])) ((2, iA cx) :: (3, ac0) :: (4, .ptr 8 0) :: (9, .ptr 13 0) :: (10, iA cx) :: (aG5 ss k [])) fun G => b0 (m5 G (t5 5 [0, 1, 2, 3, 4, 5, 6, 12] (ih ((ss.getD k b81).els) cx ((as8 p d ss cx c b n k).fst) ((as8 p d ss cx c b n k).snd.fst) ((as8 p d ss cx c b n k).snd.snd) (by omega) ((z9 hs (by omega)).2.2) (aF4 (by omega) hn aJ2))) (rg 9) [dI p.vars, dI p.arrays, dT p.body, .box [iA (cb0 (k8 (I6 p)) (as8 p d ss cx c b n k) (A5 p d cx (ss.getD k b81).els)).fst], .box [.bm 68 [pA 0]], .box [iA ((cb0 (k8 (I6 p)) (as8 p d ss cx c b n k) (A5 p d cx (ss.getD k b81).els)).snd.snd : Int)], .box [iA (cb0 (k8 (I6 p)) (as8 p d ss cx c b n k) (A5 p d cx (ss.getD k b81).els)).snd.fst], dT ss, .box (pL 0)] ((2, iA cx) :: (3, ac0) :: (4, .ptr 8 0) :: (aG5 ss k [])) fun G => r7 (b0 (K7 G i7 [(13, iA ((k : Int) + 1))] [wO ((k : Int) + 1)] (o1 (by omega)) fun G => b0 ?_)))))); exact rxn G (k + 1) (by omega) (by omega) (rg 9) (by have h9 := b13 (R := (I6 p)) (p := p) (d := d) (cx := cx) (ss := ss) (c := c) (b := b) (n := n) (k := k) (by omega) (by assumption); rw [h9] <;> rfl)
   · refine l8 G (t5 4 [0, 1, 2, 10] (Y3 p ((ss.getD k b81).value) (v9 (z9 hs (by omega)).1 (by omega)))) [(10, iA (r8 cx (l5 p (ss.getD k b81).value)))] fun G => b0 (wp_seq (m5 G (t5 5 [0, 1, 2, 3, 4, 5, 6, 11] (ih ((ss.getD k b81).body) (r8 cx (l5 p (ss.getD k b81).value)) ((af0 p d ss cx c b n k).fst) ((af0 p d ss cx c b n k).snd.fst) ((af0 p d ss cx c b n k).snd.snd) (by omega) ((z9 hs (by omega)).2.1) (aF5 (by omega) hn))) (rg 14) (dI p.vars :: dI p.arrays :: dT p.body :: .box [iA (aH3 p d ss cx c b n k).fst] :: .box [.bm 68 [pA 0]] :: .box [iA ((aH3 p d ss cx c b n k).snd.snd : Int)] :: .box [iA (aH3 p d ss cx c b n k).snd.fst] :: (bj1 ss k [])) ((2, iA cx) :: (3, ac0) :: (4, .ptr 8 0) :: (9, .ptr 13 0) :: (10, iA (r8 cx (l5 p (ss.getD k b81).value))) :: (aG5 ss k [])) fun G => b0 (m5 G (t5 5 [0, 1, 2, 3, 4, 5, 6, 12] (ih ((ss.getD k b81).els) (r8 cx (l5 p (ss.getD k b81).value)) ((aH3 p d ss cx c b n k).fst) ((aH3 p d ss cx c b n k).snd.fst) ((aH3 p d ss cx c b n k).snd.snd) (by omega) ((z9 hs (by omega)).2.2) (aF4 (by omega) hn aJ2))) (rg 9) [dI p.vars, dI p.arrays, dT p.body, .box [iA (aR1 p d ss cx c b n k).fst], .box [.bm 68 [pA 0]], .box [iA ((aR1 p d ss cx c b n k).snd.snd : Int)], .box [iA (aR1 p d ss cx c b n k).snd.fst], dT ss, .box (pL 0)] ((2, iA cx) :: (3, ac0) :: (4, .ptr 8 0) :: (aG5 ss k [])) fun G => r7 (b0 (K7 G i7 [(13, iA ((k : Int) + 1))] [wO ((k : Int) + 1)] (o1 (by omega)) fun G => b0 ?_))))); exact rxn G (k + 1) (by omega) (by omega) (rg 9) (by have e1 : ((T3 (I6 p) p d cx ss c b n (k + 1)).fst : Int) = ((aR1 p d ss cx c b n k).fst) := (congrArg Prod.fst (bt4 (by omega) (by assumption))); have e2 : (((T3 (I6 p) p d cx ss c b n (k + 1)).snd.snd : Int) : Int) = (((aR1 p d ss cx c b n k).snd.snd : Int)) := (congrArg (fun x : Int × Int × Nat => Int.ofNat x.2.2) (bt4 (by omega) (by assumption))); have e3 : ((T3 (I6 p) p d cx ss c b n (k + 1)).snd.fst : Int) = ((aR1 p d ss cx c b n k).snd.fst) := (congrArg (fun x : Int × Int × Nat => x.2.1) (bt4 (by omega) (by assumption))); (first | rw [e1, e2, e3] | simp only [e1, e2, e3]) <;> rfl)
theorem bH0 (p : f7) : ∀ (d : Nat) (ss : List b5) (cx : Int) (c b : Int) (n : Nat), ss.all (i9 p.vars.length p.arrays.length d) = true → n + E9 ss ≤ 4000000 → m7.ok Tryz.prog ⟨93, [pA 0, .ref 7, iA cx, .fn 137 [.ptr 3 0, .ptr 4 0, .ptr 5 0, .ptr 6 0]], pS p ++ fcB as1 c n b ++ [.dat (.stmts ss)],
   pS p ++ fcB as1 ((A5 p d cx ss).foldl (k8 (I7 p)) (c, b, n)).1 ((A5 p d cx ss).foldl (k8 (I7 p)) (c, b, n)).2.2 ((A5 p d cx ss).foldl (k8 (I7 p)) (c, b, n)).2.1 ++ [.dat (.stmts ss)], .tup []⟩ := by
 intro d
 induction d with
 | zero =>
  intro ss cx c b n hs hn
  have h0 : ss = [] := by
   cases ss with
   | nil => rfl
   | cons a r => simp [i9] at hs
  subst h0
  exact a98 p 0 [] (fun _ _ _ _ _ h => absurd h (by simp)) cx c b n rfl hn
 | succ d ih => intro ss cx c b n hs hn; exact a98 p d ss (fun tt cx c b n _ h1 h2 => ih tt cx c b n h1 h2) cx c b n hs hn
theorem bG9 (p : f7) (h : n4 p = true) : m7.ok Tryz.prog ⟨93, [pA 0, .ref 2, iA 0, .fn 137 [.ptr 3 0, .ptr 4 0, .ptr 5 0, .ptr 6 0]], pS p ++ fcB as1 0 0 (-1),
   pS p ++ fcB as1 ((A5 p 5 0 p.body).foldl (k8 (I7 p)) (0, -1, 0)).1 ((A5 p 5 0 p.body).foldl (k8 (I7 p)) (0, -1, 0)).2.2 ((A5 p 5 0 p.body).foldl (k8 (I7 p)) (0, -1, 0)).2.1, .tup []⟩ :=
 m7.dup (S := pS p ++ fcB as1 0 0 (-1)) (S' := pS p ++ fcB as1 ((A5 p 5 0 p.body).foldl (k8 (I7 p)) (0, -1, 0)).1 ((A5 p 5 0 p.body).foldl (k8 (I7 p)) (0, -1, 0)).2.2 ((A5 p 5 0 p.body).foldl (k8 (I7 p)) (0, -1, 0)).2.1) (d := .stmts p.body) (i := 2) (bH0 p 5 p.body 0 0 (-1) 0 (M0 h).1 (by have := (M0 h).2; omega)) rfl rfl rfl (fun ρ h => by simp only [AV.vals, AV.val]; rw [show ρ 7 = ρ 2 from h]) rfl
theorem bi5 (p : f7) (h : n4 p = true) : m7.ok Tryz.prog (N1 66 [pA 0, .bm as1 [pA 0]] (pS p) (.tup [iA ((A5 p 5 0 p.body).foldl (k8 (I7 p)) (0, -1, 0)).1, iA ((A5 p 5 0 p.body).foldl (k8 (I7 p)) (0, -1, 0)).2.1])) := by
 refine H8 16 Tryz.func66 [dI p.vars, dI p.arrays, dT p.body] [(0, pA 0), (1, .bm 67 [pA 0])] fun G => ?_; refine wp_seq (m5 G i7 [0, 1, 2, 3, 11] [dI p.vars, dI p.arrays, dT p.body, .box (pL 0), .box [.bm 67 [pA 0]]] [(0, pA 0), (2, .ptr 3 0), (3, .ptr 4 0), (4, iA 0), (5, iA 0)] fun G => b0 (wp_seq (m5 G i7 [0, 1, 2, 3, 4, 5, 13, 21] [dI p.vars, dI p.arrays, dT p.body, .box (pL 0), .box [.bm 67 [pA 0]], .box [iA 0], .box [iA (-1)], .box [iA 0]] [(0, pA 0), (2, .ptr 3 0), (3, .ptr 4 0), (4, iA 0), (5, iA 0), (6, .ptr 5 0), (7, .ptr 6 0), (8, .ptr 7 0)] fun G => b0 (wp_seq (m5 G (t5 4 [0, 1, 2, 5, 4, 7, 6] (bG9 p (by assumption))) [0, 1, 2, 5, 6] [dI p.vars, dI p.arrays, dT p.body, .box [iA (cb0 (k8 (I7 p)) (0, -1, 0) (A5 p 5 0 p.body)).fst], .box [iA (cb0 (k8 (I7 p)) (0, -1, 0) (A5 p 5 0 p.body)).snd.fst]] [(0, pA 0), (4, iA 0), (5, iA 0), (6, .ptr 3 0), (7, .ptr 4 0)] fun G => b0 (wp_seq (aX4 G i7 [0, 0, 1, 7] [0, 1, 2] [dI p.vars, dI p.arrays, dT p.body] [(0, pA 0), (4, iA (cb0 (k8 (I7 p)) (0, -1, 0) (A5 p 5 0 p.body)).fst), (5, iA (cb0 (k8 (I7 p)) (0, -1, 0) (A5 p 5 0 p.body)).snd.fst)] fun G => b0 (wp_ret ?_)))))))); exact Q9 G [0, 1, 2]
theorem bG8 (p : f7) : ∀ (d : Nat) (ss : List b5) (cx : Int) (c b : Int) (n : Nat), ss.all (i9 p.vars.length p.arrays.length d) = true → n + E9 ss ≤ 4000000 → m7.ok Tryz.prog ⟨93, [pA 0, .ref 7, iA cx, .fn 137 [.ptr 3 0, .ptr 4 0, .ptr 5 0, .ptr 6 0]], pS p ++ fcB as0 c n b ++ [.dat (.stmts ss)],
   pS p ++ fcB as0 ((A5 p d cx ss).foldl (k8 (I6 p)) (c, b, n)).1 ((A5 p d cx ss).foldl (k8 (I6 p)) (c, b, n)).2.2 ((A5 p d cx ss).foldl (k8 (I6 p)) (c, b, n)).2.1 ++ [.dat (.stmts ss)], .tup []⟩ := by
 intro d
 induction d with
 | zero =>
  intro ss cx c b n hs hn
  have h0 : ss = [] := by
   cases ss with
   | nil => rfl
   | cons a r => simp [i9] at hs
  subst h0
  exact a97 p 0 [] (fun _ _ _ _ _ h => absurd h (by simp)) cx c b n rfl hn
 | succ d ih => intro ss cx c b n hs hn; exact a97 p d ss (fun tt cx c b n _ h1 h2 => ih tt cx c b n h1 h2) cx c b n hs hn
theorem bG7 (p : f7) (h : n4 p = true) : m7.ok Tryz.prog ⟨93, [pA 0, .ref 2, iA 0, .fn 137 [.ptr 3 0, .ptr 4 0, .ptr 5 0, .ptr 6 0]], pS p ++ fcB as0 0 0 (-1),
   pS p ++ fcB as0 ((A5 p 5 0 p.body).foldl (k8 (I6 p)) (0, -1, 0)).1 ((A5 p 5 0 p.body).foldl (k8 (I6 p)) (0, -1, 0)).2.2 ((A5 p 5 0 p.body).foldl (k8 (I6 p)) (0, -1, 0)).2.1, .tup []⟩ :=
 m7.dup (S := pS p ++ fcB as0 0 0 (-1)) (S' := pS p ++ fcB as0 ((A5 p 5 0 p.body).foldl (k8 (I6 p)) (0, -1, 0)).1 ((A5 p 5 0 p.body).foldl (k8 (I6 p)) (0, -1, 0)).2.2 ((A5 p 5 0 p.body).foldl (k8 (I6 p)) (0, -1, 0)).2.1) (d := .stmts p.body) (i := 2) (bG8 p 5 p.body 0 0 (-1) 0 (M0 h).1 (by have := (M0 h).2; omega)) rfl rfl rfl (fun ρ h => by simp only [AV.vals, AV.val]; rw [show ρ 7 = ρ 2 from h]) rfl
theorem bi4 (p : f7) (h : n4 p = true) : m7.ok Tryz.prog (N1 66 [pA 0, .bm as0 [pA 0]] (pS p) (.tup [iA ((A5 p 5 0 p.body).foldl (k8 (I6 p)) (0, -1, 0)).1, iA ((A5 p 5 0 p.body).foldl (k8 (I6 p)) (0, -1, 0)).2.1])) := by
 refine H8 16 Tryz.func66 [dI p.vars, dI p.arrays, dT p.body] [(0, pA 0), (1, .bm 68 [pA 0])] fun G => ?_; refine wp_seq (m5 G i7 [0, 1, 2, 3, 11] [dI p.vars, dI p.arrays, dT p.body, .box (pL 0), .box [.bm 68 [pA 0]]] [(0, pA 0), (2, .ptr 3 0), (3, .ptr 4 0), (4, iA 0), (5, iA 0)] fun G => b0 (wp_seq (m5 G i7 [0, 1, 2, 3, 4, 5, 13, 21] [dI p.vars, dI p.arrays, dT p.body, .box (pL 0), .box [.bm 68 [pA 0]], .box [iA 0], .box [iA (-1)], .box [iA 0]] [(0, pA 0), (2, .ptr 3 0), (3, .ptr 4 0), (4, iA 0), (5, iA 0), (6, .ptr 5 0), (7, .ptr 6 0), (8, .ptr 7 0)] fun G => b0 (wp_seq (m5 G (t5 4 [0, 1, 2, 5, 4, 7, 6] (bG7 p (by assumption))) [0, 1, 2, 5, 6] [dI p.vars, dI p.arrays, dT p.body, .box [iA (cb0 (k8 (I6 p)) (0, -1, 0) (A5 p 5 0 p.body)).fst], .box [iA (cb0 (k8 (I6 p)) (0, -1, 0) (A5 p 5 0 p.body)).snd.fst]] [(0, pA 0), (4, iA 0), (5, iA 0), (6, .ptr 3 0), (7, .ptr 4 0)] fun G => b0 (wp_seq (aX4 G i7 [0, 0, 1, 7] [0, 1, 2] [dI p.vars, dI p.arrays, dT p.body] [(0, pA 0), (4, iA (cb0 (k8 (I6 p)) (0, -1, 0) (A5 p 5 0 p.body)).fst), (5, iA (cb0 (k8 (I6 p)) (0, -1, 0) (A5 p 5 0 p.body)).snd.fst)] fun G => b0 (wp_ret ?_)))))))); exact Q9 G [0, 1, 2]
theorem a06 (p : f7) (hb : p7 p.body ≤ 1048576) : m7.ok Tryz.prog (N1 19 [pA 0] (pS p) (.tup [iA (R0 p false).1, iA (R0 p false).2])) := by
 refine H8 13 Tryz.func19 [dI p.vars, dI p.arrays, dT p.body] [(0, pA 0)] fun G => ?_; refine wp_seq (m5 G i7 (rg 4) [dI p.vars, dI p.arrays, dT p.body, .box (pL 0)] [(1, .ptr 3 0), (2, iA 0), (3, iA 0)] fun G => b0 (wp_seq (wp_seq (l8 G (t5 1 [0, 1, 2] (W3 p)) [(6, .v (.bool !n4 p))] fun G => b0 ?_)))); cases h0 : (!n4 p)
 ·have q0 : (n4 p) = true := (Eq.mp (ca0 _) h0); refine rF G _ h0 (wp_skip (b0 (wp_seq (m5 G (t5 3 [0, 1, 2] (bi5 p (by assumption))) [0, 1, 2] [dI p.vars, dI p.arrays, dT p.body] [(2, iA (cb0 (k8 (I7 p)) (0, -1, 0) (A5 p 5 0 p.body)).fst), (3, iA (cb0 (k8 (I7 p)) (0, -1, 0) (A5 p 5 0 p.body)).snd.fst)] fun G => b0 (wp_ret ?_))))); exact X8 (.tup [iA (cb0 (k8 (I7 p)) (0, -1, 0) (A5 p 5 0 p.body)).fst, iA (cb0 (k8 (I7 p)) (0, -1, 0) (A5 p 5 0 p.body)).snd.fst]) G [0, 1, 2] (by have e1 : ((R0 p false).fst : Int) = ((cb0 (k8 (I7 p)) (0, -1, 0) (A5 p 5 0 p.body)).fst) := ((bo9 (by assumption)).1.symm); have e2 : ((R0 p false).snd : Int) = ((cb0 (k8 (I7 p)) (0, -1, 0) (A5 p 5 0 p.body)).snd.fst) := ((bo9 (by assumption)).2.symm); (first | rw [e1, e2] | simp only [e1, e2]) <;> rfl)
 ·have q0 : (n4 p) = false := (Eq.mp (b99 _) h0); refine rT G _ h0 (wp_seq (l8 G i7 [(2, iA 5), (3, iA (-1))] fun G => b0 (wp_ret (m8 ?_)))); exact X8 (.tup [iA 5, iA (-1)]) G [0, 1, 2] (by have e1 : ((R0 p false).fst : Int) = (5) := (by rw [bo6 (by assumption)]; done); have e2 : ((R0 p false).snd : Int) = (-1) := (by rw [bo6 (by assumption)]; done); (first | rw [e1, e2] | simp only [e1, e2]) <;> rfl)
theorem bV6 {p : f7} (h : (R0 p false).1 = 0) : n4 p = true := by
 unfold R0 at h
 split at h
 ·assumption
 ·cases h
theorem am2 (p : f7) (hb : p7 p.body ≤ 1048576) : m7.ok Tryz.prog (N1 20 [pA 0] (pS p) (.tup [iA (ctR p).1, iA (ctR p).2])) := by
 refine H8 21 Tryz.func20 [dI p.vars, dI p.arrays, dT p.body] [(0, pA 0)] fun G => ?_; refine wp_seq (m5 G i7 (rg 4) [dI p.vars, dI p.arrays, dT p.body, .box (pL 0)] [(1, .ptr 3 0), (2, iA 0), (3, iA 0)] fun G => b0 (wp_seq (wp_seq (l8 G (t5 1 [0, 1, 2] (a06 p (by assumption))) [(4, iA (R0 p false).fst), (5, iA (R0 p false).snd)] fun G => b0 (wp_seq (l8 G i7 [(12, bA ((R0 p false).fst != 0))] fun G => b0 (rcN G (fun h0 q0 => ?_) fun h0 q0 => ?_)))))))
 ·refine wp_skip (b0 (wp_seq (m5 G (t5 3 [0, 1, 2] (bi4 p (bV6 (by assumption)))) [0, 1, 2] [dI p.vars, dI p.arrays, dT p.body] [(2, iA (cb0 (k8 (I6 p)) (0, -1, 0) (A5 p 5 0 p.body)).fst), (3, iA (cb0 (k8 (I6 p)) (0, -1, 0) (A5 p 5 0 p.body)).snd.fst)] fun G => b0 (wp_ret ?_)))); exact X8 (.tup [iA (cb0 (k8 (I6 p)) (0, -1, 0) (A5 p 5 0 p.body)).fst, iA (cb0 (k8 (I6 p)) (0, -1, 0) (A5 p 5 0 p.body)).snd.fst]) G [0, 1, 2] (by have e1 : ((ctR p).fst : Int) = ((cb0 (k8 (I6 p)) (0, -1, 0) (A5 p 5 0 p.body)).fst) := ((congrArg Prod.fst (b20 (by assumption))).trans (bo8 (bV6 (by assumption)) (by assumption)).1.symm); have e2 : ((ctR p).snd : Int) = ((cb0 (k8 (I6 p)) (0, -1, 0) (A5 p 5 0 p.body)).snd.fst) := ((congrArg Prod.snd (b20 (by assumption))).trans (bo8 (bV6 (by assumption)) (by assumption)).2.symm); (first | rw [e1, e2] | simp only [e1, e2]) <;> rfl)
 ·refine wp_seq (l8 G i7 [(2, iA (R0 p false).fst), (3, iA (R0 p false).snd)] fun G => b0 (wp_ret (m8 ?_))); exact X8 (.tup [iA (R0 p false).fst, iA (R0 p false).snd]) G [0, 1, 2] (by have e1 : ((ctR p).fst : Int) = ((R0 p false).fst) := (by rw [b19 (by assumption)]; done); have e2 : ((ctR p).snd : Int) = ((R0 p false).snd) := (by rw [b19 (by assumption)]; done); (first | rw [e1, e2] | simp only [e1, e2]) <;> rfl)
def pkX (b : List UInt8) (k : Int) : Int := ((b.getD (k.tmod b.length).toNat 0).toNat : Int) * 131 + ((b.getD ((k * 7 + 3).tmod b.length).toNat 0).toNat : Int) * 1117 + k * 29 + k.tdiv b.length * 53
def pk (b : List UInt8) (k n : Int) : Int :=
 if n < 1 ∨ b.length = 0 then 0 else if k < b.length then ((b.getD k.toNat 0).toNat : Int).tmod n else (bb5 (pkX b k) ((pkX b k).tdiv 64)).tmod n
def nm (b : List UInt8) (k : Int) (l : List Int) : Int := l.getD (pk b k l.length).toNat 0
theorem bI2 {x y : Int} (hx : 0 ≤ x) (hx2 : x < 9223372036854775808) (hy : 0 ≤ y) (hy2 : y < 9223372036854775808) : 0 ≤ bb5 x y := by
 obtain ⟨a, rfl⟩ := Int.eq_ofNat_of_zero_le hx
 obtain ⟨c, rfl⟩ := Int.eq_ofNat_of_zero_le hy
 have ha : a < 2 ^ 63 := by omega
 have hc : c < 2 ^ 63 := by omega
 have h : (BitVec.ofInt (IntKind.bits .i64) (a : Int) ^^^ BitVec.ofInt (IntKind.bits .i64) (c : Int)).toNat < 2 ^ 63 := by
  rw [BitVec.toNat_xor]
  refine Nat.xor_lt_two_pow ?_ ?_
  ·simp only [BitVec.ofInt_natCast, BitVec.toNat_ofNat, IntKind.bits]; omega
  ·simp only [BitVec.ofInt_natCast, BitVec.toNat_ofNat, IntKind.bits]; omega
 unfold bb5
 generalize (BitVec.ofInt (IntKind.bits .i64) (a : Int) ^^^ BitVec.ofInt (IntKind.bits .i64) (c : Int)).toNat = z at h ⊢
 rw [w64 (by omega) (by omega)]
 omega
theorem aR9 (x : UInt8) : ((x.toNat : Nat) : Int) ≤ 255 := by have := x.toNat_lt; omega
theorem a24 {k n : Int} (hk : 0 ≤ k) (hn : 1 ≤ n) : 0 ≤ k.tdiv n ∧ k.tdiv n ≤ k := by
 refine ⟨Int.tdiv_nonneg hk (by omega), ?_⟩
 rw [Int.tdiv_eq_ediv_of_nonneg hk]
 exact Int.ediv_le_self _ hk
theorem a45 {b : List UInt8} {k : Int} (hk : 0 ≤ k) (hk2 : k ≤ 1000000000) (hb : b.length ≠ 0) : 0 ≤ pkX b k ∧ pkX b k ≤ 100000000000 := by
 unfold pkX
 have h1 := aR9 (b.getD (k.tmod b.length).toNat 0)
 have h2 := aR9 (b.getD ((k * 7 + 3).tmod b.length).toNat 0)
 have h3 := a24 (n := b.length) hk (by omega)
 omega
theorem bb7 {x n : Int} (hx : 0 ≤ x) (hn : 1 ≤ n) : 0 ≤ x.tmod n ∧ x.tmod n < n := ⟨Int.tmod_nonneg _ hx, Int.tmod_lt_of_pos _ (by omega)⟩
theorem ah9 {b : List UInt8} {k : Int} (hk : 0 ≤ k) (hk2 : k ≤ 1000000000) (hb : b.length ≠ 0) : 0 ≤ (pkX b k).tdiv 64 ∧ (pkX b k).tdiv 64 ≤ 100000000000 := by
 have h := a45 hk hk2 hb
 have h2 := a24 (n := 64) h.1 (by omega)
 omega
theorem b43 (b : List UInt8) {k n : Int} (hk : 0 ≤ k) (hk2 : k ≤ 1000000000) (hn : 1 ≤ n) : 0 ≤ pk b k n ∧ pk b k n < n := by
 unfold pk
 split
 ·omega
 ·split
  ·exact bb7 (by omega) hn
  ·have h := a45 hk hk2 (show b.length ≠ 0 by omega)
   have h2 := ah9 hk hk2 (show b.length ≠ 0 by omega)
   exact bb7 (bI2 h.1 (by omega) h2.1 (by omega)) hn
theorem bm5 (b : List UInt8) {k : Int} (hk : 0 ≤ k) (hk2 : k ≤ 1000000000) {l : List Int} (hl : l ≠ []) : 0 ≤ pk b k l.length ∧ pk b k l.length < l.length ∧ (pk b k l.length).toNat < l.length := by
 have h0 : 0 < l.length := List.length_pos_iff.2 hl
 have h := b43 b (n := l.length) hk hk2 (by omega)
 omega
theorem aY2 (b : List UInt8) {k : Int} (hk : 0 ≤ k) (hk2 : k ≤ 1000000000) {l : List Int} (hl : l ≠ []) : nm b k l ∈ l := by
 unfold nm
 rw [p6 (bm5 b hk hk2 hl).2.2]
 exact ca5 _
abbrev l1L : List Int := [-1] ++ ([4] ++ ([9223372036854775807] ++ ([-9223372036854775808] ++ [])))
def l1D (b : List UInt8) (k : Int) : Int := if pk b k 12 = 0 then nm b (k + 1) l1L else pk b (k + 1) 4
def I1 {α : Type} (f : Int → α × Int) : Nat → Int → List α × Int
 | 0, k => ([], k)
 | n + 1, k => ((I1 f n k).1 ++ [(f (I1 f n k).2).1], (f (I1 f n k).2).2)
theorem aZ6 {α : Type} (f : Int → α × Int) (n : Nat) (k : Int) : (I1 f n k).1.length = n := by
 induction n with
 | zero => rfl
 | succ n ih => simp [I1, ih]
theorem bE6 {α : Type} {f : Int → α × Int} {c : Int} (hc : 0 ≤ c) {m : Nat} : ∀ (n : Nat) (k : Int), n ≤ m → (∀ j, k ≤ j → j ≤ k + m * c → j ≤ (f j).2 ∧ (f j).2 ≤ j + c) → k ≤ (I1 f n k).2 ∧ (I1 f n k).2 ≤ k + n * c := by
 intro n
 induction n with
 | zero => intro k _ _; simp [I1]
 | succ n ih =>
  intro k hm h
  have h1 := ih k (by omega) h
  have e : ((n + 1 : Nat) : Int) * c = n * c + c := by rw [Int.natCast_add, Int.add_mul]; simp
  have h3 : ((n + 1 : Nat) : Int) * c ≤ m * c := cd1 (by omega) hc
  have h2 := h (I1 f n k).2 h1.1 (by omega)
  simp only [I1]
  rw [e]
  omega
theorem bN3 {α : Type} {f : Int → α × Int} {Q : α → Prop} (h : ∀ j, Q (f j).1) (n : Nat) (k : Int) : ∀ x ∈ (I1 f n k).1, Q x := by
 induction n with
 | zero => intro x hx; cases hx
 | succ n ih =>
  intro x hx
  simp only [I1, ca1, ca4] at hx
  rcases hx with hx | rfl
  ·exact ih x hx
  ·exact h _
abbrev atL : List Int := [1] ++ ([0] ++ ([2] ++ ([3] ++ ([255] ++ ([7] ++ ([128] ++ []))))))
def s5 (b : List UInt8) (nv : Int) (k : Int) : d7 := if pk b k 3 = 0 then ⟨1, nm b (k + 1) atL, []⟩ else ⟨2, pk b (k + 1) nv, []⟩
abbrev Q5 : List Int := [4] ++ ([10] ++ ([8] ++ ([9] ++ ([3] ++ ([6] ++ ([7] ++ ([5] ++ ([11] ++ []))))))))
def N2 (b : List UInt8) (nv na : Int) : Nat → Int → d7 × Int
 | 0, k => (s5 b nv k, k + 2)
 | d + 1, k => if d = 0 then (s5 b nv k, k + 2) else if pk b k 4 = 0 then (s5 b nv (k + 1), k + 3)
  else if nm b (k + 1) Q5 = 3 then (if na = 0 then (s5 b nv (k + 2), k + 4) else (⟨3, pk b (k + 2) na, [s5 b nv (k + 3)]⟩, k + 5))
  else (⟨nm b (k + 1) Q5, 0, (I1 (N2 b nv na d) (o0 (nm b (k + 1) Q5)).toNat (k + 2)).1⟩, (I1 (N2 b nv na d) (o0 (nm b (k + 1) Q5)).toNat (k + 2)).2)
def cE : Nat → Int
 | 0 => 2
 | d + 1 => 5 + 3 * cE d
theorem aO6 (d : Nat) : 2 ≤ cE d := by
 induction d with
 | zero => exact Int.le_refl _
 | succ d ih => simp only [cE]; omega
theorem ar3 (k : Int) : (o0 k).toNat ≤ 3 := by unfold o0; (repeat' split) <;> decide
theorem a77 (b : List UInt8) (nv na : Int) : ∀ (d : Nat) (k : Int), k ≤ (N2 b nv na d k).2 ∧ (N2 b nv na d k).2 ≤ k + cE d
 | 0, k => by simp only [N2, cE]; omega
 | d + 1, k => by
  have hc := aO6 d
  rw [N2]
  simp only [cE]
  split
  ·simp only; omega
  ·split
   ·simp only; omega
   ·split
    ·split <;> (simp only; omega)
    ·have h3 := ar3 (nm b (k + 1) Q5)
     have h := bE6 (f := N2 b nv na d) (c := cE d) (m := 3) (by omega) (o0 (nm b (k + 1) Q5)).toNat (k + 2) h3 fun j _ _ => a77 b nv na d j
     have h4 : ((o0 (nm b (k + 1) Q5)).toNat : Int) * cE d ≤ 3 * cE d := cd1 (by omega) (by omega)
     simp only
     omega
theorem bk7 {c : Nat} : ∀ {l : List d7}, (∀ x ∈ l, F0 x ≤ c) → s8 l ≤ l.length * (1 + c)
 | [], _ => cb1 _
 | e :: r, h => by
  have h1 := h e (ca6 ..)
  have h2 := bk7 (l := r) fun x hx => h x (ca9 _ hx)
  simp only [s8, b84]
  rw [Nat.add_mul]
  omega
theorem bE7 (b : List UInt8) (nv na : Int) : ∀ (d : Nat) (k : Int), (F0 (N2 b nv na d k).1 : Int) ≤ cE d
 | 0, k => by
  simp only [N2, cE, s5]
  split <;> simp [F0, s8]
 | d + 1, k => by
  have hc := aO6 d
  have ha : ∀ j, F0 (s5 b nv j) = 0 := fun j => by unfold s5; split <;> rfl
  rw [N2]
  simp only [cE]
  split
  ·simp only [ha]; omega
  ·split
   ·simp only [ha]; omega
   ·split
    ·split
     ·simp only [ha]; omega
     ·simp only [F0, s8, ha]; omega
    ·have h3 := ar3 (nm b (k + 1) Q5)
     have h1 := bN3 (f := N2 b nv na d) (Q := fun x => F0 x ≤ (cE d).toNat) (fun j => by have := bE7 b nv na d j; omega) (o0 (nm b (k + 1) Q5)).toNat (k + 2)
     have h2 := bk7 h1
     rw [aZ6] at h2
     simp only [F0]
     have h4 := cc7 (1 + (cE d).toNat) h3
     omega
abbrev dpL : List Int := [2] ++ ([3] ++ ([2] ++ ([1] ++ ([4] ++ []))))
def x5 (b : List UInt8) (nv na : Nat) (k : Int) : d7 × Int :=
 if l0 nv na (N2 b nv na (nm b k dpL).toNat (k + 1)).1 = true then N2 b nv na (nm b k dpL).toNat (k + 1)
 else (s5 b nv (N2 b nv na (nm b k dpL).toNat (k + 1)).2, (N2 b nv na (nm b k dpL).toNat (k + 1)).2 + 2)
theorem cE4 {d : Nat} (h : d ≤ 4) : cE d ≤ 364 := by
 match d, h with
 | 0, _ => decide
 | 1, _ => decide
 | 2, _ => decide
 | 3, _ => decide
 | 4, _ => decide
theorem dp4 (b : List UInt8) {k : Int} (hk : 0 ≤ k) (hk2 : k ≤ 1000000000) : 1 ≤ nm b k dpL ∧ nm b k dpL ≤ 4 ∧ (nm b k dpL).toNat ≤ 4 := by
 have h := aY2 b hk hk2 (l := dpL) (by simp)
 simp only [ca1, cb7, List.not_mem_nil, or_false] at h
 omega
theorem bV1 (b : List UInt8) {k : Int} (hk : 0 ≤ k) (hk2 : k ≤ 1000000000) : nm b k dpL = ((nm b k dpL).toNat : Int) := by have := dp4 b hk hk2; omega
theorem bl0 (b : List UInt8) (nv na : Nat) {k : Int} (hk : 0 ≤ k) (hk2 : k ≤ 1000000000) : k ≤ (x5 b nv na k).2 ∧ (x5 b nv na k).2 ≤ k + 367 := by
 have h := a77 b nv na (nm b k dpL).toNat (k + 1)
 have h2 := cE4 (dp4 b hk hk2).2.2
 unfold x5
 split
 ·omega
 ·simp only; omega
theorem ba6 (b : List UInt8) (nv j : Int) : F0 (s5 b nv j) = 0 := by unfold s5; split <;> rfl
theorem bc6 (b : List UInt8) (nv na : Nat) {k : Int} (hk : 0 ≤ k) (hk2 : k ≤ 1000000000) : F0 (x5 b nv na k).1 ≤ 364 := by
 have h := bE7 b nv na (nm b k dpL).toNat (k + 1)
 have h2 := cE4 (dp4 b hk hk2).2.2
 unfold x5
 split
 ·omega
 ·rw [ba6]; omega
abbrev noE : d7 := ⟨0, 0, []⟩
abbrev L7 : List Int := [1] ++ ([1] ++ ([2] ++ ([3] ++ ([4] ++ ([1] ++ ([3] ++ ([5] ++ [])))))))
abbrev ibL : List Int := [1] ++ ([2] ++ ([1] ++ ([0] ++ [])))
abbrev ieL : List Int := [0] ++ ([1] ++ ([0] ++ ([2] ++ [])))
abbrev rcL : List Int := [2] ++ ([1] ++ ([3] ++ []))
abbrev rbL : List Int := [1] ++ ([2] ++ ([1] ++ []))
def dfS (b : List UInt8) (nv na : Nat) (kd k : Int) : b5 × Int := (⟨if kd = 5 then 5 else 1, pk b k nv, noE, (x5 b nv na (k + 1)).1, 0, [], []⟩, (x5 b nv na (k + 1)).2)
def soS (b : List UInt8) (nv na : Nat) (k : Int) : b5 × Int := (⟨2, pk b k na, s5 b nv (k + 1), (x5 b nv na (k + 1 + 2)).1, 0, [], []⟩, (x5 b nv na (k + 1 + 2)).2)
def mnD (b : List UInt8) (f : Int → b5 × Int) (l : List Int) (k : Int) : List b5 × Int := I1 f (nm b k l).toNat (k + 1)
def ifS (b : List UInt8) (nv na : Nat) (f : Int → b5 × Int) (k : Int) : b5 × Int :=
 (⟨3, 0, noE, (x5 b nv na k).1, 0, (mnD b f ibL (x5 b nv na k).2).1, (mnD b f ieL (mnD b f ibL (x5 b nv na k).2).2).1⟩, (mnD b f ieL (mnD b f ibL (x5 b nv na k).2).2).2)
def rpS (b : List UInt8) (f : Int → b5 × Int) (k : Int) : b5 × Int := (⟨4, 0, noE, noE, nm b k rcL, (mnD b f rbL (k + 1)).1, []⟩, (mnD b f rbL (k + 1)).2)
def C8 (b : List UInt8) (nv na : Nat) : Nat → Int → b5 × Int
 | 0, k => if nm b k L7 = 2 ∧ na ≠ 0 then soS b nv na (k + 1) else dfS b nv na (nm b k L7) (k + 1)
 | d + 1, k => if nm b k L7 = 2 ∧ na ≠ 0 then soS b nv na (k + 1) else if nm b k L7 = 3 ∧ d ≠ 0 then ifS b nv na (C8 b nv na d) (k + 1) else if nm b k L7 = 4 ∧ d ≠ 0 then rpS b (C8 b nv na d) (k + 1)
  else dfS b nv na (nm b k L7) (k + 1)
def cS : Nat → Int
 | 0 => 402
 | d + 1 => 402 + 4 * cS d
theorem aC6 (d : Nat) : 402 ≤ cS d := by
 induction d with
 | zero => exact Int.le_refl _
 | succ d ih => simp only [cS]; omega
section
variable (b : List UInt8) (nv na : Nat) {k : Int}
theorem bR5 (kd : Int) (hk : 0 ≤ k) (hk2 : k + 400 ≤ 1000000000) : k ≤ (dfS b nv na kd k).2 ∧ (dfS b nv na kd k).2 ≤ k + 368 := by
 have h := bl0 b nv na (k := k + 1) (by omega) (by omega)
 simp only [dfS]; omega
theorem bQ5 (hk : 0 ≤ k) (hk2 : k + 400 ≤ 1000000000) : k ≤ (soS b nv na k).2 ∧ (soS b nv na k).2 ≤ k + 370 := by
 have h := bl0 b nv na (k := k + 1 + 2) (by omega) (by omega)
 simp only [soS]; omega
theorem nm2 {l : List Int} (hl : l ≠ []) (h : ∀ x ∈ l, 0 ≤ x ∧ x ≤ 2) (hk : 0 ≤ k) (hk2 : k ≤ 1000000000) : (nm b k l).toNat ≤ 2 ∧ nm b k l = ((nm b k l).toNat : Int) := by
 have := h _ (aY2 b hk hk2 hl); omega
theorem bB6 {f : Int → b5 × Int} {c : Int} {l : List Int} (hl : l ≠ []) (h : ∀ x ∈ l, 0 ≤ x ∧ x ≤ 2) (hc : 0 ≤ c) (hk : 0 ≤ k) (hk2 : k + 1 + 2 * c ≤ 1000000000) (hf : ∀ j, 0 ≤ j → j + c ≤ 1000000000 → j ≤ (f j).2 ∧ (f j).2 ≤ j + c) : k ≤ (mnD b f l k).2 ∧ (mnD b f l k).2 ≤ k + 1 + 2 * c := by
 have h2 := (nm2 b hl h hk (by omega)).1
 have h3 : ∀ m : Nat, m ≤ 2 → k + 1 ≤ (I1 f m (k + 1)).2 ∧ (I1 f m (k + 1)).2 ≤ k + 1 + m * c := by
  intro m
  induction m with
  | zero => intro _; simp [I1]
  | succ m ih =>
   intro hm
   have h4 := ih (by omega)
   have h6 : (m : Int) * c ≤ 1 * c := cd1 (by omega) hc
   have h5 := hf (I1 f m (k + 1)).2 (by omega) (by omega)
   have e : ((m + 1 : Nat) : Int) * c = m * c + c := by rw [Int.natCast_add, Int.add_mul]; simp
   simp only [I1]
   rw [e]
   omega
 have h4 := h3 _ h2
 have h6 : ((nm b k l).toNat : Int) * c ≤ 2 * c := cd1 (by omega) hc
 unfold mnD
 omega
theorem bg1 : ∀ x : Int, x ∈ ibL → 0 ≤ x ∧ x ≤ 2 := by intro x hx; simp only [ca1, cb7, List.not_mem_nil, or_false] at hx; omega
theorem bf9 : ∀ x : Int, x ∈ ieL → 0 ≤ x ∧ x ≤ 2 := by intro x hx; simp only [ca1, cb7, List.not_mem_nil, or_false] at hx; omega
theorem bd5 : ∀ x : Int, x ∈ rbL → 0 ≤ x ∧ x ≤ 2 := by intro x hx; simp only [ca1, cb7, List.not_mem_nil, or_false] at hx; omega
theorem bR1 {f : Int → b5 × Int} {c : Int} (hc : 0 ≤ c) (hk : 0 ≤ k) (hk2 : k + 380 + 4 * c ≤ 1000000000) (hf : ∀ j, 0 ≤ j → j + c ≤ 1000000000 → j ≤ (f j).2 ∧ (f j).2 ≤ j + c) : k ≤ (x5 b nv na k).2 ∧ (x5 b nv na k).2 ≤ k + 367 ∧ (x5 b nv na k).2 ≤ (mnD b f ibL (x5 b nv na k).2).2 ∧ (mnD b f ibL (x5 b nv na k).2).2 ≤ k + 370 + 2 * c ∧ k ≤ (ifS b nv na f k).2 ∧ (ifS b nv na f k).2 ≤ k + 380 + 4 * c := by
 have h1 := bl0 b nv na (k := k) (by omega) (by omega)
 have h2 := bB6 b (k := (x5 b nv na k).2) (f := f) (c := c) (l := ibL) (by simp) bg1 hc (by omega) (by omega) hf
 have h3 := bB6 b (k := (mnD b f ibL (x5 b nv na k).2).2) (f := f) (c := c) (l := ieL) (by simp) bf9 hc (by omega) (by omega) hf
 simp only [ifS]
 omega
theorem bY7 {f : Int → b5 × Int} {c : Int} (hc : 0 ≤ c) (hk : 0 ≤ k) (hk2 : k + 10 + 2 * c ≤ 1000000000) (hf : ∀ j, 0 ≤ j → j + c ≤ 1000000000 → j ≤ (f j).2 ∧ (f j).2 ≤ j + c) : k ≤ (rpS b f k).2 ∧ (rpS b f k).2 ≤ k + 10 + 2 * c := by
 have h2 := bB6 b (k := k + 1) (f := f) (c := c) (l := rbL) (by simp) bd5 hc (by omega) (by omega) hf
 simp only [rpS]; omega
theorem a28 : ∀ (d : Nat) (k : Int), 0 ≤ k → k + cS d ≤ 1000000000 → k ≤ (C8 b nv na d k).2 ∧ (C8 b nv na d k).2 ≤ k + cS d
 | 0, k, hk, hk2 => by
  rw [C8]
  simp only [cS] at hk2 ⊢
  have h1 := bQ5 b nv na (k := k + 1) (by omega) (by omega)
  have h2 := bR5 b nv na (k := k + 1) (nm b k L7) (by omega) (by omega)
  split <;> omega
 | d + 1, k, hk, hk2 => by
  rw [C8]
  simp only [cS] at hk2 ⊢
  have hc := aC6 d
  have ih := a28 d
  have h1 := bQ5 b nv na (k := k + 1) (by omega) (by omega)
  have h2 := bR5 b nv na (k := k + 1) (nm b k L7) (by omega) (by omega)
  have h3 := bR1 b nv na (k := k + 1) (f := C8 b nv na d) (c := cS d) (by omega) (by omega) (by omega) ih
  have h4 := bY7 b (k := k + 1) (f := C8 b nv na d) (c := cS d) (by omega) (by omega) (by omega) ih
  (repeat' split) <;> omega
theorem be7 : F0 noE = 0 := rfl
theorem bE8 (kd : Int) (hk : 0 ≤ k) (hk2 : k + 400 ≤ 1000000000) : szS (dfS b nv na kd k).1 ≤ 364 := by
 have h := bc6 b nv na (k := k + 1) (by omega) (by omega)
 simp only [dfS, szS, p7, be7]; omega
theorem by0 (hk : 0 ≤ k) (hk2 : k + 400 ≤ 1000000000) : szS (soS b nv na k).1 ≤ 364 := by
 have h := bc6 b nv na (k := k + 1 + 2) (by omega) (by omega)
 simp only [soS, szS, p7, ba6]; omega
def Drw (f : Int → b5 × Int) (c : Int) : Prop := ∀ j, 0 ≤ j → j + c ≤ 1000000000 → j ≤ (f j).2 ∧ (f j).2 ≤ j + c ∧ (szS (f j).1 : Int) ≤ c
theorem aZ5 {f : Int → b5 × Int} {c : Int} (hc : 0 ≤ c) (hf : Drw f c) : ∀ (m : Nat) (k : Int), 0 ≤ k → k + m * c ≤ 1000000000 → k ≤ (I1 f m k).2 ∧ (I1 f m k).2 ≤ k + m * c ∧ (p7 (I1 f m k).1 : Int) ≤ m * (1 + c) := by
 intro m
 induction m with
 | zero => intro k _ _; simp [I1, p7]
 | succ m ih =>
  intro k hk hk2
  have e : ((m + 1 : Nat) : Int) * c = m * c + c := by rw [Int.natCast_add, Int.add_mul]; simp
  have e2 : ((m + 1 : Nat) : Int) * (1 + c) = m * (1 + c) + (1 + c) := by rw [Int.natCast_add, Int.add_mul]; simp
  rw [e] at hk2
  have h4 := ih k hk (by omega)
  have h5 := hf (I1 f m k).2 (by omega) (by omega)
  have h6 : p7 ((I1 f m k).1 ++ [(f (I1 f m k).2).1]) = p7 (I1 f m k).1 + (1 + szS (f (I1 f m k).2).1) := by
   generalize (I1 f m k).1 = l
   induction l with
   | nil => simp [p7]
   | cons a r ih => simp only [List.cons_append, p7]; omega
  simp only [I1]
  rw [e, e2, h6]
  omega
theorem be9 {f : Int → b5 × Int} {c : Int} {l : List Int} (hl : l ≠ []) (h : ∀ x ∈ l, 0 ≤ x ∧ x ≤ 2) (hc : 0 ≤ c) (hk : 0 ≤ k) (hk2 : k + 1 + 2 * c ≤ 1000000000) (hf : Drw f c) : (p7 (mnD b f l k).1 : Int) ≤ 2 * (1 + c) := by
 have h2 := (nm2 b hl h hk (by omega)).1
 have h6 : ((nm b k l).toNat : Int) * c ≤ 2 * c := cd1 (by omega) hc
 have h7 : ((nm b k l).toNat : Int) * (1 + c) ≤ 2 * (1 + c) := cd1 (by omega) (by omega)
 have h3 := (aZ5 hc hf (nm b k l).toNat (k + 1) (by omega) (by omega)).2.2
 unfold mnD
 omega
theorem bc3 : ∀ (d : Nat) (k : Int), 0 ≤ k → k + cS d ≤ 1000000000 → (szS (C8 b nv na d k).1 : Int) ≤ cS d
 | 0, k, hk, hk2 => by
  rw [C8]
  simp only [cS] at hk2 ⊢
  have h1 := by0 b nv na (k := k + 1) (by omega) (by omega)
  have h2 := bE8 b nv na (k := k + 1) (nm b k L7) (by omega) (by omega)
  split <;> omega
 | d + 1, k, hk, hk2 => by
  rw [C8]
  simp only [cS] at hk2 ⊢
  have hc := aC6 d
  have ih := a28 b nv na d
  have hf : Drw (C8 b nv na d) (cS d) := fun j h1 h2 => ⟨(ih j h1 h2).1, (ih j h1 h2).2, bc3 d j h1 h2⟩
  have h1 := by0 b nv na (k := k + 1) (by omega) (by omega)
  have h2 := bE8 b nv na (k := k + 1) (nm b k L7) (by omega) (by omega)
  have h3 := bR1 b nv na (k := k + 1) (f := C8 b nv na d) (c := cS d) (by omega) (by omega) (by omega) ih
  have h4 := bc6 b nv na (k := k + 1) (by omega) (by omega)
  have h5 := be9 b (k := (x5 b nv na (k + 1)).2) (l := ibL) (by simp) bg1 (by omega) (by omega) (by omega) hf
  have h6 := be9 b (k := (mnD b (C8 b nv na d) ibL (x5 b nv na (k + 1)).2).2) (l := ieL) (by simp) bf9 (by omega) (by omega) (by omega) hf
  have h7 := be9 b (k := k + 1 + 1) (l := rbL) (by simp) bd5 (by omega) (by omega) (by omega) hf
  split
  ·omega
  ·split
   ·simp only [ifS, szS, be7]; omega
   ·split
    ·simp only [rpS, szS, be7, p7]; omega
    ·omega
theorem b14 (d : Nat) : Drw (C8 b nv na d) (cS d) := fun j h1 h2 => ⟨(a28 b nv na d j h1 h2).1, (a28 b nv na d j h1 h2).2, bc3 b nv na d j h1 h2⟩
theorem bR6 {d m i : Nat} {B : Int} (hB : (m : Int) * cS d ≤ B) (hi : i ≤ m) (hk : 0 ≤ k) (hk2 : k + B ≤ 1000000000) : k ≤ (I1 (C8 b nv na d) i k).2 ∧ (I1 (C8 b nv na d) i k).2 ≤ k + B := by
 have hc := aC6 d
 have h6 : (i : Int) * cS d ≤ m * cS d := cd1 (by omega) (by omega)
 have h := aZ5 (by omega) (b14 b nv na d) i k hk (by omega)
 omega
theorem bp7 {d m i : Nat} {B : Int} (hB : (m : Int) * cS d ≤ B) (hi : i < m) (hk : 0 ≤ k) (hk2 : k + B ≤ 1000000000) : (I1 (C8 b nv na d) i k).2 + cS d ≤ k + B := by
 have hc := aC6 d
 have h6 : ((i + 1 : Nat) : Int) * cS d ≤ m * cS d := cd1 (by omega) (by omega)
 have e : ((i + 1 : Nat) : Int) * cS d = i * cS d + cS d := by rw [Int.natCast_add, Int.add_mul]; simp
 have h := aZ5 (by omega) (b14 b nv na d) i k hk (by omega)
 omega
theorem b01 {m : Int} {c : Int} (h0 : 0 ≤ m) (hm : m ≤ 2) (hc : 0 ≤ c) : (m.toNat : Int) * c ≤ 2 * c := cd1 (by omega) hc
theorem b57 {m : Int} {c : Int} (h0 : 0 ≤ m) (hm : m ≤ 4) (hc : 0 ≤ c) : (m.toNat : Int) * c ≤ 4 * c := cd1 (by omega) hc
end
theorem aS9 (b : List UInt8) {k : Int} {l : List Int} {m : Int} (hl : l ≠ []) (h : ∀ x ∈ l, 0 ≤ x ∧ x ≤ m) (hk : 0 ≤ k) (hk2 : k ≤ 1000000000) : 0 ≤ nm b k l ∧ nm b k l ≤ m := h _ (aY2 b hk hk2 hl)
end Go.Proofs.YthikdkjjdeehoaaGreat

namespace Go.Proofs.YthikdkjjdeehoaaGreat
set_option linter.unusedVariables false
set_option linter.unusedSimpArgs false
open Go Go.RowKit
theorem bk8 {a b : d7} (h : ¬ a = b) : E2 a b = false := by
 cases e : E2 a b
 ·rfl
 ·exact absurd ((K5 a b).1 e) h
section
variable {a b : d7} {k : Nat}
theorem sx1 (h : ¬ a.kind = b.kind) : E2 a b = false := bk8 fun e => h (by rw [e])
theorem sx2 (h : ¬ a.value = b.value) : E2 a b = false := bk8 fun e => h (by rw [e])
theorem sx3 (h : ¬ (a.kids.length : Int) = b.kids.length) : E2 a b = false := bk8 fun e => h (by rw [e])
theorem sx4 (h : E2 (a.kids.getD k b81) (b.kids.getD k b81) = false) : E2 a b = false := bk8 fun e => by
 subst e
 rw [(K5 _ _).2 rfl] at h; cases h
theorem ax9 {α : Type} {l m : List α} {k : Nat} {z : α} (h : l.take k = m.take k) (h1 : k < l.length) (h2 : k < m.length) (e : l.getD k z = m.getD k z) : l.take (k + 1) = m.take (k + 1) := by
 rw [n9 _ _ h1, n9 _ _ h2, h, ← p6 (d := z) h1, ← p6 (d := z) h2, e]
theorem aI5 {α : Type} {l m : List α} {k : Nat} (h : l.take k = m.take k) (h1 : l.length ≤ k) (h2 : (l.length : Int) = m.length) : l = m := by
 rw [b98 h1, b98 (by omega)] at h
 exact h
theorem sx5 (h1 : a.kind = b.kind) (h2 : a.value = b.value) (h3 : (a.kids.length : Int) = b.kids.length) (h : a.kids.take k = b.kids.take k) (hk : a.kids.length ≤ k) : E2 a b = true := by
 refine (K5 _ _).2 ?_
 rw [← d7.eta a, ← d7.eta b, h1, h2, aI5 h hk h3]
end
abbrev sxC (a b : d7) : m7 := N1 259 [eA a 0, eA b 1] [dE a.kids, dE b.kids] (bA (E2 a b))
theorem bJ3 (x y : d7) (ih : ∀ (u : d7), u ∈ x.kids → ∀ (v : d7), m7.ok Tryz.prog (sxC u v)) : m7.ok Tryz.prog (sxC x y) := by
  refine H8 46 Tryz.func259 [dE x.kids, dE y.kids] [(0, eA x 0), (1, eA y 1)] fun G => ?_; have hl : x.kids.length ≤ 9223372036854775807 := G.len 0 (d := .exprs x.kids) (by kernel_rfl); refine wp_seq (m5 G i7 [0, 1, 2, 10] [dE x.kids, dE y.kids, .box (eL x 0), .box (eL y 1)] [(2, .ptr 2 0), (3, .ptr 3 0), (4, bA false)] fun G => b0 (wp_seq (wp_seq ?_))); cases h0 : (x.kind != y.kind)
  ·
   have q0 := bne_eq_false_iff_eq.1 h0; cases h1 : (x.value != y.value)
   ·
    have q1 := bne_eq_false_iff_eq.1 h1; refine l8 G (X3 (fc h0 (fc h1 fz)) (us [(6, 10, 0), (1011, 1011, 0), (13, 19, 1), (1020, 1020, 1)])) [(26, bA ((x.kids.length : Int) != (y.kids.length : Int)))] fun G => b0 (rcN G (fun h2 q2 => ?_) fun h2 q2 => ?_)
    ·
     refine wp_skip (b0 (wp_seq (wp_seq (K8 G i7 [(2, .ptr 2 0), (3, .ptr 3 0), (4, bA false), (5, iA 0)] fun G => b0 (wp_block ?_))))); refine y9 (κ := Nat) (fun k => k ≤ x.kids.length ∧ x.kids.take k = y.kids.take k) (fun k => x.kids.length - k) (fun k => [dE x.kids, dE y.kids, .box (eL x 0), .box (eL y 1)]) (fun k => [(2, .ptr 2 0), (3, .ptr 3 0), (4, bA false), (5, iA k)]) 0 (by simp [h0, h1, h2]) (x8.at G _ _) ?_; clear G; intro k ρ a w hp G; refine wp_seq (wp_seq (l8 G i7 [(31, bA (decide ((k : Int) < x.kids.length)))] fun G => b0 (rcD G (fun h3 q3 => ?_) fun h3 q3 => ?_)))
     · refine wp_exit (y7 (y7 (y6 (b0 (wp_seq (m5 G i7 [0, 1] [dE x.kids, dE y.kids] [(4, bA true)] fun G => b0 (wp_ret ?_))))))); exact H6 true G [0, 1] (sx5 (by omega) (by omega) (by omega) hp.2 (by omega))
     ·
      refine wp_skip (b0 (wp_seq (wp_block (wp_seq (aD2 G (t5 10 [36, 76] (ih (x.kids.getD k b81) (av1 (by omega)) (y.kids.getD k b81))) [0, 1, 0, 7, 15, 0, 32, 0, 224, 480, 1023, 2047] [(45, .v (.bool !E2 (x.kids.getD k b81) (y.kids.getD k b81)))] (iX k k x.kids.length (iX k k y.kids.length [])) (iK (by have hp := hp; omega) (iK (by have hp := hp; omega) b91)) fun G => b0 ?_))))); cases h4 : (!E2 (x.kids.getD k b81) (y.kids.getD k b81))
      · have q4 : (E2 (x.kids.getD k b81) (y.kids.getD k b81)) = true := (Eq.mp (ca0 _) h4); refine rF G _ h4 (wp_skip (r7 (b0 (K7 G i7 [(5, iA ((k : Int) + 1))] [wO ((k : Int) + 1)] (o1 (by omega)) fun G => b0 ?_)))); exact rxn G (k + 1) (⟨by omega, ax9 hp.2 (by omega) (by omega) ((K5 _ _).1 (by with_reducible assumption))⟩) (by have hp := hp; omega) (rg 4)
      · have q4 : (E2 (x.kids.getD k b81) (y.kids.getD k b81)) = false := (Eq.mp (b99 _) h4); refine rT G _ h4 (wp_seq (l8 G i7 [] fun G => b0 (wp_ret (B7 (m8 (m8 (B7 (m8 ?_)))))))); exact H6 false G [0, 1] (sx4 (by with_reducible assumption))
    · refine wp_seq (l8 G i7 [] fun G => b0 (wp_ret (m8 ?_))); exact H6 false G [0, 1] (sx3 (by omega))
   · have q1 := bne_iff_ne.1 h1; refine l8 G (X3 (fc h0 (fc h1 fz)) (us [(6, 10, 0), (1011, 1011, 0), (13, 19, 1), (1020, 1020, 1)])) [(26, bA true)] fun G => b0 (rT G true (by kernel_rfl) (wp_seq (l8 G i7 [] fun G => b0 (wp_ret (m8 ?_))))); exact H6 false G [0, 1] (sx2 (by omega))
  · have q0 := bne_iff_ne.1 h0; refine l8 G (X3 (fc h0 (fc (b := true) rfl fz)) (us [(6, 10, 0), (1011, 1011, 0), (13, 19, 1), (1020, 1020, 1)])) [(26, bA true)] fun G => b0 (rT G true (by kernel_rfl) (wp_seq (l8 G i7 [] fun G => b0 (wp_ret (m8 ?_))))); exact H6 false G [0, 1] (sx1 (by omega))
theorem ah5 (x : d7) : ∀ (y : d7), m7.ok Tryz.prog (sxC x y) :=
 d7.ind (P := fun x => ∀ (y : d7), m7.ok Tryz.prog (sxC x y)) (fun k n ks ih y => bJ3 ⟨k, n, ks⟩ y fun u hu => ih u hu) x
theorem am1 (xs ys : List Int) : m7.ok Tryz.prog (N1 225 [.ref 0, .ref 1] [dI xs, dI ys] (bA (decide (xs = ys)))) := by
  refine H8 26 Tryz.func225 [dI xs, dI ys] [(0, .ref 0), (1, .ref 1)] fun G => ?_; have hl : xs.length ≤ 9223372036854775807 := G.len 0 (d := .ints xs) (by kernel_rfl); refine wp_seq (K8 G i7 [(0, .ref 0), (1, .ref 1), (4, bA false)] fun G => b0 (wp_seq (wp_seq (l8 G i7 [(10, bA ((xs.length : Int) != (ys.length : Int)))] fun G => b0 (rcN G (fun h0 q0 => ?_) fun h0 q0 => ?_)))))
  ·
   refine wp_skip (b0 (wp_seq (wp_seq (K8 G i7 [(0, .ref 0), (1, .ref 1), (4, bA false), (5, iA 0)] fun G => b0 (wp_block ?_))))); refine y9 (κ := Nat) (fun k => k ≤ xs.length ∧ xs.take k = ys.take k) (fun k => xs.length - k) (fun k => [dI xs, dI ys]) (fun k => [(0, .ref 0), (1, .ref 1), (4, bA false), (5, iA k)]) 0 (by simp [h0]) (x8.at G _ _) ?_; clear G; intro k ρ a w hp G; refine wp_seq (wp_seq (l8 G i7 [(14, bA (decide ((k : Int) < xs.length)))] fun G => b0 (rcD G (fun h1 q1 => ?_) fun h1 q1 => ?_)))
   · refine wp_exit (y7 (y7 (y6 (b0 (wp_seq (l8 G i7 [(4, bA true)] fun G => b0 (wp_ret ?_))))))); exact H6 true G [0, 1] (decide_eq_true (aI5 hp.2 (by omega) (by omega)))
   ·
    refine wp_skip (b0 (wp_seq (wp_block (wp_seq (aD2 G i7 [0, 0, 3, 7, 0, 0, 48, 112, 255] [(25, bA (xs.getD k 0 != ys.getD k 0))] (iX k k xs.length (iX k k ys.length [])) (iK (by have hp := hp; omega) (iK (by have hp := hp; omega) b91)) fun G => b0 (rcN G (fun h2 q2 => ?_) fun h2 q2 => ?_))))))
    · refine wp_skip (r7 (b0 (K7 G i7 [(5, iA ((k : Int) + 1))] [wO ((k : Int) + 1)] (o1 (by omega)) fun G => b0 ?_))); exact rxn G (k + 1) (⟨by omega, ax9 hp.2 (by omega) (by omega) (by omega)⟩) (by have hp := hp; omega) [0, 1]
    · refine wp_seq (l8 G i7 [] fun G => b0 (wp_ret (B7 (m8 (m8 (B7 (m8 ?_))))))); exact H6 false G [0, 1] (by exact decide_eq_false fun e => by subst e; omega)
  · refine wp_seq (l8 G i7 [] fun G => b0 (wp_ret (m8 ?_))); exact H6 false G [0, 1] (by exact decide_eq_false fun e => by subst e; omega)
theorem aJ3 {s t : b5} (h : ¬ s = t) : R4 s t = false := by
 cases e : R4 s t
 ·rfl
 ·exact absurd ((ak1 s t).1 e) h
theorem bQ6 {l m : List b5} (h : ¬ l = m) : y8 l m = false := by
 cases e : y8 l m
 ·rfl
 ·exact absurd ((G9 l m).1 e) h
section
variable {s t : b5} {l m : List b5} {k : Nat}
theorem sr1 (h : ¬ s.kind = t.kind) : R4 s t = false := aJ3 fun e => h (by rw [e])
theorem sr2 (h : ¬ s.target = t.target) : R4 s t = false := aJ3 fun e => h (by rw [e])
theorem sr3 (h : ¬ s.count = t.count) : R4 s t = false := aJ3 fun e => h (by rw [e])
theorem sr4 (h : E2 s.index t.index = false) : R4 s t = false := aJ3 fun e => by subst e; rw [(K5 _ _).2 rfl] at h; cases h
theorem sr5 (h : E2 s.value t.value = false) : R4 s t = false := aJ3 fun e => by subst e; rw [(K5 _ _).2 rfl] at h; cases h
theorem sr6 (h : y8 s.body t.body = false) : R4 s t = false := aJ3 fun e => by subst e; rw [(G9 _ _).2 rfl] at h; cases h
theorem sr7 (h : y8 s.els t.els = false) : R4 s t = false := aJ3 fun e => by subst e; rw [(G9 _ _).2 rfl] at h; cases h
theorem sr8 (h1 : s.kind = t.kind) (h2 : s.target = t.target) (h3 : s.count = t.count) (h4 : E2 s.index t.index = true) (h5 : E2 s.value t.value = true) (h6 : y8 s.body t.body = true) : R4 s t = y8 s.els t.els := by
 cases e : y8 s.els t.els
 ·exact sr7 e
 ·refine (ak1 _ _).2 ?_
  rw [← b5.eta s, ← b5.eta t, h1, h2, h3, (K5 _ _).1 h4, (K5 _ _).1 h5, (G9 _ _).1 h6, (G9 _ _).1 e]
theorem sb1 (h : ¬ (l.length : Int) = m.length) : y8 l m = false := bQ6 fun e => h (by rw [e])
theorem sb2 (h : R4 (l.getD k b81) (m.getD k b81) = false) : y8 l m = false := bQ6 fun e => by
 subst e
 rw [(ak1 _ _).2 rfl] at h; cases h
theorem sb3 (h3 : (l.length : Int) = m.length) (h : l.take k = m.take k) (hk : l.length ≤ k) : y8 l m = true := (G9 _ _).2 (aI5 h hk h3)
end
abbrev sbC (l m : List b5) : m7 := N1 226 [.ref 0, .ref 1] [dT l, dT m] (bA (y8 l m))
abbrev ssC (s t : b5) : m7 := N1 248 [sA s 0, sA t 4] (sS s ++ sS t) (bA (R4 s t))
abbrev as3 (s : b5) (t : b5) (r0 : List It) : List It := dE s.index.kids :: dE s.value.kids :: dT s.body :: dT s.els :: dE t.index.kids :: dE t.value.kids :: dT t.body :: dT t.els :: r0
theorem bJ4 (s t : b5) (ih1 : ∀ (m : List b5), m7.ok Tryz.prog (sbC s.body m)) (ih2 : ∀ (m : List b5), m7.ok Tryz.prog (sbC s.els m)) : m7.ok Tryz.prog (ssC s t) := by
  refine H8 52 Tryz.func248 (as3 s t []) [(0, sA s 0), (1, sA t 4)] fun G => ?_; refine wp_seq (m5 G i7 [0, 1, 2, 3, 4, 5, 6, 7, 8, 16] (as3 s t [.box (sL s 0), .box (sL t 4)]) [(2, .ptr 8 0), (3, .ptr 9 0), (4, bA false)] fun G => b0 (wp_seq ?_)); cases h0 : (s.kind == t.kind)
  · have q0 := ne_of_beq_false h0; refine m5 G (X3 (fc h0 (fc (b := false) rfl fz)) (us [(6, 10, 0), (1011, 1011, 0), (13, 17, 1), (1018, 1018, 1), (20, 24, 1), (1025, 1025, 1), (27, 31, 1), (1032, 1032, 1), (34, 38, 1), (1039, 1039, 1), (41, 45, 1), (1046, 1046, 1)])) (rg 8) (as3 s t []) [(4, bA false)] fun G => b0 (wp_ret ?_); exact H6 false G (rg 8) (sr1 (by omega))
  ·
   have q0 := eq_of_beq h0; cases h1 : (s.target == t.target)
   · have q1 := ne_of_beq_false h1; refine m5 G (X3 (fc h0 (fc h1 (fc (b := false) rfl fz))) (us [(6, 10, 0), (1011, 1011, 0), (13, 17, 1), (1018, 1018, 1), (20, 24, 2), (1025, 1025, 2), (27, 31, 2), (1032, 1032, 2), (34, 38, 2), (1039, 1039, 2), (41, 45, 2), (1046, 1046, 2)])) (rg 8) (as3 s t []) [(4, bA false)] fun G => b0 (wp_ret ?_); exact H6 false G (rg 8) (sr2 (by omega))
   ·
    have q1 := eq_of_beq h1; cases h2 : (s.count == t.count)
    · have q2 := ne_of_beq_false h2; refine m5 G (X3 (fc h0 (fc h1 (fc h2 (fc (b := false) rfl fz)))) (us [(6, 10, 0), (1011, 1011, 0), (13, 17, 1), (1018, 1018, 1), (20, 24, 2), (1025, 1025, 2), (27, 31, 3), (1032, 1032, 3), (34, 38, 3), (1039, 1039, 3), (41, 45, 3), (1046, 1046, 3)])) (rg 8) (as3 s t []) [(4, bA false)] fun G => b0 (wp_ret ?_); exact H6 false G (rg 8) (sr3 (by omega))
    ·
     have q2 := eq_of_beq h2; cases h3 : (E2 s.index t.index)
     · refine m5 G (B8 ⟨[(24, _, [0, 4])], [(s.kind == t.kind, true), (s.target == t.target, true), (s.count == t.count, true), (E2 s.index t.index, false), (false, false)], us [(6, 10, 0), (1011, 1011, 0), (13, 17, 1), (1018, 1018, 1), (20, 24, 2), (1025, 1025, 2), (27, 31, 3), (1032, 1032, 3), (34, 38, 4), (1039, 1039, 4), (41, 45, 4), (1046, 1046, 4)]⟩ (b9 (ah5 s.index t.index) d8) ⟨(by assumption), (by assumption), (by assumption), (by assumption), (by kernel_rfl), b91⟩) (rg 8) (as3 s t []) [(4, bA false)] fun G => b0 (wp_ret ?_); exact H6 false G (rg 8) (sr4 (by with_reducible assumption))
     ·
      cases h4 : (E2 s.value t.value)
      · refine m5 G (B8 ⟨[(24, _, [0, 4]), (31, _, [1, 5])], [(s.kind == t.kind, true), (s.target == t.target, true), (s.count == t.count, true), (E2 s.index t.index, true), (E2 s.value t.value, false), (false, false)], us [(6, 10, 0), (1011, 1011, 0), (13, 17, 1), (1018, 1018, 1), (20, 24, 2), (1025, 1025, 2), (27, 31, 3), (1032, 1032, 3), (34, 38, 4), (1039, 1039, 4), (41, 45, 5), (1046, 1046, 5)]⟩ (b9 (ah5 s.index t.index) (b9 (ah5 s.value t.value) d8)) ⟨(by assumption), (by assumption), (by assumption), (by assumption), (by assumption), (by kernel_rfl), b91⟩) (rg 8) (as3 s t []) [(4, bA false)] fun G => b0 (wp_ret ?_); exact H6 false G (rg 8) (sr5 (by with_reducible assumption))
      ·
       cases h5 : (y8 s.body t.body)
       · refine m5 G (B8 ⟨[(24, _, [0, 4]), (31, _, [1, 5]), (38, _, [2, 6])], [(s.kind == t.kind, true), (s.target == t.target, true), (s.count == t.count, true), (E2 s.index t.index, true), (E2 s.value t.value, true), (y8 s.body t.body, false)], us [(6, 10, 0), (1011, 1011, 0), (13, 17, 1), (1018, 1018, 1), (20, 24, 2), (1025, 1025, 2), (27, 31, 3), (1032, 1032, 3), (34, 38, 4), (1039, 1039, 4), (41, 45, 5), (1046, 1046, 5)]⟩ (b9 (ah5 s.index t.index) (b9 (ah5 s.value t.value) (b9 (ih1 t.body) d8))) ⟨(by assumption), (by assumption), (by assumption), (by assumption), (by assumption), (by assumption), b91⟩) (rg 8) (as3 s t []) [(4, bA false)] fun G => b0 (wp_ret ?_); exact H6 false G (rg 8) (sr6 (by with_reducible assumption))
       · refine m5 G (B8 ⟨[(24, _, [0, 4]), (31, _, [1, 5]), (38, _, [2, 6]), (45, _, [3, 7])], [(s.kind == t.kind, true), (s.target == t.target, true), (s.count == t.count, true), (E2 s.index t.index, true), (E2 s.value t.value, true), (y8 s.body t.body, true)], us [(6, 10, 0), (1011, 1011, 0), (13, 17, 1), (1018, 1018, 1), (20, 24, 2), (1025, 1025, 2), (27, 31, 3), (1032, 1032, 3), (34, 38, 4), (1039, 1039, 4), (41, 45, 5), (1046, 1046, 5)]⟩ (b9 (ah5 s.index t.index) (b9 (ah5 s.value t.value) (b9 (ih1 t.body) (b9 (ih2 t.els) d8)))) ⟨(by assumption), (by assumption), (by assumption), (by assumption), (by assumption), (by assumption), b91⟩) (rg 8) (as3 s t []) [(4, bA (y8 s.els t.els))] fun G => b0 (wp_ret ?_); exact H6 (y8 s.els t.els) G (rg 8) (sr8 (by omega) (by omega) (by omega) (by with_reducible assumption) (by with_reducible assumption) (by with_reducible assumption))
theorem aX1 (l m : List b5) (ih : ∀ (s : b5), s ∈ l → ∀ (t : b5), m7.ok Tryz.prog (ssC s t)) : m7.ok Tryz.prog (sbC l m) := by
  refine H8 27 Tryz.func226 [dT l, dT m] [(0, .ref 0), (1, .ref 1)] fun G => ?_; have hl : l.length ≤ 9223372036854775807 := G.len 0 (d := .stmts l) (by kernel_rfl); refine wp_seq (K8 G i7 [(0, .ref 0), (1, .ref 1), (4, bA false)] fun G => b0 (wp_seq (wp_seq (l8 G i7 [(10, bA ((l.length : Int) != (m.length : Int)))] fun G => b0 (rcN G (fun h0 q0 => ?_) fun h0 q0 => ?_)))))
  ·
   refine wp_skip (b0 (wp_seq (wp_seq (K8 G i7 [(0, .ref 0), (1, .ref 1), (4, bA false), (5, iA 0)] fun G => b0 (wp_block ?_))))); refine y9 (κ := Nat) (fun k => k ≤ l.length ∧ l.take k = m.take k) (fun k => l.length - k) (fun k => [dT l, dT m]) (fun k => [(0, .ref 0), (1, .ref 1), (4, bA false), (5, iA k)]) 0 (by simp [h0]) (x8.at G _ _) ?_; clear G; intro k ρ a w hp G; refine wp_seq (wp_seq (l8 G i7 [(14, bA (decide ((k : Int) < l.length)))] fun G => b0 (rcD G (fun h1 q1 => ?_) fun h1 q1 => ?_)))
   · refine wp_exit (y7 (y7 (y6 (b0 (wp_seq (l8 G i7 [(4, bA true)] fun G => b0 (wp_ret ?_))))))); exact H6 true G [0, 1] (sb3 (by omega) hp.2 (by omega))
   ·
    refine wp_skip (b0 (wp_seq (wp_block (wp_seq (aD2 G (t5 8 [26, 27, 28, 29, 58, 59, 60, 61] (ih (l.getD k b81) (ae4 (by omega)) (m.getD k b81))) [0, 0, 3, 7, 0, 0, 48, 112, 255, 511] [(26, .v (.bool !R4 (l.getD k b81) (m.getD k b81)))] (iX k k l.length (iX k k m.length [])) (iK (by have hp := hp; omega) (iK (by have hp := hp; omega) b91)) fun G => b0 ?_))))); cases h2 : (!R4 (l.getD k b81) (m.getD k b81))
    · have q2 : (R4 (l.getD k b81) (m.getD k b81)) = true := (Eq.mp (ca0 _) h2); refine rF G _ h2 (wp_skip (r7 (b0 (K7 G i7 [(5, iA ((k : Int) + 1))] [wO ((k : Int) + 1)] (o1 (by omega)) fun G => b0 ?_)))); exact rxn G (k + 1) (⟨by omega, ax9 hp.2 (by omega) (by omega) ((ak1 _ _).1 (by with_reducible assumption))⟩) (by have hp := hp; omega) [0, 1]
    · have q2 : (R4 (l.getD k b81) (m.getD k b81)) = false := (Eq.mp (b99 _) h2); refine rT G _ h2 (wp_seq (l8 G i7 [] fun G => b0 (wp_ret (B7 (m8 (m8 (B7 (m8 ?_)))))))); exact H6 false G [0, 1] (sb2 (by with_reducible assumption))
  · refine wp_seq (l8 G i7 [] fun G => b0 (wp_ret (m8 ?_))); exact H6 false G [0, 1] (sb1 (by omega))
theorem bS4 (s : b5) : ∀ (t : b5), m7.ok Tryz.prog (ssC s t) :=
 b5.ind (P := fun s => ∀ (t : b5), m7.ok Tryz.prog (ssC s t)) (fun k t i v c b e h1 h2 u => bJ4 ⟨k, t, i, v, c, b, e⟩ u (fun m => aX1 b m fun s hs => h1 s hs) fun m => aX1 e m fun s hs => h2 s hs) s
theorem bO5 (l m : List b5) : m7.ok Tryz.prog (sbC l m) := aX1 l m fun s _ => bS4 s
theorem aQ3 (xs xt : List Int) (l : List b5) (ys yt : List Int) (m : List b5) : m7.ok Tryz.prog (N1 185 [pA 0, pA 3] [dI xs, dI xt, dT l, dI ys, dI yt, dT m] (bA (decide (xs = ys) && (decide (xt = yt) && y8 l m)))) := by
  refine H8 24 Tryz.func185 [dI xs, dI xt, dT l, dI ys, dI yt, dT m] [(0, pA 0), (1, pA 3)] fun G => ?_; refine wp_seq (m5 G i7 [0, 1, 2, 3, 4, 5, 6, 14] [dI xs, dI xt, dT l, dI ys, dI yt, dT m, .box (pL 0), .box (pL 3)] [(2, .ptr 6 0), (3, .ptr 7 0), (4, bA false)] fun G => b0 (wp_seq ?_)); cases h0 : (decide (xs = ys))
  · have q0 := dFf h0; refine m5 G (B8 ⟨[(4, _, [0, 3])], [(decide (xs = ys), false), (false, false)], us [(6, 10, 0), (1011, 1011, 0), (13, 17, 1), (1018, 1018, 1)]⟩ (b9 (am1 xs ys) d8) ⟨(by assumption), (by kernel_rfl), b91⟩) (rg 6) [dI xs, dI xt, dT l, dI ys, dI yt, dT m] [(4, bA false)] fun G => b0 (wp_ret ?_); exact Q9 G (rg 6)
  ·
   have q0 := dTt h0; cases h1 : (decide (xt = yt))
   · have q1 := dFf h1; refine m5 G (B8 ⟨[(4, _, [0, 3]), (10, _, [1, 4])], [(decide (xs = ys), true), (decide (xt = yt), false)], us [(6, 10, 0), (1011, 1011, 0), (13, 17, 1), (1018, 1018, 1)]⟩ (b9 (am1 xs ys) (b9 (am1 xt yt) d8)) ⟨(by assumption), (by assumption), b91⟩) (rg 6) [dI xs, dI xt, dT l, dI ys, dI yt, dT m] [(4, bA false)] fun G => b0 (wp_ret ?_); exact Q9 G (rg 6)
   · have q1 := dTt h1; refine m5 G (B8 ⟨[(4, _, [0, 3]), (10, _, [1, 4]), (17, _, [2, 5])], [(decide (xs = ys), true), (decide (xt = yt), true)], us [(6, 10, 0), (1011, 1011, 0), (13, 17, 1), (1018, 1018, 1)]⟩ (b9 (am1 xs ys) (b9 (am1 xt yt) (b9 (bO5 l m) d8))) ⟨(by assumption), (by assumption), b91⟩) (rg 6) [dI xs, dI xt, dT l, dI ys, dI yt, dT m] [(4, bA (y8 l m))] fun G => b0 (wp_ret ?_); exact Q9 G (rg 6)
theorem aa5 (vs ars : List Int) (b : List b5) (e : d7) (he : m6 vs.length ars.length 5 e = true) : m7.ok Tryz.prog (N1 159 [pA 0, eA e 3] ([dI vs, dI ars, dT b] ++ eS e) (iA (n5 vs ars 5 e))) := M7 ⟨vs, ars, b⟩ e he
theorem az9 (vs ars : List Int) (b : List b5) (hb : vs.length + ars.length + p7 b ≤ 1048576) : m7.ok Tryz.prog ⟨78, [pA 0], [dI vs, dI ars, dT b], [dI vs, dI ars, dT b, .row 3 (.ints vs), .row 3 (.ints ars), .tree (.stmts b)], oA 3⟩ := bG4 ⟨vs, ars, b⟩ hb
theorem a08 (vs ars : List Int) (b : List b5) (hb : p7 b ≤ 1048576) : m7.ok Tryz.prog (N1 77 [pA 0] [dI vs, dI ars, dT b] (.tup [iA (R0 ⟨vs, ars, b⟩ false).1, iA (R0 ⟨vs, ars, b⟩ false).2])) := ba1 ⟨vs, ars, b⟩ hb
section
variable {vs ars : List Int} {cx : Int} {s : b5} {d : Nat} {b : Bool}
theorem on1 (k : s.kind = 1) : J4 (vs, ars) s cx = (vs.set s.target.toNat (r8 (r8 (vs.getD s.target.toNat 0) (n5 vs ars 5 s.value)) cx), ars) := if_pos k
theorem on2 (k : s.kind = 2) : J4 (vs, ars) s cx = (vs, ars.set s.target.toNat (r8 (r8 (r8 (ars.getD s.target.toNat 0) (n5 vs ars 5 s.value)) (n5 vs ars 5 s.index)) cx)) := by unfold J4; rw [if_neg (by omega), if_pos k]
theorem on0 {q : L8} (k1 : ¬ s.kind = 1) (k2 : ¬ s.kind = 2) : J4 q s cx = q := by unfold J4; rw [if_neg k1, if_neg k2]
theorem up1 {q : L8} (h1 : s.body = []) (h2 : s.els = []) : upS b (d + 1) q cx s = J4 q s cx := by rw [aj2, h1, h2]; rfl
theorem up3 {q : L8} (k : s.kind = 3) : upS true (d + 1) q cx s = A4 true d (A4 true d q (r8 cx (n5 q.1 q.2 5 s.value)) s.body) (r8 cx (n5 (A4 true d q (r8 cx (n5 q.1 q.2 5 s.value)) s.body).1 (A4 true d q (r8 cx (n5 q.1 q.2 5 s.value)) s.body).2 5 s.value)) s.els := by
 rw [aj2, on0 (by omega) (by omega)]
 unfold ai3
 simp only [if_pos k, if_true]
theorem up4 {q : L8} (k : s.kind = 4) (h2 : s.els = []) : upS b (d + 1) q cx s = A4 b d q cx s.body := by
 rw [aj2, on0 (by omega) (by omega), h2]
 unfold ai3
 simp only [if_neg (show ¬ s.kind = 3 by omega)]
 rfl
theorem aj3 {q : L8} {ss : List b5} {k : Nat} (hk : k < ss.length) : A4 b d q cx (ss.take (k + 1)) = upS b d (A4 b d q cx (ss.take k)) cx (ss.getD k b81) := by
 unfold A4
 rw [n9 _ _ hk, List.foldl_append, p6 hk]; rfl
theorem aE7 {nv na d k : Nat} {ss : List b5} (hs : ss.all (i9 nv na (d + 1)) = true) (hk : k < ss.length) (k3 : ¬ (ss.getD k b81).kind = 3) : (ss.getD k b81).els = [] ∧ (¬ (ss.getD k b81).kind = 4 → (ss.getD k b81).body = []) := by
 have h0 := b93.1 hs _ (ca5 hk)
 rw [← p6 (d := b81) hk] at h0
 rw [i9, b85] at h0
 have h1 := h0.1
 unfold A7 at h1
 by_cases k4 : (ss.getD k b81).kind = 4
 ·rw [if_pos (.inr k4), if_pos k4] at h1
  simp only [b85, decide_eq_true_eq] at h1
  exact ⟨ca3 h1.2.1.1.1.1, fun h => absurd k4 h⟩
 ·rw [if_neg (by omega)] at h1
  simp only [b85, decide_eq_true_eq] at h1
  exact ⟨ca3 h1.1.1.2, fun _ => ca3 h1.1.1.1⟩
section
variable {nv na d k : Nat} {ss : List b5} {q : L8} {cx : Int}
theorem rn1 (hs : ss.all (i9 nv na (d + 1)) = true) (hk : k < ss.length) (k1 : (ss.getD k b81).kind = 1) : A4 true (d + 1) q cx (ss.take (k + 1)) = ((A4 true (d + 1) q cx (ss.take k)).1.set (ss.getD k b81).target.toNat (r8 (r8 ((A4 true (d + 1) q cx (ss.take k)).1.getD (ss.getD k b81).target.toNat 0) (n5 (A4 true (d + 1) q cx (ss.take k)).1 (A4 true (d + 1) q cx (ss.take k)).2 5 (ss.getD k b81).value)) cx), (A4 true (d + 1) q cx (ss.take k)).2) := by
 have h1 := aE7 hs hk (by omega)
 rw [aj3 hk, up1 (h1.2 (by omega)) h1.1]
 exact on1 k1
theorem rn2 (hs : ss.all (i9 nv na (d + 1)) = true) (hk : k < ss.length) (k2 : (ss.getD k b81).kind = 2) : A4 true (d + 1) q cx (ss.take (k + 1)) = ((A4 true (d + 1) q cx (ss.take k)).1, (A4 true (d + 1) q cx (ss.take k)).2.set (ss.getD k b81).target.toNat (r8 (r8 (r8 ((A4 true (d + 1) q cx (ss.take k)).2.getD (ss.getD k b81).target.toNat 0) (n5 (A4 true (d + 1) q cx (ss.take k)).1 (A4 true (d + 1) q cx (ss.take k)).2 5 (ss.getD k b81).value)) (n5 (A4 true (d + 1) q cx (ss.take k)).1 (A4 true (d + 1) q cx (ss.take k)).2 5 (ss.getD k b81).index)) cx)) := by
 have h1 := aE7 hs hk (by omega)
 rw [aj3 hk, up1 (h1.2 (by omega)) h1.1]
 exact on2 k2
theorem rn3 (hk : k < ss.length) (k3 : (ss.getD k b81).kind = 3) : A4 true (d + 1) q cx (ss.take (k + 1)) = A4 true d (A4 true d (A4 true (d + 1) q cx (ss.take k)) (r8 cx (n5 (A4 true (d + 1) q cx (ss.take k)).1 (A4 true (d + 1) q cx (ss.take k)).2 5 (ss.getD k b81).value)) (ss.getD k b81).body) (r8 cx (n5 (A4 true d (A4 true (d + 1) q cx (ss.take k)) (r8 cx (n5 (A4 true (d + 1) q cx (ss.take k)).1 (A4 true (d + 1) q cx (ss.take k)).2 5 (ss.getD k b81).value)) (ss.getD k b81).body).1 (A4 true d (A4 true (d + 1) q cx (ss.take k)) (r8 cx (n5 (A4 true (d + 1) q cx (ss.take k)).1 (A4 true (d + 1) q cx (ss.take k)).2 5 (ss.getD k b81).value)) (ss.getD k b81).body).2 5 (ss.getD k b81).value)) (ss.getD k b81).els := by
 rw [aj3 hk, up3 k3]
theorem rn4 (hs : ss.all (i9 nv na (d + 1)) = true) (hk : k < ss.length) (k4 : (ss.getD k b81).kind = 4) : A4 true (d + 1) q cx (ss.take (k + 1)) = A4 true d (A4 true (d + 1) q cx (ss.take k)) cx (ss.getD k b81).body := by
 rw [aj3 hk, up4 k4 (aE7 hs hk (by omega)).1]
theorem rn0 (hs : ss.all (i9 nv na (d + 1)) = true) (hk : k < ss.length) (k1 : ¬ (ss.getD k b81).kind = 1) (k2 : ¬ (ss.getD k b81).kind = 2) (k3 : ¬ (ss.getD k b81).kind = 3) (k4 : ¬ (ss.getD k b81).kind = 4) : A4 true (d + 1) q cx (ss.take (k + 1)) = A4 true (d + 1) q cx (ss.take k) := by
 have h1 := aE7 hs hk k3
 rw [aj3 hk, up1 (h1.2 k4) h1.1, on0 k1 k2]
theorem bz6 (hk : ss.length ≤ k) : A4 true (d + 1) q cx ss = A4 true (d + 1) q cx (ss.take k) := by rw [b98 hk]
theorem aW5 {q r : L8} {s : b5} (h : shP q r) (hv : q.1.length = nv) (ha : q.2.length = na) (hh : D5 nv na s = true) (k : ¬ s.kind = 4) : m6 r.1.length r.2.length 5 s.value = true := by rw [h.1, h.2, hv, ha]; exact v9 hh k
theorem bS2 {q r : L8} {s : b5} (h : shP q r) (hv : q.1.length = nv) (ha : q.2.length = na) (hh : D5 nv na s = true) (k : s.kind = 2) : m6 r.1.length r.2.length 5 s.index = true := by rw [h.1, h.2, hv, ha]; exact ae3 hh k
end
end
abbrev raC (vs ars : List Int) (d : Nat) (bd ss : List b5) (cx : Int) : m7 := ⟨184, [pA 0, .ref 3, iA cx], [.row 3 (.ints vs), .row 3 (.ints ars), dT bd, dT ss], [.row 3 (.ints (A4 true d (vs, ars) cx ss).1), .row 3 (.ints (A4 true d (vs, ars) cx ss).2), dT bd, dT ss], .tup []⟩
abbrev ai7 (d : Nat) (ss : List b5) (vs : List Int) (ars : List Int) (cx : Int) (k : Nat) := A4 true d (A4 true (d + 1) (vs, ars) cx (b88 k ss)) (r8 cx (n5 (A4 true (d + 1) (vs, ars) cx (b88 k ss)).fst (A4 true (d + 1) (vs, ars) cx (b88 k ss)).snd 5 (ss.getD k b81).value)) (ss.getD k b81).body
abbrev v8 (d : Nat) (ss : List b5) (vs : List Int) (ars : List Int) (cx : Int) (k : Nat) := A4 true (d + 1) (vs, ars) cx (b88 k ss)
abbrev bj8 (d : Nat) (ss : List b5) (vs : List Int) (ars : List Int) (cx : Int) (k : Nat) := A4 true d (ai7 d ss vs ars cx k) (r8 cx (n5 (ai7 d ss vs ars cx k).fst (ai7 d ss vs ars cx k).snd 5 (ss.getD k b81).value)) (ss.getD k b81).els
abbrev aG3 (cx : Int) (k : Nat) (r0 : List (Nat × AV)) : List (Nat × AV) := (1, .ref 3) :: (2, iA cx) :: (3, .ptr 4 0) :: (6, iA (k : Int)) :: r0
theorem aS8 (nv na d : Nat) (bd ss : List b5) (ih : ∀ (vs ars : List Int) (tt : List b5) (cx : Int), 0 < ss.length → vs.length = nv → ars.length = na → tt.all (i9 nv na d) = true → m7.ok Tryz.prog (raC vs ars d bd tt cx))
    (vs ars : List Int) (cx : Int) (hv : vs.length = nv) (ha : ars.length = na) (hs : ss.all (i9 nv na (d + 1)) = true) : m7.ok Tryz.prog (raC vs ars (d + 1) bd ss cx) := by
  refine H8 94 Tryz.func184 [.row 3 (D.ints vs), .row 3 (D.ints ars), dT bd, dT ss] [(0, pA 0), (1, .ref 3), (2, iA cx)] fun G => ?_; have hlen : ss.length ≤ 9223372036854775807 := G.len 3 (d := .stmts ss) (by kernel_rfl); refine wp_seq (m5 G i7 (rg 5) [.row 3 (D.ints vs), .row 3 (D.ints ars), dT bd, dT ss, .box (pL 0)] [(1, .ref 3), (2, iA cx), (3, .ptr 4 0)] fun G => b0 (wp_seq (K8 G i7 [(1, .ref 3), (2, iA cx), (3, .ptr 4 0), (6, iA 0)] fun G => b0 (wp_block ?_)))); refine y9 (κ := Nat) (fun k => k ≤ ss.length) (fun k => ss.length - k) (fun k => [.row 3 (.ints (A4 true (d + 1) (vs, ars) cx (ss.take k)).1), .row 3 (.ints (A4 true (d + 1) (vs, ars) cx (ss.take k)).2), dT bd, dT ss, .box (pL 0)]) (fun k => [(1, .ref 3), (2, iA cx), (3, .ptr 4 0), (6, iA k)]) 0 (by simp [hs]) (x8.at G _ _) ?_; clear G; intro k ρ a w hp G; replace G := x8.at G [.row 3 (D.ints (v8 d ss vs ars cx k).fst), .row 3 (D.ints (v8 d ss vs ars cx k).snd), dT bd, dT ss, .box (pL 0)] (aG3 cx k []); have hsh : shP (vs, ars) (A4 true (d + 1) (vs, ars) cx (ss.take k)) := aq2; refine wp_seq (wp_seq (l8 G i7 [(11, bA (decide ((k : Int) < ss.length)))] fun G => b0 (rcD G (fun h0 q0 => ?_) fun h0 q0 => ?_)))
  · refine wp_exit (y7 (y7 (y6 ?_))); exact aq6 G (rg 4) (by show _ = mR (rg 4) [.row 3 (D.ints (A4 true (d + 1) (vs, ars) cx ss).fst), .row 3 (D.ints (A4 true (d + 1) (vs, ars) cx ss).snd), dT bd, dT ss]; have e1 : ((A4 true (d + 1) (vs, ars) cx ss).fst : List Int) = ((v8 d ss vs ars cx k).fst) := (congrArg Prod.fst (bz6 (by omega))); have e2 : ((A4 true (d + 1) (vs, ars) cx ss).snd : List Int) = ((v8 d ss vs ars cx k).snd) := (congrArg Prod.snd (bz6 (by omega))); (first | rw [e1, e2] | simp only [e1, e2]) <;> rfl)
  ·
   refine wp_skip (b0 (wp_seq (wp_block (wp_seq (U0 G i7 [0, 1, 2, 3, 4, 29, 30, 31, 32, 37] [.row 3 (D.ints (v8 d ss vs ars cx k).fst), .row 3 (D.ints (v8 d ss vs ars cx k).snd), dT bd, dT ss, .box (pL 0), dE (ss.getD k b81).index.kids, dE (ss.getD k b81).value.kids, dT (ss.getD k b81).body, dT (ss.getD k b81).els, .box (sL (ss.getD k b81) 5)] (aG3 cx k [(7, .ptr 9 0)]) (iX k k ss.length []) (iK (by omega) b91) fun G => b0 (wp_seq (l8 G i7 [(19, iA (ss.getD k b81).kind)] fun G => b0 (wp_block (wp_seq (l8 G i7 [(20, bA ((ss.getD k b81).kind == 1))] fun G => b0 (T1 G (fun h1 q1 => ?_) fun h1 q1 => ?_)))))))))))
   ·
    refine wp_seq (l8 G i7 [(40, bA ((ss.getD k b81).kind == 2))] fun G => b0 (T1 G (fun h2 q2 => ?_) fun h2 q2 => ?_))
    ·
     refine wp_seq (l8 G i7 [(65, bA ((ss.getD k b81).kind == 3))] fun G => b0 (T1 G (fun h3 q3 => ?_) fun h3 q3 => ?_))
     ·
      refine wp_seq (l8 G i7 [(87, bA ((ss.getD k b81).kind == 4))] fun G => b0 (T1 G (fun h4 q4 => ?_) fun h4 q4 => ?_))
      · refine wp_skip (r7 (r7 (b0 (U0 G i7 (rg 5) [.row 3 (D.ints (v8 d ss vs ars cx k).fst), .row 3 (D.ints (v8 d ss vs ars cx k).snd), dT bd, dT ss, .box (pL 0)] [(1, .ref 3), (2, iA cx), (3, .ptr 4 0), (6, iA ((k : Int) + 1))] [wO ((k : Int) + 1)] (o1 (by omega)) fun G => b0 ?_)))); exact rxn G (k + 1) (by omega) (by omega) (rg 5) (by have e1 : ((A4 true (d + 1) (vs, ars) cx (b88 (k + 1) ss)).fst : List Int) = ((v8 d ss vs ars cx k).fst) := (congrArg Prod.fst (rn0 hs (by omega) (by omega) (by omega) (by omega) (by omega))); have e2 : ((A4 true (d + 1) (vs, ars) cx (b88 (k + 1) ss)).snd : List Int) = ((v8 d ss vs ars cx k).snd) := (congrArg Prod.snd (rn0 hs (by omega) (by omega) (by omega) (by omega) (by omega))); (first | rw [e1, e2] | simp only [e1, e2]) <;> rfl)
      · refine m5 G (t5 4 [0, 1, 2, 7] (ih ((v8 d ss vs ars cx k).fst) ((v8 d ss vs ars cx k).snd) ((ss.getD k b81).body) cx (by omega) (hsh.1.trans hv) (hsh.2.trans ha) ((z9 hs (by omega)).2.1))) (rg 5) [.row 3 (D.ints (A4 true d (v8 d ss vs ars cx k) cx (ss.getD k b81).body).fst), .row 3 (D.ints (A4 true d (v8 d ss vs ars cx k) cx (ss.getD k b81).body).snd), dT bd, dT ss, .box (pL 0)] (aG3 cx k []) fun G => r7 (r7 (b0 (K7 G i7 [(6, iA ((k : Int) + 1))] [wO ((k : Int) + 1)] (o1 (by omega)) fun G => b0 ?_))); exact rxn G (k + 1) (by omega) (by omega) (rg 5) (by have e1 : ((A4 true (d + 1) (vs, ars) cx (b88 (k + 1) ss)).fst : List Int) = ((A4 true d (v8 d ss vs ars cx k) cx (ss.getD k b81).body).fst) := (congrArg Prod.fst (rn4 hs (by omega) (by omega))); have e2 : ((A4 true (d + 1) (vs, ars) cx (b88 (k + 1) ss)).snd : List Int) = ((A4 true d (v8 d ss vs ars cx k) cx (ss.getD k b81).body).snd) := (congrArg Prod.snd (rn4 hs (by omega) (by omega))); (first | rw [e1, e2] | simp only [e1, e2]) <;> rfl)
     · refine wp_seq (aX4 G (B8 ⟨[(7, _, [0, 1, 2, 6]), (9, _, [0, 1, 2, 7])], [], []⟩ (b9 (m7.lend (aa5 ((v8 d ss vs ars cx k).fst) ((v8 d ss vs ars cx k).snd) bd ((ss.getD k b81).value) (aW5 hsh hv ha (z9 hs (by omega)).1 (by omega))) [.row 3, .row 3]) (b9 (ih ((v8 d ss vs ars cx k).fst) ((v8 d ss vs ars cx k).snd) ((ss.getD k b81).body) (r8 cx (n5 (v8 d ss vs ars cx k).fst (v8 d ss vs ars cx k).snd 5 (ss.getD k b81).value)) (by omega) (hsh.1.trans hv) (hsh.2.trans ha) ((z9 hs (by omega)).2.1)) d8)) b91) [0, 0, 2, 0, 0, 0, 32, 112, 248, 511] (rg 10) [.row 3 (D.ints (ai7 d ss vs ars cx k).fst), .row 3 (D.ints (ai7 d ss vs ars cx k).snd), dT bd, dT ss, .box (pL 0), dE (ss.getD k b81).index.kids, dE (ss.getD k b81).value.kids, dT (ss.getD k b81).body, dT (ss.getD k b81).els, .box (sL (ss.getD k b81) 5)] (aG3 cx k [(7, .ptr 9 0)]) fun G => b0 (aX4 G (B8 ⟨[(7, _, [0, 1, 2, 6]), (9, _, [0, 1, 2, 8])], [], []⟩ (b9 (m7.lend (aa5 ((ai7 d ss vs ars cx k).fst) ((ai7 d ss vs ars cx k).snd) bd ((ss.getD k b81).value) (aW5 (hsh.trans aq2) hv ha (z9 hs (by omega)).1 (by omega))) [.row 3, .row 3]) (b9 (ih ((ai7 d ss vs ars cx k).fst) ((ai7 d ss vs ars cx k).snd) ((ss.getD k b81).els) (r8 cx (n5 (ai7 d ss vs ars cx k).fst (ai7 d ss vs ars cx k).snd 5 (ss.getD k b81).value)) (by omega) ((hsh.trans aq2).1.trans hv) ((hsh.trans aq2).2.trans ha) ((z9 hs (by omega)).2.2)) d8)) b91) [0, 0, 2, 0, 0, 0, 32, 112, 248, 511] (rg 5) [.row 3 (D.ints (bj8 d ss vs ars cx k).fst), .row 3 (D.ints (bj8 d ss vs ars cx k).snd), dT bd, dT ss, .box (pL 0)] (aG3 cx k []) fun G => r7 (r7 (b0 (K7 G i7 [(6, iA ((k : Int) + 1))] [wO ((k : Int) + 1)] (o1 (by omega)) fun G => b0 ?_))))); exact rxn G (k + 1) (by omega) (by omega) (rg 5) (by have e1 : ((A4 true (d + 1) (vs, ars) cx (b88 (k + 1) ss)).fst : List Int) = ((bj8 d ss vs ars cx k).fst) := (congrArg Prod.fst (rn3 (by omega) (by omega))); have e2 : ((A4 true (d + 1) (vs, ars) cx (b88 (k + 1) ss)).snd : List Int) = ((bj8 d ss vs ars cx k).snd) := (congrArg Prod.snd (rn3 (by omega) (by omega))); (first | rw [e1, e2] | simp only [e1, e2]) <;> rfl)
    · refine R5 G (B8 ⟨[(13, _, [0, 1, 2, 6]), (18, _, [0, 1, 2, 5])], [], []⟩ (b9 (m7.lend (aa5 ((v8 d ss vs ars cx k).fst) ((v8 d ss vs ars cx k).snd) bd ((ss.getD k b81).value) (aW5 hsh hv ha (z9 hs (by omega)).1 (by omega))) [.row 3, .row 3]) (b9 (m7.lend (aa5 ((v8 d ss vs ars cx k).fst) ((v8 d ss vs ars cx k).snd) bd ((ss.getD k b81).index) (bS2 hsh hv ha (z9 hs (by omega)).1 (by omega))) [.row 3, .row 3]) d8)) b91) [0, 1, 0, 4, 0, 16, 0, 64, 240, 496, 0, 0, 2048, 7168, 16368, 0, 0, 65536, 244736, 524272, 0, 2097136, 4194303, 8388607] (rg 5) [.row 3 (D.ints (v8 d ss vs ars cx k).fst), .row 3 (D.ints ((v8 d ss vs ars cx k).snd.set (ss.getD k b81).target.toNat (r8 (r8 (r8 ((v8 d ss vs ars cx k).snd.getD (ss.getD k b81).target.toNat 0) (n5 (v8 d ss vs ars cx k).fst (v8 d ss vs ars cx k).snd 5 (ss.getD k b81).value)) (n5 (v8 d ss vs ars cx k).fst (v8 d ss vs ars cx k).snd 5 (ss.getD k b81).index)) cx))), dT bd, dT ss, .box (pL 0)] (aG3 cx k []) (iX ((ss.getD k b81).target) ((ss.getD k b81).target.toNat) ((A4 true (d + (1 : Nat)) (vs, ars) cx (b88 k ss)).snd.length) (iX ((ss.getD k b81).target) ((ss.getD k b81).target.toNat) ((A4 true (d + (1 : Nat)) (vs, ars) cx (b88 k ss)).snd.length) [])) (iK (by have h9 := S0 (z9 (k := k) hs (by omega)).1 (by omega); have h8 := hsh.2.trans ha; omega) (iK (by have h9 := S0 (z9 (k := k) hs (by omega)).1 (by omega); have h8 := hsh.2.trans ha; omega) b91)) fun G => r7 (r7 (b0 (K7 G i7 [(6, iA ((k : Int) + 1))] [wO ((k : Int) + 1)] (o1 (by omega)) fun G => b0 ?_))); exact rxn G (k + 1) (by have h9 := S0 (z9 (k := k) hs (by omega)).1 (by omega); have h8 := hsh.2.trans ha; omega) (by have h9 := S0 (z9 (k := k) hs (by omega)).1 (by omega); have h8 := hsh.2.trans ha; omega) (rg 5) (by have e2 : ((A4 true (d + 1) (vs, ars) cx (b88 (k + 1) ss)).snd : List Int) = ((v8 d ss vs ars cx k).snd.set (ss.getD k b81).target.toNat (r8 (r8 (r8 ((v8 d ss vs ars cx k).snd.getD (ss.getD k b81).target.toNat 0) (n5 (v8 d ss vs ars cx k).fst (v8 d ss vs ars cx k).snd 5 (ss.getD k b81).value)) (n5 (v8 d ss vs ars cx k).fst (v8 d ss vs ars cx k).snd 5 (ss.getD k b81).index)) cx)) := (congrArg Prod.snd (rn2 hs (by omega) (by omega))); have h9 := rn2 (q := (vs, ars)) (cx := cx) hs (show k < _ by omega) (by omega); rw [e2, h9] <;> rfl)
   · refine R5 G (t5 13 [0, 1, 2, 6] (m7.lend (aa5 ((v8 d ss vs ars cx k).fst) ((v8 d ss vs ars cx k).snd) bd ((ss.getD k b81).value) (aW5 hsh hv ha (z9 hs (by omega)).1 (by omega))) [.row 3, .row 3])) [0, 1, 0, 4, 0, 16, 0, 64, 240, 496, 0, 0, 2048, 7168, 16368, 0, 65520, 131071, 262143] (rg 5) [.row 3 (D.ints ((v8 d ss vs ars cx k).fst.set (ss.getD k b81).target.toNat (r8 (r8 ((v8 d ss vs ars cx k).fst.getD (ss.getD k b81).target.toNat 0) (n5 (v8 d ss vs ars cx k).fst (v8 d ss vs ars cx k).snd 5 (ss.getD k b81).value)) cx))), .row 3 (D.ints (v8 d ss vs ars cx k).snd), dT bd, dT ss, .box (pL 0)] (aG3 cx k []) (iX ((ss.getD k b81).target) ((ss.getD k b81).target.toNat) ((A4 true (d + (1 : Nat)) (vs, ars) cx (b88 k ss)).fst.length) (iX ((ss.getD k b81).target) ((ss.getD k b81).target.toNat) ((A4 true (d + (1 : Nat)) (vs, ars) cx (b88 k ss)).fst.length) [])) (iK (by have h9 := R9 (z9 (k := k) hs (by omega)).1 (by omega); have h8 := hsh.1.trans hv; omega) (iK (by have h9 := R9 (z9 (k := k) hs (by omega)).1 (by omega); have h8 := hsh.1.trans hv; omega) b91)) fun G => r7 (r7 (b0 (K7 G i7 [(6, iA ((k : Int) + 1))] [wO ((k : Int) + 1)] (o1 (by omega)) fun G => b0 ?_))); exact rxn G (k + 1) (by have h9 := R9 (z9 (k := k) hs (by omega)).1 (by omega); have h8 := hsh.1.trans hv; omega) (by have h9 := R9 (z9 (k := k) hs (by omega)).1 (by omega); have h8 := hsh.1.trans hv; omega) (rg 5) (by have e1 : ((A4 true (d + 1) (vs, ars) cx (b88 (k + 1) ss)).fst : List Int) = ((v8 d ss vs ars cx k).fst.set (ss.getD k b81).target.toNat (r8 (r8 ((v8 d ss vs ars cx k).fst.getD (ss.getD k b81).target.toNat 0) (n5 (v8 d ss vs ars cx k).fst (v8 d ss vs ars cx k).snd 5 (ss.getD k b81).value)) cx)) := (congrArg Prod.fst (rn1 hs (by omega) (by omega))); have h9 := rn1 (q := (vs, ars)) (cx := cx) hs (show k < _ by omega) (by omega); rw [e1, h9] <;> rfl)
theorem bh6 (nv na : Nat) (bd : List b5) : ∀ (d : Nat) (vs ars : List Int) (ss : List b5) (cx : Int), vs.length = nv → ars.length = na → ss.all (i9 nv na d) = true → m7.ok Tryz.prog (raC vs ars d bd ss cx) := by
 intro d
 induction d with
 | zero =>
  intro vs ars ss cx hv ha hs
  have h0 : ss = [] := by
   cases ss with
   | nil => rfl
   | cons a r => simp [i9] at hs
  subst h0
  exact aS8 nv na 0 bd [] (fun _ _ _ _ h => absurd h (by simp)) vs ars cx hv ha rfl
 | succ d ih => intro vs ars ss cx hv ha hs; exact aS8 nv na d bd ss (fun vs ars tt cx _ h1 h2 h3 => ih vs ars tt cx h1 h2 h3) vs ars cx hv ha hs
theorem bh5 (vs ars : List Int) (b : List b5) (hs : b.all (i9 vs.length ars.length 5) = true) : m7.ok Tryz.prog ⟨184, [pA 0, .ref 2, iA 0], [.row 3 (.ints vs), .row 3 (.ints ars), dT b], [.row 3 (.ints (A4 true 5 (vs, ars) 0 b).1), .row 3 (.ints (A4 true 5 (vs, ars) 0 b).2), dT b], .tup []⟩ :=
 m7.dup (S := [.row 3 (.ints vs), .row 3 (.ints ars), dT b]) (S' := [.row 3 (.ints (A4 true 5 (vs, ars) 0 b).1), .row 3 (.ints (A4 true 5 (vs, ars) 0 b).2), dT b]) (d := .stmts b) (i := 2) (bh6 _ _ b 5 vs ars b 0 rfl rfl hs) rfl rfl rfl (fun ρ h => by simp only [AV.vals, AV.val]; rw [show ρ 3 = ρ 2 from h]) rfl
def okI (p : f7) : Bool := n4 p && decide ((R0 ⟨(ay6 p).1, (ay6 p).2, p.body⟩ false).1 = 0)
def ai4 (p : f7) : f7 := if okI p = true then ⟨(ay6 p).1, (ay6 p).2, p.body⟩ else ⟨[], [], []⟩
theorem aK3 {p : f7} (h : n4 p = true) : p.vars.length + p.arrays.length ≤ 14 := by
 unfold n4 B6 at h
 simp only [b85, decide_eq_true_eq] at h
 omega
section
variable {p : f7} {q : L8} {b : List b5} {X : L8}
theorem ad7 (h : (decide (X.1 = q.1) && (decide (X.2 = q.2) && y8 b b)) = true) : X = q := by
 simp only [b85, decide_eq_true_eq] at h
 exact Prod.ext h.1 h.2.1
theorem bc9 (h : (decide (X.1 = q.1) && (decide (X.2 = q.2) && y8 b b)) = false) : ¬ X = q := fun e => by
 subst e
 rw [(G9 b b).2 rfl] at h
 simp at h
theorem bD4 {f : Bool} (hp : n4 p = true) (h : ai5 p.body (p.vars, p.arrays) q) (hne : ¬ A4 f 5 q 0 p.body = q) : 100 - aP4 (A4 f 5 q 0 p.body) < 100 - aP4 q := by
 have h1 := an7 (f := f) h
 have h2 := bk9 aq2 h.2.1 h1.2.1 aI1 hne
 have h3 := a25 h1.2.1
 have h4 := aK3 hp
 rw [h1.1.1, h1.1.2] at h3
 simp only at h3
 omega
theorem bM3 (hb : p.size ≤ 1048576) (h : ai5 p.body (p.vars, p.arrays) q) : q.1.length + q.2.length + p7 p.body ≤ 1048576 := by
 have h1 := h.1.1
 have h2 := h.1.2
 unfold f7.size at hb
 simp only at h1 h2
 omega
theorem bs8 (hp : n4 p = true) (h : ai5 p.body (p.vars, p.arrays) q) : p.body.all (i9 q.1.length q.2.length 5) = true := by
 rw [h.1.1, h.1.2]; exact (M0 hp).1
theorem bB0 (h : n4 p = false) : okI p = false := by unfold okI; rw [h]; rfl
theorem bB1 (hp : n4 p = true) (h : ai5 p.body (p.vars, p.arrays) q) (hf : A4 true 5 q 0 p.body = q) : okI p = decide ((R0 ⟨q.1, q.2, p.body⟩ false).1 = 0) := by
 unfold okI; rw [hp, bn5 hp (aK3 hp) h hf]; rfl
theorem bn4 (h : okI p = false) : ai4 p = ⟨[], [], []⟩ := by unfold ai4; rw [h]; rfl
theorem bM5 (hp : n4 p = true) (h : ai5 p.body (p.vars, p.arrays) q) (hf : A4 true 5 q 0 p.body = q) (hk : okI p = true) : ai4 p = ⟨q.1, q.2, p.body⟩ := by unfold ai4; rw [hk, bn5 hp (aK3 hp) h hf]; rfl
theorem bZ5 (hp : n4 p = true) (h : ai5 p.body (p.vars, p.arrays) q) (hf : A4 true 5 q 0 p.body = q) (hc : (R0 ⟨q.1, q.2, p.body⟩ false).1 = 0) : okI p = true := by rw [bB1 hp h hf]; exact decide_eq_true hc
theorem bZ6 (hp : n4 p = true) (h : ai5 p.body (p.vars, p.arrays) q) (hf : A4 true 5 q 0 p.body = q) (hc : ¬ (R0 ⟨q.1, q.2, p.body⟩ false).1 = 0) : okI p = false := by rw [bB1 hp h hf]; exact decide_eq_false hc
end
abbrev aR0 (p : f7) : List It := [dI p.vars, dI p.arrays, dT p.body, .row 3 (D.ints (ai4 p).vars), .row 3 (D.ints (ai4 p).arrays), .tree (D.stmts (ai4 p).body)]
abbrev aA8 : It := .box [.v (.slice none 0 0), .v (.slice none 0 0), .v (.slice none 0 0)]
abbrev aH2 : It := .box [.ref 4, .ref 5, .tref 6]
abbrev as2 (p : f7) (q : L8) (r0 : List It) : List It := .row 3 (D.ints q.fst) :: .row 3 (D.ints q.snd) :: .tree (D.stmts p.body) :: r0
abbrev ai6 (r0 : List (Nat × AV)) : List (Nat × AV) := (2, .ptr 3 0) :: (3, bA false) :: (4, .ptr 7 0) :: r0
abbrev W6 (p : f7) (r0 : List It) : List It := dI p.vars :: dI p.arrays :: dT p.body :: r0
theorem aQ4 (p : f7) (hb : p.size ≤ 1048576) : m7.ok Tryz.prog ⟨124, [pA 0], pS p, pS p ++ oP (ai4 p), .tup [oA 3, bA (okI p)]⟩ := by
  refine H8 33 Tryz.func124 (W6 p []) [(0, pA 0)] fun G => ?_
  have hb1 : p.vars.length ≤ 1048576 ∧ p.arrays.length ≤ 1048576 ∧ p7 p.body ≤ 1048576 := by unfold f7.size at hb; omega
  refine wp_seq (m5 G i7 [0, 1, 2, 3, 11] (W6 p [.box (pL 0), aA8]) [(1, .ptr 3 0), (2, .ptr 4 0), (3, bA false)] fun G => b0 (wp_seq (wp_seq (l8 G (t5 1 [0, 1, 2] (S5 p hb1.2.2)) [(10, .v (.bool !n4 p))] fun G => b0 ?_)))); cases h0 : (!n4 p)
  ·
   have q0 : (n4 p) = true := (Eq.mp (ca0 _) h0); refine rF G _ h0 (wp_skip (b0 (wp_seq (m5 G (t5 1 [0, 1, 2] (az9 p.vars p.arrays p.body (by assumption))) [0, 1, 2, 4, 13, 14, 15, 21] (W6 p [aA8, .row 3 (D.ints p.vars), .row 3 (D.ints p.arrays), .tree (D.stmts p.body), aH2]) (ai6 []) fun G => b0 (wp_seq (wp_block ?_)))))); refine y9 (κ := L8) (fun q => ai5 p.body (p.vars, p.arrays) q) (fun q => 100 - aP4 q) (fun q => (W6 p [aA8, .row 3 (.ints q.1), .row 3 (.ints q.2), .tree (D.stmts p.body), aH2])) (fun q => (ai6 [])) ((p.vars, p.arrays)) (ar1 (aY7 (by with_reducible assumption))) (x8.at G _ _) ?_; clear G; intro q ρ a w hp G; replace G := x8.at G (W6 p (aA8 :: (as2 p q [aH2]))) (ai6 []); refine wp_block (wp_seq (m5 G (t5 1 [4, 5, 6] (m7.lend (az9 q.fst q.snd p.body (bM3 hb (by with_reducible assumption))) [.row 3, .row 3, .tree])) [0, 1, 2, 3, 4, 5, 6, 7, 16, 17, 18, 24] (W6 p (aA8 :: (as2 p q (aH2 :: (as2 p q [.box [.ref 8, .ref 9, .tref 10]]))))) (ai6 [(5, .ptr 11 0)]) fun G => b0 (wp_seq (m5 G (t5 3 [8, 9, 10] (m7.lend (bh5 q.fst q.snd p.body (bs8 (by with_reducible assumption) (by with_reducible assumption))) [.no, .no, .tree])) (rg 12) (W6 p (aA8 :: (as2 p q [aH2, .row 3 (D.ints (A4 true 5 q 0 p.body).fst), .row 3 (D.ints (A4 true 5 q 0 p.body).snd), .tree (D.stmts p.body), .box [.ref 8, .ref 9, .tref 10]]))) (ai6 [(5, .ptr 11 0)]) fun G => b0 (wp_seq (wp_seq (K8 G (t5 2 [8, 9, 10, 4, 5, 6] (m7.lend (aQ3 ((A4 true 5 q 0 p.body).fst) ((A4 true 5 q 0 p.body).snd) p.body q.fst q.snd p.body) [.row 3, .row 3, .tree, .row 3, .row 3, .tree])) (ai6 [(5, .ptr 11 0), (22, bA (decide ((A4 true 5 q 0 p.body).fst = q.fst) && (decide ((A4 true 5 q 0 p.body).snd = q.snd) && y8 p.body p.body)))]) fun G => b0 ?_))))))); cases h1 : (decide ((A4 true (5 : Nat) q (0 : Int) p.body).fst = q.fst) && (decide ((A4 true (5 : Nat) q (0 : Int) p.body).snd = q.snd) && y8 p.body p.body))
   · have q1 : (¬ ((A4 true 5 q 0 p.body).fst = q.fst)) ∨ ((¬ ((A4 true 5 q 0 p.body).snd = q.snd)) ∨ ((y8 p.body p.body) = false)) := Or.imp (fun hq => of_decide_eq_false hq) (fun hq => Or.imp (fun hq => of_decide_eq_false hq) (fun hq => (hq)) (cb4.1 hq)) (cb4.1 h1); refine rF G _ h1 (wp_skip (b0 (m5 G i7 [0, 1, 2, 3, 7, 8, 9, 10] (W6 p [aA8, .box [.ref 5, .ref 6, .tref 7], .row 3 (D.ints (A4 true 5 q 0 p.body).fst), .row 3 (D.ints (A4 true 5 q 0 p.body).snd), .tree (D.stmts p.body)]) [(2, .ptr 3 0), (3, bA false), (4, .ptr 4 0)] fun G => r7 (b0 ?_)))); exact rxn G (A4 true 5 q 0 p.body) (an7 (by with_reducible assumption)) (bD4 (by with_reducible assumption) (by with_reducible assumption) (bc9 (by with_reducible assumption))) [0, 1, 2, 3, 5, 6, 7, 4]
   ·
    have q1 : ((A4 true 5 q 0 p.body).fst = q.fst) ∧ (((A4 true 5 q 0 p.body).snd = q.snd) ∧ ((y8 p.body p.body) = true)) := And.imp (fun hq => of_decide_eq_true hq) (fun hq => And.imp (fun hq => of_decide_eq_true hq) (fun hq => (hq)) (cb6.1 hq)) (cb6.1 h1); refine rT G _ h1 (wp_exit (y7 ?_)); refine bP6 (by kernel_rfl) ?_; refine y7 (y6 (b0 (wp_seq (m5 G (t5 1 [4, 5, 6] (m7.lend (a08 q.fst q.snd p.body hb1.2.2) [.row 3, .row 3, .tree])) (rg 8) (W6 p (aA8 :: (as2 p q [aH2]))) (ai6 [(6, iA (R0 (f7.mk q.fst q.snd p.body) false).fst)]) fun G => b0 (wp_seq (wp_seq (l8 G i7 [(30, bA ((R0 (f7.mk q.fst q.snd p.body) false).fst != 0))] fun G => b0 (rcN G (fun h2 q2 => ?_) fun h2 q2 => ?_))))))))
    · refine wp_skip (b0 (wp_seq (m5 G i7 (rg 7) (W6 p (aH2 :: (as2 p q []))) [(2, .ptr 3 0), (3, bA true)] fun G => b0 (wp_ret ?_)))); exact X8 (.tup [.agg [.ref 4, .ref 5, .tref 6], bA true]) G [0, 1, 2, 4, 5, 6] (by have e1 : (okI p : Bool) = (true) := (bZ5 (by with_reducible assumption) (by with_reducible assumption) (ad7 (by with_reducible assumption)) (by with_reducible assumption)); (first | rw [e1] | simp only [e1]) <;> rfl) (by show _ = mR [0, 1, 2, 4, 5, 6] (aR0 p); unfold aR0; rw [bM5 (by with_reducible assumption) (by with_reducible assumption) (ad7 (by with_reducible assumption)) (bZ5 (by with_reducible assumption) (by with_reducible assumption) (ad7 (by with_reducible assumption)) (by with_reducible assumption))] <;> rfl)
    · refine wp_seq (K8 G i7 (ai6 []) fun G => b0 (wp_ret (m8 ?_))); obtain ⟨ρ, G⟩ := G.nil 8 3 (.ints []) 1 (W6 p (.box [.ref 8, .v (.slice none 0 0), .v (.slice none 0 0)] :: (as2 p q [.box [.ref 4, .ref 5, .tref 6]]))) (ai6 []); obtain ⟨ρ, G⟩ := G.nil 9 3 (.ints []) 1 (W6 p (.box [.ref 8, .ref 9, .v (.slice none 0 0)] :: (as2 p q [.box [.ref 4, .ref 5, .tref 6], .row 3 (D.ints [])]))) (ai6 []); obtain ⟨ρ, G⟩ := G.nilT 10 (.stmts []) (W6 p (.box [.ref 8, .ref 9, .tref 10] :: (as2 p q [.box [.ref 4, .ref 5, .tref 6], .row 3 (D.ints []), .row 3 (D.ints [])]))) (ai6 []); exact X8 (.tup [.agg [.ref 8, .ref 9, .tref 10], bA false]) G [0, 1, 2, 8, 9, 10] (by have e1 : (okI p : Bool) = (false) := (bZ6 (by with_reducible assumption) (by with_reducible assumption) (ad7 (by with_reducible assumption)) (by with_reducible assumption)); (first | rw [e1] | simp only [e1]) <;> rfl) (by show _ = mR [0, 1, 2, 8, 9, 10] (aR0 p); unfold aR0; rw [bn4 (bZ6 (by with_reducible assumption) (by with_reducible assumption) (ad7 (by with_reducible assumption)) (by with_reducible assumption))] <;> rfl)
  · have q0 : (n4 p) = false := (Eq.mp (b99 _) h0); refine rT G _ h0 (wp_seq (K8 G i7 [(1, .ptr 3 0), (2, .ptr 4 0), (3, bA false)] fun G => b0 (wp_ret (m8 ?_)))); obtain ⟨ρ, G⟩ := G.nil 5 3 (.ints []) 1 (W6 p [.box (pL 0), .box [.ref 5, .v (.slice none 0 0), .v (.slice none 0 0)]]) [(1, .ptr 3 0), (2, .ptr 4 0), (3, bA false)]; obtain ⟨ρ, G⟩ := G.nil 6 3 (.ints []) 1 (W6 p [.box (pL 0), .box [.ref 5, .ref 6, .v (.slice none 0 0)], .row 3 (D.ints [])]) [(1, .ptr 3 0), (2, .ptr 4 0), (3, bA false)]; obtain ⟨ρ, G⟩ := G.nilT 7 (.stmts []) (W6 p [.box (pL 0), .box [.ref 5, .ref 6, .tref 7], .row 3 (D.ints []), .row 3 (D.ints [])]) [(1, .ptr 3 0), (2, .ptr 4 0), (3, bA false)]; exact X8 (.tup [.agg [.ref 5, .ref 6, .tref 7], bA false]) G [0, 1, 2, 5, 6, 7] (by have e1 : (okI p : Bool) = (false) := (bB0 (by with_reducible assumption)); (first | rw [e1] | simp only [e1]) <;> rfl) (by show _ = mR [0, 1, 2, 5, 6, 7] (aR0 p); unfold aR0; rw [bn4 (bB0 (by with_reducible assumption))] <;> rfl)
abbrev nvL : List Int := [3] ++ ([4] ++ ([2] ++ ([5] ++ [])))
abbrev viL : List Int := [0] ++ ([1] ++ ([0] ++ ([1] ++ ([2] ++ ([3] ++ [])))))
abbrev naL : List Int := [1] ++ ([2] ++ ([0] ++ ([1] ++ [])))
abbrev aiL : List Int := [0] ++ ([1] ++ ([0] ++ ([1] ++ ([3] ++ []))))
abbrev nbL : List Int := [2] ++ ([3] ++ ([1] ++ ([4] ++ [])))
def nsD (b : List UInt8) (l : List Int) (n : Nat) (k : Int) : List Int := (ca2 n).map fun (i : Nat) => nm b (k + (i : Int)) l
theorem an1 (b : List UInt8) (l : List Int) (n : Nat) (k : Int) : (nsD b l n k).length = n := by simp [nsD]
theorem bB4 (b : List UInt8) (l : List Int) (n : Nat) (k : Int) : nsD b l (n + 1) k = nsD b l n k ++ [nm b (k + (n : Int)) l] := by
 unfold nsD; rw [List.range_succ, List.map_append]; rfl
def J3 (b : List UInt8) (k : Int) : Int := k + 1 + nm b k nvL
def kp2 (b : List UInt8) (k : Int) : Int := J3 b k + 1 + nm b (J3 b k) naL
def vsD (b : List UInt8) (k : Int) : List Int := nsD b viL (nm b k nvL).toNat (k + 1)
def asD (b : List UInt8) (k : Int) : List Int := nsD b aiL (nm b (J3 b k) naL).toNat (J3 b k + 1)
def bdD (b : List UInt8) (k : Int) : List b5 × Int := I1 (C8 b (vsD b k).length (asD b k).length 3) (nm b (kp2 b k) nbL).toNat (kp2 b k + 1)
def rwD (b : List UInt8) (k : Int) : f7 := ⟨vsD b k, asD b k, (bdD b k).1⟩
def fbP : f7 := ⟨[0, 1], [], [⟨1, 1, noE, ⟨2, 0, []⟩, 0, [], []⟩]⟩
def pgD (b : List UInt8) (k : Int) : f7 := if n4 (rwD b k) = true then rwD b k else fbP
section
variable (b : List UInt8) {k : Int}
theorem bT7 (hk : 0 ≤ k) (hk2 : k ≤ 1000000000) : 0 ≤ nm b k nvL ∧ nm b k nvL ≤ 5 := aS9 b (by simp) (by simp) hk hk2
theorem bZ9 (hk : 0 ≤ k) (hk2 : k ≤ 1000000000) : 0 ≤ nm b k nbL ∧ nm b k nbL ≤ 4 := aS9 b (by simp) (by simp) hk hk2
theorem bU0 (hk : 0 ≤ k) (hk2 : k ≤ 1000000000) : 0 ≤ nm b k naL ∧ nm b k naL ≤ 2 := aS9 b (by simp) (by simp) hk hk2
theorem bC5 (hk : 0 ≤ k) (hk2 : k ≤ 10000000) : k + 1 ≤ J3 b k ∧ J3 b k ≤ k + 6 := by
 have := bT7 b hk (by omega); unfold J3; omega
theorem bm9 (hk : 0 ≤ k) (hk2 : k ≤ 10000000) : k + 2 ≤ kp2 b k ∧ kp2 b k ≤ k + 9 := by
 have h1 := bC5 b hk hk2
 have := bU0 b (k := J3 b k) (by omega) (by omega); unfold kp2; omega
theorem cS3 : cS 3 = 34170 ∧ cS 2 = 8442 := by decide
theorem b75 (nv na : Nat) : Drw (C8 b nv na 3) 34170 := fun j h1 h2 => by
 have e := cS3.1
 have h3 := a28 b nv na 3 j h1 (by omega)
 have h4 := bc3 b nv na 3 j h1 (by omega)
 omega
theorem bp8 (hk : 0 ≤ k) (hk2 : k ≤ 10000000) : kp2 b k ≤ (bdD b k).2 ∧ (bdD b k).2 ≤ k + 150000 ∧ p7 (bdD b k).1 ≤ 150000 := by
 have h1 := bm9 b hk hk2
 have h2 := bZ9 b (k := kp2 b k) (by omega) (by omega)
 have h3 := aZ5 (f := C8 b (vsD b k).length (asD b k).length 3) (by omega) (b75 b _ _) (nm b (kp2 b k) nbL).toNat (kp2 b k + 1) (by omega) (by omega)
 unfold bdD
 omega
theorem bw5 (hk : 0 ≤ k) (hk2 : k ≤ 10000000) : (vsD b k).length ≤ 5 := by
 have := bT7 b hk (by omega); unfold vsD; rw [an1]; omega
theorem bH7 (hk : 0 ≤ k) (hk2 : k ≤ 10000000) : (asD b k).length ≤ 2 := by
 have h1 := bC5 b hk hk2
 have := bU0 b (k := J3 b k) (by omega) (by omega); unfold asD; rw [an1]; omega
theorem bA3 (hk : 0 ≤ k) (hk2 : k ≤ 10000000) : (pgD b k).size ≤ 160000 := by
 have h1 := bp8 b hk hk2
 have h2 := bw5 b hk hk2
 have h3 := bH7 b hk hk2
 unfold pgD; split
 ·show (vsD b k).length + (asD b k).length + p7 (bdD b k).1 ≤ 160000
  omega
 ·decide
end
abbrev m2L : List Int := [0] ++ ([6] ++ ([1] ++ ([5] ++ ([2] ++ []))))
abbrev m3L : List Int := [-1] ++ ([12] ++ ([1] ++ ([9223372036854775807] ++ [])))
abbrev m4L : List Int := [-1] ++ ([256] ++ ([12] ++ ([1] ++ [])))
abbrev m5L : List Int := [1] ++ ([4] ++ ([-1] ++ ([2] ++ [])))
def kdS (s : b5) (x : Int) : b5 := ⟨x, s.target, s.index, s.value, s.count, s.body, s.els⟩
def tgS (s : b5) (x : Int) : b5 := ⟨s.kind, x, s.index, s.value, s.count, s.body, s.els⟩
def vvS (s : b5) (x : Int) : b5 := ⟨s.kind, s.target, s.index, ⟨s.value.kind, x, s.value.kids⟩, s.count, s.body, s.els⟩
def ctS (s : b5) (x : Int) : b5 := ⟨s.kind, s.target, s.index, s.value, x, s.body, s.els⟩
def mtD (b : List UInt8) (p : f7) (k : Int) : f7 × Int :=
 if pk b k 60 = 0 then (if 0 < p.vars.length then (⟨p.vars.set 0 (l1D b (k + 1)), p.arrays, p.body⟩, k + 1 + 2) else (p, k + 1))
 else if pk b k 60 = 1 then (⟨p.vars ++ b82 (13 - p.vars.length) 1, p.arrays, p.body⟩, k + 1)
 else if pk b k 60 = 2 then (if 0 < p.body.length then (⟨p.vars, p.arrays, p.body.set 0 (kdS (p.body.getD 0 b81) (nm b (k + 1) m2L))⟩, k + 1 + 1) else (p, k + 1))
 else if pk b k 60 = 3 then (if 0 < p.body.length then (⟨p.vars, p.arrays, p.body.set ((p.body.length : Int) - 1).toNat (tgS (p.body.getD ((p.body.length : Int) - 1).toNat b81) (nm b (k + 1) m3L))⟩, k + 1 + 1) else (p, k + 1))
 else if pk b k 60 = 4 then (if 0 < p.body.length then (⟨p.vars, p.arrays, p.body.set 0 (vvS (p.body.getD 0 b81) (nm b (k + 1) m4L))⟩, k + 1 + 1) else (p, k + 1))
 else if pk b k 60 = 5 then (if 0 < p.body.length then (⟨p.vars, p.arrays, p.body.set 0 (ctS (p.body.getD 0 b81) (nm b (k + 1) m5L))⟩, k + 1 + 1) else (p, k + 1))
 else if pk b k 60 = 6 then (⟨[], [], []⟩, k + 1)
 else (p, k + 1)
theorem bx2 {l : List b5} {i : Nat} {s : b5} (h : szS s ≤ szS (l.getD i b81)) : p7 (l.set i s) ≤ p7 l := by
 induction l generalizing i with
 | nil => simp [p7]
 | cons a r ih =>
  cases i with
  | zero => simp only [List.set_cons_zero, p7]; simp at h; omega
  | succ i =>
   simp only [List.set_cons_succ, p7]
   have := ih (i := i) (by simpa using h)
   omega
theorem bU3 (s : b5) (x : Int) : szS (kdS s x) = szS s := by cases s; rfl
theorem bR9 (s : b5) (x : Int) : szS (tgS s x) = szS s := by cases s; rfl
theorem bR8 (s : b5) (x : Int) : szS (vvS s x) = szS s := by obtain ⟨_, _, _, ⟨_, _, _⟩, _, _, _⟩ := s; rfl
theorem bV7 (s : b5) (x : Int) : szS (ctS s x) = szS s := by cases s; rfl
theorem bU1 (b : List UInt8) (p : f7) (k : Int) : (mtD b p k).1.size ≤ p.size + 13 ∧ k ≤ (mtD b p k).2 ∧ (mtD b p k).2 ≤ k + 3 := by
 have hs : ∀ i s, szS s = szS (p.body.getD i b81) → p7 (p.body.set i s) ≤ p7 p.body := fun i s h => bx2 (by omega)
 have h2 := hs 0 _ (bU3 (p.body.getD 0 b81) (nm b (k + 1) m2L))
 have h3 := hs ((p.body.length : Int) - 1).toNat _ (bR9 (p.body.getD ((p.body.length : Int) - 1).toNat b81) (nm b (k + 1) m3L))
 have h4 := hs 0 _ (bR8 (p.body.getD 0 b81) (nm b (k + 1) m4L))
 have h5 := hs 0 _ (bV7 (p.body.getD 0 b81) (nm b (k + 1) m5L))
 unfold mtD
 simp only [f7.size]
 (repeat' split) <;> (simp only [b97, b83, b87, b86, p7]; omega)
def tyD (b : List UInt8) (k : Int) : f7 := if pk b (bdD b k).2 4 = 0 then pgD b k else if okI (pgD b k) = true then ai4 (pgD b k) else pgD b k
theorem bM4 {p : f7} : (ai4 p).size ≤ p.size := by
 unfold ai4
 split
 ·have h := (aM6 (p := p) (by rename_i h; unfold okI at h; simp at h; exact h.1)).1
  show (ay6 p).1.length + (ay6 p).2.length + p7 p.body ≤ _
  unfold f7.size
  have h1 : (ay6 p).1.length = p.vars.length := h.1
  have h2 : (ay6 p).2.length = p.arrays.length := h.2
  omega
 ·simp [f7.size, p7]
theorem bx0 (b : List UInt8) {k : Int} (hk : 0 ≤ k) (hk2 : k ≤ 10000000) : (tyD b k).size ≤ 160000 := by
 have h1 := bA3 b hk hk2
 have h2 := bM4 (p := pgD b k)
 unfold tyD
 (repeat' split) <;> omega
def bsD (c : List UInt8) : List UInt8 := c.take 2000
def K2 (c : List UInt8) : f7 := (mtD (bsD c) (tyD (bsD c) 0) ((bdD (bsD c) 0).2 + 1)).1
theorem bV0 (c : List UInt8) : (K2 c).size ≤ 200000 := by
 have h1 := bx0 (bsD c) (k := 0) (by omega) (by omega)
 have h2 := (bU1 (bsD c) (tyD (bsD c) 0) ((bdD (bsD c) 0).2 + 1)).1
 unfold K2; omega
theorem b47 {b : List UInt8} {j n : Int} (h : n < 1) : pk b j n = 0 := by unfold pk; rw [if_pos (.inl h)]
theorem b46 {b : List UInt8} {j n : Int} (h : (b.length : Int) = 0) : pk b j n = 0 := by unfold pk; rw [if_pos (.inr (by omega))]
theorem b45 {b : List UInt8} {j n : Int} (h : ¬ n < 1) (h1 : ¬ (b.length : Int) = 0) (h2 : j + 1 - 1 < b.length) : pk b j n = ((b.getD (j + 1 - 1).toNat 0).toNat : Int).tmod n := by
 unfold pk; rw [if_neg (by omega), if_pos (by omega), Int.add_sub_cancel]
theorem b44 {b : List UInt8} {j n : Int} (h : ¬ n < 1) (h1 : ¬ (b.length : Int) = 0) (h2 : ¬ j + 1 - 1 < b.length) : pk b j n = (bb5 (pkX b (j + 1 - 1)) ((pkX b (j + 1 - 1)).tdiv 64)).tmod n := by
 unfold pk; rw [if_neg (by omega), if_neg (by omega), Int.add_sub_cancel]
theorem bs4 {x : Int} {n : Nat} (hx : 0 ≤ x) (hn : ¬ (n : Int) = 0) : 0 ≤ x.tmod n ∧ x.tmod n < n ∧ (x.tmod n).toNat < n := by
 have := bb7 (x := x) (n := n) hx (by omega); omega
theorem P2 (b : List UInt8) (j n : Int) (r0 : 0 ≤ j) (r1 : j ≤ 1000000000) : m7.ok Tryz.prog ⟨120, [.ptr 0 0, iA n], [.box [.ref 1, iA j], dY b], [.box [.ref 1, iA (j + 1)], dY b], iA (pk b j n)⟩ := by
  refine H8 99 Tryz.func120 [.box [.ref 1, iA j], dY b] [(0, .ptr 0 0), (1, iA n)] fun G => ?_; have hu1 := aR9 (b.getD ((j + 1 - 1).tmod b.length).toNat 0); have hu2 := aR9 (b.getD (((j + 1 - 1) * 7 + 3).tmod b.length).toNat 0); refine wp_seq (l8 G i7 [(4, iA 0)] fun G => b0 (wp_seq (U0 G i7 [0, 1] [.box [.ref 1, iA (j + 1)], dY b] [(0, .ptr 0 0), (1, iA n), (4, iA 0)] [wO (j + 1)] ⟨(by have := aR9 (b.getD (j + 1 - 1).toNat 0); exact w64 (by omega) (by omega)), b91⟩ fun G => b0 (wp_seq (wp_seq ?_))))); cases h0 : (decide (n < 1))
  ·
   have q0 := dFf h0; refine l8 G (X3 (fc h0 fz) (us [(3, 8, 0), (1009, 1009, 0)])) [(24, bA ((b.length : Int) == 0))] fun G => b0 (T1 G (fun h1 q1 => ?_) fun h1 q1 => ?_)
   ·
    refine wp_skip (b0 (wp_seq (K7 G i7 [(5, iA (j + 1 - 1))] [wO (j + 1 - 1)] ⟨(by have := ah9 (b := b) (k := j + 1 - 1) (by omega) (by omega) (by omega); exact w64 (by unfold pkX at this; omega) (by unfold pkX at this; omega)), b91⟩ fun G => b0 (wp_seq (wp_seq (l8 G i7 [(36, bA (decide (j + 1 - 1 < (b.length : Int))))] fun G => b0 (rcD G (fun h2 q2 => ?_) fun h2 q2 => ?_)))))))
    ·
     refine wp_skip (b0 (wp_seq (aD2 G i7 [0, 1, 3, 7, 0, 0, 32, 96, 224, 480, 1008, 2047, 4095, 8191, 16383, 0, 32768, 98304, 229376, 0, 524288, 1572864, 0, 4194304, 12582912, 29360128, 62914560, 133693440, 268402688, 536838144, 1073709056, 2147450880, 4294967295, 0, 8589934592, 34359738367, 0, 0, 137438953472, 412316860416, 962072674304, 2061584302080, 4329327034368, 8727373545472, 17592186044415, 35184372088831] [(6, iA (((b.getD ((j + 1 - 1).tmod (b.length : Int)).toNat 0).toNat : Int) * 131 + ((b.getD (((j + 1 - 1) * 7 + 3).tmod (b.length : Int)).toNat 0).toNat : Int) * 1117 + (j + 1 - 1) * 29 + (j + 1 - 1).tdiv (b.length : Int) * 53))] [(b.length : Int) ≠ 0, (0 : Int) ≤ (j + 1 - 1).tmod (b.length : Int), (j + 1 - 1).tmod (b.length : Int) < b.length, ((j + 1 - 1).tmod (b.length : Int)).toNat < b.length, IntKind.i64.wrap ((b.getD ((j + 1 - 1).tmod (b.length : Int)).toNat (0 : UInt8)).toNat : Int) = ((b.getD ((j + 1 - 1).tmod (b.length : Int)).toNat (0 : UInt8)).toNat : Int), wO (((b.getD ((j + 1 - 1).tmod (b.length : Int)).toNat (0 : UInt8)).toNat : Int) * 131), wO ((j + 1 - 1) * 7), wO ((j + 1 - 1) * 7 + 3), (b.length : Int) ≠ 0, (0 : Int) ≤ ((j + 1 - 1) * 7 + 3).tmod (b.length : Int), ((j + 1 - 1) * 7 + 3).tmod (b.length : Int) < b.length, (((j + 1 - 1) * 7 + 3).tmod (b.length : Int)).toNat < b.length, IntKind.i64.wrap ((b.getD (((j + 1 - 1) * 7 + 3).tmod (b.length : Int)).toNat (0 : UInt8)).toNat : Int) = ((b.getD (((j + 1 - 1) * 7 + 3).tmod (b.length : Int)).toNat (0 : UInt8)).toNat : Int), wO (((b.getD (((j + 1 - 1) * 7 + 3).tmod (b.length : Int)).toNat (0 : UInt8)).toNat : Int) * 1117), wO (((b.getD ((j + 1 - 1).tmod (b.length : Int)).toNat (0 : UInt8)).toNat : Int) * 131 + ((b.getD (((j + 1 - 1) * 7 + 3).tmod (b.length : Int)).toNat (0 : UInt8)).toNat : Int) * 1117), wO ((j + 1 - 1) * 29), wO (((b.getD ((j + 1 - 1).tmod (b.length : Int)).toNat (0 : UInt8)).toNat : Int) * 131 + ((b.getD (((j + 1 - 1) * 7 + 3).tmod (b.length : Int)).toNat (0 : UInt8)).toNat : Int) * 1117 + (j + 1 - 1) * 29), (b.length : Int) ≠ 0, wO ((j + 1 - 1).tdiv (b.length : Int)), wO ((j + 1 - 1).tdiv (b.length : Int) * 53), wO (((b.getD ((j + 1 - 1).tmod (b.length : Int)).toNat (0 : UInt8)).toNat : Int) * 131 + ((b.getD (((j + 1 - 1) * 7 + 3).tmod (b.length : Int)).toNat (0 : UInt8)).toNat : Int) * 1117 + (j + 1 - 1) * 29 + (j + 1 - 1).tdiv (b.length : Int) * 53)] ⟨(by assumption), ((bs4 (by omega) (by omega)).1), ((bs4 (by omega) (by omega)).2.1), ((bs4 (by omega) (by omega)).2.2), (by have := ah9 (b := b) (k := j + 1 - 1) (by omega) (by omega) (by omega); exact w64 (by unfold pkX at this; omega) (by unfold pkX at this; omega)), (by have := ah9 (b := b) (k := j + 1 - 1) (by omega) (by omega) (by omega); exact w64 (by unfold pkX at this; omega) (by unfold pkX at this; omega)), (by have := ah9 (b := b) (k := j + 1 - 1) (by omega) (by omega) (by omega); exact w64 (by unfold pkX at this; omega) (by unfold pkX at this; omega)), (by have := ah9 (b := b) (k := j + 1 - 1) (by omega) (by omega) (by omega); exact w64 (by unfold pkX at this; omega) (by unfold pkX at this; omega)), (by assumption), ((bs4 (by omega) (by omega)).1), ((bs4 (by omega) (by omega)).2.1), ((bs4 (by omega) (by omega)).2.2), (by have := ah9 (b := b) (k := j + 1 - 1) (by omega) (by omega) (by omega); exact w64 (by unfold pkX at this; omega) (by unfold pkX at this; omega)), (by have := ah9 (b := b) (k := j + 1 - 1) (by omega) (by omega) (by omega); exact w64 (by unfold pkX at this; omega) (by unfold pkX at this; omega)), (by have := ah9 (b := b) (k := j + 1 - 1) (by omega) (by omega) (by omega); exact w64 (by unfold pkX at this; omega) (by unfold pkX at this; omega)), (by have := ah9 (b := b) (k := j + 1 - 1) (by omega) (by omega) (by omega); exact w64 (by unfold pkX at this; omega) (by unfold pkX at this; omega)), (by have := ah9 (b := b) (k := j + 1 - 1) (by omega) (by omega) (by omega); exact w64 (by unfold pkX at this; omega) (by unfold pkX at this; omega)), (by assumption), (by have := a45 (b := b) (k := j + 1 - 1) (by omega) (by omega) (by omega); exact w64 (by unfold pkX at this; omega) (by unfold pkX at this; omega)), (by have := a45 (b := b) (k := j + 1 - 1) (by omega) (by omega) (by omega); exact w64 (by unfold pkX at this; omega) (by unfold pkX at this; omega)), (by have := a45 (b := b) (k := j + 1 - 1) (by omega) (by omega) (by omega); exact w64 (by unfold pkX at this; omega) (by unfold pkX at this; omega)), b91⟩ fun G => ?_)))
     refine b0 (wp_seq (K7 G i7 [(6, iA (bb5 (((b.getD ((j + 1 - 1).tmod (b.length : Int)).toNat 0).toNat : Int) * 131 + ((b.getD (((j + 1 - 1) * 7 + 3).tmod (b.length : Int)).toNat 0).toNat : Int) * 1117 + (j + 1 - 1) * 29 + (j + 1 - 1).tdiv (b.length : Int) * 53) ((((b.getD ((j + 1 - 1).tmod (b.length : Int)).toNat 0).toNat : Int) * 131 + ((b.getD (((j + 1 - 1) * 7 + 3).tmod (b.length : Int)).toNat 0).toNat : Int) * 1117 + (j + 1 - 1) * 29 + (j + 1 - 1).tdiv (b.length : Int) * 53).tdiv 64)))] [(64 : Int) ≠ 0, wO ((((b.getD ((j + 1 - 1).tmod (b.length : Int)).toNat (0 : UInt8)).toNat : Int) * 131 + ((b.getD (((j + 1 - 1) * 7 + 3).tmod (b.length : Int)).toNat (0 : UInt8)).toNat : Int) * 1117 + (j + 1 - 1) * 29 + (j + 1 - 1).tdiv (b.length : Int) * 53).tdiv (64 : Int))] ⟨(by simp [h0, h1, h2]), (by have := ah9 (b := b) (k := j + 1 - 1) (by omega) (by omega) (by omega); exact w64 (by unfold pkX at this; omega) (by unfold pkX at this; omega)), b91⟩ fun G => b0 (wp_seq (K7 G i7 [(4, iA ((bb5 (((b.getD ((j + 1 - 1).tmod (b.length : Int)).toNat 0).toNat : Int) * 131 + ((b.getD (((j + 1 - 1) * 7 + 3).tmod (b.length : Int)).toNat 0).toNat : Int) * 1117 + (j + 1 - 1) * 29 + (j + 1 - 1).tdiv (b.length : Int) * 53) ((((b.getD ((j + 1 - 1).tmod (b.length : Int)).toNat 0).toNat : Int) * 131 + ((b.getD (((j + 1 - 1) * 7 + 3).tmod (b.length : Int)).toNat 0).toNat : Int) * 1117 + (j + 1 - 1) * 29 + (j + 1 - 1).tdiv (b.length : Int) * 53).tdiv 64)).tmod n))] [n ≠ 0] ⟨(by omega), b91⟩ fun G => b0 (wp_ret ?_))))); exact P7 ((bb5 (((b.getD ((j + 1 - 1).tmod (b.length : Int)).toNat 0).toNat : Int) * 131 + ((b.getD (((j + 1 - 1) * 7 + 3).tmod (b.length : Int)).toNat 0).toNat : Int) * 1117 + (j + 1 - 1) * 29 + (j + 1 - 1).tdiv (b.length : Int) * 53) ((((b.getD ((j + 1 - 1).tmod (b.length : Int)).toNat 0).toNat : Int) * 131 + ((b.getD (((j + 1 - 1) * 7 + 3).tmod (b.length : Int)).toNat 0).toNat : Int) * 1117 + (j + 1 - 1) * 29 + (j + 1 - 1).tdiv (b.length : Int) * 53).tdiv 64)).tmod n) G [0, 1] (b44 (by omega) (by omega) (by omega))
    · refine wp_seq (K7 G i7 [(4, iA (((b.getD (j + 1 - 1).toNat 0).toNat : Int).tmod n))] (iX (j + 1 - 1) ((j + 1 - 1).toNat) b.length ((IntKind.i64.wrap ((b.getD (j + 1 - 1).toNat (0 : UInt8)).toNat : Int) = ((b.getD (j + 1 - 1).toNat (0 : UInt8)).toNat : Int)) :: ((n ≠ 0) :: []))) (iK (by omega) ⟨(by have := aR9 (b.getD (j + 1 - 1).toNat 0); exact w64 (by omega) (by omega)), ⟨(by omega), b91⟩⟩) fun G => b0 (wp_ret (m8 ?_))); exact P7 (((b.getD (j + 1 - 1).toNat 0).toNat : Int).tmod n) G [0, 1] (b45 (by omega) (by omega) (by omega))
   · refine wp_seq (l8 G i7 [] fun G => b0 (wp_ret (m8 ?_))); exact P7 0 G [0, 1] (b46 (by omega))
  · have q0 := dTt h0; refine l8 G (X3 (fc h0 fz) (us [(3, 8, 0), (1009, 1009, 0)])) [(24, bA true)] fun G => b0 (rT G true (by kernel_rfl) (wp_seq (l8 G i7 [] fun G => b0 (wp_ret (m8 ?_))))); exact P7 0 G [0, 1] (b47 (by omega))
theorem T6 (b : List UInt8) (j : Int) (l : List Int) (hl : l ≠ []) (r0 : 0 ≤ j) (r1 : j ≤ 1000000000) : m7.ok Tryz.prog ⟨122, [.ptr 0 0, .ref 2], [.box [.ref 1, iA j], dY b, dI l], [.box [.ref 1, iA (j + 1)], dY b, dI l], iA (nm b j l)⟩ := by
 refine H8 12 Tryz.func122 [.box [.ref 1, iA j], dY b, dI l] [(0, .ptr 0 0), (1, .ref 2)] fun G => ?_; refine wp_seq (l8 G i7 [(4, iA 0)] fun G => b0 (wp_seq (U0 G (t5 4 [0, 1] (P2 b j ((l.length : Int)) (by assumption) (by assumption))) [0, 1, 2] [.box [.ref 1, iA (j + 1)], dY b, dI l] [(4, iA (l.getD (pk b j (l.length : Int)).toNat 0))] [(0 : Int) ≤ pk b j (l.length : Int), pk b j (l.length : Int) < l.length, (pk b j (l.length : Int)).toNat < l.length] ⟨((bm5 b r0 r1 hl).1), ((bm5 b r0 r1 hl).2.1), ((bm5 b r0 r1 hl).2.2), b91⟩ fun G => b0 (wp_ret ?_)))); exact Q9 G [0, 1, 2]
theorem bG5 (b : List UInt8) (j : Int) (r0 : 0 ≤ j) (r1 : j ≤ 900000000) : m7.ok Tryz.prog ⟨121, [.ptr 0 0], [.box [.ref 1, iA j], dY b], [.box [.ref 1, iA (j + 2)], dY b], iA (l1D b j)⟩ := by
 refine H8 11 Tryz.func121 [.box [.ref 1, iA j], dY b] [(0, .ptr 0 0)] fun G => ?_; refine wp_seq (l8 G i7 [(2, iA 0)] fun G => b0 (wp_seq (wp_seq (m5 G (t5 1 [0, 1] (P2 b j 12 (by assumption) (by omega))) [0, 1] [.box [.ref 1, iA (j + 1)], dY b] [(0, .ptr 0 0), (2, iA 0), (5, bA (pk b j 12 == 0))] fun G => b0 (T1 G (fun h0 q0 => ?_) fun h0 q0 => ?_)))))
 ·refine wp_skip (b0 (wp_seq (m5 G (t5 1 [0, 1] (P2 b (j + 1) 4 (by omega) (by omega))) [0, 1] [.box [.ref 1, iA (j + 1 + 1)], dY b] [(2, iA (pk b (j + 1) 4))] fun G => b0 (wp_ret ?_)))); exact P7 (pk b (j + 1) 4) G [0, 1] (by unfold l1D; rw [if_neg (by omega)]; done) (by show _ = mR [0, 1] [.box [.ref 1, iA (j + 2)], dY b]; have e1 : (j + 2 : Int) = (j + 1 + 1) := (by omega); (first | rw [e1] | simp only [e1]) <;> rfl)
 ·refine wp_seq (m5 G (t5 2 [0, 1, 10] (m7.lend (T6 b (j + 1) l1L (by simp [h0]) (by omega) (by omega)) [.no, .no, .row 3])) [0, 1] [.box [.ref 1, iA (j + 1 + 1)], dY b] [(0, .ptr 0 0), (2, iA (nm b (j + 1) l1L))] fun G => b0 (wp_ret (m8 ?_))); exact P7 (nm b (j + 1) l1L) G [0, 1] (by unfold l1D; rw [if_pos (by omega)]; done) (by show _ = mR [0, 1] [.box [.ref 1, iA (j + 2)], dY b]; have e1 : (j + 2 : Int) = (j + 1 + 1) := (by omega); (first | rw [e1] | simp only [e1]) <;> rfl)
theorem bi3 (c : List UInt8) (hc : c.length ≤ 2000) : m7.ok Tryz.prog ⟨54, [.ref 0], [dY c], [dY c, .box [.ref 0, iA 0]], .ptr 1 0⟩ := by
 refine H8 11 Tryz.func54 [dY c] [(0, .ref 0)] fun G => ?_; refine wp_seq (l8 G i7 [(2, .v (.pointer none))] fun G => b0 (wp_seq (wp_seq (K8 G i7 [(0, .ref 0), (2, .v (.pointer none)), (5, bA (decide ((c.length : Int) > 2000)))] fun G => b0 ?_)))); cases h0 : (decide ((c.length : Int) > 2000))
 ·have q0 := dFf h0; refine rF G _ h0 (wp_skip (b0 (wp_seq (m5 G i7 [0, 17] [dY c, .box [.ref 0, iA 0]] [(2, .ptr 1 0)] fun G => b0 (wp_ret ?_))))); exact Q9 G [0, 1]
 ·have q0 := dTt h0; exact False.elim (by omega)
theorem bi2 (c : List UInt8) (hc : 2000 < c.length) : m7.ok Tryz.prog ⟨54, [.ref 0], [dY c], [dY c, .box [.ref 2, iA 0], dY ((c.take 2000).drop 0)], .ptr 1 0⟩ := by
 refine H8 11 Tryz.func54 [dY c] [(0, .ref 0)] fun G => ?_; refine wp_seq (l8 G i7 [(2, .v (.pointer none))] fun G => b0 (wp_seq (wp_seq (K8 G i7 [(0, .ref 0), (2, .v (.pointer none)), (5, bA (decide ((c.length : Int) > 2000)))] fun G => b0 ?_)))); cases h0 : (decide ((c.length : Int) > 2000))
 ·have q0 := dFf h0; exact False.elim (by omega)
 ·have q0 := dTt h0; refine rT G _ h0 (U0 G i7 [0, 9] [dY c, dY (List.drop 0 (b88 (Int.toNat 2000) c))] [(0, .ref 1), (2, .v (.pointer none))] [(0 : Int) ≤ 2000, (2000 : Int) ≤ c.length] ⟨(by simp [h0]), (by omega), b91⟩ fun G => b0 (wp_seq (m5 G i7 [0, 1, 18] [dY c, dY (List.drop 0 (b88 (Int.toNat 2000) c)), .box [.ref 1, iA 0]] [(2, .ptr 2 0)] fun G => b0 (wp_ret ?_)))); exact Q9 G [0, 2, 1]
abbrev dwS (b : List UInt8) (j : Int) (vs ars : List Int) (bd : List b5) : List It := [.box [.ref 1, iA j], dY b, dI vs, dI ars, dT bd]
abbrev exO (e : d7) : List It := [.tree (.exprs e.kids)]
abbrev exA (e : d7) (r : Nat) : AV := .agg [iA e.kind, iA e.value, .tref r]
theorem b29 {b : List UInt8} {nv j : Int} (h : pk b j 3 = 0) : s5 b nv j = ⟨1, nm b (j + 1) atL, []⟩ := if_pos h
theorem b28 {b : List UInt8} {nv j : Int} (h : ¬ pk b j 3 = 0) : s5 b nv j = ⟨2, pk b (j + 1) nv, []⟩ := if_neg h
theorem aA1 (b : List UInt8) (j : Int) (vs ars : List Int) (bd : List b5) (r0 : 0 ≤ j) (r1 : j ≤ 900000000) : m7.ok Tryz.prog ⟨246, [.ptr 0 0, pA 2], dwS b j vs ars bd, dwS b (j + 2) vs ars bd ++ exO (s5 b vs.length j), exA (s5 b vs.length j) 5⟩ := by
 refine H8 18 Tryz.func246 [.box [.ref 1, iA j], dY b, dI vs, dI ars, dT bd] [(0, .ptr 0 0), (1, pA 2)] fun G => ?_; refine wp_seq (m5 G i7 [0, 1, 2, 3, 4, 5, 13] [.box [.ref 1, iA j], dY b, dI vs, dI ars, dT bd, .box (pL 2), .box [iA 0, iA 0, .v (.slice none 0 0)]] [(0, .ptr 0 0), (3, .ptr 5 0), (4, .ptr 6 0)] fun G => b0 (wp_seq (wp_seq (m5 G (t5 1 [0, 1] (P2 b j 3 (by assumption) (by omega))) (rg 7) [.box [.ref 1, iA (j + 1)], dY b, dI vs, dI ars, dT bd, .box (pL 2), .box [iA 0, iA 0, .v (.slice none 0 0)]] [(0, .ptr 0 0), (3, .ptr 5 0), (4, .ptr 6 0), (7, bA (pk b j 3 == 0))] fun G => b0 (T1 G (fun h0 q0 => ?_) fun h0 q0 => ?_)))))
 ·refine wp_skip (b0 (wp_seq (m5 G (t5 4 [0, 1] (P2 b (j + 1) ((vs.length : Int)) (by omega) (by omega))) [0, 1, 2, 3, 4, 6] [.box [.ref 1, iA (j + 1 + 1)], dY b, dI vs, dI ars, dT bd, .box [iA 2, iA (pk b (j + 1) (vs.length : Int)), .v (.slice none 0 0)]] [(4, .ptr 5 0)] fun G => b0 (wp_ret ?_)))); obtain ⟨ρ, G⟩ := G.nilT 6 (.exprs []) [.box [.ref 1, iA (j + 1 + 1)], dY b, dI vs, dI ars, dT bd, .box [iA 2, iA (pk b (j + 1) (vs.length : Int)), .tref 6]] [(4, .ptr 5 0)]; exact X8 (.agg [iA 2, iA (pk b (j + 1) (vs.length : Int)), .tref 6]) G [0, 1, 2, 3, 4, 6] (by show _ = AV.ren (nth [0, 1, 2, 3, 4, 6]) (.agg [iA (s5 b (vs.length : Int) j).kind, iA (s5 b (vs.length : Int) j).value, .tref 5]); rw [b28 (by omega)] <;> rfl) (by show _ = mR [0, 1, 2, 3, 4, 6] [.box [.ref 1, iA (j + 2)], dY b, dI vs, dI ars, dT bd, .tree (D.exprs (s5 b (vs.length : Int) j).kids)]; have e1 : (j + 2 : Int) = (j + 1 + 1) := (by omega); rw [e1, b28 (by omega)] <;> rfl)
 ·refine wp_seq (m5 G (t5 2 [0, 1, 15] (m7.lend (T6 b (j + 1) atL (by simp [h0]) (by omega) (by omega)) [.no, .no, .row 3])) (rg 7) [.box [.ref 1, iA (j + 1 + 1)], dY b, dI vs, dI ars, dT bd, .box (pL 2), .box [iA 1, iA (nm b (j + 1) atL), .v (.slice none 0 0)]] [(0, .ptr 0 0), (3, .ptr 5 0), (4, .ptr 6 0)] fun G => b0 (wp_ret (m8 ?_))); obtain ⟨ρ, G⟩ := G.nilT 7 (.exprs []) [.box [.ref 1, iA (j + 1 + 1)], dY b, dI vs, dI ars, dT bd, .box (pL 2), .box [iA 1, iA (nm b (j + 1) atL), .tref 7]] [(0, .ptr 0 0), (3, .ptr 5 0), (4, .ptr 6 0)]; exact X8 (.agg [iA 1, iA (nm b (j + 1) atL), .tref 7]) G [0, 1, 2, 3, 4, 7] (by show _ = AV.ren (nth [0, 1, 2, 3, 4, 7]) (.agg [iA (s5 b (vs.length : Int) j).kind, iA (s5 b (vs.length : Int) j).value, .tref 5]); rw [b29 (by omega)] <;> rfl) (by show _ = mR [0, 1, 2, 3, 4, 7] [.box [.ref 1, iA (j + 2)], dY b, dI vs, dI ars, dT bd, .tree (D.exprs (s5 b (vs.length : Int) j).kids)]; have e1 : (j + 2 : Int) = (j + 1 + 1) := (by omega); rw [e1, b29 (by omega)] <;> rfl)
theorem bi1 (vs ars : List Int) (bd : List b5) (e : d7) : m7.ok Tryz.prog (N1 233 [pA 0, eA e 3] ([dI vs, dI ars, dT bd] ++ eS e) (bA (l0 vs.length ars.length e))) := bu6 ⟨vs, ars, bd⟩ e
abbrev drC (b : List UInt8) (vs ars : List Int) (bd : List b5) (d : Nat) (j n : Int) : m7 := ⟨258, [.ptr 0 0, pA 2, iA n], dwS b j vs ars bd, dwS b (N2 b vs.length ars.length d j).2 vs ars bd ++ exO (N2 b vs.length ars.length d j).1, exA (N2 b vs.length ars.length d j).1 5⟩
section
variable {b : List UInt8} {nv na : Int} {d : Nat} {j : Int}
theorem b16 (h : d < 2) : N2 b nv na d j = (s5 b nv j, j + 2) := by
 match d, h with
 | 0, _ => rfl
 | 1, _ => simp [N2]
theorem bU9 (h : 0 < d) (h1 : pk b j 4 = 0) : N2 b nv na (d + 1) j = (s5 b nv (j + 1), j + 3) := by rw [N2, if_neg (by omega), if_pos h1]
theorem bN2 (h : 0 < d) (h1 : ¬ pk b j 4 = 0) (h2 : nm b (j + 1) Q5 = 3) (h3 : na = 0) : N2 b nv na (d + 1) j = (s5 b nv (j + 2), j + 4) := by rw [N2, if_neg (by omega), if_neg h1, if_pos h2, if_pos h3]
theorem bN1 (h : 0 < d) (h1 : ¬ pk b j 4 = 0) (h2 : nm b (j + 1) Q5 = 3) (h3 : ¬ na = 0) : N2 b nv na (d + 1) j = (⟨3, pk b (j + 2) na, [s5 b nv (j + 3)]⟩, j + 5) := by rw [N2, if_neg (by omega), if_neg h1, if_pos h2, if_neg h3]
abbrev drK (b : List UInt8) (nv na : Int) (d : Nat) (j : Int) (k : Nat) : List d7 × Int := I1 (N2 b nv na d) k (j + 2)
theorem b15 (h : 0 < d) (h1 : ¬ pk b j 4 = 0) (h2 : ¬ nm b (j + 1) Q5 = 3) {m : Int} (h3 : 0 ≤ m) (h4 : ¬ m > 0) : N2 b nv na (d + 1) j = (⟨nm b (j + 1) Q5, 0, (drK b nv na d j (o0 (nm b (j + 1) Q5) - m).toNat).1⟩, (drK b nv na d j (o0 (nm b (j + 1) Q5) - m).toNat).2) := by
 have e : m = 0 := by omega
 rw [e, Int.sub_zero, N2, if_neg (by omega), if_neg h1, if_neg h2]
theorem bo3 {x m : Int} (h3 : m > 0) (h4 : m ≤ x) : drK b nv na d j (x - (m - 1)).toNat = ((drK b nv na d j (x - m).toNat).1 ++ [(N2 b nv na d (drK b nv na d j (x - m).toNat).2).1], (N2 b nv na d (drK b nv na d j (x - m).toNat).2).2) := by
 rw [show (x - (m - 1)).toNat = (x - m).toNat + 1 by omega]; rfl
theorem b30 (r0 : 0 ≤ j) (r1 : j ≤ 900000000) : 0 ≤ o0 (nm b (j + 1) Q5) ∧ o0 (nm b (j + 1) Q5) ≤ 3 := by
 have h := aY2 b (k := j + 1) (l := Q5) (by omega) (by omega) (by simp)
 simp only [ca1, cb7, List.not_mem_nil, or_false] at h
 rcases h with h | h | h | h | h | h | h | h | h <;> rw [h] <;> decide
theorem b18 (r0 : 0 ≤ j) {k : Nat} (hk : k ≤ 3) : j + 2 ≤ (drK b nv na d j k).2 ∧ (drK b nv na d j k).2 ≤ j + 2 + 3 * cE d := by
 have hc := aO6 d
 have h := bE6 (f := N2 b nv na d) (c := cE d) (m := 3) (by omega) k (j + 2) hk fun i _ _ => a77 b nv na d i
 have h4 : (k : Int) * cE d ≤ 3 * cE d := cd1 (by omega) (by omega)
 unfold drK; omega
theorem b17 {x m : Int} (r0 : 0 ≤ j) (h3 : m > 0) (h4 : m ≤ x) (h5 : x ≤ 3) (r1 : j + cE (d + 1) ≤ 800000000) : (drK b nv na d j (x - m).toNat).2 + cE d ≤ 800000000 := by
 have hc := aO6 d
 have hce : cE (d + 1) = 5 + 3 * cE d := rfl
 have hm : (x - m).toNat ≤ 2 := by omega
 have h := bE6 (f := N2 b nv na d) (c := cE d) (m := 2) (by omega) (x - m).toNat (j + 2) hm fun i _ _ => a77 b nv na d i
 have h4 : ((x - m).toNat : Int) * cE d ≤ 2 * cE d := cd1 (by omega) (by omega)
 unfold drK; omega
end
theorem bl4 (b : List UInt8) (vs ars : List Int) (bd : List b5) (d : Nat) (hd : d < 2) (j n : Int) (hn : n = d) (r0 : 0 ≤ j) (r1 : j ≤ 900000000) : m7.ok Tryz.prog (drC b vs ars bd d j n) := by
 refine H8 62 Tryz.func258 [.box [.ref 1, iA j], dY b, dI vs, dI ars, dT bd] [(0, .ptr 0 0), (1, pA 2), (2, iA n)] fun G => ?_; refine wp_seq (m5 G i7 [0, 1, 2, 3, 4, 5, 13] [.box [.ref 1, iA j], dY b, dI vs, dI ars, dT bd, .box (pL 2), .box [iA 0, iA 0, .v (.slice none 0 0)]] [(0, .ptr 0 0), (2, iA n), (4, .ptr 5 0), (6, .ptr 6 0)] fun G => b0 (wp_seq (wp_seq ?_))); cases h0 : (decide (n < 2))
 ·have q0 := dFf h0; exact False.elim (by omega)
 ·have q0 := dTt h0; refine l8 G (X3 (fc h0 fz) [(3, 0), (4, 0), (5, 0), (1006, 0)]) [(16, bA true)] fun G => b0 (rT G true (by kernel_rfl) (wp_seq (m5 G (t5 2 (rg 5) (aA1 b j vs ars bd (by assumption) (by assumption))) [0, 1, 2, 3, 4, 5, 6, 23] [.box [.ref 1, iA (j + 2)], dY b, dI vs, dI ars, dT bd, .box (pL 2), .box [iA (s5 b (vs.length : Int) j).kind, iA (s5 b (vs.length : Int) j).value, .tref 7], .tree (D.exprs (s5 b (vs.length : Int) j).kids)] [(0, .ptr 0 0), (2, iA n), (4, .ptr 5 0), (6, .ptr 6 0)] fun G => b0 (wp_ret (m8 ?_))))); exact X8 (.agg [iA (s5 b (vs.length : Int) j).kind, iA (s5 b (vs.length : Int) j).value, .tref 7]) G [0, 1, 2, 3, 4, 7] (by show _ = AV.ren (nth [0, 1, 2, 3, 4, 7]) (.agg [iA (N2 b (vs.length : Int) (ars.length : Int) d j).fst.kind, iA (N2 b (vs.length : Int) (ars.length : Int) d j).fst.value, .tref 5]); rw [b16 hd] <;> rfl) (by show _ = mR [0, 1, 2, 3, 4, 7] [.box [.ref 1, iA (N2 b (vs.length : Int) (ars.length : Int) d j).snd], dY b, dI vs, dI ars, dT bd, .tree (D.exprs (N2 b (vs.length : Int) (ars.length : Int) d j).fst.kids)]; rw [b16 hd] <;> rfl)
abbrev aH8 (b : List UInt8) (vs : List Int) (ars : List Int) (d : Nat) (j : Int) (k : Int) := drK b (vs.length : Int) (ars.length : Int) d j (o0 (nm b (j + 1) Q5) - k).toNat
abbrev aB1 (b : List UInt8) (vs : List Int) (ars : List Int) (d : Nat) (j : Int) : AV := (.agg [iA (N2 b (vs.length : Int) (ars.length : Int) (d + 1) j).fst.kind, iA (N2 b (vs.length : Int) (ars.length : Int) (d + 1) j).fst.value, .tref 5])
abbrev aB0 (b : List UInt8) (vs : List Int) (ars : List Int) (bd : List b5) (d : Nat) (j : Int) : List It := [.box [.ref 1, iA (N2 b (vs.length : Int) (ars.length : Int) (d + 1) j).snd], dY b, dI vs, dI ars, dT bd, .tree (D.exprs (N2 b (vs.length : Int) (ars.length : Int) (d + 1) j).fst.kids)]
abbrev aR8 : It := .box [iA 0, iA 0, .v (.slice none 0 0)]
abbrev ah8 (n : Int) (r0 : List (Nat × AV)) : List (Nat × AV) := (0, .ptr 0 0) :: (2, iA n) :: (4, .ptr 5 0) :: (6, .ptr 6 0) :: r0
theorem bJ6 (b : List UInt8) (vs ars : List Int) (bd : List b5) (d : Nat) (hd : 0 < d) (hd2 : d ≤ 100) (ih : ∀ (j n : Int), n = d → 0 ≤ j → j + cE d ≤ 800000000 → m7.ok Tryz.prog (drC b vs ars bd d j n)) (j n : Int) (hn : n = ((d + 1 : Nat) : Int)) (r0 : 0 ≤ j) (r1 : j + cE (d + 1) ≤ 800000000) : m7.ok Tryz.prog (drC b vs ars bd (d + 1) j n) := by
  refine H8 62 Tryz.func258 [.box [.ref 1, iA j], dY b, dI vs, dI ars, dT bd] [(0, .ptr 0 0), (1, pA 2), (2, iA n)] fun G => ?_; have hc := aO6 d; have hce : cE (d + 1) = 5 + 3 * cE d := rfl; have har := b30 (b := b) (j := j) r0 (by omega); refine wp_seq (m5 G i7 [0, 1, 2, 3, 4, 5, 13] [.box [.ref 1, iA j], dY b, dI vs, dI ars, dT bd, .box (pL 2), aR8] (ah8 n []) fun G => b0 (wp_seq (wp_seq ?_))); cases h0 : (decide (n < 2))
  ·
   have q0 := dFf h0; refine m5 G (B8 ⟨[(4, _, [0, 1])], [(decide (n < 2), false)], [(3, 0), (4, 0), (5, 0), (1006, 0)]⟩ (b9 (P2 b j 4 (by assumption) (by omega)) d8) ⟨(by assumption), b91⟩) (rg 7) [.box [.ref 1, iA (j + 1)], dY b, dI vs, dI ars, dT bd, .box (pL 2), aR8] (ah8 n [(16, bA (pk b j 4 == 0))]) fun G => b0 (T1 G (fun h1 q1 => ?_) fun h1 q1 => ?_)
   ·
    refine wp_skip (b0 (wp_seq (m5 G (t5 2 [0, 1, 15] (m7.lend (T6 b (j + 1) Q5 (by simp [h0, h1]) (by omega) (by omega)) [.no, .no, .row 3])) (rg 7) [.box [.ref 1, iA (j + 1 + 1)], dY b, dI vs, dI ars, dT bd, .box (pL 2), aR8] (ah8 n [(7, iA (nm b (j + 1) Q5))]) fun G => b0 (wp_seq (wp_seq (l8 G i7 [(24, bA (nm b (j + 1) Q5 == 3))] fun G => b0 (T1 G (fun h2 q2 => ?_) fun h2 q2 => ?_)))))))
    ·
     refine wp_skip (b0 (wp_seq (m5 G i7 [0, 1, 2, 3, 4, 5, 6, 23] [.box [.ref 1, iA (j + 1 + 1)], dY b, dI vs, dI ars, dT bd, .box (pL 2), aR8, .box [iA (nm b (j + 1) Q5), iA 0, .v (.slice none 0 0)]] (ah8 n [(7, iA (nm b (j + 1) Q5)), (8, .ptr 7 0)]) fun G => b0 (wp_seq (wp_seq (K8 G (t5 1 [] (bu8 (nm b (j + 1) Q5))) (ah8 n [(8, .ptr 7 0), (9, iA (o0 (nm b (j + 1) Q5)))]) fun G => b0 (wp_block ?_))))))); obtain ⟨ρ, G⟩ := G.nilT 8 (.exprs []) [.box [.ref 1, iA (j + 1 + 1)], dY b, dI vs, dI ars, dT bd, .box (pL 2), .box [iA 0, iA 0, .v (.slice none 0 0)], .box [iA (nm b (j + 1) Q5), iA 0, .tref 8]] (ah8 n [(8, .ptr 7 0), (9, iA (o0 (nm b (j + 1) Q5)))]); replace G := G.as [.box [.ref 1, iA (drK b (vs.length : Int) (ars.length : Int) d j (o0 (nm b (j + 1) Q5) - o0 (nm b (j + 1) Q5)).toNat).snd], dY b, dI vs, dI ars, dT bd, .box (pL 2), .box [iA 0, iA 0, .v (.slice none 0 0)], .box [iA (nm b (j + 1) Q5), iA 0, .tref 8], .tree (D.exprs (drK b (vs.length : Int) (ars.length : Int) d j (o0 (nm b (j + 1) Q5) - o0 (nm b (j + 1) Q5)).toNat).fst)] (ah8 n [(8, .ptr 7 0), (9, iA (o0 (nm b (j + 1) Q5)))]) (by have e1 : ((drK b (vs.length : Int) (ars.length : Int) d j (o0 (nm b (j + 1) Q5) - o0 (nm b (j + 1) Q5)).toNat).snd : Int) = (j + 1 + 1) := (by rw [Int.sub_self]; show j + 2 = j + 1 + 1; omega); have e2 : ((drK b (vs.length : Int) (ars.length : Int) d j (o0 (nm b (j + 1) Q5) - o0 (nm b (j + 1) Q5)).toNat).fst : List d7) = ([]) := (by rw [Int.sub_self]; rfl); (first | rw [e1, e2] | simp only [e1, e2]) <;> rfl) (by kernel_rfl); refine y9 (κ := Int) (fun k => 0 ≤ k ∧ k ≤ o0 (nm b (j + 1) Q5)) (fun k => k.toNat) (fun k => [.box [.ref 1, iA (drK b vs.length ars.length d j (o0 (nm b (j + 1) Q5) - k).toNat).2], dY b, dI vs, dI ars, dT bd, .box (pL 2), .box [iA 0, iA 0, .v (.slice none 0 0)], .box [iA (nm b (j + 1) Q5), iA 0, .tref 8], .tree (.exprs (drK b vs.length ars.length d j (o0 (nm b (j + 1) Q5) - k).toNat).1)]) (fun k => [(0, .ptr 0 0), (2, iA n), (4, .ptr 5 0), (6, .ptr 6 0), (8, .ptr 7 0), (9, iA k)]) (o0 (nm b (j + 1) Q5)) (by omega) (x8.at G _ _) ?_; clear G; intro k ρ a w hp G; replace G := x8.at G [.box [.ref 1, iA (aH8 b vs ars d j k).snd], dY b, dI vs, dI ars, dT bd, .box (pL 2), aR8, .box [iA (nm b (j + 1) Q5), iA 0, .tref 8], .tree (D.exprs (aH8 b vs ars d j k).fst)] (ah8 n [(8, .ptr 7 0), (9, iA k)]); have hkb := b18 (b := b) (nv := vs.length) (na := ars.length) (d := d) (j := j) r0 (k := (o0 (nm b (j + 1) Q5) - k).toNat) (by omega); have hkl : (drK b vs.length ars.length d j (o0 (nm b (j + 1) Q5) - k).toNat).1.length = (o0 (nm b (j + 1) Q5) - k).toNat := aZ6 _ _ _; refine wp_seq (wp_seq (l8 G i7 [(48, bA (decide (k > 0)))] fun G => b0 (rcD G (fun h4 q4 => ?_) fun h4 q4 => ?_)))
     · refine wp_exit (y7 (y7 (y6 (b0 (wp_seq (m5 G i7 [0, 1, 2, 3, 4, 6, 8] [.box [.ref 1, iA (aH8 b vs ars d j k).snd], dY b, dI vs, dI ars, dT bd, .box [iA (nm b (j + 1) Q5), iA 0, .tref 6], .tree (D.exprs (aH8 b vs ars d j k).fst)] [(6, .ptr 5 0)] fun G => b0 (wp_ret ?_))))))); exact X8 (.agg [iA (nm b (j + 1) Q5), iA 0, .tref 6]) G [0, 1, 2, 3, 4, 6] (by show _ = AV.ren (nth [0, 1, 2, 3, 4, 6]) (aB1 b vs ars d j); unfold aB1; rw [b15 (m := k) hd (by omega) (by omega) (by omega) (by omega)] <;> rfl) (by show _ = mR [0, 1, 2, 3, 4, 6] (aB0 b vs ars bd d j); unfold aB0; rw [b15 (m := k) hd (by omega) (by omega) (by omega) (by omega)] <;> rfl)
     · refine wp_skip (b0 (wp_seq (wp_block (R5 G (t5 6 (rg 5) (ih ((drK b (vs.length : Int) (ars.length : Int) d j (o0 (nm b (j + 1) Q5) - k).toNat).snd) (n - 1) (by omega) (by omega) (b17 (by omega) (by omega) (by omega) (by omega) r1))) [0, 1, 0, 0, 0, 16, 60, 124, 255, 511, 1023] [0, 1, 2, 3, 4, 5, 6, 7, 73] [.box [.ref 1, iA (N2 b (vs.length : Int) (ars.length : Int) d (aH8 b vs ars d j k).snd).snd], dY b, dI vs, dI ars, dT bd, .box (pL 2), aR8, .box [iA (nm b (j + 1) Q5), iA 0, .tref 8], .tree (D.exprs ((aH8 b vs ars d j k).fst ++ [qzE (N2 b (vs.length : Int) (ars.length : Int) d (aH8 b vs ars d j k).snd).fst]))] (ah8 n [(8, .ptr 7 0), (9, iA k)]) ((wO (n - 1)) :: (aP ((drK b (vs.length : Int) (ars.length : Int) d j (o0 (nm b (j + 1) Q5) - k).toNat).fst.length + 1) 40 [])) ⟨oW (by omega), (aK (by omega) b91)⟩ fun G => r7 (b0 (K7 G i7 [(9, iA (k - 1))] [wO (k - 1)] (o1 (by omega)) fun G => b0 ?_)))))); exact rxn G (k - 1) (by omega) (by omega) (rg 9) (by have e1 : ((drK b (vs.length : Int) (ars.length : Int) d j (o0 (nm b (j + 1) Q5) - (k - 1)).toNat).snd : Int) = ((N2 b (vs.length : Int) (ars.length : Int) d (drK b (vs.length : Int) (ars.length : Int) d j (o0 (nm b (j + 1) Q5) - k).toNat).snd).snd) := (by rw [bo3 (by omega) (by omega)]; done); have e2 : ((drK b (vs.length : Int) (ars.length : Int) d j (o0 (nm b (j + 1) Q5) - (k - 1)).toNat).fst : List d7) = ((drK b (vs.length : Int) (ars.length : Int) d j (o0 (nm b (j + 1) Q5) - k).toNat).fst ++ [qzE (N2 b (vs.length : Int) (ars.length : Int) d (drK b (vs.length : Int) (ars.length : Int) d j (o0 (nm b (j + 1) Q5) - k).toNat).snd).fst]) := (by rw [bo3 (by omega) (by omega)]; (simp only [d7.eta]; done)); (first | rw [e1, e2] | simp only [e1, e2]) <;> rfl)
    ·
     refine wp_seq (wp_seq (l8 G i7 [(28, bA ((ars.length : Int) == 0))] fun G => b0 (T1 G (fun h3 q3 => ?_) fun h3 q3 => ?_)))
     · refine wp_skip (b0 (wp_seq (aX4 G (B8 ⟨[(5, _, [0, 1]), (8, _, (rg 5))], [], []⟩ (b9 (P2 b (j + 1 + 1) ((ars.length : Int)) (by omega) (by omega)) (b9 (aA1 b (j + 1 + 1 + 1) vs ars bd (by omega) (by omega)) d8)) b91) [0, 0, 0, 4, 12, 30, 0, 0, 254, 510, 1023, 2047] [0, 1, 2, 3, 4, 5, 6, 79] [.box [.ref 1, iA (j + 1 + 1 + 1 + 2)], dY b, dI vs, dI ars, dT bd, .box (pL 2), .box [iA (nm b (j + 1) Q5), iA (pk b (j + 1 + 1) (ars.length : Int)), .tref 7], .tree (D.exprs [qzE (s5 b (vs.length : Int) (j + 1 + 1 + 1))])] (ah8 n [(7, iA (nm b (j + 1) Q5))]) fun G => b0 (wp_ret (m8 ?_))))); exact X8 (.agg [iA (nm b (j + 1) Q5), iA (pk b (j + 1 + 1) (ars.length : Int)), .tref 7]) G [0, 1, 2, 3, 4, 7] (by show _ = AV.ren (nth [0, 1, 2, 3, 4, 7]) (aB1 b vs ars d j); unfold aB1; have e1 : ((N2 b (vs.length : Int) (ars.length : Int) (d + 1) j).fst.kind : Int) = (nm b (j + 1) Q5) := (by rw [bN1 hd (by omega) (by omega) (by omega)]; (simp only [Int.add_assoc, Int.reduceAdd, d7.eta, d7.kids, d7.kind, d7.value]; omega)); have e2 : ((N2 b (vs.length : Int) (ars.length : Int) (d + 1) j).fst.value : Int) = (pk b (j + 1 + 1) (ars.length : Int)) := (by rw [bN1 hd (by omega) (by omega) (by omega)]; (simp only [Int.add_assoc, Int.reduceAdd, d7.eta, d7.kids, d7.kind, d7.value]; done)); (first | rw [e1, e2] | simp only [e1, e2]) <;> rfl) (by show _ = mR [0, 1, 2, 3, 4, 7] (aB0 b vs ars bd d j); unfold aB0; have e1 : ((N2 b (vs.length : Int) (ars.length : Int) (d + 1) j).snd : Int) = (j + 1 + 1 + 1 + 2) := (by rw [bN1 hd (by omega) (by omega) (by omega)]; (simp only [Int.add_assoc, Int.reduceAdd, d7.eta, d7.kids, d7.kind, d7.value]; done)); have e2 : ((N2 b (vs.length : Int) (ars.length : Int) (d + 1) j).fst.kids : List d7) = ([qzE (s5 b (vs.length : Int) (j + 1 + 1 + 1))]) := (by rw [bN1 hd (by omega) (by omega) (by omega)]; show [_] = _; simp only [Int.add_assoc, Int.reduceAdd, d7.eta]; done); (first | rw [e1, e2] | simp only [e1, e2]) <;> rfl)
     · refine wp_seq (m5 G (t5 2 (rg 5) (aA1 b (j + 1 + 1) vs ars bd (by omega) (by omega))) [0, 1, 2, 3, 4, 5, 6, 23] [.box [.ref 1, iA (j + 1 + 1 + 2)], dY b, dI vs, dI ars, dT bd, .box (pL 2), .box [iA (s5 b (vs.length : Int) (j + 1 + 1)).kind, iA (s5 b (vs.length : Int) (j + 1 + 1)).value, .tref 7], .tree (D.exprs (s5 b (vs.length : Int) (j + 1 + 1)).kids)] (ah8 n [(7, iA (nm b (j + 1) Q5))]) fun G => b0 (wp_ret (m8 (m8 ?_)))); exact X8 (.agg [iA (s5 b (vs.length : Int) (j + 1 + 1)).kind, iA (s5 b (vs.length : Int) (j + 1 + 1)).value, .tref 7]) G [0, 1, 2, 3, 4, 7] (by show _ = AV.ren (nth [0, 1, 2, 3, 4, 7]) (aB1 b vs ars d j); unfold aB1; have e1 : ((N2 b (vs.length : Int) (ars.length : Int) (d + 1) j).fst.kind : Int) = ((s5 b (vs.length : Int) (j + 1 + 1)).kind) := (by rw [bN2 hd (by omega) (by omega) (by omega)]; (simp only [Int.add_assoc, Int.reduceAdd, d7.eta, d7.kids, d7.kind, d7.value]; done)); have e2 : ((N2 b (vs.length : Int) (ars.length : Int) (d + 1) j).fst.value : Int) = ((s5 b (vs.length : Int) (j + 1 + 1)).value) := (by rw [bN2 hd (by omega) (by omega) (by omega)]; (simp only [Int.add_assoc, Int.reduceAdd, d7.eta, d7.kids, d7.kind, d7.value]; done)); (first | rw [e1, e2] | simp only [e1, e2]) <;> rfl) (by show _ = mR [0, 1, 2, 3, 4, 7] (aB0 b vs ars bd d j); unfold aB0; have e1 : ((N2 b (vs.length : Int) (ars.length : Int) (d + 1) j).snd : Int) = (j + 1 + 1 + 2) := (by rw [bN2 hd (by omega) (by omega) (by omega)]; (simp only [Int.add_assoc, Int.reduceAdd, d7.eta, d7.kids, d7.kind, d7.value]; done)); have e2 : ((N2 b (vs.length : Int) (ars.length : Int) (d + 1) j).fst : d7) = (s5 b (vs.length : Int) (j + 1 + 1)) := (by rw [bN2 hd (by omega) (by omega) (by omega)]; (simp only [Int.add_assoc, Int.reduceAdd, d7.eta, d7.kids, d7.kind, d7.value]; done)); (first | rw [e1, e2] | simp only [e1, e2]) <;> rfl)
   · refine wp_seq (m5 G (t5 2 (rg 5) (aA1 b (j + 1) vs ars bd (by omega) (by omega))) [0, 1, 2, 3, 4, 5, 6, 23] [.box [.ref 1, iA (j + 1 + 2)], dY b, dI vs, dI ars, dT bd, .box (pL 2), .box [iA (s5 b (vs.length : Int) (j + 1)).kind, iA (s5 b (vs.length : Int) (j + 1)).value, .tref 7], .tree (D.exprs (s5 b (vs.length : Int) (j + 1)).kids)] (ah8 n []) fun G => b0 (wp_ret (m8 ?_))); exact X8 (.agg [iA (s5 b (vs.length : Int) (j + 1)).kind, iA (s5 b (vs.length : Int) (j + 1)).value, .tref 7]) G [0, 1, 2, 3, 4, 7] (by show _ = AV.ren (nth [0, 1, 2, 3, 4, 7]) (aB1 b vs ars d j); unfold aB1; rw [bU9 hd (by omega)] <;> rfl) (by show _ = mR [0, 1, 2, 3, 4, 7] (aB0 b vs ars bd d j); unfold aB0; have e1 : ((N2 b (vs.length : Int) (ars.length : Int) (d + 1) j).snd : Int) = (j + 1 + 2) := (by rw [bU9 hd (by omega)]; (simp only [Int.add_assoc, Int.reduceAdd, d7.eta, d7.kids, d7.kind, d7.value]; done)); rw [e1, bU9 hd (by omega)] <;> rfl)
  · have q0 := dTt h0; exact False.elim (by omega)
theorem bH1 (b : List UInt8) (vs ars : List Int) (bd : List b5) : ∀ (d : Nat) (j n : Int), d ≤ 100 → n = d → 0 ≤ j → j + cE d ≤ 800000000 → m7.ok Tryz.prog (drC b vs ars bd d j n)
 | 0, j, n, _, hn, r0, r1 => bl4 b vs ars bd 0 (by omega) j n hn r0 (by have := aO6 0; omega)
 | 1, j, n, _, hn, r0, r1 => bl4 b vs ars bd 1 (by omega) j n hn r0 (by have := aO6 1; omega)
 | d + 2, j, n, hd, hn, r0, r1 => bJ6 b vs ars bd (d + 1) (by omega) (by omega) (fun j n => bH1 b vs ars bd (d + 1) j n (by omega)) j n hn r0 r1
abbrev smC (b : List UInt8) (vs ars : List Int) (bd : List b5) (j : Int) : m7 := ⟨247, [.ptr 0 0, pA 2], dwS b j vs ars bd, dwS b (x5 b vs.length ars.length j).2 vs ars bd ++ exO (x5 b vs.length ars.length j).1, exA (x5 b vs.length ars.length j).1 5⟩
section
variable {b : List UInt8} {nv na : Nat} {j : Int}
theorem bY6 (h : l0 nv na (N2 b nv na (nm b j dpL).toNat (j + 1)).1 = true) : x5 b nv na j = N2 b nv na (nm b j dpL).toNat (j + 1) := if_pos h
theorem bY5 (h : l0 nv na (N2 b nv na (nm b j dpL).toNat (j + 1)).1 = false) : x5 b nv na j = (s5 b nv (N2 b nv na (nm b j dpL).toNat (j + 1)).2, (N2 b nv na (nm b j dpL).toNat (j + 1)).2 + 2) := if_neg (by rw [h]; decide)
theorem b39 (r0 : 0 ≤ j) (r1 : j ≤ 700000000) : cE (nm b j dpL).toNat ≤ 364 := cE4 (dp4 b r0 (by omega)).2.2
end
abbrev ad5 (b : List UInt8) (vs : List Int) (ars : List Int) (j : Int) := N2 b (vs.length : Int) (ars.length : Int) (nm b j dpL).toNat (j + 1)
theorem ah3 (b : List UInt8) (vs ars : List Int) (bd : List b5) (j : Int) (r0 : 0 ≤ j) (r1 : j ≤ 700000000) : m7.ok Tryz.prog (smC b vs ars bd j) := by
 have hdr := fun (i n : Int) => bH1 b vs ars bd (nm b j dpL).toNat i n (cb5 (dp4 b r0 (by omega)).2.2 (by omega))
 refine H8 19 Tryz.func247 [.box [.ref 1, iA j], dY b, dI vs, dI ars, dT bd] [(0, .ptr 0 0), (1, pA 2)] fun G => ?_; have hd4 := b39 (b := b) r0 r1; have hdb := a77 b vs.length ars.length (nm b j dpL).toNat (j + 1); refine wp_seq (m5 G i7 [0, 1, 2, 3, 4, 5, 13] [.box [.ref 1, iA j], dY b, dI vs, dI ars, dT bd, .box (pL 2), .box [iA 0, iA 0, .v (.slice none 0 0)]] [(0, .ptr 0 0), (3, .ptr 5 0), (4, .ptr 6 0)] fun G => b0 (wp_seq (aX4 G (B8 ⟨[(4, _, [0, 1, 31]), (5, _, (rg 5))], [], []⟩ (b9 (m7.lend (T6 b j dpL (List.cons_ne_nil _ _) (by assumption) (by omega)) [.no, .no, .row 3]) (b9 (hdr (j + 1) (nm b j dpL) (bV1 b (by omega) (by omega)) (by omega) (by omega)) d8)) b91) [0, 0, 0, 0, 12, 31, 0, 127] [0, 1, 2, 3, 4, 5, 6, 47, 55] [.box [.ref 1, iA (ad5 b vs ars j).snd], dY b, dI vs, dI ars, dT bd, .box (pL 2), .box [iA 0, iA 0, .v (.slice none 0 0)], .tree (D.exprs (ad5 b vs ars j).fst.kids), .box [iA (ad5 b vs ars j).fst.kind, iA (ad5 b vs ars j).fst.value, .tref 7]] [(0, .ptr 0 0), (3, .ptr 5 0), (4, .ptr 6 0), (5, .ptr 8 0)] fun G => b0 (wp_seq (wp_seq (l8 G (t5 2 [2, 3, 4, 7] (m7.lend (bi1 vs ars bd ((N2 b (vs.length : Int) (ars.length : Int) (nm b j dpL).toNat (j + 1)).fst)) [.no, .no, .no, .tree])) [(14, bA (l0 vs.length ars.length (ad5 b vs ars j).fst))] fun G => b0 (rcB (b := l0 vs.length ars.length (N2 b (vs.length : Int) (ars.length : Int) (nm b j dpL).toNat (j + 1)).fst) G (fun h0 => ?_) fun h0 => ?_)))))))
 ·refine wp_skip (b0 (wp_seq (m5 G (t5 2 (rg 5) (aA1 b ((N2 b (vs.length : Int) (ars.length : Int) (nm b j dpL).toNat (j + 1)).snd) vs ars bd (by omega) (by omega))) [0, 1, 2, 3, 4, 6, 25] [.box [.ref 1, iA ((ad5 b vs ars j).snd + 2)], dY b, dI vs, dI ars, dT bd, .box [iA (s5 b (vs.length : Int) (ad5 b vs ars j).snd).kind, iA (s5 b (vs.length : Int) (ad5 b vs ars j).snd).value, .tref 6], .tree (D.exprs (s5 b (vs.length : Int) (ad5 b vs ars j).snd).kids)] [(4, .ptr 5 0)] fun G => b0 (wp_ret ?_)))); exact X8 (.agg [iA (s5 b (vs.length : Int) (N2 b (vs.length : Int) (ars.length : Int) (nm b j dpL).toNat (j + 1)).snd).kind, iA (s5 b (vs.length : Int) (N2 b (vs.length : Int) (ars.length : Int) (nm b j dpL).toNat (j + 1)).snd).value, .tref 6]) G [0, 1, 2, 3, 4, 6] (by show _ = AV.ren (nth [0, 1, 2, 3, 4, 6]) (.agg [iA (x5 b vs.length ars.length j).fst.kind, iA (x5 b vs.length ars.length j).fst.value, .tref 5]); rw [bY5 (by with_reducible assumption)] <;> rfl) (by show _ = mR [0, 1, 2, 3, 4, 6] [.box [.ref 1, iA (x5 b vs.length ars.length j).snd], dY b, dI vs, dI ars, dT bd, .tree (D.exprs (x5 b vs.length ars.length j).fst.kids)]; rw [bY5 (by with_reducible assumption)] <;> rfl)
 ·refine wp_seq (m5 G i7 (rg 8) [.box [.ref 1, iA (ad5 b vs ars j).snd], dY b, dI vs, dI ars, dT bd, .box (pL 2), .box [iA (ad5 b vs ars j).fst.kind, iA (ad5 b vs ars j).fst.value, .tref 7], .tree (D.exprs (ad5 b vs ars j).fst.kids)] [(0, .ptr 0 0), (3, .ptr 5 0), (4, .ptr 6 0)] fun G => b0 (wp_ret (m8 ?_))); exact X8 (.agg [iA (N2 b (vs.length : Int) (ars.length : Int) (nm b j dpL).toNat (j + 1)).fst.kind, iA (N2 b (vs.length : Int) (ars.length : Int) (nm b j dpL).toNat (j + 1)).fst.value, .tref 7]) G [0, 1, 2, 3, 4, 7] (by show _ = AV.ren (nth [0, 1, 2, 3, 4, 7]) (.agg [iA (x5 b vs.length ars.length j).fst.kind, iA (x5 b vs.length ars.length j).fst.value, .tref 5]); rw [bY6 (by with_reducible assumption)] <;> rfl) (by show _ = mR [0, 1, 2, 3, 4, 7] [.box [.ref 1, iA (x5 b vs.length ars.length j).snd], dY b, dI vs, dI ars, dT bd, .tree (D.exprs (x5 b vs.length ars.length j).fst.kids)]; rw [bY6 (by with_reducible assumption)] <;> rfl)
abbrev stO (s : b5) : List It := [.tree (.exprs s.index.kids), .tree (.exprs s.value.kids), .tree (.stmts s.body), .tree (.stmts s.els)]
abbrev stA (s : b5) (r : Nat) : AV := .agg [iA s.kind, iA s.target, iA s.index.kind, iA s.index.value, .tref r, iA s.value.kind, iA s.value.value, .tref (r + 1), iA s.count, .tref (r + 2), .tref (r + 3)]
abbrev dsC (b : List UInt8) (vs ars : List Int) (bd : List b5) (d : Nat) (j n : Int) : m7 := ⟨224, [.ptr 0 0, pA 2, iA n], dwS b j vs ars bd, dwS b (C8 b vs.length ars.length d j).2 vs ars bd ++ stO (C8 b vs.length ars.length d j).1, stA (C8 b vs.length ars.length d j).1 5⟩
abbrev dbC (b : List UInt8) (vs ars : List Int) (bd : List b5) (d : Nat) (m : Nat) (j n c : Int) : m7 := ⟨183, [.ptr 0 0, pA 2, iA n, iA c], dwS b j vs ars bd, dwS b (I1 (C8 b vs.length ars.length d) m j).2 vs ars bd ++ [.tree (.stmts (I1 (C8 b vs.length ars.length d) m j).1)], .tref 5⟩
section
variable {b : List UInt8} {nv na d : Nat} {j : Int}
theorem bx9 (h : nm b j L7 = 2) (h1 : 0 < (na : Int)) : C8 b nv na d j = soS b nv na (j + 1) := by
 cases d <;> (rw [C8, if_pos ⟨h, by omega⟩])
theorem bY0 (h : nm b j L7 = 3) (h1 : 0 < d) : C8 b nv na (d + 1) j = ifS b nv na (C8 b nv na d) (j + 1) := by
 rw [C8, if_neg (by omega), if_pos ⟨h, by omega⟩]
theorem bX9 (h : nm b j L7 = 4) (h1 : 0 < d) : C8 b nv na (d + 1) j = rpS b (C8 b nv na d) (j + 1) := by
 rw [C8, if_neg (by omega), if_neg (by omega), if_pos ⟨h, by omega⟩]
theorem aj6 (h : ¬ (nm b j L7 = 2 ∧ 0 < (na : Int))) (h1 : d < 2 ∨ (¬ nm b j L7 = 3 ∧ ¬ nm b j L7 = 4)) : C8 b nv na d j = dfS b nv na (nm b j L7) (j + 1) := by
 match d, h1 with
 | 0, _ => rw [C8, if_neg (by omega)]
 | d + 1, h1 => rw [C8, if_neg (by omega), if_neg (by omega), if_neg (by omega)]
theorem bV2 {kd : Int} (h : kd = 5) : dfS b nv na kd j = (⟨5, pk b j nv, noE, (x5 b nv na (j + 1)).1, 0, [], []⟩, (x5 b nv na (j + 1)).2) := by rw [dfS, if_pos h]
theorem a78 {kd : Int} (h : ¬ kd = 5) : dfS b nv na kd j = (⟨1, pk b j nv, noE, (x5 b nv na (j + 1)).1, 0, [], []⟩, (x5 b nv na (j + 1)).2) := by rw [dfS, if_neg h]
end
section
variable (b : List UInt8) {j : Int}
theorem b72 (r0 : 0 ≤ j) (r1 : j ≤ 1000000000) : 0 ≤ nm b j ibL ∧ nm b j ibL ≤ 2 := aS9 b (by simp) bg1 r0 r1
theorem b71 (r0 : 0 ≤ j) (r1 : j ≤ 1000000000) : 0 ≤ nm b j ieL ∧ nm b j ieL ≤ 2 := aS9 b (by simp) bf9 r0 r1
theorem b41 (r0 : 0 ≤ j) (r1 : j ≤ 1000000000) : 0 ≤ nm b j rbL ∧ nm b j rbL ≤ 2 := aS9 b (by simp) bd5 r0 r1
theorem bP2 (d : Nat) : (d = 0 ∧ cS (d - 1) = 402 ∧ cS d ≤ 2010) ∨ cS d = 402 + 4 * cS (d - 1) := by
 cases d with
 | zero => exact .inl ⟨rfl, rfl, by decide⟩
 | succ d => exact .inr rfl
end
section
variable {b : List UInt8} {nv na d : Nat} {j : Int}
theorem bc2 (h : nm b j L7 = 3) (h1 : 1 < d) : C8 b nv na d j = ifS b nv na (C8 b nv na (d - 1)) (j + 1) := by
 match d, h1 with
 | d + 1, h1 => exact bY0 h (by omega)
theorem bc1 (h : nm b j L7 = 4) (h1 : 1 < d) : C8 b nv na d j = rpS b (C8 b nv na (d - 1)) (j + 1) := by
 match d, h1 with
 | d + 1, h1 => exact bX9 h (by omega)
end
abbrev bQ2 (b : List UInt8) (vs : List Int) (ars : List Int) (d : Nat) (j : Int) (k : Nat) := C8 b vs.length ars.length d (I1 (C8 b vs.length ars.length d) k j).snd
abbrev a16 (n : Int) (c : Int) (r0 : List (Nat × AV)) : List (Nat × AV) := (0, .ptr 0 0) :: (2, iA n) :: (3, iA c) :: (5, .ptr 5 0) :: (8, .v (.slice none 0 0)) :: r0
theorem bJ7 (b : List UInt8) (vs ars : List Int) (bd : List b5) (d m : Nat) (ih : ∀ (j n : Int), n = d → 0 ≤ j → j + cS d ≤ 600000000 → m7.ok Tryz.prog (dsC b vs ars bd d j n)) (j n c : Int) (hn : n = d) (hm : c = m) (hm2 : m ≤ 4) (B : Int) (hB : (m : Int) * cS d ≤ B) (r0 : 0 ≤ j) (r1 : j + B ≤ 600000000) : m7.ok Tryz.prog (dbC b vs ars bd d m j n c) := by
 refine H8 25 Tryz.func183 [.box [.ref 1, iA j], dY b, dI vs, dI ars, dT bd] [(0, .ptr 0 0), (1, pA 2), (2, iA n), (3, iA c)] fun G => ?_; have hc := aC6 d; refine wp_seq (m5 G i7 (rg 6) [.box [.ref 1, iA j], dY b, dI vs, dI ars, dT bd, .box (pL 2)] (a16 n c []) fun G => b0 (wp_seq (m5 G i7 (rg 7) [.box [.ref 1, iA j], dY b, dI vs, dI ars, dT bd, .box (pL 2), .tree (D.stmts [])] (a16 n c [(9, .tref 6)]) fun G => b0 (wp_seq (wp_seq (K8 G i7 (a16 n c [(9, .tref 6), (10, iA 0)]) fun G => b0 (wp_block ?_))))))); refine y9 (κ := Nat) (fun k => k ≤ m) (fun k => m - k) (fun k => [.box [.ref 1, iA (I1 (C8 b vs.length ars.length d) k j).2], dY b, dI vs, dI ars, dT bd, .box (pL 2), .tree (.stmts (I1 (C8 b vs.length ars.length d) k j).1)]) (fun k => [(0, .ptr 0 0), (2, iA n), (3, iA c), (5, .ptr 5 0), (8, .v (.slice none 0 0)), (9, .tref 6), (10, iA k)]) 0 (by omega) (x8.at G _ _) ?_; clear G; intro k ρ a w hp G; replace G := x8.at G [.box [.ref 1, iA (I1 (C8 b vs.length ars.length d) k j).snd], dY b, dI vs, dI ars, dT bd, .box (pL 2), .tree (D.stmts (I1 (C8 b vs.length ars.length d) k j).fst)] (a16 n c [(9, .tref 6), (10, iA k)]); have hkb := bR6 b vs.length ars.length (k := j) (i := k) hB (by omega) r0 (by omega); have hkl : (I1 (C8 b vs.length ars.length d) k j).1.length = k := aZ6 _ _ _; refine wp_seq (wp_seq (l8 G i7 [(14, bA (decide ((k : Int) < c)))] fun G => b0 (rcD G (fun h0 q0 => ?_) fun h0 q0 => ?_)))
 ·refine wp_exit (y7 (y7 (y6 (b0 (wp_seq (m5 G i7 [0, 1, 2, 3, 4, 6] [.box [.ref 1, iA (I1 (C8 b vs.length ars.length d) k j).snd], dY b, dI vs, dI ars, dT bd, .tree (D.stmts (I1 (C8 b vs.length ars.length d) k j).fst)] [(8, .tref 5)] fun G => b0 (wp_ret ?_))))))); exact Q9 G (rg 6) (by show _ = mR (rg 6) [.box [.ref 1, iA (I1 (C8 b vs.length ars.length d) m j).snd], dY b, dI vs, dI ars, dT bd, .tree (D.stmts (I1 (C8 b vs.length ars.length d) m j).fst)]; rw [show m = k by omega] <;> rfl)
 ·refine wp_skip (b0 (wp_seq (wp_block (U0 G (t5 4 (rg 5) (ih ((I1 (C8 b vs.length ars.length d) k j).snd) n (by assumption) (by have := bp7 b vs.length ars.length (k := j) (i := k) hB (by omega) r0 (by omega); omega) (by have := bp7 b vs.length ars.length (k := j) (i := k) hB (by omega) r0 (by omega); omega))) [0, 1, 2, 3, 4, 5, 55] [.box [.ref 1, iA (bQ2 b vs ars d j k).snd], dY b, dI vs, dI ars, dT bd, .box (pL 2), .tree (D.stmts ((I1 (C8 b vs.length ars.length d) k j).fst ++ [qzS (bQ2 b vs ars d j k).fst]))] (a16 n c [(9, .tref 6), (10, iA k)]) (aP ((I1 (C8 b vs.length ars.length d) k j).fst.length + 1) 152 []) (aK (by omega) b91) fun G => r7 (b0 (K7 G i7 [(10, iA ((k : Int) + 1))] [wO ((k : Int) + 1)] (o1 (by omega)) fun G => b0 ?_)))))); exact rxn G (k + 1) (by have := bp7 b vs.length ars.length (k := j) (i := k) hB (by omega) r0 (by omega); omega) (by have := bp7 b vs.length ars.length (k := j) (i := k) hB (by omega) r0 (by omega); omega) (rg 7) (by have e1 : ((I1 (C8 b vs.length ars.length d) (k + 1) j).fst : List b5) = ((I1 (C8 b vs.length ars.length d) k j).fst ++ [qzS (C8 b vs.length ars.length d (I1 (C8 b vs.length ars.length d) k j).snd).fst]) := (by show _ ++ [_] = _ ++ [_]; unfold qzS; rw [d7.eta, d7.eta, b5.eta]; done); (first | rw [e1] | simp only [e1]) <;> rfl)
abbrev aR7 (b : List UInt8) (vs : List Int) (ars : List Int) (d : Nat) (j : Int) := I1 (C8 b vs.length ars.length (d - 1)) (nm b (x5 b vs.length ars.length (j + 1)).snd ibL).toNat ((x5 b vs.length ars.length (j + 1)).snd + 1)
abbrev bk4 (b : List UInt8) (vs : List Int) (ars : List Int) (d : Nat) (j : Int) := I1 (C8 b vs.length ars.length (d - 1)) (nm b (aR7 b vs ars d j).snd ieL).toNat ((aR7 b vs ars d j).snd + 1)
abbrev W8 (b : List UInt8) (vs : List Int) (ars : List Int) (d : Nat) (j : Int) : AV := (.agg [iA (C8 b vs.length ars.length d j).fst.kind, iA (C8 b vs.length ars.length d j).fst.target, iA (C8 b vs.length ars.length d j).fst.index.kind, iA (C8 b vs.length ars.length d j).fst.index.value, .tref 5, iA (C8 b vs.length ars.length d j).fst.value.kind, iA (C8 b vs.length ars.length d j).fst.value.value, .tref 6, iA (C8 b vs.length ars.length d j).fst.count, .tref 7, .tref 8])
abbrev W7 (b : List UInt8) (vs : List Int) (ars : List Int) (bd : List b5) (d : Nat) (j : Int) : List It := [.box [.ref 1, iA (C8 b vs.length ars.length d j).snd], dY b, dI vs, dI ars, dT bd, .tree (D.exprs (C8 b vs.length ars.length d j).fst.index.kids), .tree (D.exprs (C8 b vs.length ars.length d j).fst.value.kids), .tree (D.stmts (C8 b vs.length ars.length d j).fst.body), .tree (D.stmts (C8 b vs.length ars.length d j).fst.els)]
abbrev at2 : It := .box [iA 0, iA 0, iA 0, iA 0, .v (.slice none 0 0), iA 0, iA 0, .v (.slice none 0 0), iA 0, .v (.slice none 0 0), .v (.slice none 0 0)]
abbrev bk3 (b : List UInt8) (vs : List Int) (ars : List Int) (j : Int) : It := .box [iA 1, iA (pk b (j + 1) (vs.length : Int)), iA 0, iA 0, .v (.slice none 0 0), iA (x5 b vs.length ars.length (j + 1 + 1)).fst.kind, iA (x5 b vs.length ars.length (j + 1 + 1)).fst.value, .tref 7, iA 0, .v (.slice none 0 0), .v (.slice none 0 0)]
abbrev bk2 (b : List UInt8) (vs : List Int) (ars : List Int) (j : Int) : It := .box [iA 1, iA (pk b (j + 1) (vs.length : Int)), iA 0, iA 0, .v (.slice none 0 0), iA (x5 b vs.length ars.length (j + 1 + 1)).fst.kind, iA (x5 b vs.length ars.length (j + 1 + 1)).fst.value, .tref 6, iA 0, .v (.slice none 0 0), .v (.slice none 0 0)]
abbrev bk1 (b : List UInt8) (vs : List Int) (j : Int) : It := .box [iA 1, iA (pk b (j + 1) (vs.length : Int)), iA 0, iA 0, .v (.slice none 0 0), iA 0, iA 0, .v (.slice none 0 0), iA 0, .v (.slice none 0 0), .v (.slice none 0 0)]
abbrev ap0 (b : List UInt8) (vs : List Int) (ars : List Int) (j : Int) : It := .tree (D.exprs (x5 b vs.length ars.length (j + 1 + 1)).fst.kids)
abbrev ac3 (b : List UInt8) (vs : List Int) (ars : List Int) (j : Int) : It := .box [.ref 1, iA (x5 b vs.length ars.length (j + 1 + 1)).snd]
abbrev aV1 : It := .box [iA 1, iA 0, iA 0, iA 0, .v (.slice none 0 0), iA 0, iA 0, .v (.slice none 0 0), iA 0, .v (.slice none 0 0), .v (.slice none 0 0)]
abbrev bj7 (b : List UInt8) (vs : List Int) (ars : List Int) (bd : List b5) (j : Int) (r0 : List It) : List It := .box [.ref 1, iA (x5 b vs.length ars.length (j + 1 + 1)).snd] :: dY b :: dI vs :: dI ars :: dT bd :: .box [iA 1, iA (pk b (j + 1) (vs.length : Int)), iA 0, iA 0, .tref 7, iA (x5 b vs.length ars.length (j + 1 + 1)).fst.kind, iA (x5 b vs.length ars.length (j + 1 + 1)).fst.value, .tref 6, iA 0, .tref 8, .tref 9] :: .tree (D.exprs (x5 b vs.length ars.length (j + 1 + 1)).fst.kids) :: .tree (D.exprs []) :: .tree (D.stmts []) :: r0
abbrev bj6 (b : List UInt8) (vs : List Int) (ars : List Int) (bd : List b5) (j : Int) (r0 : List It) : List It := .box [.ref 1, iA (x5 b vs.length ars.length (j + 1 + 1)).snd] :: dY b :: dI vs :: dI ars :: dT bd :: .box [iA 1, iA (pk b (j + 1) (vs.length : Int)), iA 0, iA 0, .tref 7, iA (x5 b vs.length ars.length (j + 1 + 1)).fst.kind, iA (x5 b vs.length ars.length (j + 1 + 1)).fst.value, .tref 6, iA 0, .tref 8, .v (.slice none 0 0)] :: .tree (D.exprs (x5 b vs.length ars.length (j + 1 + 1)).fst.kids) :: .tree (D.exprs []) :: r0
abbrev bj5 (b : List UInt8) (vs : List Int) (ars : List Int) (bd : List b5) (j : Int) (r0 : List It) : List It := .box [.ref 1, iA (x5 b vs.length ars.length (j + 1 + 1)).snd] :: dY b :: dI vs :: dI ars :: dT bd :: .box [iA 1, iA (pk b (j + 1) (vs.length : Int)), iA 0, iA 0, .tref 7, iA (x5 b vs.length ars.length (j + 1 + 1)).fst.kind, iA (x5 b vs.length ars.length (j + 1 + 1)).fst.value, .tref 6, iA 0, .v (.slice none 0 0), .v (.slice none 0 0)] :: .tree (D.exprs (x5 b vs.length ars.length (j + 1 + 1)).fst.kids) :: r0
abbrev aa8 (r0 : List (Nat × AV)) : List (Nat × AV) := (0, .ptr 0 0) :: (4, .ptr 5 0) :: (6, .ptr 6 0) :: (8, .ptr 7 0) :: r0
abbrev a15 (b : List UInt8) (vs : List Int) (ars : List Int) (d : Nat) (j : Int) (r0 : List It) : List It := .box [.ref 1, iA (I1 (C8 b vs.length ars.length (d - 1)) (nm b (j + 1 + 1) rbL).toNat (j + 1 + 1 + 1)).snd] :: dY b :: dI vs :: dI ars :: r0
abbrev as7 (n : Int) (r0 : List (Nat × AV)) : List (Nat × AV) := (0, .ptr 0 0) :: (2, iA n) :: (4, .ptr 5 0) :: (6, .ptr 6 0) :: r0
abbrev U6 (b : List UInt8) (vs : List Int) (ars : List Int) (bd : List b5) (r0 : List It) : List It := dY b :: dI vs :: dI ars :: dT bd :: .box (pL 2) :: at2 :: r0
abbrev bj4 (b : List UInt8) (vs : List Int) (ars : List Int) (j : Int) (r0 : List It) : List It := .tree (D.exprs (s5 b (vs.length : Int) (j + 1 + 1)).kids) :: .tree (D.exprs (x5 b vs.length ars.length (j + 1 + 1 + 2)).fst.kids) :: r0
theorem by6 (b : List UInt8) (vs ars : List Int) (bd : List b5) (d : Nat) (hd : d ≤ 3) (ih : ∀ (j n c : Int), 1 < d → n = (d : Int) - 1 → 0 ≤ c → c ≤ 2 → 0 ≤ j → j + 2 * cS (d - 1) ≤ 600000000 → m7.ok Tryz.prog (dbC b vs ars bd (d - 1) c.toNat j n c)) (j n : Int) (hn : n = d) (r0 : 0 ≤ j) (r1 : j + cS d ≤ 600000000) : m7.ok Tryz.prog (dsC b vs ars bd d j n) := by
  refine H8 100 Tryz.func224 [.box [.ref 1, iA j], dY b, dI vs, dI ars, dT bd] [(0, .ptr 0 0), (1, pA 2), (2, iA n)] fun G => ?_; have hc := aC6 (d - 1); have hcd := bP2 d; have hcn := aC6 d; have hsm := bl0 b vs.length ars.length (k := j + 1) (by omega) (by omega); have hib := b72 b (j := (x5 b vs.length ars.length (j + 1)).2) (by omega) (by omega); have hbb := bR6 b vs.length ars.length (k := (x5 b vs.length ars.length (j + 1)).2 + 1) (i := (nm b (x5 b vs.length ars.length (j + 1)).2 ibL).toNat) (b01 hib.1 hib.2 (show 0 ≤ cS (d - 1) by omega)) (b94 _) (by omega) (by omega); have hie := b71 b (j := (I1 (C8 b vs.length ars.length (d - 1)) (nm b (x5 b vs.length ars.length (j + 1)).2 ibL).toNat ((x5 b vs.length ars.length (j + 1)).2 + 1)).2) (by omega) (by omega); have hrb := b41 b (j := j + 1 + 1) (by omega) (by omega); refine wp_seq (m5 G i7 [0, 1, 2, 3, 4, 5, 13] (.box [.ref 1, iA j] :: (U6 b vs ars bd [])) (as7 n []) fun G => b0 (wp_seq (m5 G (t5 2 [0, 1, 15] (m7.lend (T6 b j L7 (List.cons_ne_nil _ _) (by assumption) (by omega)) [.no, .no, .row 3])) (rg 7) (.box [.ref 1, iA (j + 1)] :: (U6 b vs ars bd [])) (as7 n [(7, iA (nm b j L7))]) fun G => b0 (wp_seq (m5 G i7 [0, 1, 2, 3, 4, 5, 6, 23] (.box [.ref 1, iA (j + 1)] :: (U6 b vs ars bd [.box [iA (nm b j L7), iA 0, iA 0, iA 0, .v (.slice none 0 0), iA 0, iA 0, .v (.slice none 0 0), iA 0, .v (.slice none 0 0), .v (.slice none 0 0)]])) (as7 n [(7, iA (nm b j L7)), (8, .ptr 7 0)]) fun G => b0 (wp_seq (wp_block (wp_seq ?_)))))))); cases h0 : (nm b j L7 == 2)
  ·
   have q0 := ne_of_beq_false h0; refine l8 G (X3 (fc h0 fz) (us [(3, 6, 0), (1007, 1007, 0)])) [(27, bA false)] fun G => b0 (rF G false (by kernel_rfl) (wp_seq ?_)); cases h1 : (nm b j L7 == 3)
   ·
    have q1 := ne_of_beq_false h1; refine l8 G (X3 (fc h1 fz) [(3, 0), (4, 0), (1005, 0)]) [(50, bA false)] fun G => b0 (rF G false (by kernel_rfl) (wp_seq ?_)); cases h2 : (nm b j L7 == 4)
    ·
     have q2 := ne_of_beq_false h2; refine l8 G (X3 (fc h2 fz) [(3, 0), (4, 0), (1005, 0)]) [(79, bA false)] fun G => b0 (rF G false (by kernel_rfl) (wp_seq (wp_seq (l8 G i7 [(15, bA (nm b j L7 != 5))] fun G => b0 (rcN G (fun h3 q3 => ?_) fun h3 q3 => ?_)))))
     · refine wp_skip (b0 (wp_seq (m5 G (t5 4 [0, 1] (P2 b (j + 1) ((vs.length : Int)) (by omega) (by omega))) (rg 8) (.box [.ref 1, iA (j + 1 + 1)] :: (U6 b vs ars bd [.box [iA (nm b j L7), iA (pk b (j + 1) (vs.length : Int)), iA 0, iA 0, .v (.slice none 0 0), iA 0, iA 0, .v (.slice none 0 0), iA 0, .v (.slice none 0 0), .v (.slice none 0 0)]])) (aa8 []) fun G => b0 (m5 G (t5 2 (rg 5) (ah3 b vs ars bd (j + 1 + 1) (by omega) (by omega))) [0, 1, 2, 3, 4, 6, 7, 24] [ac3 b vs ars j, dY b, dI vs, dI ars, dT bd, at2, .box [iA (nm b j L7), iA (pk b (j + 1) (vs.length : Int)), iA 0, iA 0, .v (.slice none 0 0), iA (x5 b vs.length ars.length (j + 1 + 1)).fst.kind, iA (x5 b vs.length ars.length (j + 1 + 1)).fst.value, .tref 7, iA 0, .v (.slice none 0 0), .v (.slice none 0 0)], ap0 b vs ars j] [(6, .ptr 5 0), (8, .ptr 6 0)] fun G => r7 (b0 (wp_seq (m5 G i7 [0, 1, 2, 3, 4, 5, 7] [ac3 b vs ars j, dY b, dI vs, dI ars, dT bd, .box [iA (nm b j L7), iA (pk b (j + 1) (vs.length : Int)), iA 0, iA 0, .v (.slice none 0 0), iA (x5 b vs.length ars.length (j + 1 + 1)).fst.kind, iA (x5 b vs.length ars.length (j + 1 + 1)).fst.value, .tref 6, iA 0, .v (.slice none 0 0), .v (.slice none 0 0)], ap0 b vs ars j] [(6, .ptr 5 0)] fun G => b0 (wp_ret ?_)))))))); obtain ⟨ρ, G⟩ := G.nilT 7 (.exprs []) [.box [.ref 1, iA (x5 b vs.length ars.length (j + 1 + 1)).snd], dY b, dI vs, dI ars, dT bd, .box [iA (nm b j L7), iA (pk b (j + 1) (vs.length : Int)), iA 0, iA 0, .tref 7, iA (x5 b vs.length ars.length (j + 1 + 1)).fst.kind, iA (x5 b vs.length ars.length (j + 1 + 1)).fst.value, .tref 6, iA 0, .v (.slice none 0 0), .v (.slice none 0 0)], .tree (D.exprs (x5 b vs.length ars.length (j + 1 + 1)).fst.kids)] [(6, .ptr 5 0)]; obtain ⟨ρ, G⟩ := G.nilT 8 (.stmts []) [.box [.ref 1, iA (x5 b vs.length ars.length (j + 1 + 1)).snd], dY b, dI vs, dI ars, dT bd, .box [iA (nm b j L7), iA (pk b (j + 1) (vs.length : Int)), iA 0, iA 0, .tref 7, iA (x5 b vs.length ars.length (j + 1 + 1)).fst.kind, iA (x5 b vs.length ars.length (j + 1 + 1)).fst.value, .tref 6, iA 0, .tref 8, .v (.slice none 0 0)], .tree (D.exprs (x5 b vs.length ars.length (j + 1 + 1)).fst.kids), .tree (D.exprs [])] [(6, .ptr 5 0)]; obtain ⟨ρ, G⟩ := G.nilT 9 (.stmts []) [.box [.ref 1, iA (x5 b vs.length ars.length (j + 1 + 1)).snd], dY b, dI vs, dI ars, dT bd, .box [iA (nm b j L7), iA (pk b (j + 1) (vs.length : Int)), iA 0, iA 0, .tref 7, iA (x5 b vs.length ars.length (j + 1 + 1)).fst.kind, iA (x5 b vs.length ars.length (j + 1 + 1)).fst.value, .tref 6, iA 0, .tref 8, .tref 9], .tree (D.exprs (x5 b vs.length ars.length (j + 1 + 1)).fst.kids), .tree (D.exprs []), .tree (D.stmts [])] [(6, .ptr 5 0)]; exact X8 (.agg [iA (nm b j L7), iA (pk b (j + 1) (vs.length : Int)), iA 0, iA 0, .tref 7, iA (x5 b vs.length ars.length (j + 1 + 1)).fst.kind, iA (x5 b vs.length ars.length (j + 1 + 1)).fst.value, .tref 6, iA 0, .tref 8, .tref 9]) G [0, 1, 2, 3, 4, 7, 6, 8, 9] (by show _ = AV.ren (nth [0, 1, 2, 3, 4, 7, 6, 8, 9]) (W8 b vs ars d j); unfold W8; have e1 : ((C8 b vs.length ars.length d j).fst.kind : Int) = (nm b j L7) := (by rw [aj6 (by omega) (by omega), bV2 (by omega)]; show (5 : Int) = _; omega); rw [e1, aj6 (by omega) (by omega), bV2 (by omega)] <;> rfl) (by show _ = mR [0, 1, 2, 3, 4, 7, 6, 8, 9] (W7 b vs ars bd d j); unfold W7; rw [aj6 (by omega) (by omega), bV2 (by omega)] <;> rfl)
     · refine m5 G i7 (rg 8) (.box [.ref 1, iA (j + 1)] :: (U6 b vs ars bd [aV1])) (aa8 []) fun G => b0 (wp_seq (m5 G (t5 4 [0, 1] (P2 b (j + 1) ((vs.length : Int)) (by omega) (by omega))) (rg 8) (.box [.ref 1, iA (j + 1 + 1)] :: (U6 b vs ars bd [bk1 b vs j])) (aa8 []) fun G => b0 (m5 G (t5 2 (rg 5) (ah3 b vs ars bd (j + 1 + 1) (by omega) (by omega))) [0, 1, 2, 3, 4, 6, 7, 24] [ac3 b vs ars j, dY b, dI vs, dI ars, dT bd, at2, bk3 b vs ars j, ap0 b vs ars j] [(6, .ptr 5 0), (8, .ptr 6 0)] fun G => r7 (b0 (wp_seq (m5 G i7 [0, 1, 2, 3, 4, 5, 7] [ac3 b vs ars j, dY b, dI vs, dI ars, dT bd, bk2 b vs ars j, ap0 b vs ars j] [(6, .ptr 5 0)] fun G => b0 (wp_ret ?_))))))); obtain ⟨ρ, G⟩ := G.nilT 7 (.exprs []) (bj5 b vs ars bd j []) [(6, .ptr 5 0)]; obtain ⟨ρ, G⟩ := G.nilT 8 (.stmts []) (bj6 b vs ars bd j []) [(6, .ptr 5 0)]; obtain ⟨ρ, G⟩ := G.nilT 9 (.stmts []) (bj7 b vs ars bd j []) [(6, .ptr 5 0)]; exact X8 (.agg [iA 1, iA (pk b (j + 1) (vs.length : Int)), iA 0, iA 0, .tref 7, iA (x5 b vs.length ars.length (j + 1 + 1)).fst.kind, iA (x5 b vs.length ars.length (j + 1 + 1)).fst.value, .tref 6, iA 0, .tref 8, .tref 9]) G [0, 1, 2, 3, 4, 7, 6, 8, 9] (by show _ = AV.ren (nth [0, 1, 2, 3, 4, 7, 6, 8, 9]) (W8 b vs ars d j); unfold W8; rw [aj6 (by omega) (by omega), a78 (by omega)] <;> rfl) (by show _ = mR [0, 1, 2, 3, 4, 7, 6, 8, 9] (W7 b vs ars bd d j); unfold W7; rw [aj6 (by omega) (by omega), a78 (by omega)] <;> rfl)
    ·
     have q2 := eq_of_beq h2; refine l8 G (X3 (fc h2 fz) [(3, 0), (4, 0), (1005, 0)]) [(79, bA (decide (n > 1)))] fun G => b0 (rcD G (fun h4 q4 => ?_) fun h4 q4 => ?_)
     ·
      refine wp_seq (wp_seq (K8 G i7 (aa8 [(15, bA (nm b j L7 != 5))]) fun G => b0 ?_)); cases h5 : (nm b j L7 != 5)
      · have q5 := bne_eq_false_iff_eq.1 h5; exact False.elim (by omega)
      · have q5 := bne_iff_ne.1 h5; refine rT G _ h5 (m5 G i7 (rg 8) (.box [.ref 1, iA (j + 1)] :: (U6 b vs ars bd [aV1])) (aa8 []) fun G => b0 (wp_seq (m5 G (t5 4 [0, 1] (P2 b (j + 1) ((vs.length : Int)) (by omega) (by omega))) (rg 8) (.box [.ref 1, iA (j + 1 + 1)] :: (U6 b vs ars bd [bk1 b vs j])) (aa8 []) fun G => b0 (m5 G (t5 2 (rg 5) (ah3 b vs ars bd (j + 1 + 1) (by omega) (by omega))) [0, 1, 2, 3, 4, 6, 7, 24] [ac3 b vs ars j, dY b, dI vs, dI ars, dT bd, at2, bk3 b vs ars j, ap0 b vs ars j] [(6, .ptr 5 0), (8, .ptr 6 0)] fun G => r7 (b0 (wp_seq (m5 G i7 [0, 1, 2, 3, 4, 5, 7] [ac3 b vs ars j, dY b, dI vs, dI ars, dT bd, bk2 b vs ars j, ap0 b vs ars j] [(6, .ptr 5 0)] fun G => b0 (wp_ret ?_)))))))); obtain ⟨ρ, G⟩ := G.nilT 7 (.exprs []) (bj5 b vs ars bd j []) [(6, .ptr 5 0)]; obtain ⟨ρ, G⟩ := G.nilT 8 (.stmts []) (bj6 b vs ars bd j []) [(6, .ptr 5 0)]; obtain ⟨ρ, G⟩ := G.nilT 9 (.stmts []) (bj7 b vs ars bd j []) [(6, .ptr 5 0)]; exact X8 (.agg [iA 1, iA (pk b (j + 1) (vs.length : Int)), iA 0, iA 0, .tref 7, iA (x5 b vs.length ars.length (j + 1 + 1)).fst.kind, iA (x5 b vs.length ars.length (j + 1 + 1)).fst.value, .tref 6, iA 0, .tref 8, .tref 9]) G [0, 1, 2, 3, 4, 7, 6, 8, 9] (by show _ = AV.ren (nth [0, 1, 2, 3, 4, 7, 6, 8, 9]) (W8 b vs ars d j); unfold W8; rw [aj6 (by omega) (by omega), a78 (by omega)] <;> rfl) (by show _ = mR [0, 1, 2, 3, 4, 7, 6, 8, 9] (W7 b vs ars bd d j); unfold W7; rw [aj6 (by omega) (by omega), a78 (by omega)] <;> rfl)
     · refine wp_seq (m5 G (t5 2 [0, 1, 16] (m7.lend (T6 b (j + 1) rcL (by simp [h0, h1, h2, h4]) (by omega) (by omega)) [.no, .no, .row 3])) (rg 8) (.box [.ref 1, iA (j + 1 + 1)] :: (U6 b vs ars bd [.box [iA (nm b j L7), iA 0, iA 0, iA 0, .v (.slice none 0 0), iA 0, iA 0, .v (.slice none 0 0), iA (nm b (j + 1) rcL), .v (.slice none 0 0), .v (.slice none 0 0)]])) (as7 n [(8, .ptr 7 0)]) fun G => b0 (R5 G (B8 ⟨[(6, _, [0, 1, 48]), (7, _, (rg 5))], [], []⟩ (b9 (m7.lend (T6 b (j + 1 + 1) rbL (by simp [h0, h1, h2, h4]) (by omega) (by omega)) [.no, .no, .row 3]) (b9 (ih (j + 1 + 1 + 1) (n - 1) (nm b (j + 1 + 1) rbL) (by omega) (by omega) (by omega) (by omega) (by omega) (by omega)) d8)) b91) [0, 0, 0, 4, 0, 0, 48, 127, 255, 511] [0, 1, 2, 3, 4, 6, 7, 64] (a15 b vs ars d j [dT bd, at2, .box [iA (nm b j L7), iA 0, iA 0, iA 0, .v (.slice none 0 0), iA 0, iA 0, .v (.slice none 0 0), iA (nm b (j + 1) rcL), .tref 7, .v (.slice none 0 0)], .tree (D.stmts (I1 (C8 b vs.length ars.length (d - 1)) (nm b (j + 1 + 1) rbL).toNat (j + 1 + 1 + 1)).fst)]) [(6, .ptr 5 0), (8, .ptr 6 0)] [wO (n - 1)] (o1 (by omega)) fun G => r7 (b0 (wp_seq (m5 G i7 [0, 1, 2, 3, 4, 5, 7] (a15 b vs ars d j [dT bd, .box [iA (nm b j L7), iA 0, iA 0, iA 0, .v (.slice none 0 0), iA 0, iA 0, .v (.slice none 0 0), iA (nm b (j + 1) rcL), .tref 6, .v (.slice none 0 0)], .tree (D.stmts (I1 (C8 b vs.length ars.length (d - 1)) (nm b (j + 1 + 1) rbL).toNat (j + 1 + 1 + 1)).fst)]) [(6, .ptr 5 0)] fun G => b0 (wp_ret ?_)))))); obtain ⟨ρ, G⟩ := G.nilT 7 (.exprs []) (a15 b vs ars d j [dT bd, .box [iA (nm b j L7), iA 0, iA 0, iA 0, .tref 7, iA 0, iA 0, .v (.slice none 0 0), iA (nm b (j + 1) rcL), .tref 6, .v (.slice none 0 0)], .tree (D.stmts (I1 (C8 b vs.length ars.length (d - 1)) (nm b (j + 1 + 1) rbL).toNat (j + 1 + 1 + 1)).fst)]) [(6, .ptr 5 0)]; obtain ⟨ρ, G⟩ := G.nilT 8 (.exprs []) (a15 b vs ars d j [dT bd, .box [iA (nm b j L7), iA 0, iA 0, iA 0, .tref 7, iA 0, iA 0, .tref 8, iA (nm b (j + 1) rcL), .tref 6, .v (.slice none 0 0)], .tree (D.stmts (I1 (C8 b vs.length ars.length (d - 1)) (nm b (j + 1 + 1) rbL).toNat (j + 1 + 1 + 1)).fst), .tree (D.exprs [])]) [(6, .ptr 5 0)]; obtain ⟨ρ, G⟩ := G.nilT 9 (.stmts []) (a15 b vs ars d j [dT bd, .box [iA (nm b j L7), iA 0, iA 0, iA 0, .tref 7, iA 0, iA 0, .tref 8, iA (nm b (j + 1) rcL), .tref 6, .tref 9], .tree (D.stmts (I1 (C8 b vs.length ars.length (d - 1)) (nm b (j + 1 + 1) rbL).toNat (j + 1 + 1 + 1)).fst), .tree (D.exprs []), .tree (D.exprs [])]) [(6, .ptr 5 0)]; exact X8 (.agg [iA (nm b j L7), iA 0, iA 0, iA 0, .tref 7, iA 0, iA 0, .tref 8, iA (nm b (j + 1) rcL), .tref 6, .tref 9]) G [0, 1, 2, 3, 4, 7, 8, 6, 9] (by show _ = AV.ren (nth [0, 1, 2, 3, 4, 7, 8, 6, 9]) (W8 b vs ars d j); unfold W8; have e1 : ((C8 b vs.length ars.length d j).fst.kind : Int) = (nm b j L7) := (by rw [bc1 (by omega) (by omega)]; show (4 : Int) = _; omega); rw [e1, bc1 (by omega) (by omega)] <;> rfl) (by show _ = mR [0, 1, 2, 3, 4, 7, 8, 6, 9] (W7 b vs ars bd d j); unfold W7; rw [bc1 (by omega) (by omega)] <;> rfl)
   ·
    have q1 := eq_of_beq h1; refine K8 G (X3 (fc h1 fz) [(3, 0), (4, 0), (1005, 0)]) (as7 n [(7, iA (nm b j L7)), (8, .ptr 7 0), (50, bA (decide (n > 1)))]) fun G => b0 (rcD G (fun h6 q6 => ?_) fun h6 q6 => ?_)
    ·
     refine wp_seq ?_; cases h7 : (nm b j L7 == 4)
     ·
      have q7 := ne_of_beq_false h7; refine l8 G (X3 (fc h7 fz) [(3, 0), (4, 0), (1005, 0)]) [(79, bA false)] fun G => b0 (rF G false (by kernel_rfl) (wp_seq (wp_seq (K8 G i7 (aa8 [(15, bA (nm b j L7 != 5))]) fun G => b0 ?_)))); cases h8 : (nm b j L7 != 5)
      · have q8 := bne_eq_false_iff_eq.1 h8; exact False.elim (by omega)
      · have q8 := bne_iff_ne.1 h8; refine rT G _ h8 (m5 G i7 (rg 8) (.box [.ref 1, iA (j + 1)] :: (U6 b vs ars bd [aV1])) (aa8 []) fun G => b0 (wp_seq (m5 G (t5 4 [0, 1] (P2 b (j + 1) ((vs.length : Int)) (by omega) (by omega))) (rg 8) (.box [.ref 1, iA (j + 1 + 1)] :: (U6 b vs ars bd [bk1 b vs j])) (aa8 []) fun G => b0 (m5 G (t5 2 (rg 5) (ah3 b vs ars bd (j + 1 + 1) (by omega) (by omega))) [0, 1, 2, 3, 4, 6, 7, 24] [ac3 b vs ars j, dY b, dI vs, dI ars, dT bd, at2, bk3 b vs ars j, ap0 b vs ars j] [(6, .ptr 5 0), (8, .ptr 6 0)] fun G => r7 (b0 (wp_seq (m5 G i7 [0, 1, 2, 3, 4, 5, 7] [ac3 b vs ars j, dY b, dI vs, dI ars, dT bd, bk2 b vs ars j, ap0 b vs ars j] [(6, .ptr 5 0)] fun G => b0 (wp_ret ?_)))))))); obtain ⟨ρ, G⟩ := G.nilT 7 (.exprs []) (bj5 b vs ars bd j []) [(6, .ptr 5 0)]; obtain ⟨ρ, G⟩ := G.nilT 8 (.stmts []) (bj6 b vs ars bd j []) [(6, .ptr 5 0)]; obtain ⟨ρ, G⟩ := G.nilT 9 (.stmts []) (bj7 b vs ars bd j []) [(6, .ptr 5 0)]; exact X8 (.agg [iA 1, iA (pk b (j + 1) (vs.length : Int)), iA 0, iA 0, .tref 7, iA (x5 b vs.length ars.length (j + 1 + 1)).fst.kind, iA (x5 b vs.length ars.length (j + 1 + 1)).fst.value, .tref 6, iA 0, .tref 8, .tref 9]) G [0, 1, 2, 3, 4, 7, 6, 8, 9] (by show _ = AV.ren (nth [0, 1, 2, 3, 4, 7, 6, 8, 9]) (W8 b vs ars d j); unfold W8; rw [aj6 (by omega) (by omega), a78 (by omega)] <;> rfl) (by show _ = mR [0, 1, 2, 3, 4, 7, 6, 8, 9] (W7 b vs ars bd d j); unfold W7; rw [aj6 (by omega) (by omega), a78 (by omega)] <;> rfl)
     · have q7 := eq_of_beq h7; exact False.elim (by omega)
    ·
     refine wp_seq (m5 G (t5 2 (rg 5) (ah3 b vs ars bd (j + 1) (by omega) (by omega))) [0, 1, 2, 3, 4, 5, 6, 7, 24] (.box [.ref 1, iA (x5 b vs.length ars.length (j + 1)).snd] :: (U6 b vs ars bd [.box [iA (nm b j L7), iA 0, iA 0, iA 0, .v (.slice none 0 0), iA (x5 b vs.length ars.length (j + 1)).fst.kind, iA (x5 b vs.length ars.length (j + 1)).fst.value, .tref 8, iA 0, .v (.slice none 0 0), .v (.slice none 0 0)], .tree (D.exprs (x5 b vs.length ars.length (j + 1)).fst.kids)])) (as7 n [(8, .ptr 7 0)]) fun G => b0 (wp_seq (R5 G (B8 ⟨[(6, _, [0, 1, 49]), (7, _, (rg 5))], [], []⟩ (b9 (m7.lend (T6 b ((x5 b vs.length ars.length (j + 1)).snd) ibL (by simp [h0, h1, h6]) (by omega) (by omega)) [.no, .no, .row 3]) (b9 (ih ((x5 b vs.length ars.length (j + 1)).snd + 1) (n - 1) (nm b (x5 b vs.length ars.length (j + 1)).snd ibL) (by omega) (by omega) (by omega) (by omega) (by omega) (by omega)) d8)) b91) [0, 0, 0, 4, 0, 0, 48, 127, 255, 511] [0, 1, 2, 3, 4, 5, 6, 7, 8, 65] (.box [.ref 1, iA (aR7 b vs ars d j).snd] :: (U6 b vs ars bd [.box [iA (nm b j L7), iA 0, iA 0, iA 0, .v (.slice none 0 0), iA (x5 b vs.length ars.length (j + 1)).fst.kind, iA (x5 b vs.length ars.length (j + 1)).fst.value, .tref 8, iA 0, .tref 9, .v (.slice none 0 0)], .tree (D.exprs (x5 b vs.length ars.length (j + 1)).fst.kids), .tree (D.stmts (aR7 b vs ars d j).fst)])) (as7 n [(8, .ptr 7 0)]) [wO (n - 1)] (o1 (by omega)) fun G => b0 (R5 G (B8 ⟨[(6, _, [0, 1, 50]), (7, _, (rg 5))], [], []⟩ (b9 (m7.lend (T6 b ((I1 (C8 b vs.length ars.length (d - 1)) (nm b (x5 b vs.length ars.length (j + 1)).snd ibL).toNat ((x5 b vs.length ars.length (j + 1)).snd + 1)).snd) ieL (by simp [h0, h1, h6]) (by omega) (by omega)) [.no, .no, .row 3]) (b9 (ih ((I1 (C8 b vs.length ars.length (d - 1)) (nm b (x5 b vs.length ars.length (j + 1)).snd ibL).toNat ((x5 b vs.length ars.length (j + 1)).snd + 1)).snd + 1) (n - 1) (nm b (I1 (C8 b vs.length ars.length (d - 1)) (nm b (x5 b vs.length ars.length (j + 1)).snd ibL).toNat ((x5 b vs.length ars.length (j + 1)).snd + 1)).snd ieL) (by omega) (by omega) (by omega) (by omega) (by omega) (by omega)) d8)) b91) [0, 0, 0, 4, 0, 0, 48, 127, 255, 511] [0, 1, 2, 3, 4, 6, 7, 8, 9, 66] [.box [.ref 1, iA (bk4 b vs ars d j).snd], dY b, dI vs, dI ars, dT bd, at2, .box [iA (nm b j L7), iA 0, iA 0, iA 0, .v (.slice none 0 0), iA (x5 b vs.length ars.length (j + 1)).fst.kind, iA (x5 b vs.length ars.length (j + 1)).fst.value, .tref 7, iA 0, .tref 8, .tref 9], .tree (D.exprs (x5 b vs.length ars.length (j + 1)).fst.kids), .tree (D.stmts (aR7 b vs ars d j).fst), .tree (D.stmts (bk4 b vs ars d j).fst)] [(6, .ptr 5 0), (8, .ptr 6 0)] [wO (n - 1)] (o1 (by omega)) fun G => r7 (b0 (wp_seq (m5 G i7 [0, 1, 2, 3, 4, 5, 7, 8, 9] [.box [.ref 1, iA (bk4 b vs ars d j).snd], dY b, dI vs, dI ars, dT bd, .box [iA (nm b j L7), iA 0, iA 0, iA 0, .v (.slice none 0 0), iA (x5 b vs.length ars.length (j + 1)).fst.kind, iA (x5 b vs.length ars.length (j + 1)).fst.value, .tref 6, iA 0, .tref 7, .tref 8], .tree (D.exprs (x5 b vs.length ars.length (j + 1)).fst.kids), .tree (D.stmts (aR7 b vs ars d j).fst), .tree (D.stmts (bk4 b vs ars d j).fst)] [(6, .ptr 5 0)] fun G => b0 (wp_ret ?_)))))))); obtain ⟨ρ, G⟩ := G.nilT 9 (.exprs []) [.box [.ref 1, iA (I1 (C8 b vs.length ars.length (d - 1)) (nm b (I1 (C8 b vs.length ars.length (d - 1)) (nm b (x5 b vs.length ars.length (j + 1)).snd ibL).toNat ((x5 b vs.length ars.length (j + 1)).snd + 1)).snd ieL).toNat ((I1 (C8 b vs.length ars.length (d - 1)) (nm b (x5 b vs.length ars.length (j + 1)).snd ibL).toNat ((x5 b vs.length ars.length (j + 1)).snd + 1)).snd + 1)).snd], dY b, dI vs, dI ars, dT bd, .box [iA (nm b j L7), iA 0, iA 0, iA 0, .tref 9, iA (x5 b vs.length ars.length (j + 1)).fst.kind, iA (x5 b vs.length ars.length (j + 1)).fst.value, .tref 6, iA 0, .tref 7, .tref 8], .tree (D.exprs (x5 b vs.length ars.length (j + 1)).fst.kids), .tree (D.stmts (I1 (C8 b vs.length ars.length (d - 1)) (nm b (x5 b vs.length ars.length (j + 1)).snd ibL).toNat ((x5 b vs.length ars.length (j + 1)).snd + 1)).fst), .tree (D.stmts (I1 (C8 b vs.length ars.length (d - 1)) (nm b (I1 (C8 b vs.length ars.length (d - 1)) (nm b (x5 b vs.length ars.length (j + 1)).snd ibL).toNat ((x5 b vs.length ars.length (j + 1)).snd + 1)).snd ieL).toNat ((I1 (C8 b vs.length ars.length (d - 1)) (nm b (x5 b vs.length ars.length (j + 1)).snd ibL).toNat ((x5 b vs.length ars.length (j + 1)).snd + 1)).snd + 1)).fst)] [(6, .ptr 5 0)]
     exact X8 (.agg [iA (nm b j L7), iA 0, iA 0, iA 0, .tref 9, iA (x5 b vs.length ars.length (j + 1)).fst.kind, iA (x5 b vs.length ars.length (j + 1)).fst.value, .tref 6, iA 0, .tref 7, .tref 8]) G [0, 1, 2, 3, 4, 9, 6, 7, 8] (by show _ = AV.ren (nth [0, 1, 2, 3, 4, 9, 6, 7, 8]) (W8 b vs ars d j); unfold W8; have e1 : ((C8 b vs.length ars.length d j).fst.kind : Int) = (nm b j L7) := (by rw [bc2 (by omega) (by omega)]; show (3 : Int) = _; omega); rw [e1, bc2 (by omega) (by omega)] <;> rfl) (by show _ = mR [0, 1, 2, 3, 4, 9, 6, 7, 8] (W7 b vs ars bd d j); unfold W7; rw [bc2 (by omega) (by omega)] <;> rfl)
  ·
   have q0 := eq_of_beq h0; refine K8 G (X3 (fc h0 fz) (us [(3, 6, 0), (1007, 1007, 0)])) (as7 n [(7, iA (nm b j L7)), (8, .ptr 7 0), (27, bA (decide ((ars.length : Int) > 0)))]) fun G => b0 (rcD G (fun h9 q9 => ?_) fun h9 q9 => ?_)
   ·
    refine wp_seq ?_; cases h10 : (nm b j L7 == 3)
    ·
     have q10 := ne_of_beq_false h10; refine K8 G (X3 (fc h10 fz) [(3, 0), (4, 0), (1005, 0)]) (as7 n [(7, iA (nm b j L7)), (8, .ptr 7 0), (50, bA false)]) fun G => b0 (rF G false (by kernel_rfl) (wp_seq ?_)); cases h11 : (nm b j L7 == 4)
     ·
      have q11 := ne_of_beq_false h11; refine l8 G (X3 (fc h11 fz) [(3, 0), (4, 0), (1005, 0)]) [(79, bA false)] fun G => b0 (rF G false (by kernel_rfl) (wp_seq (wp_seq (K8 G i7 (aa8 [(15, bA (nm b j L7 != 5))]) fun G => b0 ?_)))); cases h12 : (nm b j L7 != 5)
      · have q12 := bne_eq_false_iff_eq.1 h12; exact False.elim (by omega)
      · have q12 := bne_iff_ne.1 h12; refine rT G _ h12 (m5 G i7 (rg 8) (.box [.ref 1, iA (j + 1)] :: (U6 b vs ars bd [aV1])) (aa8 []) fun G => b0 (wp_seq (m5 G (t5 4 [0, 1] (P2 b (j + 1) ((vs.length : Int)) (by omega) (by omega))) (rg 8) (.box [.ref 1, iA (j + 1 + 1)] :: (U6 b vs ars bd [bk1 b vs j])) (aa8 []) fun G => b0 (m5 G (t5 2 (rg 5) (ah3 b vs ars bd (j + 1 + 1) (by omega) (by omega))) [0, 1, 2, 3, 4, 6, 7, 24] [ac3 b vs ars j, dY b, dI vs, dI ars, dT bd, at2, bk3 b vs ars j, ap0 b vs ars j] [(6, .ptr 5 0), (8, .ptr 6 0)] fun G => r7 (b0 (wp_seq (m5 G i7 [0, 1, 2, 3, 4, 5, 7] [ac3 b vs ars j, dY b, dI vs, dI ars, dT bd, bk2 b vs ars j, ap0 b vs ars j] [(6, .ptr 5 0)] fun G => b0 (wp_ret ?_)))))))); obtain ⟨ρ, G⟩ := G.nilT 7 (.exprs []) (bj5 b vs ars bd j []) [(6, .ptr 5 0)]; obtain ⟨ρ, G⟩ := G.nilT 8 (.stmts []) (bj6 b vs ars bd j []) [(6, .ptr 5 0)]; obtain ⟨ρ, G⟩ := G.nilT 9 (.stmts []) (bj7 b vs ars bd j []) [(6, .ptr 5 0)]; exact X8 (.agg [iA 1, iA (pk b (j + 1) (vs.length : Int)), iA 0, iA 0, .tref 7, iA (x5 b vs.length ars.length (j + 1 + 1)).fst.kind, iA (x5 b vs.length ars.length (j + 1 + 1)).fst.value, .tref 6, iA 0, .tref 8, .tref 9]) G [0, 1, 2, 3, 4, 7, 6, 8, 9] (by show _ = AV.ren (nth [0, 1, 2, 3, 4, 7, 6, 8, 9]) (W8 b vs ars d j); unfold W8; rw [aj6 (by omega) (by omega), a78 (by omega)] <;> rfl) (by show _ = mR [0, 1, 2, 3, 4, 7, 6, 8, 9] (W7 b vs ars bd d j); unfold W7; rw [aj6 (by omega) (by omega), a78 (by omega)] <;> rfl)
     · have q11 := eq_of_beq h11; exact False.elim (by omega)
    · have q10 := eq_of_beq h10; exact False.elim (by omega)
   ·
    refine wp_seq (m5 G (t5 4 [0, 1] (P2 b (j + 1) ((ars.length : Int)) (by omega) (by omega))) (rg 8) (.box [.ref 1, iA (j + 1 + 1)] :: (U6 b vs ars bd [.box [iA (nm b j L7), iA (pk b (j + 1) (ars.length : Int)), iA 0, iA 0, .v (.slice none 0 0), iA 0, iA 0, .v (.slice none 0 0), iA 0, .v (.slice none 0 0), .v (.slice none 0 0)]])) (aa8 []) fun G => b0 (wp_seq (m5 G (t5 2 (rg 5) (aA1 b (j + 1 + 1) vs ars bd (by omega) (by omega))) [0, 1, 2, 3, 4, 5, 6, 7, 24] (.box [.ref 1, iA (j + 1 + 1 + 2)] :: (U6 b vs ars bd [.box [iA (nm b j L7), iA (pk b (j + 1) (ars.length : Int)), iA (s5 b (vs.length : Int) (j + 1 + 1)).kind, iA (s5 b (vs.length : Int) (j + 1 + 1)).value, .tref 8, iA 0, iA 0, .v (.slice none 0 0), iA 0, .v (.slice none 0 0), .v (.slice none 0 0)], .tree (D.exprs (s5 b (vs.length : Int) (j + 1 + 1)).kids)])) (aa8 []) fun G => b0 (m5 G (t5 2 (rg 5) (ah3 b vs ars bd (j + 1 + 1 + 2) (by omega) (by omega))) [0, 1, 2, 3, 4, 6, 7, 8, 25] (.box [.ref 1, iA (x5 b vs.length ars.length (j + 1 + 1 + 2)).snd] :: dY b :: dI vs :: dI ars :: dT bd :: at2 :: .box [iA (nm b j L7), iA (pk b (j + 1) (ars.length : Int)), iA (s5 b (vs.length : Int) (j + 1 + 1)).kind, iA (s5 b (vs.length : Int) (j + 1 + 1)).value, .tref 7, iA (x5 b vs.length ars.length (j + 1 + 1 + 2)).fst.kind, iA (x5 b vs.length ars.length (j + 1 + 1 + 2)).fst.value, .tref 8, iA 0, .v (.slice none 0 0), .v (.slice none 0 0)] :: (bj4 b vs ars j [])) [(6, .ptr 5 0), (8, .ptr 6 0)] fun G => r7 (b0 (wp_seq (m5 G i7 [0, 1, 2, 3, 4, 5, 7, 8] (.box [.ref 1, iA (x5 b vs.length ars.length (j + 1 + 1 + 2)).snd] :: dY b :: dI vs :: dI ars :: dT bd :: .box [iA (nm b j L7), iA (pk b (j + 1) (ars.length : Int)), iA (s5 b (vs.length : Int) (j + 1 + 1)).kind, iA (s5 b (vs.length : Int) (j + 1 + 1)).value, .tref 6, iA (x5 b vs.length ars.length (j + 1 + 1 + 2)).fst.kind, iA (x5 b vs.length ars.length (j + 1 + 1 + 2)).fst.value, .tref 7, iA 0, .v (.slice none 0 0), .v (.slice none 0 0)] :: (bj4 b vs ars j [])) [(6, .ptr 5 0)] fun G => b0 (wp_ret ?_)))))))); obtain ⟨ρ, G⟩ := G.nilT 8 (.stmts []) (.box [.ref 1, iA (x5 b vs.length ars.length (j + 1 + 1 + 2)).snd] :: dY b :: dI vs :: dI ars :: dT bd :: .box [iA (nm b j L7), iA (pk b (j + 1) (ars.length : Int)), iA (s5 b (vs.length : Int) (j + 1 + 1)).kind, iA (s5 b (vs.length : Int) (j + 1 + 1)).value, .tref 6, iA (x5 b vs.length ars.length (j + 1 + 1 + 2)).fst.kind, iA (x5 b vs.length ars.length (j + 1 + 1 + 2)).fst.value, .tref 7, iA 0, .tref 8, .v (.slice none 0 0)] :: (bj4 b vs ars j [])) [(6, .ptr 5 0)]; obtain ⟨ρ, G⟩ := G.nilT 9 (.stmts []) (.box [.ref 1, iA (x5 b vs.length ars.length (j + 1 + 1 + 2)).snd] :: dY b :: dI vs :: dI ars :: dT bd :: .box [iA (nm b j L7), iA (pk b (j + 1) (ars.length : Int)), iA (s5 b (vs.length : Int) (j + 1 + 1)).kind, iA (s5 b (vs.length : Int) (j + 1 + 1)).value, .tref 6, iA (x5 b vs.length ars.length (j + 1 + 1 + 2)).fst.kind, iA (x5 b vs.length ars.length (j + 1 + 1 + 2)).fst.value, .tref 7, iA 0, .tref 8, .tref 9] :: (bj4 b vs ars j [.tree (D.stmts [])])) [(6, .ptr 5 0)]
    exact X8 (.agg [iA (nm b j L7), iA (pk b (j + 1) (ars.length : Int)), iA (s5 b (vs.length : Int) (j + 1 + 1)).kind, iA (s5 b (vs.length : Int) (j + 1 + 1)).value, .tref 6, iA (x5 b vs.length ars.length (j + 1 + 1 + 2)).fst.kind, iA (x5 b vs.length ars.length (j + 1 + 1 + 2)).fst.value, .tref 7, iA 0, .tref 8, .tref 9]) G [0, 1, 2, 3, 4, 6, 7, 8, 9] (by show _ = AV.ren (nth [0, 1, 2, 3, 4, 6, 7, 8, 9]) (W8 b vs ars d j); unfold W8; have e1 : ((C8 b vs.length ars.length d j).fst.kind : Int) = (nm b j L7) := (by rw [bx9 (by omega) (by omega)]; show (2 : Int) = _; omega); rw [e1, bx9 (by omega) (by omega)] <;> rfl) (by show _ = mR [0, 1, 2, 3, 4, 6, 7, 8, 9] (W7 b vs ars bd d j); unfold W7; rw [bx9 (by omega) (by omega)] <;> rfl)
theorem a99 (b : List UInt8) (vs ars : List Int) (bd : List b5) (d : Nat) (h : ∀ (j n : Int), n = d → 0 ≤ j → j + cS d ≤ 600000000 → m7.ok Tryz.prog (dsC b vs ars bd d j n)) (m : Nat) (j n c B : Int) (hn : n = d) (hm : c = m) (hm2 : m ≤ 4) (hB : (m : Int) * cS d ≤ B) (r0 : 0 ≤ j) (r1 : j + B ≤ 600000000) : m7.ok Tryz.prog (dbC b vs ars bd d m j n c) :=
 bJ7 b vs ars bd d m h j n c hn hm hm2 B hB r0 r1
theorem bE9 (b : List UInt8) (vs ars : List Int) (bd : List b5) : ∀ (d : Nat), d ≤ 3 → ∀ (j n : Int), n = d → 0 ≤ j → j + cS d ≤ 600000000 → m7.ok Tryz.prog (dsC b vs ars bd d j n)
 | 0, hd, j, n, hn, r0, r1 => by6 b vs ars bd 0 (by omega) (fun j n c h => absurd h (by omega)) j n hn r0 r1
 | d + 1, hd, j, n, hn, r0, r1 => by6 b vs ars bd (d + 1) hd (fun j n c h hn h0 h2 r0 r1 => a99 b vs ars bd d (bE9 b vs ars bd d (by omega)) c.toNat j n c (2 * cS d) (by omega) (by omega) (by omega) (b01 h0 h2 (Int.le_trans (by decide) (aC6 d))) r0 (by simpa using r1)) j n hn r0 r1
theorem b27 : cS 3 = 34170 := by decide
theorem bW5 (b : List UInt8) (vs ars : List Int) (bd : List b5) (j n c : Int) (hn : n = 3) (h0 : 0 ≤ c) (h4 : c ≤ 4) (r0 : 0 ≤ j) (r1 : j ≤ 100000000) : m7.ok Tryz.prog (dbC b vs ars bd 3 c.toNat j n c) :=
 a99 b vs ars bd 3 (bE9 b vs ars bd 3 (by omega)) c.toNat j n c (4 * cS 3) (by omega) (by omega) (by omega) (b57 h0 h4 (by rw [b27]; decide)) r0 (by rw [b27]; omega)
abbrev pgC (b : List UInt8) (j : Int) : m7 := ⟨123, [.ptr 0 0], [.box [.ref 1, iA j], dY b], [.box [.ref 1, iA (bdD b j).2], dY b] ++ oP (pgD b j), oA 2⟩
theorem bm3 {b : List UInt8} {l : List Int} {n i p : Int} (h : i > 0) (h2 : i ≤ n) : nsD b l (n - (i - 1)).toNat p = nsD b l (n - i).toNat p ++ [nm b (p + (n - i)) l] := by
 rw [show (n - (i - 1)).toNat = (n - i).toNat + 1 by omega, bB4, show (((n - i).toNat : Nat) : Int) = n - i by omega]
theorem bm2 {b : List UInt8} {l : List Int} {n p : Int} : nsD b l (n - n).toNat p = [] := by rw [Int.sub_self]; rfl
theorem aE1 (vs ars : List Int) (bd : List b5) (hb : p7 bd ≤ 1048576) : m7.ok Tryz.prog (N1 62 [pA 0] [dI vs, dI ars, dT bd] (bA (n4 ⟨vs, ars, bd⟩))) := S5 ⟨vs, ars, bd⟩ hb
theorem b49 {b : List UInt8} {j : Int} (h : n4 ⟨vsD b j, asD b j, (I1 (C8 b (vsD b j).length (asD b j).length 3) (nm b (kp2 b j) nbL).toNat (kp2 b j + 1)).1⟩ = true) : pgD b j = ⟨vsD b j, asD b j, (bdD b j).1⟩ := if_pos h
theorem b48 {b : List UInt8} {j : Int} (h : n4 ⟨vsD b j, asD b j, (I1 (C8 b (vsD b j).length (asD b j).length 3) (nm b (kp2 b j) nbL).toNat (kp2 b j + 1)).1⟩ = false) : pgD b j = fbP := if_neg (by intro h2; have h3 : n4 ⟨vsD b j, asD b j, (I1 (C8 b (vsD b j).length (asD b j).length 3) (nm b (kp2 b j) nbL).toNat (kp2 b j + 1)).1⟩ = true := h2; rw [h] at h3; cases h3)
theorem bZ1 (b : List UInt8) (j : Int) : j + 1 + (nm b j nvL - 0) = J3 b j := by unfold J3; omega
theorem bZ0 (b : List UInt8) (j : Int) : nsD b viL (nm b j nvL - 0).toNat (j + 1) = vsD b j := by unfold vsD; rw [Int.sub_zero]
theorem bY9 (b : List UInt8) (j : Int) : J3 b j + 1 + (nm b (J3 b j) naL - 0) = kp2 b j := by unfold kp2; omega
theorem bY8 (b : List UInt8) (j : Int) : nsD b aiL (nm b (J3 b j) naL - 0).toNat (J3 b j + 1) = asD b j := by unfold asD; rw [Int.sub_zero]
abbrev aA9 (b : List UInt8) (j : Int) := I1 (C8 b (vsD b j).length (asD b j).length 3) (nm b (kp2 b j) nbL).toNat (kp2 b j + 1)
abbrev bk0 (b : List UInt8) (j : Int) : List It := [.box [.ref 1, iA (bdD b j).snd], dY b, .row 3 (D.ints (pgD b j).vars), .row 3 (D.ints (pgD b j).arrays), .tree (D.stmts (pgD b j).body)]
abbrev U7 : It := .box [.v (.slice none 0 0), .v (.slice none 0 0), .v (.slice none 0 0)]
abbrev a19 : It := .box [.ref 4, .v (.slice none 0 0), .v (.slice none 0 0)]
abbrev bw3 : It := .tree (D.stmts [b5.mk 1 1 (d7.mk 0 0 []) (d7.mk 2 0 []) 0 [] []])
theorem a95 (b : List UInt8) (j : Int) (r0 : 0 ≤ j) (r1 : j ≤ 10000000) : m7.ok Tryz.prog (pgC b j) := by
  refine H8 52 Tryz.func123 [.box [.ref 1, iA j], dY b] [(0, .ptr 0 0)] fun G => ?_; have hnv := bT7 b r0 (by omega); have hk1 := bC5 b r0 r1; have hk2 := bm9 b r0 r1; have hna := bU0 b (k := J3 b j) (by omega) (by omega); have hnb := bZ9 b (k := kp2 b j) (by omega) (by omega); have hvl := bw5 b r0 r1; have hal := bH7 b r0 r1; have hbd := bp8 b r0 r1; have hbs : p7 (I1 (C8 b (vsD b j).length (asD b j).length 3) (nm b (kp2 b j) nbL).toNat (kp2 b j + 1)).1 ≤ 1048576 := cb5 hbd.2.2 (by omega); refine wp_seq (m5 G i7 [0, 1, 2] [.box [.ref 1, iA j], dY b, U7] [(0, .ptr 0 0), (2, .ptr 2 0)] fun G => b0 (wp_seq (m5 G i7 [0, 1, 2, 11] [.box [.ref 1, iA j], dY b, U7, U7] [(0, .ptr 0 0), (2, .ptr 2 0), (3, .ptr 3 0)] fun G => b0 (wp_seq (wp_seq (m5 G (t5 2 [0, 1, 12] (m7.lend (T6 b j nvL (List.cons_ne_nil _ _) (by assumption) (by omega)) [.no, .no, .row 3])) (rg 4) [.box [.ref 1, iA (j + 1)], dY b, U7, U7] [(0, .ptr 0 0), (2, .ptr 2 0), (3, .ptr 3 0), (4, iA (nm b j nvL))] fun G => b0 (wp_block ?_))))))); have Gx := G.nil 4 3 (.ints []) 1 [.box [.ref 1, iA (j + 1)], dY b, U7, a19] [(0, .ptr 0 0), (2, .ptr 2 0), (3, .ptr 3 0), (4, iA (nm b j nvL))]; clear G; obtain ⟨ρ, G⟩ := Gx; replace G := x8.at G [.box [.ref 1, iA (j + 1)], dY b, U7, a19, .row 3 (D.ints [])] [(0, .ptr 0 0), (2, .ptr 2 0), (3, .ptr 3 0), (4, iA (nm b j nvL))]; replace G := G.as [.box [.ref 1, iA (j + 1 + (nm b j nvL - nm b j nvL))], dY b, .box [.v (.slice none 0 0), .v (.slice none 0 0), .v (.slice none 0 0)], .box [.ref 4, .v (.slice none 0 0), .v (.slice none 0 0)], .row 3 (D.ints (nsD b viL (nm b j nvL - nm b j nvL).toNat (j + 1)))] [(0, .ptr 0 0), (2, .ptr 2 0), (3, .ptr 3 0), (4, iA (nm b j nvL))] (by have e1 : (j + 1 + (nm b j nvL - nm b j nvL) : Int) = (j + 1) := (by omega); have e2 : (nsD b viL (nm b j nvL - nm b j nvL).toNat (j + 1) : List Int) = ([]) := bm2; (first | rw [e1, e2] | simp only [e1, e2]) <;> rfl) (by kernel_rfl); refine y9 (κ := Int) (fun i => 0 ≤ i ∧ i ≤ nm b j nvL) (fun i => i.toNat) (fun i => [.box [.ref 1, iA (j + 1 + (nm b j nvL - i))], dY b, .box [.v (.slice none 0 0), .v (.slice none 0 0), .v (.slice none 0 0)], .box [.ref 4, .v (.slice none 0 0), .v (.slice none 0 0)], .row 3 (.ints (nsD b viL (nm b j nvL - i).toNat (j + 1)))]) (fun i => [(0, .ptr 0 0), (2, .ptr 2 0), (3, .ptr 3 0), (4, iA i)]) (nm b j nvL) (by omega) (x8.at G _ _) ?_; clear G; intro i ρ a w hp G; replace G := x8.at G [.box [.ref 1, iA (j + 1 + (nm b j nvL - i))], dY b, U7, a19, .row 3 (D.ints (nsD b viL (nm b j nvL - i).toNat (j + 1)))] [(0, .ptr 0 0), (2, .ptr 2 0), (3, .ptr 3 0), (4, iA i)]; have hlen : (nsD b viL (nm b j nvL - i).toNat (j + 1)).length = (nm b j nvL - i).toNat := an1 _ _ _ _; refine wp_seq (wp_seq (K8 G i7 [(0, .ptr 0 0), (2, .ptr 2 0), (3, .ptr 3 0), (4, iA i), (11, bA (decide (i > 0)))] fun G => b0 ?_)); cases h0 : (decide (i > 0))
  ·
   have q0 := dFf h0
   obtain rfl : i = 0 := by omega
   rw [bZ1, bZ0] at G; refine rF G false (by kernel_rfl) (wp_exit (y7 (y7 (y6 (b0 (wp_seq (wp_seq (m5 G (t5 2 [0, 1, 13] (m7.lend (T6 b (J3 b j) naL (by simp [h0]) (by omega) (by omega)) [.no, .no, .row 3])) (rg 5) [.box [.ref 1, iA (J3 b j + 1)], dY b, U7, a19, .row 3 (D.ints (vsD b j))] [(0, .ptr 0 0), (2, .ptr 2 0), (3, .ptr 3 0), (5, iA (nm b (J3 b j) naL))] fun G => b0 (wp_block ?_))))))))); have Gx := G.nil 5 3 (.ints []) 1 [.box [.ref 1, iA (J3 b j + 1)], dY b, U7, .box [.ref 4, .ref 5, .v (.slice none 0 0)], .row 3 (D.ints (vsD b j))] [(0, .ptr 0 0), (2, .ptr 2 0), (3, .ptr 3 0), (5, iA (nm b (J3 b j) naL))]; clear G; obtain ⟨ρ, G⟩ := Gx; replace G := x8.at G [.box [.ref 1, iA (J3 b j + 1)], dY b, U7, .box [.ref 4, .ref 5, .v (.slice none 0 0)], .row 3 (D.ints (vsD b j)), .row 3 (D.ints [])] [(0, .ptr 0 0), (2, .ptr 2 0), (3, .ptr 3 0), (5, iA (nm b (J3 b j) naL))]; have Gx := G.nilT 6 (.stmts []) [.box [.ref 1, iA (J3 b j + 1)], dY b, U7, .box [.ref 4, .ref 5, .tref 6], .row 3 (D.ints (vsD b j)), .row 3 (D.ints [])] [(0, .ptr 0 0), (2, .ptr 2 0), (3, .ptr 3 0), (5, iA (nm b (J3 b j) naL))]; clear G; obtain ⟨ρ, G⟩ := Gx; replace G := x8.at G [.box [.ref 1, iA (J3 b j + 1)], dY b, U7, .box [.ref 4, .ref 5, .tref 6], .row 3 (D.ints (vsD b j)), .row 3 (D.ints []), .tree (D.stmts [])] [(0, .ptr 0 0), (2, .ptr 2 0), (3, .ptr 3 0), (5, iA (nm b (J3 b j) naL))]; replace G := G.as [.box [.ref 1, iA (J3 b j + 1 + (nm b (J3 b j) naL - nm b (J3 b j) naL))], dY b, .box [.v (.slice none 0 0), .v (.slice none 0 0), .v (.slice none 0 0)], .box [.ref 4, .ref 5, .tref 6], .row 3 (D.ints (vsD b j)), .row 3 (D.ints (nsD b aiL (nm b (J3 b j) naL - nm b (J3 b j) naL).toNat (J3 b j + 1))), .tree (D.stmts [])] [(0, .ptr 0 0), (2, .ptr 2 0), (3, .ptr 3 0), (5, iA (nm b (J3 b j) naL))] (by have e1 : (J3 b j + 1 + (nm b (J3 b j) naL - nm b (J3 b j) naL) : Int) = (J3 b j + 1) := (by simp [h0]); have e2 : (nsD b aiL (nm b (J3 b j) naL - nm b (J3 b j) naL).toNat (J3 b j + 1) : List Int) = ([]) := bm2; (first | rw [e1, e2] | simp only [e1, e2]) <;> rfl) (by kernel_rfl); refine y9 (κ := Int) (fun i2 => 0 ≤ i2 ∧ i2 ≤ nm b (J3 b j) naL) (fun i2 => i2.toNat) (fun i2 => [.box [.ref 1, iA (J3 b j + 1 + (nm b (J3 b j) naL - i2))], dY b, .box [.v (.slice none 0 0), .v (.slice none 0 0), .v (.slice none 0 0)], .box [.ref 4, .ref 5, .tref 6], .row 3 (D.ints (vsD b j)), .row 3 (.ints (nsD b aiL (nm b (J3 b j) naL - i2).toNat (J3 b j + 1))), .tree (D.stmts [])]) (fun i2 => [(0, .ptr 0 0), (2, .ptr 2 0), (3, .ptr 3 0), (5, iA i2)]) (nm b (J3 b j) naL) (by omega) (x8.at G _ _) ?_; clear G; intro i2 ρ a w hp G; replace G := x8.at G [.box [.ref 1, iA (J3 b j + 1 + (nm b (J3 b j) naL - i2))], dY b, U7, .box [.ref 4, .ref 5, .tref 6], .row 3 (D.ints (vsD b j)), .row 3 (D.ints (nsD b aiL (nm b (J3 b j) naL - i2).toNat (J3 b j + 1))), .tree (D.stmts [])] [(0, .ptr 0 0), (2, .ptr 2 0), (3, .ptr 3 0), (5, iA i2)]; have hlen : (nsD b aiL (nm b (J3 b j) naL - i2).toNat (J3 b j + 1)).length = (nm b (J3 b j) naL - i2).toNat := an1 _ _ _ _; refine wp_seq (wp_seq (K8 G i7 [(0, .ptr 0 0), (2, .ptr 2 0), (3, .ptr 3 0), (5, iA i2), (26, bA (decide (i2 > 0)))] fun G => b0 ?_)); cases h1 : (decide (i2 > 0))
   ·
    have q1 := dFf h1
    obtain rfl : i2 = 0 := by omega
    rw [bY9, bY8] at G; refine rF G false (by kernel_rfl) (wp_exit (y7 (y7 (y6 (b0 (wp_seq (aX4 G (B8 ⟨[(4, _, [0, 1, 31]), (5, _, [0, 1, 4, 5, 6])], [], []⟩ (b9 (m7.lend (T6 b (kp2 b j) nbL (by simp [h0, h1]) (by omega) (by omega)) [.no, .no, .row 3]) (b9 (m7.lend (bW5 b (vsD b j) (asD b j) ([]) (kp2 b j + 1) 3 (nm b (kp2 b j) nbL) (by kernel_rfl) (by omega) (by omega) (by omega) (by omega)) [.no, .no, .row 3, .row 3, .tree]) d8)) b91) [0, 0, 0, 0, 12, 31, 63, 127] [0, 1, 2, 3, 4, 5, 47] [.box [.ref 1, iA (aA9 b j).snd], dY b, U7, .box [.ref 4, .ref 5, .tref 6], .row 3 (D.ints (vsD b j)), .row 3 (D.ints (asD b j)), .tree (D.stmts (aA9 b j).fst)] [(2, .ptr 2 0), (3, .ptr 3 0)] fun G => b0 (wp_seq (wp_seq (l8 G (t5 1 [4, 5, 6] (m7.lend (aE1 (vsD b j) (asD b j) ((I1 (C8 b (vsD b j).length (asD b j).length 3) (nm b (kp2 b j) nbL).toNat (kp2 b j + 1)).fst) (by assumption)) [.row 3, .row 3, .tree])) [(45, bA (n4 (f7.mk (vsD b j) (asD b j) (aA9 b j).fst)))] fun G => b0 (rcB (b := n4 (f7.mk (vsD b j) (asD b j) (I1 (C8 b (vsD b j).length (asD b j).length (3 : Nat)) (nm b (kp2 b j) nbL).toNat (kp2 b j + 1)).fst)) G (fun h2 => ?_) fun h2 => ?_)))))))))))
    · refine wp_skip (b0 (wp_seq (m5 G i7 [0, 1, 2, 7, 31] [.box [.ref 1, iA (aA9 b j).snd], dY b, .box [.ref 3, .v (.slice none 0 0), .tref 4], .row 3 (D.ints ([0] ++ ([1] ++ []))), bw3] [(2, .ptr 2 0)] fun G => b0 (wp_ret ?_)))); have Gx := G.nil 5 3 (.ints []) 1 [.box [.ref 1, iA (aA9 b j).snd], dY b, .box [.ref 3, .ref 5, .tref 4], .row 3 (D.ints ([0] ++ ([1] ++ []))), bw3] [(2, .ptr 2 0)]; clear G; obtain ⟨ρ, G⟩ := Gx; replace G := x8.at G [.box [.ref 1, iA (aA9 b j).snd], dY b, .box [.ref 3, .ref 5, .tref 4], .row 3 (D.ints ([0] ++ ([1] ++ []))), bw3, .row 3 (D.ints [])] [(2, .ptr 2 0)]; exact Q9 G [0, 1, 3, 5, 4] (by show _ = mR [0, 1, 3, 5, 4] (bk0 b j); unfold bk0; rw [b48 (by with_reducible assumption)] <;> rfl)
    · refine wp_seq (m5 G i7 [0, 1, 2, 4, 5, 6] [.box [.ref 1, iA (aA9 b j).snd], dY b, .box [.ref 3, .ref 4, .tref 5], .row 3 (D.ints (vsD b j)), .row 3 (D.ints (asD b j)), .tree (D.stmts (aA9 b j).fst)] [(2, .ptr 2 0)] fun G => b0 (wp_ret (m8 ?_))); exact Q9 G [0, 1, 3, 4, 5] (by show _ = mR [0, 1, 3, 4, 5] (bk0 b j); unfold bk0; rw [b49 (by with_reducible assumption)] <;> rfl)
   · have q1 := dTt h1; refine rT G _ h1 (wp_skip (b0 (wp_seq (wp_block (R5 G (t5 4 [0, 1, 31] (m7.lend (T6 b (J3 b j + 1 + (nm b (J3 b j) naL - i2)) aiL (by simp [h0, h1]) (by omega) (by omega)) [.no, .no, .row 3])) [0, 1, 0, 0, 12, 28, 63, 127, 255] [0, 1, 2, 3, 4, 6, 55] [.box [.ref 1, iA (J3 b j + 1 + (nm b (J3 b j) naL - i2) + 1)], dY b, U7, .box [.ref 4, .ref 6, .tref 5], .row 3 (D.ints (vsD b j)), .tree (D.stmts []), .row 3 (D.ints (nsD b aiL (nm b (J3 b j) naL - i2).toNat (J3 b j + 1) ++ ([nm b (J3 b j + 1 + (nm b (J3 b j) naL - i2)) aiL] ++ [])))] [(0, .ptr 0 0), (2, .ptr 2 0), (3, .ptr 3 0), (5, iA i2)] (aP ((nsD b aiL (nm b (J3 b j) naL - i2).toNat (J3 b j + 1)).length + ([nm b (J3 b j + 1 + (nm b (J3 b j) naL - i2)) aiL] ++ []).length) 8 []) (aK (by simp only [b83, b84, b86, an1]; omega) b91) fun G => r7 (b0 (K7 G i7 [(5, iA (i2 - 1))] [wO (i2 - 1)] (o1 (by omega)) fun G => b0 ?_))))))); exact rxn G (i2 - 1) (by omega) (by omega) [0, 1, 2, 3, 4, 6, 5] (by have e1 : (J3 b j + 1 + (nm b (J3 b j) naL - (i2 - 1)) : Int) = (J3 b j + 1 + (nm b (J3 b j) naL - i2) + 1) := (by omega); have e2 : (nsD b aiL (nm b (J3 b j) naL - (i2 - 1)).toNat (J3 b j + 1) : List Int) = (nsD b aiL (nm b (J3 b j) naL - i2).toNat (J3 b j + 1) ++ ([nm b (J3 b j + 1 + (nm b (J3 b j) naL - i2)) aiL] ++ [])) := (bm3 (by omega) (by omega)); (first | rw [e1, e2] | simp only [e1, e2]) <;> rfl)
  · have q0 := dTt h0; refine rT G _ h0 (wp_skip (b0 (wp_seq (wp_block (R5 G (t5 4 [0, 1, 29] (m7.lend (T6 b (j + 1 + (nm b j nvL - i)) viL (by simp [h0]) (by omega) (by omega)) [.no, .no, .row 3])) [0, 1, 0, 0, 12, 28, 63, 127, 255] [0, 1, 2, 3, 53] [.box [.ref 1, iA (j + 1 + (nm b j nvL - i) + 1)], dY b, U7, a19, .row 3 (D.ints (nsD b viL (nm b j nvL - i).toNat (j + 1) ++ ([nm b (j + 1 + (nm b j nvL - i)) viL] ++ [])))] [(0, .ptr 0 0), (2, .ptr 2 0), (3, .ptr 3 0), (4, iA i)] (aP ((nsD b viL (nm b j nvL - i).toNat (j + 1)).length + ([nm b (j + 1 + (nm b j nvL - i)) viL] ++ []).length) 8 []) (aK (by simp only [b83, b84, b86, an1]; omega) b91) fun G => r7 (b0 (K7 G i7 [(4, iA (i - 1))] [wO (i - 1)] (o1 (by omega)) fun G => b0 ?_))))))); exact rxn G (i - 1) (by omega) (by omega) (rg 5) (by have e1 : (j + 1 + (nm b j nvL - (i - 1)) : Int) = (j + 1 + (nm b j nvL - i) + 1) := (by omega); have e2 : (nsD b viL (nm b j nvL - (i - 1)).toNat (j + 1) : List Int) = (nsD b viL (nm b j nvL - i).toNat (j + 1) ++ ([nm b (j + 1 + (nm b j nvL - i)) viL] ++ [])) := (bm3 (by omega) (by omega)); (first | rw [e1, e2] | simp only [e1, e2]) <;> rfl)
abbrev mtC (b : List UInt8) (p : f7) (j : Int) : m7 := ⟨55, [.ptr 0 0, pA 2], [.box [.ref 1, iA j], dY b] ++ pS p, [.box [.ref 1, iA (mtD b p j).2], dY b] ++ pS p ++ oP (mtD b p j).1, oA 5⟩
section
variable {b : List UInt8} {p : f7} {j : Int}
theorem b58 (h : pk b j 60 = 0) (h1 : (p.vars.length : Int) > 0) : mtD b p j = (⟨p.vars.set 0 (l1D b (j + 1)), p.arrays, p.body⟩, j + 1 + 2) := by
 rw [mtD, if_pos h, if_pos (by omega)]
theorem b59 (h : pk b j 60 = 1) : mtD b p j = (⟨p.vars ++ b82 (13 - p.vars.length) 1, p.arrays, p.body⟩, j + 1) := by
 rw [mtD, if_neg (by omega), if_pos h]
theorem b64 (h : pk b j 60 = 2) (h1 : (p.body.length : Int) > 0) : mtD b p j = (⟨p.vars, p.arrays, p.body.set 0 (kdS (p.body.getD 0 b81) (nm b (j + 1) m2L))⟩, j + 1 + 1) := by
 rw [mtD, if_neg (by omega), if_neg (by omega), if_pos h, if_pos (by omega)]
theorem b63 (h : pk b j 60 = 3) (h1 : (p.body.length : Int) > 0) : mtD b p j = (⟨p.vars, p.arrays, p.body.set ((p.body.length : Int) - 1).toNat (tgS (p.body.getD ((p.body.length : Int) - 1).toNat b81) (nm b (j + 1) m3L))⟩, j + 1 + 1) := by
 rw [mtD, if_neg (by omega), if_neg (by omega), if_neg (by omega), if_pos h, if_pos (by omega)]
theorem b62 (h : pk b j 60 = 4) (h1 : (p.body.length : Int) > 0) : mtD b p j = (⟨p.vars, p.arrays, p.body.set 0 (vvS (p.body.getD 0 b81) (nm b (j + 1) m4L))⟩, j + 1 + 1) := by
 rw [mtD, if_neg (by omega), if_neg (by omega), if_neg (by omega), if_neg (by omega), if_pos h, if_pos (by omega)]
theorem b61 (h : pk b j 60 = 5) (h1 : (p.body.length : Int) > 0) : mtD b p j = (⟨p.vars, p.arrays, p.body.set 0 (ctS (p.body.getD 0 b81) (nm b (j + 1) m5L))⟩, j + 1 + 1) := by
 rw [mtD, if_neg (by omega), if_neg (by omega), if_neg (by omega), if_neg (by omega), if_neg (by omega), if_pos h, if_pos (by omega)]
theorem b60 (h : pk b j 60 = 6) : mtD b p j = (⟨[], [], []⟩, j + 1) := by
 rw [mtD, if_neg (by omega), if_neg (by omega), if_neg (by omega), if_neg (by omega), if_neg (by omega), if_neg (by omega), if_pos h]
theorem bs2 (h : (pk b j 60 = 0 ∧ ¬ (p.vars.length : Int) > 0) ∨ ((pk b j 60 = 2 ∨ pk b j 60 = 3 ∨ pk b j 60 = 4 ∨ pk b j 60 = 5) ∧ ¬ (p.body.length : Int) > 0) ∨ (¬ pk b j 60 = 0 ∧ ¬ pk b j 60 = 1 ∧ ¬ pk b j 60 = 2 ∧ ¬ pk b j 60 = 3 ∧ ¬ pk b j 60 = 4 ∧ ¬ pk b j 60 = 5 ∧ ¬ pk b j 60 = 6)) : mtD b p j = (p, j + 1) := by
 unfold mtD
 (repeat' split) <;> first | rfl | (exfalso; omega)
theorem bz8 {k : Nat} : p.vars ++ b82 (k + 1) 1 = (p.vars ++ b82 k 1) ++ [1] := by
 rw [List.replicate_succ', cc0]
theorem b02 {k : Nat} (h : pk b j 60 = 1) (h1 : k ≤ 13 - p.vars.length) (h2 : ¬ (((p.vars ++ b82 k (1 : Int)).length : Nat) : Int) ≤ 12) : mtD b p j = (⟨p.vars ++ b82 k 1, p.arrays, p.body⟩, j + 1) := by
 simp only [b83, b87] at h2
 rw [b59 h, show 13 - p.vars.length = k by omega]
end
abbrev aR6 (p : f7) := p.body.getD ((p.body.length : Int) - 1).toNat b81
abbrev H9 (b : List UInt8) (p : f7) (j : Int) : List It := [.box [.ref 1, iA (mtD b p j).snd], dY b, dI p.vars, dI p.arrays, dT p.body, .row 3 (D.ints (mtD b p j).fst.vars), .row 3 (D.ints (mtD b p j).fst.arrays), .tree (D.stmts (mtD b p j).fst.body)]
abbrev a18 : It := .box [.v (.slice none 0 0), .v (.slice none 0 0), .v (.slice none 0 0)]
abbrev bQ1 (b : List UInt8) (p : f7) (j : Int) : It := .tree (D.stmts (p.body.set 0 (b5.mk (p.body.getD 0 b81).kind (p.body.getD 0 b81).target (p.body.getD 0 b81).index (d7.mk (p.body.getD 0 b81).value.kind (nm b (j + 1) m4L) (p.body.getD 0 b81).value.kids) (p.body.getD 0 b81).count (p.body.getD 0 b81).body (p.body.getD 0 b81).els)))
abbrev aj0 : It := .box [.ref 6, .ref 7, .tref 8]
abbrev bQ0 (b : List UInt8) (p : f7) (j : Int) : It := .tree (D.stmts (p.body.set 0 (b5.mk (nm b (j + 1) m2L) (p.body.getD 0 b81).target (p.body.getD 0 b81).index (p.body.getD 0 b81).value (p.body.getD 0 b81).count (p.body.getD 0 b81).body (p.body.getD 0 b81).els)))
abbrev bP9 (b : List UInt8) (p : f7) (j : Int) : It := .tree (D.stmts (p.body.set 0 (b5.mk (p.body.getD 0 b81).kind (p.body.getD 0 b81).target (p.body.getD 0 b81).index (p.body.getD 0 b81).value (nm b (j + 1) m5L) (p.body.getD 0 b81).body (p.body.getD 0 b81).els)))
abbrev bP8 (b : List UInt8) (p : f7) (j : Int) : It := .tree (D.stmts (p.body.set ((p.body.length : Int) - 1).toNat (b5.mk (aR6 p).kind (nm b (j + 1) m3L) (aR6 p).index (aR6 p).value (aR6 p).count (aR6 p).body (aR6 p).els)))
abbrev ao5 (b : List UInt8) (p : f7) (r0 : List It) : List It := dY b :: dI p.vars :: dI p.arrays :: dT p.body :: aj0 :: .row 3 (D.ints p.vars) :: .row 3 (D.ints p.arrays) :: r0
abbrev aQ9 (p : f7) (r0 : List It) : List It := dI p.vars :: dI p.arrays :: dT p.body :: a18 :: .row 3 (D.ints p.vars) :: .row 3 (D.ints p.arrays) :: r0
abbrev as6 (p : f7) (r0 : List It) : List It := .row 3 (D.ints p.arrays) :: .tree (D.stmts p.body) :: r0
abbrev aH1 (b : List UInt8) (p : f7) (j : Int) (r0 : List It) : List It := .box [.ref 1, iA (j + 1)] :: dY b :: dI p.vars :: dI p.arrays :: dT p.body :: r0
abbrev bj3 (b : List UInt8) (p : f7) (j : Int) (r0 : List (Nat × AV)) : List (Nat × AV) := (0, .ptr 0 0) :: (4, .ptr 5 0) :: (5, .ptr 9 0) :: (6, iA (p.body.length : Int)) :: (13, iA (pk b j 60)) :: r0
theorem aO4 (b : List UInt8) (p : f7) (j : Int) (hb : p.size ≤ 1000000) (r0 : 0 ≤ j) (r1 : j ≤ 100000000) : m7.ok Tryz.prog (mtC b p j) := by
  refine H8 87 Tryz.func55 [.box [.ref 1, iA j], dY b, dI p.vars, dI p.arrays, dT p.body] [(0, .ptr 0 0), (1, pA 2)] fun G => ?_
  have hb1 : p.vars.length ≤ 1048576 ∧ p.arrays.length ≤ 1048576 ∧ p7 p.body ≤ 1048576 := by unfold f7.size at hb; omega
  have hb2 : p.body.length ≤ 1048576 := cb5 (Z1 _) hb1.2.2; refine wp_seq (m5 G i7 [0, 1, 2, 3, 4, 5, 13] [.box [.ref 1, iA j], dY b, dI p.vars, dI p.arrays, dT p.body, .box (pL 2), a18] [(0, .ptr 0 0), (3, .ptr 5 0), (4, .ptr 6 0)] fun G => b0 (wp_seq (m5 G (t5 1 [2, 3, 4] (az9 p.vars p.arrays p.body (cb5 hb (by omega)))) [0, 1, 2, 3, 4, 6, 15, 16, 17, 23] (.box [.ref 1, iA j] :: dY b :: (aQ9 p [.tree (D.stmts p.body), aj0])) [(0, .ptr 0 0), (4, .ptr 5 0), (5, .ptr 9 0)] fun G => b0 (wp_seq (l8 G i7 [(6, iA (p.body.length : Int))] fun G => b0 (wp_seq (wp_seq (m5 G (t5 1 [0, 1] (P2 b j 60 (by assumption) (by simp only [b83, b87, b84, b86] at *; omega))) (rg 10) (.box [.ref 1, iA (j + 1)] :: dY b :: (aQ9 p [.tree (D.stmts p.body), aj0])) (bj3 b p j []) fun G => b0 (wp_block (wp_seq (l8 G i7 [(14, bA (pk b j 60 == 0))] fun G => b0 (T1 G (fun h0 q0 => ?_) fun h0 q0 => ?_))))))))))))
  ·
   refine wp_seq (K8 G i7 (bj3 b p j [(25, bA (pk b j 60 == 1))]) fun G => b0 (T1 G (fun h1 q1 => ?_) fun h1 q1 => ?_))
   ·
    refine wp_seq (l8 G i7 [(36, bA (pk b j 60 == 2))] fun G => b0 (T1 G (fun h2 q2 => ?_) fun h2 q2 => ?_))
    ·
     refine wp_seq (l8 G i7 [(47, bA (pk b j 60 == 3))] fun G => b0 (T1 G (fun h3 q3 => ?_) fun h3 q3 => ?_))
     ·
      refine wp_seq (l8 G i7 [(60, bA (pk b j 60 == 4))] fun G => b0 (T1 G (fun h4 q4 => ?_) fun h4 q4 => ?_))
      ·
       refine wp_seq (l8 G i7 [(72, bA (pk b j 60 == 5))] fun G => b0 (T1 G (fun h5 q5 => ?_) fun h5 q5 => ?_))
       ·
        refine wp_seq (l8 G i7 [(83, bA (pk b j 60 == 6))] fun G => b0 (T1 G (fun h6 q6 => ?_) fun h6 q6 => ?_))
        · refine wp_skip (r7 (b0 (wp_seq (m5 G i7 (rg 9) (.box [.ref 1, iA (j + 1)] :: (ao5 b p [.tree (D.stmts p.body)])) [(4, .ptr 5 0)] fun G => b0 (wp_ret ?_))))); exact Q9 G [0, 1, 2, 3, 4, 6, 7, 8] (by show _ = mR [0, 1, 2, 3, 4, 6, 7, 8] (H9 b p j); unfold H9; rw [bs2 (by omega)] <;> rfl)
        · refine wp_seq (K8 G i7 [(4, .ptr 5 0), (5, .ptr 9 0)] fun G => b0 (wp_ret (B7 (m8 ?_)))); obtain ⟨ρ, G⟩ := G.nil 10 3 (.ints []) 1 (aH1 b p j (.box [.ref 10, .v (.slice none 0 0), .v (.slice none 0 0)] :: .row 3 (D.ints p.vars) :: (as6 p [.box [.ref 6, .ref 7, .tref 8]]))) [(4, .ptr 5 0), (5, .ptr 9 0)]; obtain ⟨ρ, G⟩ := G.nil 11 3 (.ints []) 1 (aH1 b p j (.box [.ref 10, .ref 11, .v (.slice none 0 0)] :: .row 3 (D.ints p.vars) :: (as6 p [.box [.ref 6, .ref 7, .tref 8], .row 3 (D.ints [])]))) [(4, .ptr 5 0), (5, .ptr 9 0)]; obtain ⟨ρ, G⟩ := G.nilT 12 (.stmts []) (aH1 b p j (.box [.ref 10, .ref 11, .tref 12] :: .row 3 (D.ints p.vars) :: (as6 p [.box [.ref 6, .ref 7, .tref 8], .row 3 (D.ints []), .row 3 (D.ints [])]))) [(4, .ptr 5 0), (5, .ptr 9 0)]; exact Q9 G [0, 1, 2, 3, 4, 10, 11, 12] (by show _ = mR [0, 1, 2, 3, 4, 10, 11, 12] (H9 b p j); unfold H9; rw [b60 (by omega)] <;> rfl)
       ·
        refine wp_seq (l8 G i7 [(75, bA (decide ((p.body.length : Int) > 0)))] fun G => b0 (rcD G (fun h7 q7 => ?_) fun h7 q7 => ?_))
        · refine wp_skip (r7 (b0 (wp_seq (m5 G i7 (rg 9) (.box [.ref 1, iA (j + 1)] :: (ao5 b p [.tree (D.stmts p.body)])) [(4, .ptr 5 0)] fun G => b0 (wp_ret ?_))))); exact Q9 G [0, 1, 2, 3, 4, 6, 7, 8] (by show _ = mR [0, 1, 2, 3, 4, 6, 7, 8] (H9 b p j); unfold H9; rw [bs2 (by omega)] <;> rfl)
        · refine R5 G (t5 4 [0, 1, 34] (m7.lend (T6 b (j + 1) m5L (by simp [h0, h1, h2, h3, h4, h5, h7]) (by simp only [b83, b87, b84, b86] at *; omega) (by simp only [b83, b87, b84, b86] at *; omega)) [.no, .no, .row 3])) [0, 1, 0, 0, 12, 31, 63, 127] (rg 10) (.box [.ref 1, iA (j + 1 + 1)] :: dY b :: (aQ9 p [bP9 b p j, aj0])) [(4, .ptr 5 0), (5, .ptr 9 0)] [(0 : Int) ≤ 0, (0 : Int) < p.body.length, (0 : Nat) < p.body.length] ⟨(by simp [h0, h1, h2, h3, h4, h5, h7]), (by assumption), (by simp only [b83, b87, b84, b86] at *; omega), b91⟩ fun G => r7 (b0 (wp_seq (m5 G i7 (rg 9) (.box [.ref 1, iA (j + 1 + 1)] :: (ao5 b p [bP9 b p j])) [(4, .ptr 5 0)] fun G => b0 (wp_ret ?_)))); exact Q9 G [0, 1, 2, 3, 4, 6, 7, 8] (by show _ = mR [0, 1, 2, 3, 4, 6, 7, 8] (H9 b p j); unfold H9; rw [b61 (by omega) (by omega)] <;> rfl)
      ·
       refine wp_seq (l8 G i7 [(63, bA (decide ((p.body.length : Int) > 0)))] fun G => b0 (rcD G (fun h8 q8 => ?_) fun h8 q8 => ?_))
       · refine wp_skip (r7 (b0 (wp_seq (m5 G i7 (rg 9) (.box [.ref 1, iA (j + 1)] :: (ao5 b p [.tree (D.stmts p.body)])) [(4, .ptr 5 0)] fun G => b0 (wp_ret ?_))))); exact Q9 G [0, 1, 2, 3, 4, 6, 7, 8] (by show _ = mR [0, 1, 2, 3, 4, 6, 7, 8] (H9 b p j); unfold H9; rw [bs2 (by omega)] <;> rfl)
       · refine R5 G (t5 4 [0, 1, 34] (m7.lend (T6 b (j + 1) m4L (by simp [h0, h1, h2, h3, h4, h8]) (by simp only [b83, b87, b84, b86] at *; omega) (by simp only [b83, b87, b84, b86] at *; omega)) [.no, .no, .row 3])) [0, 1, 0, 0, 12, 31, 63, 127, 255] (rg 10) (.box [.ref 1, iA (j + 1 + 1)] :: dY b :: (aQ9 p [bQ1 b p j, aj0])) [(4, .ptr 5 0), (5, .ptr 9 0)] [(0 : Int) ≤ 0, (0 : Int) < p.body.length, (0 : Nat) < p.body.length] ⟨(by simp [h0, h1, h2, h3, h4, h8]), (by assumption), (by simp only [b83, b87, b84, b86] at *; omega), b91⟩ fun G => r7 (b0 (wp_seq (m5 G i7 (rg 9) (.box [.ref 1, iA (j + 1 + 1)] :: (ao5 b p [bQ1 b p j])) [(4, .ptr 5 0)] fun G => b0 (wp_ret ?_)))); exact Q9 G [0, 1, 2, 3, 4, 6, 7, 8] (by show _ = mR [0, 1, 2, 3, 4, 6, 7, 8] (H9 b p j); unfold H9; rw [b62 (by omega) (by omega)] <;> rfl)
     ·
      refine wp_seq (l8 G i7 [(50, bA (decide ((p.body.length : Int) > 0)))] fun G => b0 (rcD G (fun h9 q9 => ?_) fun h9 q9 => ?_))
      · refine wp_skip (r7 (b0 (wp_seq (m5 G i7 (rg 9) (.box [.ref 1, iA (j + 1)] :: (ao5 b p [.tree (D.stmts p.body)])) [(4, .ptr 5 0)] fun G => b0 (wp_ret ?_))))); exact Q9 G [0, 1, 2, 3, 4, 6, 7, 8] (by show _ = mR [0, 1, 2, 3, 4, 6, 7, 8] (H9 b p j); unfold H9; rw [bs2 (by omega)] <;> rfl)
      · refine R5 G (t5 6 [0, 1, 50] (m7.lend (T6 b (j + 1) m3L (by simp [h0, h1, h2, h3, h9]) (by simp only [b83, b87, b84, b86] at *; omega) (by simp only [b83, b87, b84, b86] at *; omega)) [.no, .no, .row 3])) [0, 1, 0, 4, 0, 0, 48, 127, 255, 511] (rg 10) (.box [.ref 1, iA (j + 1 + 1)] :: dY b :: (aQ9 p [bP8 b p j, aj0])) [(4, .ptr 5 0), (5, .ptr 9 0)] [wO ((p.body.length : Int) - 1), (0 : Int) ≤ p.body.length - 1, (p.body.length : Int) - 1 < (p.body.length : Int), ((p.body.length : Int) - 1).toNat < p.body.length] ⟨oW (by omega), (by simp only [b83, b87, b84, b86] at *; omega), (by simp only [b83, b87, b84, b86] at *; omega), (by simp only [b83, b87, b84, b86] at *; omega), b91⟩ fun G => r7 (b0 (wp_seq (m5 G i7 (rg 9) (.box [.ref 1, iA (j + 1 + 1)] :: (ao5 b p [bP8 b p j])) [(4, .ptr 5 0)] fun G => b0 (wp_ret ?_)))); exact Q9 G [0, 1, 2, 3, 4, 6, 7, 8] (by show _ = mR [0, 1, 2, 3, 4, 6, 7, 8] (H9 b p j); unfold H9; rw [b63 (by omega) (by omega)] <;> rfl)
    ·
     refine wp_seq (l8 G i7 [(39, bA (decide ((p.body.length : Int) > 0)))] fun G => b0 (rcD G (fun h10 q10 => ?_) fun h10 q10 => ?_))
     · refine wp_skip (r7 (b0 (wp_seq (m5 G i7 (rg 9) (.box [.ref 1, iA (j + 1)] :: (ao5 b p [.tree (D.stmts p.body)])) [(4, .ptr 5 0)] fun G => b0 (wp_ret ?_))))); exact Q9 G [0, 1, 2, 3, 4, 6, 7, 8] (by show _ = mR [0, 1, 2, 3, 4, 6, 7, 8] (H9 b p j); unfold H9; rw [bs2 (by omega)] <;> rfl)
     · refine R5 G (t5 4 [0, 1, 34] (m7.lend (T6 b (j + 1) m2L (by simp [h0, h1, h2, h10]) (by simp only [b83, b87, b84, b86] at *; omega) (by simp only [b83, b87, b84, b86] at *; omega)) [.no, .no, .row 3])) [0, 1, 0, 0, 12, 31, 63, 127] (rg 10) (.box [.ref 1, iA (j + 1 + 1)] :: dY b :: (aQ9 p [bQ0 b p j, aj0])) [(4, .ptr 5 0), (5, .ptr 9 0)] [(0 : Int) ≤ 0, (0 : Int) < p.body.length, (0 : Nat) < p.body.length] ⟨(by simp [h0, h1, h2, h10]), (by assumption), (by simp only [b83, b87, b84, b86] at *; omega), b91⟩ fun G => r7 (b0 (wp_seq (m5 G i7 (rg 9) (.box [.ref 1, iA (j + 1 + 1)] :: (ao5 b p [bQ0 b p j])) [(4, .ptr 5 0)] fun G => b0 (wp_ret ?_)))); exact Q9 G [0, 1, 2, 3, 4, 6, 7, 8] (by show _ = mR [0, 1, 2, 3, 4, 6, 7, 8] (H9 b p j); unfold H9; rw [b64 (by omega) (by omega)] <;> rfl)
   ·
    refine wp_block ?_; replace G := G.as (aH1 b p j (.box [.v (.slice none 0 0), .v (.slice none 0 0), .v (.slice none 0 0)] :: .row 3 (D.ints (p.vars ++ b82 0 1)) :: (as6 p [.box [.ref 6, .ref 7, .tref 8]]))) (bj3 b p j [(25, bA (pk b j 60 == 1))]) (by have e1 : (p.vars ++ b82 0 1 : List Int) = (p.vars) := (by simp [h0, h1]); (first | rw [e1] | simp only [e1]) <;> rfl) (by kernel_rfl); refine y9 (κ := Nat) (fun k => k ≤ 13 - p.vars.length) (fun k => 13 - p.vars.length - k) (fun k => [.box [.ref 1, iA (j + 1)], dY b, dI p.vars, dI p.arrays, dT p.body, .box [.v (.slice none 0 0), .v (.slice none 0 0), .v (.slice none 0 0)], .row 3 (.ints (p.vars ++ b82 k 1)), .row 3 (D.ints p.arrays), .tree (D.stmts p.body), .box [.ref 6, .ref 7, .tref 8]]) (fun k => [(0, .ptr 0 0), (4, .ptr 5 0), (5, .ptr 9 0), (6, iA (p.body.length : Int)), (13, iA (pk b j 60)), (25, bA (pk b j 60 == 1))]) 0 (by simp [h0, h1]) (x8.at G _ _) ?_; clear G; intro k ρ a w hp G; replace G := x8.at G (aH1 b p j (a18 :: .row 3 (D.ints (p.vars ++ b82 k 1)) :: (as6 p [aj0]))) (bj3 b p j [(25, bA (pk b j 60 == 1))]); refine wp_seq (wp_seq (l8 G i7 [(30, bA (decide (((p.vars ++ b82 k 1).length : Int) ≤ 12)))] fun G => b0 (rcD G (fun h12 q12 => ?_) fun h12 q12 => ?_)))
    · refine wp_exit (y7 (y7 (y6 (r7 (b0 (wp_seq (m5 G i7 (rg 9) (aH1 b p j (aj0 :: .row 3 (D.ints (p.vars ++ b82 k 1)) :: (as6 p []))) [(4, .ptr 5 0)] fun G => b0 (wp_ret ?_)))))))); exact Q9 G [0, 1, 2, 3, 4, 6, 7, 8] (by show _ = mR [0, 1, 2, 3, 4, 6, 7, 8] (H9 b p j); unfold H9; rw [b02 (k := k) (by omega) (by omega) (by omega)] <;> rfl)
    · refine wp_skip (b0 (wp_block (U0 G i7 [0, 1, 2, 3, 4, 5, 7, 8, 9, 34] (aH1 b p j (a18 :: (as6 p [.box [.ref 9, .ref 6, .tref 7], .row 3 (D.ints (p.vars ++ b82 k 1 ++ ([1] ++ [])))]))) [(0, .ptr 0 0), (4, .ptr 5 0), (5, .ptr 8 0), (6, iA (p.body.length : Int)), (13, iA (pk b j 60)), (25, bA (pk b j 60 == 1))] (aP ((p.vars ++ b82 k (1 : Int)).length + ([(1 : Int)] ++ []).length) 8 []) (aK (by simp only [b83, b87, b84, b86] at *; omega) b91) fun G => r7 (b0 ?_)))); exact rxn G (k + 1) (by simp only [b83, b87, b84, b86] at *; omega) (by simp only [b83, b87, b84, b86] at *; omega) [0, 1, 2, 3, 4, 5, 9, 6, 7, 8] (by have e1 : (p.vars ++ b82 (k + 1) 1 : List Int) = (p.vars ++ b82 k 1 ++ ([1] ++ [])) := bz8; (first | rw [e1] | simp only [e1]) <;> rfl)
  ·
   refine wp_seq (l8 G i7 [(19, bA (decide ((p.vars.length : Int) > 0)))] fun G => b0 (rcD G (fun h11 q11 => ?_) fun h11 q11 => ?_))
   · refine wp_skip (r7 (b0 (wp_seq (m5 G i7 (rg 9) (.box [.ref 1, iA (j + 1)] :: (ao5 b p [.tree (D.stmts p.body)])) [(4, .ptr 5 0)] fun G => b0 (wp_ret ?_))))); exact Q9 G [0, 1, 2, 3, 4, 6, 7, 8] (by show _ = mR [0, 1, 2, 3, 4, 6, 7, 8] (H9 b p j); unfold H9; rw [bs2 (by omega)] <;> rfl)
   · refine R5 G (t5 3 [0, 1] (bG5 b (j + 1) (by simp only [b83, b87, b84, b86] at *; omega) (by simp only [b83, b87, b84, b86] at *; omega))) [0, 1, 0, 4, 15, 31] (rg 10) (.box [.ref 1, iA (j + 1 + 2)] :: dY b :: dI p.vars :: dI p.arrays :: dT p.body :: a18 :: .row 3 (D.ints (p.vars.set 0 (l1D b (j + 1)))) :: (as6 p [aj0])) [(4, .ptr 5 0), (5, .ptr 9 0)] [(0 : Int) ≤ 0, (0 : Int) < p.vars.length, (0 : Nat) < p.vars.length] ⟨(by simp [h0, h11]), (by assumption), (by simp only [b83, b87, b84, b86] at *; omega), b91⟩ fun G => r7 (b0 (wp_seq (m5 G i7 (rg 9) (.box [.ref 1, iA (j + 1 + 2)] :: dY b :: dI p.vars :: dI p.arrays :: dT p.body :: aj0 :: .row 3 (D.ints (p.vars.set 0 (l1D b (j + 1)))) :: (as6 p [])) [(4, .ptr 5 0)] fun G => b0 (wp_ret ?_)))); exact Q9 G [0, 1, 2, 3, 4, 6, 7, 8] (by show _ = mR [0, 1, 2, 3, 4, 6, 7, 8] (H9 b p j); unfold H9; rw [b58 (by omega) (by omega)] <;> rfl)
abbrev tyC (b : List UInt8) (j : Int) : m7 := ⟨56, [.ptr 0 0], [.box [.ref 1, iA j], dY b], [.box [.ref 1, iA ((bdD b j).2 + 1)], dY b] ++ oP (tyD b j), oA 2⟩
section
variable {b : List UInt8} {j : Int}
theorem b37 (h : pk b (bdD b j).2 4 = 0) : tyD b j = pgD b j := if_pos h
theorem b36 (h : ¬ pk b (bdD b j).2 4 = 0) (h2 : okI (pgD b j) = true) : tyD b j = ai4 (pgD b j) := by rw [tyD, if_neg h, if_pos h2]
theorem b35 (h : ¬ pk b (bdD b j).2 4 = 0) (h2 : okI (pgD b j) = false) : tyD b j = pgD b j := by rw [tyD, if_neg h, if_neg (by rw [h2]; decide)]
end
abbrev aR5 (b : List UInt8) (j : Int) : List It := [.box [.ref 1, iA ((bdD b j).snd + 1)], dY b, .row 3 (D.ints (tyD b j).vars), .row 3 (D.ints (tyD b j).arrays), .tree (D.stmts (tyD b j).body)]
abbrev bj9 : It := .box [.v (.slice none 0 0), .v (.slice none 0 0), .v (.slice none 0 0)]
abbrev aH7 : It := .box [.ref 3, .ref 4, .tref 5]
abbrev aQ8 (b : List UInt8) (j : Int) (r0 : List It) : List It := .row 3 (D.ints (pgD b j).vars) :: .row 3 (D.ints (pgD b j).arrays) :: .tree (D.stmts (pgD b j).body) :: r0
theorem aU1 (b : List UInt8) (j : Int) (r0 : 0 ≤ j) (r1 : j ≤ 10000000) : m7.ok Tryz.prog (tyC b j) := by
  refine H8 20 Tryz.func56 [.box [.ref 1, iA j], dY b] [(0, .ptr 0 0)] fun G => ?_; have hk2 := bm9 b r0 r1; have hbd := bp8 b r0 r1; have hsz := bA3 b r0 r1; refine wp_seq (m5 G i7 [0, 1, 2] [.box [.ref 1, iA j], dY b, bj9] [(0, .ptr 0 0), (2, .ptr 2 0)] fun G => b0 (wp_seq (m5 G (t5 1 [0, 1] (a95 b j (by assumption) (by assumption))) [0, 1, 2, 11, 12, 13, 19] (.box [.ref 1, iA (bdD b j).snd] :: dY b :: bj9 :: (aQ8 b j [aH7])) [(0, .ptr 0 0), (2, .ptr 2 0), (3, .ptr 6 0)] fun G => b0 (wp_seq (wp_seq (m5 G (t5 1 [0, 1] (P2 b ((bdD b j).snd) 4 (by omega) (by omega))) (rg 7) (.box [.ref 1, iA ((bdD b j).snd + 1)] :: dY b :: bj9 :: (aQ8 b j [aH7])) [(2, .ptr 2 0), (3, .ptr 6 0), (10, bA (pk b (bdD b j).snd 4 == 0))] fun G => b0 (T1 G (fun h0 q0 => ?_) fun h0 q0 => ?_)))))))
  ·
   refine wp_skip (b0 (wp_seq (m5 G (t5 1 [3, 4, 5] (m7.lend (aQ4 (pgD b j) (by omega)) [.row 3, .row 3, .tree])) [0, 1, 2, 3, 4, 5, 6, 15, 16, 17, 47] (.box [.ref 1, iA ((bdD b j).snd + 1)] :: dY b :: bj9 :: (aQ8 b j [aH7, .row 3 (D.ints (ai4 (pgD b j)).vars), .row 3 (D.ints (ai4 (pgD b j)).arrays), .tree (D.stmts (ai4 (pgD b j)).body), .box [.ref 7, .ref 8, .tref 9]])) [(2, .ptr 2 0), (3, .ptr 6 0), (4, .ptr 10 0), (5, bA (okI (pgD b j)))] fun G => b0 (wp_seq (wp_seq (l8 G i7 [(17, bA (okI (pgD b j)))] fun G => b0 (rcB G (fun h1 => ?_) fun h1 => ?_)))))))
   · refine wp_skip (b0 (wp_seq (m5 G i7 (rg 6) (.box [.ref 1, iA ((bdD b j).snd + 1)] :: dY b :: aH7 :: (aQ8 b j [])) [(2, .ptr 2 0)] fun G => b0 (wp_ret ?_)))); exact Q9 G [0, 1, 3, 4, 5] (by show _ = mR [0, 1, 3, 4, 5] (aR5 b j); unfold aR5; rw [b35 (by omega) (by with_reducible assumption)] <;> rfl)
   · refine wp_seq (m5 G i7 (rg 10) (.box [.ref 1, iA ((bdD b j).snd + 1)] :: dY b :: .box [.ref 7, .ref 8, .tref 9] :: (aQ8 b j [aH7, .row 3 (D.ints (ai4 (pgD b j)).vars), .row 3 (D.ints (ai4 (pgD b j)).arrays), .tree (D.stmts (ai4 (pgD b j)).body)])) [(2, .ptr 2 0), (3, .ptr 6 0)] fun G => b0 (wp_ret (m8 ?_))); exact Q9 G [0, 1, 7, 8, 9] (by show _ = mR [0, 1, 7, 8, 9] (aR5 b j); unfold aR5; rw [b36 (by omega) (by with_reducible assumption)] <;> rfl)
  · refine wp_seq (m5 G i7 (rg 7) (.box [.ref 1, iA ((bdD b j).snd + 1)] :: dY b :: aH7 :: (aQ8 b j [aH7])) [(2, .ptr 2 0), (3, .ptr 6 0)] fun G => b0 (wp_ret (m8 ?_))); exact Q9 G [0, 1, 3, 4, 5] (by show _ = mR [0, 1, 3, 4, 5] (aR5 b j); unfold aR5; rw [b37 (by omega)] <;> rfl)
def dfX (b : List UInt8) : f7 := (mtD b (tyD b 0) ((bdD b 0).2 + 1)).1
theorem bd0 (b : List UInt8) : 0 ≤ (bdD b 0).2 ∧ (bdD b 0).2 ≤ 150000 := by
 have h := bp8 b (k := 0) (by omega) (by omega)
 have h2 := bm9 b (k := 0) (by omega) (by omega)
 omega
theorem ty0 (b : List UInt8) : (tyD b 0).size ≤ 1000000 := cb5 (bx0 b (by omega) (by omega)) (by omega)
theorem ay5 (c : List UInt8) (hc : c.length ≤ 2000) : m7.ok Tryz.prog ⟨15, [.ref 0], [dY c], [dY c] ++ oP (dfX c), oA 1⟩ := by
 refine H8 10 Tryz.func15 [dY c] [(0, .ref 0)] fun G => ?_; have hbd := bd0 c; refine wp_seq (m5 G i7 [0, 1] [dY c, .box [.v (.slice none 0 0), .v (.slice none 0 0), .v (.slice none 0 0)]] [(0, .ref 0), (2, .ptr 1 0)] fun G => b0 (wp_seq (m5 G (t5 1 [0] (bi3 c (by assumption))) [0, 1, 10] [dY c, .box [.v (.slice none 0 0), .v (.slice none 0 0), .v (.slice none 0 0)], .box [.ref 0, iA 0]] [(2, .ptr 1 0), (3, .ptr 2 0)] fun G => b0 (wp_seq (m5 G (B8 ⟨[(2, _, [2, 0]), (3, _, [2, 0, 19, 20, 21])], [], []⟩ (b9 (aU1 c 0 (by omega) (by omega)) (b9 (m7.lend (aO4 c (tyD c 0) ((bdD c 0).snd + 1) (ty0 c) (by omega) (by omega)) [.no, .no, .row 3, .row 3, .tree]) d8)) b91) [0, 1, 27, 28, 29] [dY c, .box [.ref 2, .ref 3, .tref 4], .row 3 (D.ints (mtD c (tyD c 0) ((bdD c 0).snd + 1)).fst.vars), .row 3 (D.ints (mtD c (tyD c 0) ((bdD c 0).snd + 1)).fst.arrays), .tree (D.stmts (mtD c (tyD c 0) ((bdD c 0).snd + 1)).fst.body)] [(2, .ptr 1 0)] fun G => b0 (wp_ret ?_)))))); exact Q9 G [0, 2, 3, 4]
abbrev bw2 (c : List UInt8) := mtD (List.drop 0 (b88 2000 c)) (tyD (List.drop 0 (b88 2000 c)) 0) ((bdD (List.drop 0 (b88 2000 c)) 0).snd + 1)
theorem ay4 (c : List UInt8) (hc : 2000 < c.length) : m7.ok Tryz.prog ⟨15, [.ref 0], [dY c], [dY c] ++ oP (dfX ((c.take 2000).drop 0)), oA 1⟩ := by
 refine H8 10 Tryz.func15 [dY c] [(0, .ref 0)] fun G => ?_; have hbd := bd0 ((c.take 2000).drop 0); refine wp_seq (m5 G i7 [0, 1] [dY c, .box [.v (.slice none 0 0), .v (.slice none 0 0), .v (.slice none 0 0)]] [(0, .ref 0), (2, .ptr 1 0)] fun G => b0 (wp_seq (m5 G (t5 1 [0] (bi2 c (by assumption))) [0, 1, 10, 11] [dY c, .box [.v (.slice none 0 0), .v (.slice none 0 0), .v (.slice none 0 0)], .box [.ref 3, iA 0], dY (List.drop 0 (b88 2000 c))] [(2, .ptr 1 0), (3, .ptr 2 0)] fun G => b0 (wp_seq (m5 G (B8 ⟨[(2, _, [2, 3]), (3, _, [2, 3, 20, 21, 22])], [], []⟩ (b9 (aU1 (List.drop 0 (b88 2000 c)) 0 (by omega) (by omega)) (b9 (m7.lend (aO4 (List.drop 0 (b88 2000 c)) (tyD (List.drop 0 (b88 2000 c)) 0) ((bdD (List.drop 0 (b88 2000 c)) 0).snd + 1) (ty0 ((c.take 2000).drop 0)) (by omega) (by omega)) [.no, .no, .row 3, .row 3, .tree]) d8)) b91) [0, 1, 28, 29, 30] [dY c, .box [.ref 2, .ref 3, .tref 4], .row 3 (D.ints (bw2 c).fst.vars), .row 3 (D.ints (bw2 c).fst.arrays), .tree (D.stmts (bw2 c).fst.body)] [(2, .ptr 1 0)] fun G => b0 (wp_ret ?_)))))); exact Q9 G [0, 2, 3, 4]
theorem aE2 (c : List UInt8) : m7.ok Tryz.prog ⟨15, [.ref 0], [dY c], [dY c] ++ oP (K2 c), oA 1⟩ := by
 by_cases h : c.length ≤ 2000
 ·have e : K2 c = dfX c := by unfold K2 dfX bsD; rw [b98 h]
  rw [e]; exact ay5 c h
 ·exact ay4 c (by omega)
theorem bH2 (c : List UInt8) : m7.ok Tryz.prog ⟨21, [.ref 0], [dY c], [dY c] ++ oP (K2 c), oA 1⟩ := by
 refine H8 5 Tryz.func21 [dY c] [(0, .ref 0)] fun G => ?_; refine wp_seq (m5 G i7 [0, 1] [dY c, .box [.v (.slice none 0 0), .v (.slice none 0 0), .v (.slice none 0 0)]] [(0, .ref 0), (2, .ptr 1 0)] fun G => b0 (wp_seq (m5 G (t5 1 [0] (aE2 c)) [0, 1, 10, 11, 12] [dY c, .box [.ref 2, .ref 3, .tref 4], .row 3 (D.ints (K2 c).vars), .row 3 (D.ints (K2 c).arrays), .tree (D.stmts (K2 c).body)] [(2, .ptr 1 0)] fun G => b0 (wp_ret ?_)))); exact Q9 G [0, 2, 3, 4]
theorem bs3 (w : World) : n6 (fun _ => True) (fun _ => True) w w (t4 (fun _ : Empty => Rs.none) (fun _ => undef) (x6 [])) := by
 refine (n6.start (ι := Empty ⊕ Nat) (w0 := w) (φ := fun _ => True) (ψ := fun _ => True) fun _ _ => trivial).map (fun k => some k) (fun k k' i a b => by cases a; cases b; rfl) fun k => ?_
 cases k with
 | inl e => exact e.elim
 | inr j => exact .inr rfl
theorem bv8 (w : World) : Agr (fun _ => True) (FrF (fun _ => True) (t4 (fun _ : Empty => Rs.none) (fun _ => undef) (x6 []))) w w := Agr.mono fun b _ _ => ⟨b91, fun i => by
 cases i with
 | inl e => exact e.elim
 | inr j => exact fun h => h.elim⟩
abbrev u8s (c : List UInt8) : List Value := c.map fun b => Value.int .u8 (b.toNat : Int)
theorem bu9 {P : Program} {f : FuncId} {x : Value} {c : List UInt8} {post : List It} (hc : m7.ok P ⟨f, [.ref 0], [dY c], post, .v x⟩) (u : Value) (w : World) (hp : z8 w (fun _ => True) u c.length 1 (u8s c)) :
  Calls P f #[u] w fun e w' => e = .returned x ∧ Below w.heap.size w w' := by
 obtain ⟨ρ', g1, M2, g2⟩ := n6.dats [.sl (.bytes c)] [u] 0 (bs3 w) ⟨RD.nice (.bytes c) _ _ _ _ _ (bv8 w) hp, b91⟩ (fun _ _ => rfl) (fun _ _ _ => rfl)
 have e : s7 (x6 []) (V7 [.sl (.bytes c)] 0) = x6 [dY c] := by
  funext j
  match j with
  | 0 => rfl
  | j + 1 => simp [V7, s7, x6]
 rw [e] at M2
 simp only [xav, AV.vals, AV.val, List.cons.injEq, and_true] at g2
 subst g2
 refine (hc Empty _ _ w w _ ρ' M2).mono ?_
 rintro e w' ⟨ρ2, -, rfl, M3⟩
 exact ⟨rfl, M3.below fun _ _ => trivial⟩
end Go.Proofs.YthikdkjjdeehoaaGreat

namespace Go.Proofs.YthikdkjjdeehoaaGreat
set_option linter.unusedVariables false
set_option linter.unusedSimpArgs false
open Go Go.RowKit
section
variable (vs ars : List Int) (bd : List b5)
theorem bG6 (hb : p7 bd ≤ 1048576) : m7.ok Tryz.prog (N1 20 [pA 0] [dI vs, dI ars, dT bd] (.tup [iA (ctR ⟨vs, ars, bd⟩).1, iA (ctR ⟨vs, ars, bd⟩).2])) := am2 ⟨vs, ars, bd⟩ hb
end
end Go.Proofs.YthikdkjjdeehoaaGreat

namespace Go.Proofs.YthikdkjjdeehoaaGreat
set_option linter.unusedVariables false
set_option linter.unusedSimpArgs false
open Go Go.RowKit Go.ChangeShapes Go.WideShapes Go.Deep
section
variable {H : Type} {enc : TypeId × Value → H} {W : World}
theorem aQ5 {fuel : Nat} {t : TypeId} {v : Value} {x : DataW H × List MemPlace} (ht : Tryz.prog.underlying t = some (.slice 5))
  (h : DataW.trod enc Tryz.prog W 0 (fun _ => true) true fuel t [v] = some x) : ∃ l : List UInt8, N3 W v l.length 1 (l.map fun b => Value.int .u8 (b.toNat : Int)) := by
 obtain ⟨n, m, C, hr, hC, hx⟩ := a40 ht (sz := 1) (by kernel_rfl) (by omega) h
 obtain ⟨g, hg⟩ := choose_lt (α := UInt8) (n := n) (p := fun i b => C i = [.int .u8 (b.toNat : Int)]) (fun i hi => by
  obtain ⟨y, hy⟩ := hx i hi
  obtain ⟨z, hz, _, hw⟩ := DataW.trod_int Tryz.underlying5 hy
  simp only [Lit.wf, b85, decide_eq_true_eq] at hw
  have h0 : (0 : Int) ≤ z := hw.1
  have h1 : z ≤ 255 := hw.2
  refine ⟨UInt8.ofNat z.toNat, ?_⟩
  rw [hz]
  have e : (UInt8.ofNat z.toNat).toNat = z.toNat := by
   rw [UInt8.toNat_ofNat']; omega
  rw [e, Int.toNat_of_nonneg h0])
 refine ⟨(ca2 n).map g, ?_⟩
 rw [List.length_map, List.length_range, ← aL4 n C (fun b => Value.int .u8 (b.toNat : Int)) g hg]
 exact hr
end
end Go.Proofs.YthikdkjjdeehoaaGreat
