/-
  Texts of this claim, part 4: what the functions on the way do, and plain laws. Conditions: as each statement says.
-/
import Derived.WalkSpells
import Derived.Lib.SliceRun
import Derived.Test.YthikdkjjdeehoaaGreatK3
set_option maxRecDepth 100000
set_option maxHeartbeats 16000000
open Bool renaming and_eq_false_iff → bY1, and_eq_true → bV8, and_eq_true_iff → bY2, not_eq_false' → bW8, not_eq_true' → bW7
open Inhabited renaming default → bV3
open List renaming all_eq_true → bX0, append_assoc → bZ1, eq_nil_of_length_eq_zero → bY8, getD_eq_getElem?_getD → bW2, getElem?_append_left → bX7, getElem?_append_right → bZ0, getElem?_eq_getElem → bW0, getElem?_eq_none → bY0, getElem?_eq_some_iff → bW9, getElem_mem → bX2, length_append → bV4, length_cons → bV6, length_nil → bV7, length_replicate → bW3, length_set → bX3, map_cons → bY9, mem_append → bY5, mem_cons → bZ6, mem_cons_of_mem → bX9, mem_cons_self → bX6, mem_of_getElem? → bX1, mem_singleton → bY7, range → bX4, replicate → bV5, take → bV9, take_of_length_le → bW5
open Nat renaming add_zero → bZ5, le_refl → bW6, le_trans → bX8, lt_of_lt_of_le → bY4, lt_or_ge → bY6, zero_le → bX5
open Option renaming isSome_iff_exists → bZ4
open True renaming intro → bW1

namespace Go.Proofs.YthikdkjjdeehoaaGreat
set_option linter.unusedVariables false
set_option linter.unusedSimpArgs false
open Go Go.RowKit
def G8 (F : Nat → b6 → Int × Nat) : Nat → List b6 → Int × Nat
 | c, [] => (0, c)
 | c, s :: r => if (F c s).1 = 0 then G8 F (F c s).2 r else F c s
def O6 (p : k6) (s : b6) (pc : Int) : Int := if s.kind = 3 then n6 pc (n8 p s.value) else pc
def stC (p : k6) (strict : Bool) : Nat → Int → Nat → b6 → Int × Nat
  | 0, _, c, _ => (0, c)
  | d + 1, pc, c, s => if W9 p s pc strict = 0 then
      (if (G8 (stC p strict d (O6 p s pc)) (c + 1) s.body).1 = 0 then G8 (stC p strict d (O6 p s pc)) (G8 (stC p strict d (O6 p s pc)) (c + 1) s.body).2 s.els
       else G8 (stC p strict d (O6 p s pc)) (c + 1) s.body)
    else (W9 p s pc strict, c)
abbrev B9 (p : k6) (strict : Bool) (d : Nat) (pc : Int) (c : Nat) (ss : List b6) : Int × Nat := G8 (stC p strict d pc) c ss
theorem ai8 (F : Nat → b6 → Int × Nat) : ∀ (a b : List b6) (c : Nat), G8 F c (a ++ b) = if (G8 F c a).1 = 0 then G8 F (G8 F c a).2 b else G8 F c a
 | [], b, c => by simp [G8]
 | x :: r, b, c => by
  simp only [List.cons_append, G8]
  by_cases h : (F c x).1 = 0
  ·simp only [h, if_true]; exact ai8 F r b _
  ·simp [h]
theorem ac2 {F : Nat → b6 → Int × Nat} {c k : Nat} {ss : List b6} (h : (G8 F c (ss.take k)).1 = 0) (hk : k < ss.length) : G8 F c (ss.take (k + 1)) = F (G8 F c (ss.take k)).2 (ss.getD k bV3) := by
 rw [m8 _ _ hk, ai8, if_pos h, A1 hk]
 simp only [G8]
 split
 ·rename_i h; exact Prod.ext h.symm rfl
 ·rfl
theorem J7 {F : Nat → b6 → Int × Nat} {c k : Nat} {ss : List b6} (h : (G8 F c (ss.take k)).1 = 0) (hk : k < ss.length) (hf : ¬ (F (G8 F c (ss.take k)).2 (ss.getD k bV3)).1 = 0) : G8 F c ss = F (G8 F c (ss.take k)).2 (ss.getD k bV3) := by
 conv => lhs; rw [← List.take_append_drop (k + 1) ss]
 rw [ai8, ac2 h hk, if_neg hf]
theorem aK3 {F : Nat → b6 → Int × Nat} {c k : Nat} {ss : List b6} (hk : ss.length ≤ k) : G8 F c ss = G8 F c (ss.take k) := by rw [bW5 hk]
theorem av9 {F : Nat → b6 → Int × Nat} (hF : ∀ c s, (F c s).2 ≤ c + nS s) : ∀ (ss : List b6) (c : Nat), (G8 F c ss).2 ≤ c + J0 ss
 | [], c => by simp [G8]
 | s :: r, c => by
  simp only [G8, J0]
  have h1 := hF c s
  have h2 := av9 hF r (F c s).2
  split <;> omega
theorem a91 {p : k6} {strict : Bool} : ∀ (d : Nat) (pc : Int) (c : Nat) (s : b6), (stC p strict d pc c s).2 ≤ c + nS s
 | 0, _, c, s => by simp [stC]
 | d + 1, pc, c, s => by
  have hs := ai0 s
  have h1 := av9 (a91 (p := p) (strict := strict) d (O6 p s pc)) s.body (c + 1)
  have h2 := av9 (a91 (p := p) (strict := strict) d (O6 p s pc)) s.els (G8 (stC p strict d (O6 p s pc)) (c + 1) s.body).2
  rw [stC]
  split
  ·split <;> omega
  ·simp only; omega
theorem bd9 {p : k6} {strict : Bool} {d : Nat} {pc : Int} {c : Nat} {ss : List b6} : (B9 p strict d pc c ss).2 ≤ c + J0 ss := av9 (a91 d pc) ss c
theorem aj8 {nv na d k : Nat} {ss : List b6} (hs : ss.all (m5 nv na (d + 1)) = true) (hk : k < ss.length) : C9 nv na (ss.getD k bV3) = true ∧ (ss.getD k bV3).body.all (m5 nv na d) = true ∧ (ss.getD k bV3).els.all (m5 nv na d) = true := by
 have h := bX0.1 hs _ (bX2 hk)
 rw [L7, bV8, bV8] at h
 rw [A1 hk]; exact h
theorem a65 {k : Nat} {ss : List b6} (hk : k < ss.length) : J0 (ss.take k) + (1 + J0 (ss.getD k bV3).body + J0 (ss.getD k bV3).els) ≤ J0 ss := by
 have h1 := bk8 hk
 have h2 := a19 ss (k + 1)
 rw [ai0] at h1
 rw [A1 hk]; omega
section
variable {p : k6} {strict : Bool} {d c : Nat} {pc : Int} {s : b6}
theorem aD2 (h : ¬ W9 p s pc strict = 0) : stC p strict (d + 1) pc c s = (W9 p s pc strict, c) := by rw [stC, if_neg h]
theorem W6 {x : Int} (h : W9 p s pc strict = 0) (hx : O6 p s pc = x) (h2 : ¬ (B9 p strict d x (c + 1) s.body).1 = 0) : stC p strict (d + 1) pc c s = B9 p strict d x (c + 1) s.body := by
 subst hx; rw [stC, if_pos h, if_neg h2]
theorem Q5 {x : Int} (h : W9 p s pc strict = 0) (hx : O6 p s pc = x) (h2 : (B9 p strict d x (c + 1) s.body).1 = 0) : stC p strict (d + 1) pc c s = B9 p strict d x (B9 p strict d x (c + 1) s.body).2 s.els := by
 subst hx; rw [stC, if_pos h, if_pos h2]
theorem ae8 (k : s.kind = 3) : O6 p s pc = n6 pc (n8 p s.value) := if_pos k
theorem ae7 (k : ¬ s.kind = 3) : O6 p s pc = pc := if_neg k
end
theorem aL8 {p : k6} {strict : Bool} {d k c : Nat} {pc : Int} {ss : List b6} (hc : c + J0 ss ≤ 4000000) (hk : k < ss.length) : (B9 p strict (d + 1) pc c (ss.take k)).2 + 1 + J0 (ss.getD k bV3).body ≤ 4000000 := by
 have h1 := a65 (k := k) (ss := ss) hk
 have h2 := bd9 (p := p) (strict := strict) (d := d + 1) (pc := pc) (c := c) (ss := ss.take k)
 omega
theorem aQ3 {p : k6} {strict : Bool} {d k c : Nat} {pc x : Int} {ss : List b6} (hc : c + J0 ss ≤ 4000000) (hk : k < ss.length) : (B9 p strict d x ((B9 p strict (d + 1) pc c (ss.take k)).2 + 1) (ss.getD k bV3).body).2 + J0 (ss.getD k bV3).els ≤ 4000000 := by
 have h1 := a65 (k := k) (ss := ss) hk
 have h2 := bd9 (p := p) (strict := strict) (d := d + 1) (pc := pc) (c := c) (ss := ss.take k)
 have h3 := bd9 (p := p) (strict := strict) (d := d) (pc := x) (c := (B9 p strict (d + 1) pc c (ss.take k)).2 + 1) (ss := (ss.getD k bV3).body)
 omega
theorem bE7 {p : k6} {strict : Bool} {d k c : Nat} {pc : Int} {ss : List b6} (hc : c + J0 ss ≤ 4000000) (hk : k < ss.length) : IntKind.i64.wrap (((B9 p strict (d + 1) pc c (ss.take k)).2 : Int) + 1) = ((B9 p strict (d + 1) pc c (ss.take k)).2 : Int) + 1 := by
 have h1 := aL8 (p := p) (strict := strict) (d := d) (pc := pc) hc hk
 exact w64 (by omega) (by omega)
abbrev bE6 (p : k6) (d : Nat) (ss : List b6) (pc : Int) (c : Nat) (strict : Bool) : p6 := P3 201 [pA 0, .ref 3, iA pc, iA c, bA strict] (pS p ++ [.dat (.stmts ss)]) (.tup [iA (B9 p strict d pc c ss).1, iA (B9 p strict d pc c ss).2])
theorem bd6 (p : k6) (pc : Int) (c : Nat) (strict : Bool) : p6.ok Tryz.prog (bE6 p 0 [] pc c strict) := by
 refine H9 74 Tryz.func201 [dI p.vars, dI p.arrays, dT p.body, dT []] [(0, pA 0), (1, .ref 3), (2, iA pc), (3, iA c), (4, bA strict)] fun G => ?_; refine wp_seq (s4 G l6 (rg 5) [dI p.vars, dI p.arrays, dT p.body, dT [], .box (pL 0)] [(1, .ref 3), (2, iA pc), (3, iA c), (4, bA strict), (5, .ptr 4 0), (10, iA 0), (11, iA 0)] fun G => b7 (wp_seq (wp_seq (J5 G l6 [(1, .ref 3), (2, iA pc), (3, iA c), (4, bA strict), (5, .ptr 4 0), (10, iA 0), (11, iA 0), (12, iA 0)] fun G => b7 (wp_block ?_))))); refine A3 (κ := Nat) (fun k => k = 0) (fun k => 0) (fun k => [dI p.vars, dI p.arrays, dT p.body, dT [], .box (pL 0)]) (fun k => [(1, .ref 3), (2, iA pc), (3, iA c), (4, bA strict), (5, .ptr 4 0), (10, iA 0), (11, iA 0), (12, iA 0)]) 0 (by kernel_rfl) (A9.at G _ _) ?_; clear G; intro k ρ a w hp G; refine wp_seq (wp_seq (n9 G l6 [(19, bA false)] fun G => b7 (rF G false (by kernel_rfl) (wp_exit (A2 (A2 (w9 (b7 (wp_seq (s4 G l6 (rg 4) [dI p.vars, dI p.arrays, dT p.body, dT []] [(10, iA 0), (11, iA c)] fun G => b7 (wp_ret ?_))))))))))); exact O9 G (rg 4)
abbrev ao4 (p : k6) (d : Nat) (strict : Bool) (ss : List b6) (pc : Int) (c : Nat) (k : Nat) := B9 p strict d (n6 pc (n8 p (ss.getD k bV3).value)) ((B9 p strict (d + 1) pc c (bV9 k ss)).snd + 1) (ss.getD k bV3).body
abbrev ad0 (p : k6) (d : Nat) (strict : Bool) (ss : List b6) (pc : Int) (c : Nat) (k : Nat) := B9 p strict d pc ((B9 p strict (d + 1) pc c (bV9 k ss)).snd + 1) (ss.getD k bV3).body
abbrev aY6 (p : k6) (d : Nat) (strict : Bool) (ss : List b6) (pc : Int) (c : Nat) (k : Nat) := B9 p strict d (n6 pc (n8 p (ss.getD k bV3).value)) (ao4 p d strict ss pc c k).snd (ss.getD k bV3).els
abbrev aN7 (strict : Bool) (k : Nat) (r0 : List (Nat × AV)) : List (Nat × AV) := (4, bA strict) :: (5, .ptr 4 0) :: (10, iA 0) :: (11, iA 0) :: (12, iA (k : Int)) :: r0
abbrev aF3 (p : k6) (ss : List b6) (r0 : List It) : List It := dI p.vars :: dI p.arrays :: dT p.body :: dT ss :: .box (pL 0) :: r0
theorem bd4 (p : k6) (d : Nat) (strict : Bool) (ih : ∀ (ss : List b6) (pc : Int) (c : Nat), ss.all (m5 p.vars.length p.arrays.length d) = true → c + J0 ss ≤ 4000000 → p6.ok Tryz.prog (bE6 p d ss pc c strict))
    (ss : List b6) (pc : Int) (c : Nat) (hs : ss.all (m5 p.vars.length p.arrays.length (d + 1)) = true) (hc : c + J0 ss ≤ 4000000) : p6.ok Tryz.prog (bE6 p (d + 1) ss pc c strict) := by
  refine H9 74 Tryz.func201 [dI p.vars, dI p.arrays, dT p.body, dT ss] [(0, pA 0), (1, .ref 3), (2, iA pc), (3, iA c), (4, bA strict)] fun G => ?_; have hlen : ss.length ≤ 9223372036854775807 := G.len 3 (d := .stmts ss) (by kernel_rfl); refine wp_seq (s4 G l6 (rg 5) (aF3 p ss []) [(1, .ref 3), (2, iA pc), (3, iA c), (4, bA strict), (5, .ptr 4 0), (10, iA 0), (11, iA 0)] fun G => b7 (wp_seq (wp_seq (J5 G l6 [(1, .ref 3), (2, iA pc), (3, iA c), (4, bA strict), (5, .ptr 4 0), (10, iA 0), (11, iA 0), (12, iA 0)] fun G => b7 (wp_block ?_))))); refine A3 (κ := Nat) (fun k => k ≤ ss.length ∧ (B9 p strict (d + 1) pc c (ss.take k)).1 = 0) (fun k => ss.length - k) (fun k => [dI p.vars, dI p.arrays, dT p.body, dT ss, .box (pL 0)]) (fun k => [(1, .ref 3), (2, iA pc), (3, iA (B9 p strict (d + 1) pc c (ss.take k)).2), (4, bA strict), (5, .ptr 4 0), (10, iA 0), (11, iA 0), (12, iA k)]) 0 (⟨bX5 _, rfl⟩) (A9.at G _ _) ?_; clear G; intro k ρ a w hp G; replace G := A9.at G (aF3 p ss []) ((1, .ref 3) :: (2, iA pc) :: (3, iA ((B9 p strict (d + 1) pc c (bV9 k ss)).snd : Int)) :: (aN7 strict k [])); refine wp_seq (wp_seq (n9 G l6 [(19, bA (decide ((k : Int) < ss.length)))] fun G => b7 (rcD G (fun h0 q0 => ?_) fun h0 q0 => ?_)))
  · refine wp_exit (A2 (A2 (w9 (b7 (wp_seq (s4 G l6 (rg 4) [dI p.vars, dI p.arrays, dT p.body, dT ss] [(10, iA 0), (11, iA ((B9 p strict (d + 1) pc c (bV9 k ss)).snd : Int))] fun G => b7 (wp_ret ?_))))))); exact rxv (.tup [iA 0, iA ((B9 p strict (d + 1) pc c (bV9 k ss)).snd : Int)]) G (rg 4) (by have e1 : ((B9 p strict (d + 1) pc c ss).fst : Int) = (0) := (by rw [B9, aK3 (k := k) (by omega)]; exact hp.2); have e2 : (((B9 p strict (d + 1) pc c ss).snd : Int) : Int) = (((B9 p strict (d + 1) pc c (bV9 k ss)).snd : Int)) := (by rw [B9, aK3 (k := k) (by omega)]); (first | rw [e1, e2] | simp only [e1, e2]) <;> rfl)
  ·
   refine wp_skip (b7 (wp_seq (wp_block (wp_seq (R6 G l6 [0, 1, 2, 3, 4, 29, 30, 31, 32, 37] (aF3 p ss [dE (ss.getD k bV3).index.kids, dE (ss.getD k bV3).value.kids, dT (ss.getD k bV3).body, dT (ss.getD k bV3).els, .box (sL (ss.getD k bV3) 5)]) ((1, .ref 3) :: (2, iA pc) :: (3, iA ((B9 p strict (d + 1) pc c (bV9 k ss)).snd : Int)) :: (aN7 strict k [(13, .ptr 9 0)])) (iX k k ss.length []) (iK (by have hp := hp; omega) bW1) fun G => b7 (wp_seq (n9 G (B5 4 [0, 1, 2, 5, 6, 7, 8] (bE2 p (ss.getD k bV3) pc strict ((aj8 hs (by omega)).1))) [(14, iA (W9 p (ss.getD k bV3) pc strict))] fun G => b7 (wp_seq (wp_seq (n9 G l6 [(32, bA (W9 p (ss.getD k bV3) pc strict != 0))] fun G => b7 (rcN G (fun h1 q1 => ?_) fun h1 q1 => ?_)))))))))))
   ·
    refine wp_skip (b7 (wp_seq (J2 G l6 [(3, iA (((B9 p strict (d + 1) pc c (bV9 k ss)).snd : Int) + 1))] [wO (((B9 p strict (d + (1 : Nat)) pc c (bV9 k ss)).snd : Int) + 1)] ⟨(bE7 hc (by omega)), bW1⟩ fun G => b7 (wp_seq (n9 G l6 [(15, iA pc)] fun G => b7 (wp_seq (wp_seq (n9 G l6 [(40, bA ((ss.getD k bV3).kind == 3))] fun G => b7 (rcE G (fun h2 q2 => ?_) fun h2 q2 => ?_)))))))))
    ·
     refine wp_skip (b7 (wp_seq (n9 G (B5 6 [0, 1, 2, 7] (ih ((ss.getD k bV3).body) pc ((B9 p strict (d + 1) pc c (bV9 k ss)).snd + 1) ((aj8 hs (by omega)).2.1) (aL8 hc (by omega)))) [(3, iA ((ad0 p d strict ss pc c k).snd : Int)), (14, iA (ad0 p d strict ss pc c k).fst)] fun G => b7 (wp_seq (wp_seq (n9 G l6 [(58, bA ((ad0 p d strict ss pc c k).fst == 0))] fun G => b7 (rcE (u := ((B9 p strict d pc ((B9 p strict (d + (1 : Nat)) pc c (bV9 k ss)).snd + (1 : Nat)) (ss.getD k bV3).body).fst)) (v := (0 : Int)) G (fun h3 q3 => ?_) fun h3 q3 => ?_)))))))
     ·
      refine wp_skip (b7 (wp_seq (s4 G l6 (rg 5) (aF3 p ss []) ((1, .ref 3) :: (2, iA pc) :: (3, iA ((ad0 p d strict ss pc c k).snd : Int)) :: (aN7 strict k [(14, iA (ad0 p d strict ss pc c k).fst), (70, bA ((ad0 p d strict ss pc c k).fst != 0))])) fun G => b7 ?_))); cases h4 : ((B9 p strict d pc ((B9 p strict (d + (1 : Nat)) pc c (bV9 k ss)).snd + (1 : Nat)) (ss.getD k bV3).body).fst != 0)
      · have q4 := bne_eq_false_iff_eq.1 h4; exact False.elim (by omega)
      · have q4 := bne_iff_ne.1 h4; refine rT G _ h4 (wp_seq (n9 G l6 [(10, iA (ad0 p d strict ss pc c k).fst), (11, iA ((ad0 p d strict ss pc c k).snd : Int))] fun G => b7 (wp_ret (M8 (t6 (t6 (M8 (t6 ?_)))))))); exact rxv (.tup [iA (B9 p strict d pc ((B9 p strict (d + 1) pc c (bV9 k ss)).snd + 1) (ss.getD k bV3).body).fst, iA ((B9 p strict d pc ((B9 p strict (d + 1) pc c (bV9 k ss)).snd + 1) (ss.getD k bV3).body).snd : Int)]) G (rg 4) (by have e1 : ((B9 p strict (d + 1) pc c ss).fst : Int) = ((B9 p strict d pc ((B9 p strict (d + 1) pc c (bV9 k ss)).snd + 1) (ss.getD k bV3).body).fst) := (by rw [B9, J7 hp.2 (by omega) (by rw [W6 (by with_reducible assumption) (ae7 (by with_reducible assumption)) (by with_reducible assumption)]; with_reducible assumption), W6 (by with_reducible assumption) (ae7 (by with_reducible assumption)) (by with_reducible assumption)]); have e2 : (((B9 p strict (d + 1) pc c ss).snd : Int) : Int) = (((B9 p strict d pc ((B9 p strict (d + 1) pc c (bV9 k ss)).snd + 1) (ss.getD k bV3).body).snd : Int)) := (by rw [B9, J7 hp.2 (by omega) (by rw [W6 (by with_reducible assumption) (ae7 (by with_reducible assumption)) (by with_reducible assumption)]; with_reducible assumption), W6 (by with_reducible assumption) (ae7 (by with_reducible assumption)) (by with_reducible assumption)]); (first | rw [e1, e2] | simp only [e1, e2]) <;> rfl)
     ·
      refine s4 G (B5 6 [0, 1, 2, 8] (ih ((ss.getD k bV3).els) pc ((ad0 p d strict ss pc c k).snd) ((aj8 hs (by omega)).2.2) (aQ3 hc (by omega)))) (rg 5) (aF3 p ss []) ((1, .ref 3) :: (2, iA pc) :: (3, iA ((B9 p strict d pc (ad0 p d strict ss pc c k).snd (ss.getD k bV3).els).snd : Int)) :: (aN7 strict k [(14, iA (B9 p strict d pc (ad0 p d strict ss pc c k).snd (ss.getD k bV3).els).fst)])) fun G => b7 (wp_seq (n9 G l6 [(70, bA ((B9 p strict d pc (ad0 p d strict ss pc c k).snd (ss.getD k bV3).els).fst != 0))] fun G => b7 (rcN (u := ((B9 p strict d pc (B9 p strict d pc ((B9 p strict (d + (1 : Nat)) pc c (bV9 k ss)).snd + (1 : Nat)) (ss.getD k bV3).body).snd (ss.getD k bV3).els).fst)) (v := (0 : Int)) G (fun h5 q5 => ?_) fun h5 q5 => ?_)))
      · refine wp_skip (w5 (b7 (J2 G l6 [(12, iA ((k : Int) + 1))] [wO ((k : Int) + 1)] (o1 (by omega)) fun G => b7 ?_))); exact Y3 G (k + 1) (⟨by omega, by rw [B9, ac2 hp.2 (by omega), Q5 (by with_reducible assumption) (ae7 (by with_reducible assumption)) (by with_reducible assumption)]; with_reducible assumption⟩) (by have hp := hp; omega) (rg 5) (ht := by have e1 : (((B9 p strict (d + 1) pc c (bV9 (k + 1) ss)).snd : Int) : Int) = (((B9 p strict d pc (B9 p strict d pc ((B9 p strict (d + 1) pc c (bV9 k ss)).snd + 1) (ss.getD k bV3).body).snd (ss.getD k bV3).els).snd : Int)) := (by rw [B9, ac2 hp.2 (by omega), Q5 (by with_reducible assumption) (ae7 (by with_reducible assumption)) (by with_reducible assumption)]); (first | rw [e1] | simp only [e1]) <;> rfl)
      · refine wp_seq (n9 G l6 [(10, iA (B9 p strict d pc (ad0 p d strict ss pc c k).snd (ss.getD k bV3).els).fst), (11, iA ((B9 p strict d pc (ad0 p d strict ss pc c k).snd (ss.getD k bV3).els).snd : Int))] fun G => b7 (wp_ret (M8 (t6 (t6 (M8 (t6 ?_))))))); exact rxv (.tup [iA (B9 p strict d pc (B9 p strict d pc ((B9 p strict (d + 1) pc c (bV9 k ss)).snd + 1) (ss.getD k bV3).body).snd (ss.getD k bV3).els).fst, iA ((B9 p strict d pc (B9 p strict d pc ((B9 p strict (d + 1) pc c (bV9 k ss)).snd + 1) (ss.getD k bV3).body).snd (ss.getD k bV3).els).snd : Int)]) G (rg 4) (by have e1 : ((B9 p strict (d + 1) pc c ss).fst : Int) = ((B9 p strict d pc (B9 p strict d pc ((B9 p strict (d + 1) pc c (bV9 k ss)).snd + 1) (ss.getD k bV3).body).snd (ss.getD k bV3).els).fst) := (by rw [B9, J7 hp.2 (by omega) (by rw [Q5 (by with_reducible assumption) (ae7 (by with_reducible assumption)) (by with_reducible assumption)]; with_reducible assumption), Q5 (by with_reducible assumption) (ae7 (by with_reducible assumption)) (by with_reducible assumption)]); have e2 : (((B9 p strict (d + 1) pc c ss).snd : Int) : Int) = (((B9 p strict d pc (B9 p strict d pc ((B9 p strict (d + 1) pc c (bV9 k ss)).snd + 1) (ss.getD k bV3).body).snd (ss.getD k bV3).els).snd : Int)) := (by rw [B9, J7 hp.2 (by omega) (by rw [Q5 (by with_reducible assumption) (ae7 (by with_reducible assumption)) (by with_reducible assumption)]; with_reducible assumption), Q5 (by with_reducible assumption) (ae7 (by with_reducible assumption)) (by with_reducible assumption)]); (first | rw [e1, e2] | simp only [e1, e2]) <;> rfl)
    ·
     refine n9 G (B5 4 [0, 1, 2, 6] (R8 p ((ss.getD k bV3).value) (C3 (aj8 hs (by omega)).1 (by omega)))) [(15, iA (n6 pc (n8 p (ss.getD k bV3).value)))] fun G => b7 (wp_seq (n9 G (B5 6 [0, 1, 2, 7] (ih ((ss.getD k bV3).body) (n6 pc (n8 p (ss.getD k bV3).value)) ((B9 p strict (d + 1) pc c (bV9 k ss)).snd + 1) ((aj8 hs (by omega)).2.1) (aL8 hc (by omega)))) [(3, iA ((ao4 p d strict ss pc c k).snd : Int)), (14, iA (ao4 p d strict ss pc c k).fst)] fun G => b7 (wp_seq (wp_seq (n9 G l6 [(58, bA ((ao4 p d strict ss pc c k).fst == 0))] fun G => b7 (rcE (u := ((B9 p strict d (n6 pc (n8 p (ss.getD k bV3).value)) ((B9 p strict (d + (1 : Nat)) pc c (bV9 k ss)).snd + (1 : Nat)) (ss.getD k bV3).body).fst)) (v := (0 : Int)) G (fun h6 q6 => ?_) fun h6 q6 => ?_))))))
     ·
      refine wp_skip (b7 (wp_seq (s4 G l6 (rg 5) (aF3 p ss []) ((1, .ref 3) :: (2, iA pc) :: (3, iA ((ao4 p d strict ss pc c k).snd : Int)) :: (aN7 strict k [(14, iA (ao4 p d strict ss pc c k).fst), (70, bA ((ao4 p d strict ss pc c k).fst != 0))])) fun G => b7 ?_))); cases h7 : ((B9 p strict d (n6 pc (n8 p (ss.getD k bV3).value)) ((B9 p strict (d + (1 : Nat)) pc c (bV9 k ss)).snd + (1 : Nat)) (ss.getD k bV3).body).fst != 0)
      · have q7 := bne_eq_false_iff_eq.1 h7; exact False.elim (by omega)
      · have q7 := bne_iff_ne.1 h7; refine rT G _ h7 (wp_seq (n9 G l6 [(10, iA (ao4 p d strict ss pc c k).fst), (11, iA ((ao4 p d strict ss pc c k).snd : Int))] fun G => b7 (wp_ret (M8 (t6 (t6 (M8 (t6 ?_)))))))); exact rxv (.tup [iA (B9 p strict d (n6 pc (n8 p (ss.getD k bV3).value)) ((B9 p strict (d + 1) pc c (bV9 k ss)).snd + 1) (ss.getD k bV3).body).fst, iA ((B9 p strict d (n6 pc (n8 p (ss.getD k bV3).value)) ((B9 p strict (d + 1) pc c (bV9 k ss)).snd + 1) (ss.getD k bV3).body).snd : Int)]) G (rg 4) (by have e1 : ((B9 p strict (d + 1) pc c ss).fst : Int) = ((B9 p strict d (n6 pc (n8 p (ss.getD k bV3).value)) ((B9 p strict (d + 1) pc c (bV9 k ss)).snd + 1) (ss.getD k bV3).body).fst) := (by rw [B9, J7 hp.2 (by omega) (by rw [W6 (by with_reducible assumption) (ae8 (by with_reducible assumption)) (by with_reducible assumption)]; with_reducible assumption), W6 (by with_reducible assumption) (ae8 (by with_reducible assumption)) (by with_reducible assumption)]); have e2 : (((B9 p strict (d + 1) pc c ss).snd : Int) : Int) = (((B9 p strict d (n6 pc (n8 p (ss.getD k bV3).value)) ((B9 p strict (d + 1) pc c (bV9 k ss)).snd + 1) (ss.getD k bV3).body).snd : Int)) := (by rw [B9, J7 hp.2 (by omega) (by rw [W6 (by with_reducible assumption) (ae8 (by with_reducible assumption)) (by with_reducible assumption)]; with_reducible assumption), W6 (by with_reducible assumption) (ae8 (by with_reducible assumption)) (by with_reducible assumption)]); (first | rw [e1, e2] | simp only [e1, e2]) <;> rfl)
     ·
      refine s4 G (B5 6 [0, 1, 2, 8] (ih ((ss.getD k bV3).els) (n6 pc (n8 p (ss.getD k bV3).value)) ((ao4 p d strict ss pc c k).snd) ((aj8 hs (by omega)).2.2) (aQ3 hc (by omega)))) (rg 5) (aF3 p ss []) ((1, .ref 3) :: (2, iA pc) :: (3, iA ((aY6 p d strict ss pc c k).snd : Int)) :: (aN7 strict k [(14, iA (aY6 p d strict ss pc c k).fst)])) fun G => b7 (wp_seq (n9 G l6 [(70, bA ((aY6 p d strict ss pc c k).fst != 0))] fun G => b7 (rcN (u := ((B9 p strict d (n6 pc (n8 p (ss.getD k bV3).value)) (B9 p strict d (n6 pc (n8 p (ss.getD k bV3).value)) ((B9 p strict (d + (1 : Nat)) pc c (bV9 k ss)).snd + (1 : Nat)) (ss.getD k bV3).body).snd (ss.getD k bV3).els).fst)) (v := (0 : Int)) G (fun h8 q8 => ?_) fun h8 q8 => ?_)))
      · refine wp_skip (w5 (b7 (J2 G l6 [(12, iA ((k : Int) + 1))] [wO ((k : Int) + 1)] (o1 (by omega)) fun G => b7 ?_))); exact Y3 G (k + 1) (⟨by omega, by rw [B9, ac2 hp.2 (by omega), Q5 (by with_reducible assumption) (ae8 (by with_reducible assumption)) (by with_reducible assumption)]; with_reducible assumption⟩) (by have hp := hp; omega) (rg 5) (ht := by have e1 : (((B9 p strict (d + 1) pc c (bV9 (k + 1) ss)).snd : Int) : Int) = (((B9 p strict d (n6 pc (n8 p (ss.getD k bV3).value)) (B9 p strict d (n6 pc (n8 p (ss.getD k bV3).value)) ((B9 p strict (d + 1) pc c (bV9 k ss)).snd + 1) (ss.getD k bV3).body).snd (ss.getD k bV3).els).snd : Int)) := (by rw [B9, ac2 hp.2 (by omega), Q5 (by with_reducible assumption) (ae8 (by with_reducible assumption)) (by with_reducible assumption)]); (first | rw [e1] | simp only [e1]) <;> rfl)
      · refine wp_seq (n9 G l6 [(10, iA (aY6 p d strict ss pc c k).fst), (11, iA ((aY6 p d strict ss pc c k).snd : Int))] fun G => b7 (wp_ret (M8 (t6 (t6 (M8 (t6 ?_))))))); exact rxv (.tup [iA (B9 p strict d (n6 pc (n8 p (ss.getD k bV3).value)) (B9 p strict d (n6 pc (n8 p (ss.getD k bV3).value)) ((B9 p strict (d + 1) pc c (bV9 k ss)).snd + 1) (ss.getD k bV3).body).snd (ss.getD k bV3).els).fst, iA ((B9 p strict d (n6 pc (n8 p (ss.getD k bV3).value)) (B9 p strict d (n6 pc (n8 p (ss.getD k bV3).value)) ((B9 p strict (d + 1) pc c (bV9 k ss)).snd + 1) (ss.getD k bV3).body).snd (ss.getD k bV3).els).snd : Int)]) G (rg 4) (by have e1 : ((B9 p strict (d + 1) pc c ss).fst : Int) = ((B9 p strict d (n6 pc (n8 p (ss.getD k bV3).value)) (B9 p strict d (n6 pc (n8 p (ss.getD k bV3).value)) ((B9 p strict (d + 1) pc c (bV9 k ss)).snd + 1) (ss.getD k bV3).body).snd (ss.getD k bV3).els).fst) := (by rw [B9, J7 hp.2 (by omega) (by rw [Q5 (by with_reducible assumption) (ae8 (by with_reducible assumption)) (by with_reducible assumption)]; with_reducible assumption), Q5 (by with_reducible assumption) (ae8 (by with_reducible assumption)) (by with_reducible assumption)]); have e2 : (((B9 p strict (d + 1) pc c ss).snd : Int) : Int) = (((B9 p strict d (n6 pc (n8 p (ss.getD k bV3).value)) (B9 p strict d (n6 pc (n8 p (ss.getD k bV3).value)) ((B9 p strict (d + 1) pc c (bV9 k ss)).snd + 1) (ss.getD k bV3).body).snd (ss.getD k bV3).els).snd : Int)) := (by rw [B9, J7 hp.2 (by omega) (by rw [Q5 (by with_reducible assumption) (ae8 (by with_reducible assumption)) (by with_reducible assumption)]; with_reducible assumption), Q5 (by with_reducible assumption) (ae8 (by with_reducible assumption)) (by with_reducible assumption)]); (first | rw [e1, e2] | simp only [e1, e2]) <;> rfl)
   · refine wp_seq (n9 G l6 [(10, iA (W9 p (ss.getD k bV3) pc strict)), (11, iA ((B9 p strict (d + 1) pc c (bV9 k ss)).snd : Int))] fun G => b7 (wp_ret (t6 (M8 (t6 (t6 (M8 (t6 ?_)))))))); exact rxv (.tup [iA (W9 p (ss.getD k bV3) pc strict), iA ((B9 p strict (d + 1) pc c (bV9 k ss)).snd : Int)]) G (rg 4) (by have e1 : ((B9 p strict (d + 1) pc c ss).fst : Int) = (W9 p (ss.getD k bV3) pc strict) := (by rw [B9, J7 hp.2 (by omega) (by rw [aD2 (by with_reducible assumption)]; with_reducible assumption), aD2 (by with_reducible assumption)]); have e2 : (((B9 p strict (d + 1) pc c ss).snd : Int) : Int) = (((B9 p strict (d + 1) pc c (bV9 k ss)).snd : Int)) := (by rw [B9, J7 hp.2 (by omega) (by rw [aD2 (by with_reducible assumption)]; with_reducible assumption), aD2 (by with_reducible assumption)]); (first | rw [e1, e2] | simp only [e1, e2]) <;> rfl)
theorem bd5 (p : k6) (strict : Bool) : ∀ (d : Nat) (ss : List b6) (pc : Int) (c : Nat), ss.all (m5 p.vars.length p.arrays.length d) = true → c + J0 ss ≤ 4000000 → p6.ok Tryz.prog (bE6 p d ss pc c strict) := by
 intro d
 induction d with
 | zero =>
  intro ss pc c h hc
  cases ss with
  | nil => exact bd6 p pc c strict
  | cons s r => simp [m5] at h
 | succ d ih => intro ss pc c h hc; exact bd4 p d strict ih ss pc c h hc
theorem af6 {p : k6} (h : s9 p = true) : p.body.all (m5 p.vars.length p.arrays.length 5) = true ∧ J0 p.body ≤ 60 := by
 simp only [s9, ac6, bV8, decide_eq_true_eq] at h
 exact ⟨h.1.2, h.2⟩
theorem by1 (p : k6) (strict : Bool) (h : s9 p = true) : p6.ok Tryz.prog (P3 201 [pA 0, .ref 2, iA 0, iA 0, bA strict] (pS p) (.tup [iA (B9 p strict 5 0 0 p.body).1, iA (B9 p strict 5 0 0 p.body).2])) :=
 p6.dup (S := pS p) (S' := pS p) (d := .stmts p.body) (i := 2) (bd5 p strict 5 p.body 0 0 (af6 h).1 (by have := (af6 h).2; omega)) rfl rfl rfl (fun ρ h => by simp only [AV.vals, AV.val]; rw [show ρ 3 = ρ 2 from h]; rfl) rfl
def U6 (p : k6) (strict : Bool) : Int × Int := if s9 p then (if (B9 p strict 5 0 0 p.body).1 = 0 then (0, -1) else ((B9 p strict 5 0 0 p.body).1, ((B9 p strict 5 0 0 p.body).2 : Int))) else (5, -1)
section
variable {p : k6} {strict : Bool}
theorem bh6 (h : s9 p = false) : U6 p strict = (5, -1) := by rw [U6, h]; rfl
theorem bh9 (h : s9 p = true) (h1 : (B9 p strict 5 0 0 p.body).1 = 0) : U6 p strict = (0, -1) := by rw [U6, h, h1]; rfl
theorem bx4 (h : s9 p = true) (h1 : ¬ (B9 p strict 5 0 0 p.body).1 = 0) : U6 p strict = ((B9 p strict 5 0 0 p.body).1, ((B9 p strict 5 0 0 p.body).2 : Int)) := by rw [U6, h, if_neg h1]; rfl
end
theorem bm8 (p : k6) (strict : Bool) (hb : l8 p.body ≤ 1048576) : p6.ok Tryz.prog (P3 150 [pA 0, bA strict] (pS p) (.tup [iA (U6 p strict).1, iA (U6 p strict).2])) := by
  refine H9 24 Tryz.func150 [dI p.vars, dI p.arrays, dT p.body] [(0, pA 0), (1, bA strict)] fun G => ?_; refine wp_seq (s4 G l6 (rg 4) [dI p.vars, dI p.arrays, dT p.body, .box (pL 0)] [(1, bA strict), (2, .ptr 3 0), (4, iA 0), (5, iA 0)] fun G => b7 (wp_seq (wp_seq (n9 G (B5 1 [0, 1, 2] (ac5 p (by assumption))) [(10, .v (.bool !s9 p))] fun G => b7 ?_)))); cases h0 : (!s9 p)
  ·
   have q0 : (s9 p) = true := (Eq.mp (bW8 _) h0); refine rF G _ h0 (wp_skip (b7 (wp_seq (s4 G (B5 4 [0, 1, 2] (by1 p strict (by assumption))) [0, 1, 2] [dI p.vars, dI p.arrays, dT p.body] [(4, iA 0), (5, iA 0), (6, iA (B9 p strict 5 0 0 p.body).fst), (7, iA ((B9 p strict 5 0 0 p.body).snd : Int))] fun G => b7 (wp_seq (wp_seq (n9 G l6 [(20, bA ((B9 p strict 5 0 0 p.body).fst == 0))] fun G => b7 (rcE G (fun h1 q1 => ?_) fun h1 q1 => ?_))))))))
   · refine wp_skip (b7 (wp_seq (n9 G l6 [(4, iA (B9 p strict 5 0 0 p.body).fst), (5, iA ((B9 p strict 5 0 0 p.body).snd : Int))] fun G => b7 (wp_ret ?_)))); exact rxv (.tup [iA (B9 p strict 5 0 0 p.body).fst, iA ((B9 p strict 5 0 0 p.body).snd : Int)]) G [0, 1, 2] (by have e1 : ((U6 p strict).fst : Int) = ((B9 p strict 5 0 0 p.body).fst) := (by rw [bx4 (by assumption) (by assumption)]; done); have e2 : ((U6 p strict).snd : Int) = (((B9 p strict 5 0 0 p.body).snd : Int)) := (by rw [bx4 (by assumption) (by assumption)]; done); (first | rw [e1, e2] | simp only [e1, e2]) <;> rfl)
   · refine wp_seq (n9 G l6 [(4, iA (B9 p strict 5 0 0 p.body).fst), (5, iA (-1))] fun G => b7 (wp_ret (t6 ?_))); exact rxv (.tup [iA (B9 p strict 5 0 0 p.body).fst, iA (-1)]) G [0, 1, 2] (by have e1 : ((U6 p strict).fst : Int) = ((B9 p strict 5 0 0 p.body).fst) := ((congrArg Prod.fst (bh9 (by assumption) (by assumption))).trans (Eq.symm (by assumption))); have e2 : ((U6 p strict).snd : Int) = (-1) := (by rw [bh9 (by assumption) (by assumption)]; done); (first | rw [e1, e2] | simp only [e1, e2]) <;> rfl)
  · have q0 : (s9 p) = false := (Eq.mp (bW7 _) h0); refine rT G _ h0 (wp_seq (n9 G l6 [(4, iA 5), (5, iA (-1))] fun G => b7 (wp_ret (t6 ?_)))); exact rxv (.tup [iA 5, iA (-1)]) G [0, 1, 2] (by have e1 : ((U6 p strict).fst : Int) = (5) := (by rw [bh6 (by assumption)]; done); have e2 : ((U6 p strict).snd : Int) = (-1) := (by rw [bh6 (by assumption)]; done); (first | rw [e1, e2] | simp only [e1, e2]) <;> rfl)
theorem a63 (p : k6) (hb : l8 p.body ≤ 1048576) : p6.ok Tryz.prog (P3 77 [pA 0] (pS p) (.tup [iA (U6 p false).1, iA (U6 p false).2])) := by
 refine H9 8 Tryz.func77 [dI p.vars, dI p.arrays, dT p.body] [(0, pA 0)] fun G => ?_; refine wp_seq (s4 G l6 (rg 4) [dI p.vars, dI p.arrays, dT p.body, .box (pL 0)] [(1, .ptr 3 0), (2, iA 0), (3, iA 0)] fun G => b7 (wp_seq (s4 G (B5 1 [0, 1, 2] (bm8 p false (by assumption))) [0, 1, 2] [dI p.vars, dI p.arrays, dT p.body] [(2, iA (U6 p false).fst), (3, iA (U6 p false).snd)] fun G => b7 (wp_ret ?_)))); exact O9 G [0, 1, 2]
theorem aw7 (p : k6) (e : b5) (he : l9 p.vars.length p.arrays.length 5 e = true) : p6.ok Tryz.prog (P3 141 [pA 0, eA e 3] (pS p ++ eS e) (iA (n8 p e))) := by0 p 5 e he
def ak6 (p : k6) (s : b6) (cx : Int) : Int := if s.kind = 2 then n6 (n6 (n8 p s.value) cx) (n8 p s.index) else n6 (n8 p s.value) cx
def T8 (p : k6) (s : b6) (cx : Int) : Int :=
 if s.kind = 1 then if anI (n6 (n8 p s.value) cx) (p.vars.getD s.target.toNat 0) = 0 then 0 else 1
 else if s.kind = 2 then if anI (n6 (n6 (n8 p s.value) cx) (n8 p s.index)) (p.arrays.getD s.target.toNat 0) = 0 then 0 else 1
 else if s.kind = 5 then if (m0 (n8 p s.value) && decide (n8 p s.value ≤ 1)) = true ∧ cx = 0 then 0 else 2
 else 0
theorem bp5 {p : k6} {s : b6} {cx : Int} (k : ¬ s.kind = 2) : ak6 p s cx = n6 (n8 p s.value) cx := if_neg k
theorem bp4 {p : k6} {s : b6} {cx : Int} (k : s.kind = 2) : ak6 p s cx = n6 (n6 (n8 p s.value) cx) (n8 p s.index) := if_pos k
section
variable {p : k6} {s : b6} {cx : Int}
theorem bU6 (k : s.kind = 1) (h : (!(anI (ak6 p s cx) (p.vars.getD s.target.toNat 0) == 0)) = false) : T8 p s cx = 0 := by
 rw [bp5 (by omega)] at h
 rw [T8, if_pos k, if_pos (by simpa using h)]
theorem bU7 (k : s.kind = 1) (h : (!(anI (ak6 p s cx) (p.vars.getD s.target.toNat 0) == 0)) = true) : T8 p s cx = 1 := by
 rw [bp5 (by omega)] at h
 rw [T8, if_pos k, if_neg (by simpa using h)]
theorem bU4 (k : s.kind = 2) (h : (!(anI (ak6 p s cx) (p.arrays.getD s.target.toNat 0) == 0)) = false) : T8 p s cx = 0 := by
 rw [bp4 k] at h
 rw [T8, if_neg (by omega), if_pos k, if_pos (by simpa using h)]
theorem bU5 (k : s.kind = 2) (h : (!(anI (ak6 p s cx) (p.arrays.getD s.target.toNat 0) == 0)) = true) : T8 p s cx = 1 := by
 rw [bp4 k] at h
 rw [T8, if_neg (by omega), if_pos k, if_neg (by simpa using h)]
theorem bU3 (k : s.kind = 5) (h : (!(m0 (n8 p s.value) && decide (n8 p s.value ≤ 1))) = false) (h2 : cx = 0) : T8 p s cx = 0 := by
 rw [bW8] at h
 rw [T8, if_neg (by omega), if_neg (by omega), if_pos k, if_pos ⟨h, h2⟩]
theorem bR5 (k : s.kind = 5) (h : (!(m0 (n8 p s.value) && decide (n8 p s.value ≤ 1))) = true ∨ ¬ cx = 0) : T8 p s cx = 2 := by
 rw [T8, if_neg (by omega), if_neg (by omega), if_pos k, if_neg]
 rintro ⟨a, b⟩
 rcases h with h | h
 ·rw [a] at h; cases h
 ·exact h b
theorem if0 (k : ¬ s.kind = 1 ∧ ¬ s.kind = 2 ∧ ¬ s.kind = 5) : T8 p s cx = 0 := by rw [T8, if_neg k.1, if_neg k.2.1, if_neg k.2.2]
end
theorem a50 (p : k6) (s : b6) (cx : Int) (h : C9 p.vars.length p.arrays.length s = true) (h4 : ¬ s.kind = 4) : p6.ok Tryz.prog (P3 139 [pA 0, sA s 3, iA cx] (pS p ++ sS s) (iA (ak6 p s cx))) := by
 refine H9 24 Tryz.func139 [dI p.vars, dI p.arrays, dT p.body, dE s.index.kids, dE s.value.kids, dT s.body, dT s.els] [(0, pA 0), (1, sA s 3), (2, iA cx)] fun G => ?_; refine wp_seq (s4 G l6 [0, 1, 2, 3, 4, 5, 6, 7, 15] [dI p.vars, dI p.arrays, dT p.body, dE s.index.kids, dE s.value.kids, dT s.body, dT s.els, .box (pL 0), .box (sL s 3)] [(2, iA cx), (3, .ptr 7 0), (4, .ptr 8 0), (6, iA 0)] fun G => b7 (wp_seq (n9 G (B5 3 [0, 1, 2, 4] (aw7 p s.value (C3 h (by omega)))) [(7, iA (n6 (n8 p s.value) cx))] fun G => b7 (wp_seq (wp_seq (n9 G l6 [(16, bA (s.kind == 2))] fun G => b7 (rcE G (fun h0 q0 => ?_) fun h0 q0 => ?_)))))))
 ·refine wp_skip (b7 (wp_seq (s4 G l6 (rg 7) [dI p.vars, dI p.arrays, dT p.body, dE s.index.kids, dE s.value.kids, dT s.body, dT s.els] [(6, iA (n6 (n8 p s.value) cx))] fun G => b7 (wp_ret ?_)))); exact Z7 (n6 (n8 p s.value) cx) G (rg 7) (bp5 (by assumption))
 ·refine s4 G (B5 4 (rg 4) (aw7 p s.index (aK0 h (by assumption)))) (rg 7) [dI p.vars, dI p.arrays, dT p.body, dE s.index.kids, dE s.value.kids, dT s.body, dT s.els] [(6, iA 0), (7, iA (n6 (n6 (n8 p s.value) cx) (n8 p s.index)))] fun G => b7 (wp_seq (n9 G l6 [(6, iA (n6 (n6 (n8 p s.value) cx) (n8 p s.index)))] fun G => b7 (wp_ret ?_))); exact Z7 (n6 (n6 (n8 p s.value) cx) (n8 p s.index)) G (rg 7) (bp4 (by assumption))
abbrev as7 (p : k6) (s : b6) (r0 : List It) : List It := dI p.vars :: dI p.arrays :: dT p.body :: dE s.index.kids :: dE s.value.kids :: dT s.body :: dT s.els :: r0
theorem bM8 (p : k6) (s : b6) (cx : Int) (h : C9 p.vars.length p.arrays.length s = true) : p6.ok Tryz.prog (P3 67 [pA 0, sA s 3, iA cx] (pS p ++ sS s) (iA (T8 p s cx))) := by
  refine H9 59 Tryz.func67 (as7 p s []) [(0, pA 0), (1, sA s 3), (2, iA cx)] fun G => ?_; refine wp_seq (s4 G l6 [0, 1, 2, 3, 4, 5, 6, 7, 15] (as7 p s [.box (pL 0), .box (sL s 3)]) [(2, iA cx), (3, .ptr 7 0), (4, .ptr 8 0), (6, iA 0)] fun G => b7 (wp_seq (wp_block (wp_seq ?_)))); cases h0 : (s.kind == 1)
  ·
   have q0 := ne_of_beq_false h0; refine a07 G (hhF (fc h0 fz) (us [(4, 15, 0), (1016, 1016, 0)])) [0, 1, 3, 7, 15, 15, 15, 127, 15, 271, 15, 1039, 3855, 7951, 16383, 32767, 65535, 131071] [(7, bA false)] fun G => b7 (rF G false (by kernel_rfl) (wp_seq ?_)); cases h1 : (s.kind == 2)
   ·
    have q1 := ne_of_beq_false h1; refine a07 G (hhF (fc h1 fz) (us [(4, 15, 0), (1016, 1016, 0)])) [0, 1, 3, 7, 15, 15, 15, 127, 15, 271, 15, 1039, 3855, 7951, 16383, 32767, 65535, 131071] [(25, bA false)] fun G => b7 (rF G false (by kernel_rfl) (wp_seq ?_)); cases h2 : (s.kind == 5)
    · have q2 := ne_of_beq_false h2; refine s4 G (hhF (fc h2 fz) (us [(4, 10, 0), (13, 13, 0), (1014, 1014, 0)])) (rg 7) (as7 p s []) [(6, iA 0), (43, bA false)] fun G => b7 (rF G false (by kernel_rfl) (wp_skip (w5 (b7 (wp_seq (n9 G l6 [] fun G => b7 (wp_ret ?_))))))); exact Z7 0 G (rg 7) (if0 (by omega))
    ·
     have q2 := eq_of_beq h2; cases h3 : (!(m0 (n8 p s.value) && decide (n8 p s.value ≤ 1)))
     ·
      have q3 : ((m0 (n8 p s.value)) = true) ∧ (n8 p s.value ≤ 1) := (fun hq => And.imp (fun hq => (hq)) (fun hq => of_decide_eq_true hq) (bY2.1 hq)) (Eq.mp (bW8 _) h3); refine s4 G (E5 (t4 7 [0, 1, 2, 4] (aw7 p s.value (C3 h (by omega))) (t4 8 [] (aj7 (n8 p s.value)) E4)) (fc h2 (fc h3 fz)) (us [(4, 10, 0), (11, 12, 1), (13, 13, 0), (1013, 1013, 1), (1014, 1014, 0)])) (rg 7) (as7 p s []) [(6, iA 0), (43, bA (cx != 0))] fun G => b7 (rcN G (fun h4 q4 => ?_) fun h4 q4 => ?_)
      · refine wp_skip (w5 (b7 (wp_seq (n9 G l6 [] fun G => b7 (wp_ret ?_))))); exact Z7 0 G (rg 7) (bU3 (by with_reducible assumption) (by with_reducible assumption) (by with_reducible assumption))
      · refine wp_seq (n9 G l6 [(6, iA 2)] fun G => b7 (wp_ret (M8 (t6 ?_)))); exact Z7 2 G (rg 7) (bR5 (by with_reducible assumption) (.inr (by with_reducible assumption)))
     · have q3 : ((m0 (n8 p s.value)) = false) ∨ (¬ (n8 p s.value ≤ 1)) := (fun hq => Or.imp (fun hq => (hq)) (fun hq => of_decide_eq_false hq) (bY1.1 hq)) (Eq.mp (bW7 _) h3); refine s4 G (E5 (t4 7 [0, 1, 2, 4] (aw7 p s.value (C3 h (by omega))) (t4 8 [] (aj7 (n8 p s.value)) E4)) (fc h2 (fc h3 fz)) (us [(4, 10, 0), (11, 12, 1), (13, 13, 0), (1013, 1013, 1), (1014, 1014, 0)])) (rg 7) (as7 p s []) [(6, iA 0), (43, bA true)] fun G => b7 (rT G true (by kernel_rfl) (wp_seq (n9 G l6 [(6, iA 2)] fun G => b7 (wp_ret (M8 (t6 ?_)))))); exact Z7 2 G (rg 7) (bR5 (by with_reducible assumption) (.inl (by with_reducible assumption)))
   ·
    have q1 := eq_of_beq h1; refine bk4 G (E5 (t4 7 (rg 7) (a50 p s cx (by assumption) (by omega)) (t4 14 [] (bi4 (ak6 p s cx) (p.arrays.getD s.target.toNat 0)) E4)) (fc h1 fz) (us [(4, 15, 0), (1016, 1016, 0)])) [0, 1, 3, 7, 15, 15, 15, 127, 15, 271, 15, 1039, 3855, 7951, 16383, 32767, 65535, 131071] [(2, iA cx), (3, .ptr 7 0), (4, .ptr 8 0), (6, iA 0), (25, .v (.bool !anI (ak6 p s cx) (p.arrays.getD s.target.toNat 0) == 0))] [(0 : Int) ≤ s.target, s.target < (p.arrays.length : Int), s.target.toNat < p.arrays.length] ⟨((az5 h (by omega)).1), ((az5 h (by omega)).2.1), ((az5 h (by omega)).2.2), bW1⟩ fun G => b7 ?_; cases h5 : (!anI (ak6 p s cx) (p.arrays.getD s.target.toNat (0 : Int)) == 0)
    ·
     have q5 : anI (ak6 p s cx) (p.arrays.getD s.target.toNat 0) = 0 := (fun hq => eq_of_beq hq) (Eq.mp (bW8 _) h5); refine rF G _ h5 (wp_seq ?_); cases h6 : (s.kind == 5)
     · have q6 := ne_of_beq_false h6; refine s4 G (hhF (fc h6 fz) (us [(4, 10, 0), (13, 13, 0), (1014, 1014, 0)])) (rg 7) (as7 p s []) [(6, iA 0), (43, bA false)] fun G => b7 (rF G false (by kernel_rfl) (wp_skip (w5 (b7 (wp_seq (n9 G l6 [] fun G => b7 (wp_ret ?_))))))); exact Z7 0 G (rg 7) (bU4 (by with_reducible assumption) (by with_reducible assumption))
     · have q6 := eq_of_beq h6; exact False.elim (by omega)
    · have q5 : ¬ (anI (ak6 p s cx) (p.arrays.getD s.target.toNat 0) = 0) := (fun hq => ne_of_beq_false hq) (Eq.mp (bW7 _) h5); refine rT G _ h5 (wp_seq (s4 G l6 (rg 7) (as7 p s []) [(6, iA 1)] fun G => b7 (wp_ret (M8 (t6 ?_))))); exact Z7 1 G (rg 7) (bU5 (by with_reducible assumption) (by with_reducible assumption))
  ·
   have q0 := eq_of_beq h0; refine bk4 G (E5 (t4 7 (rg 7) (a50 p s cx (by assumption) (by omega)) (t4 14 [] (bi4 (ak6 p s cx) (p.vars.getD s.target.toNat 0)) E4)) (fc h0 fz) (us [(4, 15, 0), (1016, 1016, 0)])) [0, 1, 3, 7, 15, 15, 15, 127, 15, 271, 15, 1039, 3855, 7951, 16383, 32767, 65535, 131071] [(2, iA cx), (3, .ptr 7 0), (4, .ptr 8 0), (6, iA 0), (7, .v (.bool !anI (ak6 p s cx) (p.vars.getD s.target.toNat 0) == 0))] [(0 : Int) ≤ s.target, s.target < (p.vars.length : Int), s.target.toNat < p.vars.length] ⟨((az4 h (by omega)).1), ((az4 h (by omega)).2.1), ((az4 h (by omega)).2.2), bW1⟩ fun G => b7 ?_; cases h7 : (!anI (ak6 p s cx) (p.vars.getD s.target.toNat (0 : Int)) == 0)
   ·
    have q7 : anI (ak6 p s cx) (p.vars.getD s.target.toNat 0) = 0 := (fun hq => eq_of_beq hq) (Eq.mp (bW8 _) h7); refine rF G _ h7 (wp_seq ?_); cases h8 : (s.kind == 2)
    ·
     have q8 := ne_of_beq_false h8; refine bO5 G (hhF (fc h8 fz) (us [(4, 15, 0), (1016, 1016, 0)])) [0, 1, 3, 7, 15, 15, 15, 127, 15, 271, 15, 1039, 3855, 7951, 16383, 32767, 65535, 131071] [(2, iA cx), (3, .ptr 7 0), (4, .ptr 8 0), (6, iA 0), (25, bA false)] fun G => b7 (rF G false (by kernel_rfl) (wp_seq ?_)); cases h9 : (s.kind == 5)
     · have q9 := ne_of_beq_false h9; refine s4 G (hhF (fc h9 fz) (us [(4, 10, 0), (13, 13, 0), (1014, 1014, 0)])) (rg 7) (as7 p s []) [(6, iA 0), (43, bA false)] fun G => b7 (rF G false (by kernel_rfl) (wp_skip (w5 (b7 (wp_seq (n9 G l6 [] fun G => b7 (wp_ret ?_))))))); exact Z7 0 G (rg 7) (bU6 (by with_reducible assumption) (by with_reducible assumption))
     · have q9 := eq_of_beq h9; exact False.elim (by omega)
    · have q8 := eq_of_beq h8; exact False.elim (by omega)
   · have q7 : ¬ (anI (ak6 p s cx) (p.vars.getD s.target.toNat 0) = 0) := (fun hq => ne_of_beq_false hq) (Eq.mp (bW7 _) h7); refine rT G _ h7 (wp_seq (s4 G l6 (rg 7) (as7 p s []) [(6, iA 1)] fun G => b7 (wp_ret (M8 (t6 ?_))))); exact Z7 1 G (rg 7) (bU7 (by with_reducible assumption) (by with_reducible assumption))
def L3 (p : k6) : Nat → Int → List b6 → List (b6 × Int)
 | 0, _, _ => []
 | d + 1, cx, ss => ss.flatMap fun s => (s, cx) :: (L3 p d (O6 p s cx) s.body ++ L3 p d (O6 p s cx) s.els)
theorem aK6 (p : k6) (d : Nat) (cx : Int) (s : b6) (r : List b6) : L3 p (d + 1) cx (s :: r) = (s, cx) :: (L3 p d (O6 p s cx) s.body ++ L3 p d (O6 p s cx) s.els) ++ L3 p (d + 1) cx r := by
 simp only [L3, List.flatMap_cons]
theorem bD3 (p : k6) (d : Nat) (cx : Int) : L3 p d cx [] = [] := by cases d <;> rfl
theorem bb9 (p : k6) (d : Nat) (cx : Int) (a b : List b6) : L3 p d cx (a ++ b) = L3 p d cx a ++ L3 p d cx b := by
 cases d with
 | zero => rfl
 | succ d => simp [L3]
theorem bw4 (p : k6) (d : Nat) (cx : Int) {ss : List b6} {k : Nat} (hk : k < ss.length) :
  L3 p (d + 1) cx (ss.take (k + 1)) = L3 p (d + 1) cx (ss.take k) ++ ((ss.getD k bV3, cx) :: (L3 p d (O6 p (ss.getD k bV3) cx) (ss.getD k bV3).body ++ L3 p d (O6 p (ss.getD k bV3) cx) (ss.getD k bV3).els)) := by
 rw [m8 _ _ hk, bb9, A1 hk, aK6, bD3, List.append_nil]
theorem aw4 (p : k6) : ∀ (d : Nat) (cx : Int) (ss : List b6), (L3 p d cx ss).length ≤ J0 ss
 | 0, _, _ => bX5 _
 | d + 1, cx, [] => by simp [L3]
 | d + 1, cx, s :: r => by
  rw [aK6, bV4, bV6, bV4, J0, ai0]
  have h1 := aw4 p d (O6 p s cx) s.body
  have h2 := aw4 p d (O6 p s cx) s.els
  have h3 := aw4 p (d + 1) cx r
  omega
def J8 (R : b6 × Int → Int) : Nat → List (b6 × Int) → Int × Nat
 | c, [] => (0, c)
 | c, x :: r => if R x = 0 then J8 R (c + 1) r else (R x, c)
theorem ae9 (R : b6 × Int → Int) : ∀ (a b : List (b6 × Int)) (c : Nat), J8 R c (a ++ b) = if (J8 R c a).1 = 0 then J8 R (J8 R c a).2 b else J8 R c a
 | [], b, c => by simp [J8]
 | x :: r, b, c => by
  simp only [List.cons_append, J8]
  by_cases h : R x = 0
  ·simp only [h, if_true]; exact ae9 R r b _
  ·simp [h]
theorem aw1 {R R' : b6 × Int → Int} : ∀ {l : List (b6 × Int)} {c : Nat}, (∀ x ∈ l, R x = R' x) → J8 R c l = J8 R' c l
 | [], c, _ => rfl
 | x :: r, c, h => by
  simp only [J8]
  rw [h x bX6, aw1 fun y hy => h y (bX9 _ hy)]
theorem bz6 (p : k6) (strict : Bool) (d : Nat) (ih : ∀ (cx : Int) (c : Nat) (ss : List b6), B9 p strict d cx c ss = J8 (fun x => W9 p x.1 x.2 strict) c (L3 p d cx ss)) (cx : Int) (c : Nat) (s : b6) :
  stC p strict (d + 1) cx c s = J8 (fun x => W9 p x.1 x.2 strict) c ((s, cx) :: (L3 p d (O6 p s cx) s.body ++ L3 p d (O6 p s cx) s.els)) := by
 have h1 := ih (O6 p s cx) (c + 1) s.body
 unfold B9 at h1
 rw [stC, J8]
 simp only
 split
 ·rw [ae9, h1]
  split
  ·exact ih _ _ _
  ·rfl
 ·rfl
theorem bi6 (p : k6) (strict : Bool) : ∀ (d : Nat) (cx : Int) (c : Nat) (ss : List b6), B9 p strict d cx c ss = J8 (fun x => W9 p x.1 x.2 strict) c (L3 p d cx ss)
 | 0, cx, c, ss => by
  induction ss with
  | nil => rfl
  | cons s r ih => unfold B9 at ih ⊢; rw [G8]; simp only [stC, if_true]; exact ih
 | d + 1, cx, c, ss => by
  induction ss generalizing c with
  | nil => simp [G8, L3, J8]
  | cons s r ih =>
   unfold B9 at ih ⊢
   rw [G8, aK6, ae9, ← bz6 p strict d (bi6 p strict d)]
   split
   ·exact ih _
   ·rfl
def p8 (R : b6 × Int → Int) (σ : Int × Int × Nat) (x : b6 × Int) : Int × Int × Nat :=
 if σ.1 = 0 then (R x, if R x = 0 then σ.2.1 else (σ.2.2 : Int), σ.2.2 + 1) else (σ.1, σ.2.1, σ.2.2 + 1)
theorem az0 (R : b6 × Int → Int) : ∀ (l : List (b6 × Int)) (σ : Int × Int × Nat), (l.foldl (p8 R) σ).2.2 = σ.2.2 + l.length
 | [], σ => rfl
 | x :: r, σ => by
  rw [List.foldl_cons, az0 R r, bV6]
  unfold p8
  split <;> simp only <;> omega
theorem aH3 {R : b6 × Int → Int} : ∀ (l : List (b6 × Int)) {σ : Int × Int × Nat}, ¬ σ.1 = 0 → (l.foldl (p8 R) σ).1 = σ.1 ∧ (l.foldl (p8 R) σ).2.1 = σ.2.1
 | [], σ, h => ⟨rfl, rfl⟩
 | x :: r, σ, h => by
  rw [List.foldl_cons]
  have e : p8 R σ x = (σ.1, σ.2.1, σ.2.2 + 1) := by unfold p8; rw [if_neg h]
  rw [e]
  exact aH3 r (σ := (σ.1, σ.2.1, σ.2.2 + 1)) h
theorem aB4 {R : b6 × Int → Int} : ∀ (l : List (b6 × Int)) (n : Nat), ((l.foldl (p8 R) (0, -1, n)).1, (l.foldl (p8 R) (0, -1, n)).2.1) = if (J8 R n l).1 = 0 then ((0 : Int), (-1 : Int)) else ((J8 R n l).1, ((J8 R n l).2 : Int))
 | [], n => rfl
 | x :: r, n => by
  rw [List.foldl_cons, J8]
  by_cases h : R x = 0
  ·have e : p8 R (0, -1, n) x = (0, -1, n + 1) := by unfold p8; simp [h]
   rw [e, if_pos h]; exact aB4 r (n + 1)
  ·have e : p8 R (0, -1, n) x = (R x, (n : Int), n + 1) := by unfold p8; simp [h]
   rw [e, if_neg h, if_neg h]
   obtain ⟨h1, h2⟩ := aH3 (R := R) r (σ := (R x, (n : Int), n + 1)) h
   rw [h1, h2]
theorem aO5 {R : b6 × Int → Int} {p : k6} {d : Nat} {cx : Int} {ss : List b6} {k : Nat} (hk : k < ss.length) (σ : Int × Int × Nat) :
  (L3 p (d + 1) cx (ss.take (k + 1))).foldl (p8 R) σ =
   (L3 p d (O6 p (ss.getD k bV3) cx) (ss.getD k bV3).els).foldl (p8 R) ((L3 p d (O6 p (ss.getD k bV3) cx) (ss.getD k bV3).body).foldl (p8 R) (p8 R ((L3 p (d + 1) cx (ss.take k)).foldl (p8 R) σ) (ss.getD k bV3, cx))) := by
 rw [bw4 p d cx hk, List.foldl_append, List.foldl_cons, List.foldl_append]
theorem bJ5 : ∀ x : Fin 4, ∀ y : Fin 4, ∃ z : Fin 4, n6 x.val y.val = (z.val : Int) := by decide +kernel
theorem a15 {x y : Int} (hx : m0 x = true) (hy : m0 y = true) : m0 (n6 x y) = true := by
 obtain ⟨a, rfl⟩ := aa0 hx
 obtain ⟨b, rfl⟩ := aa0 hy
 obtain ⟨c, h⟩ := bJ5 a b
 rw [h]
 simp [m0]; omega
theorem a16 : ∀ x : Fin 4, ∀ y : Fin 4, n6 x.val y.val = n6 y.val x.val := by decide +kernel
theorem aV2 : ∀ x : Fin 4, ∀ y : Fin 4, ∀ z : Fin 4, n6 (n6 x.val y.val) z.val = n6 x.val (n6 y.val z.val) := by decide +kernel
theorem or_comm {x y : Int} (hx : m0 x = true) (hy : m0 y = true) : n6 x y = n6 y x := by
 obtain ⟨a, rfl⟩ := aa0 hx
 obtain ⟨b, rfl⟩ := aa0 hy
 exact a16 a b
theorem or_assoc {x y z : Int} (hx : m0 x = true) (hy : m0 y = true) (hz : m0 z = true) : n6 (n6 x y) z = n6 x (n6 y z) := by
 obtain ⟨a, rfl⟩ := aa0 hx
 obtain ⟨b, rfl⟩ := aa0 hy
 obtain ⟨c, rfl⟩ := aa0 hz
 exact aV2 a b c
theorem aD7 {l : List Int} (h : l.all m0 = true) (i : Nat) : m0 (l.getD i 0) = true := by
 rcases bY6 i l.length with hi | hi
 ·rw [A1 hi]; exact bX0.1 h _ (bX2 hi)
 ·rw [bW2, bY0 hi]; rfl
theorem bg4 {vs ars : List Int} (h1 : vs.all m0 = true) (h2 : ars.all m0 = true) : ∀ (d : Nat) (e : b5), m0 (l5 vs ars d e) = true
 | 0, _ => rfl
 | d + 1, e => by
  rw [l5]
  have key : ∀ (ks : List b5) (a : Int), m0 a = true → m0 (ks.foldl (fun a k => n6 a (l5 vs ars d k)) a) = true := by
   intro ks
   induction ks with
   | nil => intro a ha; exact ha
   | cons x r ih => intro a ha; rw [List.foldl_cons]; exact ih _ (a15 ha (bg4 h1 h2 d x))
  refine key _ _ ?_
  unfold ar4
  split
  ·exact aD7 h1 _
  ·split
   ·exact aD7 h2 _
   ·rfl
def aB7 (p : k6) : Bool := p.vars.all m0 && p.arrays.all m0
theorem ba2 {p : k6} (h : s9 p = true) : aB7 p = true := by
 unfold s9 L9 at h
 simp only [bV8] at h
 unfold aB7
 rw [h.1.1.1.1.1.1, h.1.1.1.1.1.2]; rfl
theorem aW2 {p : k6} (h : aB7 p = true) (e : b5) : m0 (n8 p e) = true := by
 simp only [aB7, bV8] at h
 exact bg4 h.1 h.2 5 e
theorem bg8 {p : k6} (h : aB7 p = true) {cx : Int} (hc : m0 cx = true) (s : b6) : m0 (O6 p s cx) = true := by
 unfold O6
 split
 ·exact a15 hc (aW2 h _)
 ·exact hc
theorem aW6 {p : k6} (hp : aB7 p = true) : ∀ (d : Nat) (cx : Int) (ss : List b6), m0 cx = true → ss.all (m5 p.vars.length p.arrays.length d) = true → ∀ x ∈ L3 p d cx ss, C9 p.vars.length p.arrays.length x.1 = true ∧ m0 x.2 = true ∧ (x.1.kind = 4 → x.1.value.kind = 0 ∧ x.1.value.kids = [])
 | 0, cx, ss, _, _, x, hx => by simp [L3] at hx
 | d + 1, cx, ss, hc, hs, x, hx => by
  rw [L3] at hx
  obtain ⟨s, hss, hx⟩ := List.mem_flatMap.1 hx
  have h0 := bX0.1 hs s hss
  have h1 := h0
  rw [L7, bV8, bV8] at h1
  rw [bZ6, bY5] at hx
  rcases hx with rfl | hx | hx
  ·refine ⟨h1.1, hc, fun k4 => ?_⟩
   rw [m5, bV8] at h0
   have h2 := h0.1
   unfold F5 at h2
   rw [if_pos (.inr k4), if_pos k4] at h2
   simp only [bV8, decide_eq_true_eq, noneB] at h2
   exact ⟨h2.2.2.1.1, bY8 h2.2.2.2⟩
  ·exact aW6 hp d _ _ (bg8 hp hc s) h1.2.1 x hx
  ·exact aW6 hp d _ _ (bg8 hp hc s) h1.2.2 x hx
theorem bC8 {p : k6} (hp : aB7 p = true) {s : b6} {cx : Int} (hc : m0 cx = true) : T8 p s cx = P7 p s cx := by
 have hv := aW2 hp s.value
 have hi := aW2 hp s.index
 simp only [aB7, bV8] at hp
 unfold T8 P7
 by_cases k1 : s.kind = 1
 ·rw [if_pos k1, if_pos k1]
  have hx := a15 hv hc
  have hy := aD7 hp.1 s.target.toNat
  have := a35 hx hy
  unfold flB
  rw [hx, hy]
  by_cases h : anI (n6 (n8 p s.value) cx) (p.vars.getD s.target.toNat 0) = 0
  ·rw [if_pos h, if_pos]
   rw [beq_iff_eq.2 h] at this
   rw [← this]; rfl
  ·rw [if_neg h, if_neg]
   rw [beq_eq_false_iff_ne.2 h] at this
   rw [← this]; simp
 rw [if_neg k1, if_neg k1]
 by_cases k2 : s.kind = 2
 ·rw [if_pos k2, if_pos k2]
  have e : n6 (n6 (n8 p s.value) cx) (n8 p s.index) = n6 (n6 (n8 p s.value) (n8 p s.index)) cx := by
   rw [or_assoc hv hc hi, or_comm hc hi, ← or_assoc hv hi hc]
  rw [e]
  have hx := a15 (a15 hv hi) hc
  have hy := aD7 hp.2 s.target.toNat
  have := a35 hx hy
  unfold flB
  rw [hx, hy]
  by_cases h : anI (n6 (n6 (n8 p s.value) (n8 p s.index)) cx) (p.arrays.getD s.target.toNat 0) = 0
  ·rw [if_pos h, if_pos]
   rw [beq_iff_eq.2 h] at this
   rw [← this]; rfl
  ·rw [if_neg h, if_neg]
   rw [beq_eq_false_iff_ne.2 h] at this
   rw [← this]; simp
 rw [if_neg k2, if_neg k2]
 by_cases k5 : s.kind = 5
 ·rw [if_pos k5, if_pos k5]
  by_cases h : (m0 (n8 p s.value) && decide (n8 p s.value ≤ 1)) = true ∧ cx = 0
  ·rw [if_pos h, if_pos]
   rw [h.1, decide_eq_true h.2]; rfl
  ·rw [if_neg h, if_neg]
   rw [bV8, decide_eq_true_eq]; exact h
 ·rw [if_neg k5, if_neg k5]
theorem bh8 {p : k6} (h : s9 p = true) : ((L3 p 5 0 p.body).foldl (p8 fun x => T8 p x.1 x.2) (0, -1, 0)).1 = (U6 p false).1 ∧ ((L3 p 5 0 p.body).foldl (p8 fun x => T8 p x.1 x.2) (0, -1, 0)).2.1 = (U6 p false).2 := by
 have h1 := aB4 (R := fun x => T8 p x.1 x.2) (L3 p 5 0 p.body) 0
 have hl := ba2 h
 have e : J8 (fun x => T8 p x.1 x.2) 0 (L3 p 5 0 p.body) = B9 p false 5 0 0 p.body := by
  rw [bi6]
  refine aw1 fun x hx => ?_
  have hm := aW6 hl 5 0 p.body rfl (af6 h).1 x hx
  rw [bC8 hl hm.2.1]
  unfold W9
  simp only [Bool.false_eq_true, if_false]
  split
  ·rename_i h; exact h
  ·rfl
 rw [e] at h1
 have h2 := Prod.mk.inj h1
 unfold U6
 rw [if_pos h]
 split
 ·rename_i h3
  rw [if_pos h3] at h1
  exact Prod.mk.inj h1
 ·rename_i h3
  rw [if_neg h3] at h1
  exact Prod.mk.inj h1
abbrev Lab : Type := List Int × List Int
def bv (x : Int) : BitVec 64 := BitVec.ofInt 64 x
def ofb (b : BitVec 64) : Int := IntKind.i64.wrap (b.toNat : Int)
theorem bA7 (x y : Int) : n6 x y = ofb (bv x ||| bv y) := rfl
def leI (x y : Int) : Prop := bv x ||| bv y = bv y
theorem leI.refl (x : Int) : leI x x := BitVec.or_self
theorem leI.trans {x y z : Int} (h : leI x y) (k : leI y z) : leI x z := by
 unfold leI at *
 rw [← k, ← BitVec.or_assoc, h]
def leP (q r : Lab) : Prop := (∀ i, leI (q.1.getD i 0) (r.1.getD i 0)) ∧ ∀ i, leI (q.2.getD i 0) (r.2.getD i 0)
def shP (q r : Lab) : Prop := r.1.length = q.1.length ∧ r.2.length = q.2.length
theorem leP.refl (q : Lab) : leP q q := ⟨fun _ => leI.refl _, fun _ => leI.refl _⟩
theorem leP.trans {q r s : Lab} (h : leP q r) (k : leP r s) : leP q s := ⟨fun i => (h.1 i).trans (k.1 i), fun i => (h.2 i).trans (k.2 i)⟩
theorem shP.refl (q : Lab) : shP q q := ⟨rfl, rfl⟩
theorem shP.trans {q r s : Lab} (h : shP q r) (k : shP r s) : shP q s := ⟨k.1.trans h.1, k.2.trans h.2⟩
theorem shP.symm {q r : Lab} (h : shP q r) : shP r q := ⟨h.1.symm, h.2.symm⟩
def bO7 (q : Lab) (s : b6) (cx : Int) : Lab :=
 if s.kind = 1 then (q.1.set s.target.toNat (n6 (n6 (q.1.getD s.target.toNat 0) (l5 q.1 q.2 5 s.value)) cx), q.2)
 else if s.kind = 2 then (q.1, q.2.set s.target.toNat (n6 (n6 (n6 (q.2.getD s.target.toNat 0) (l5 q.1 q.2 5 s.value)) (l5 q.1 q.2 5 s.index)) cx))
 else q
def bQ8 (q : Lab) (s : b6) (cx : Int) : Int := if s.kind = 3 then n6 cx (l5 q.1 q.2 5 s.value) else cx
section
variable {b : Bool} {d : Nat} {cx : Int} {q r : Lab} {ss : List b6}
end
def cdF (F : b6 → Int) : List b6 → Int
 | [] => 0
 | s :: r => if F s = 0 then cdF F r else F s
def cdS (vs ars : List Int) (strict : Bool) : Nat → Int → b6 → Int
 | 0, _, _ => 0
 | d + 1, pc, s => if W9 ⟨vs, ars, []⟩ s pc strict = 0 then
   (if cdF (cdS vs ars strict d (O6 ⟨vs, ars, []⟩ s pc)) s.body = 0 then cdF (cdS vs ars strict d (O6 ⟨vs, ars, []⟩ s pc)) s.els else cdF (cdS vs ars strict d (O6 ⟨vs, ars, []⟩ s pc)) s.body)
  else W9 ⟨vs, ars, []⟩ s pc strict
theorem bc7 {F : b6 → Int} {G : Nat → b6 → Int × Nat} (h : ∀ c s, (G c s).1 = F s) : ∀ (ss : List b6) (c : Nat), (G8 G c ss).1 = cdF F ss
 | [], _ => rfl
 | s :: r, c => by
  rw [G8, cdF, h]
  split
  ·exact bc7 h r _
  ·exact h c s
theorem bx5 (p : k6) (strict : Bool) : ∀ (d : Nat) (pc : Int) (c : Nat) (s : b6), (stC p strict d pc c s).1 = cdS p.vars p.arrays strict d pc s
 | 0, _, _, _ => rfl
 | d + 1, pc, c, s => by
  have e1 : W9 p s pc strict = W9 ⟨p.vars, p.arrays, []⟩ s pc strict := rfl
  have e2 : O6 p s pc = O6 ⟨p.vars, p.arrays, []⟩ s pc := rfl
  have h1 := fun ss c => bc7 (bx5 p strict d (O6 p s pc)) ss c
  rw [stC, cdS, ← e1, ← e2]
  split
  ·rw [h1]
   split
   ·rw [h1]
   ·rw [h1]
  ·rfl
theorem bM3 (p : k6) (strict : Bool) (d : Nat) (pc : Int) (c : Nat) (ss : List b6) : (B9 p strict d pc c ss).1 = cdF (cdS p.vars p.arrays strict d pc) ss := bc7 (bx5 p strict d pc) ss c
theorem a48 {F : b6 → Int} : ∀ {ss : List b6}, cdF F ss = 0 ↔ ∀ s ∈ ss, F s = 0
 | [] => by simp [cdF]
 | s :: r => by
  rw [cdF]
  by_cases h : F s = 0
  ·rw [if_pos h, a48]
   simp [h]
  ·rw [if_neg h]
   simp [h]
theorem bD8 (p : k6) (strict : Bool) : (U6 p strict).1 = if s9 p = true then cdF (cdS p.vars p.arrays strict 5 0) p.body else 5 := by
 unfold U6
 rw [← bM3 p strict 5 0 0]
 split
 ·split
  ·rename_i h; exact h.symm
  ·rfl
 ·rfl
theorem bD7 (p : k6) (strict : Bool) : (U6 p strict).1 = 0 ↔ s9 p = true ∧ ∀ s ∈ p.body, cdS p.vars p.arrays strict 5 0 s = 0 := by
 rw [bD8]
 split
 ·rename_i h; rw [a48]; exact ⟨fun h1 => ⟨h, h1⟩, fun h1 => h1.2⟩
 ·rename_i h; exact ⟨fun h1 => absurd h1 (by decide), fun h1 => absurd h1.1 h⟩
section
variable {vs ars : List Int} {l : Int} {s : b6} {pc pd : Int}
end
theorem az2 {p : k6} (h : s9 p = true) : p.vars.all m0 = true ∧ p.arrays.all m0 = true ∧ 1 ≤ p.vars.length ∧ p.body.all (m5 p.vars.length p.arrays.length 5) = true := by
 unfold s9 L9 at h
 simp only [bV8, decide_eq_true_eq] at h
 exact ⟨h.1.1.1.1.1.1, h.1.1.1.1.1.2, h.1.1.1.1.2, h.1.2⟩
abbrev nnE : b5 := ⟨0, 0, []⟩
abbrev cnE (n : Int) : b5 := ⟨1, n, []⟩
abbrev vrE (v : Int) : b5 := ⟨2, v, []⟩
abbrev rdE (a : Int) (i : b5) : b5 := ⟨3, a, [i]⟩
abbrev V5 (i : b5) (k : Int) : b5 := ⟨9, 0, [⟨7, 0, [i, cnE 3]⟩, cnE k]⟩
abbrev seE (a b c : b5) : b5 := ⟨11, 0, [a, b, c]⟩
abbrev O7 (v : Int) (e : b5) : b6 := ⟨1, v, nnE, e, 0, [], []⟩
def B4 (m : Int) (e f : b5) : b5 := if m < 0 then e else seE (vrE m) e f
def rdL (v a : Int) (i : b5) : Nat → List b6
 | 0 => [O7 v (rdE a (cnE 0))]
 | k + 1 => rdL v a i k ++ [O7 v (seE (V5 i ((k : Int) + 1)) (rdE a (cnE ((k : Int) + 1))) (vrE v))]
def stL (v t : Int) (i : b5) (m : Int) : Nat → List b6
 | 0 => []
 | k + 1 => stL v t i m k ++ [⟨2, t, cnE (k : Int), seE (B4 m (V5 i (k : Int)) (cnE 0)) (vrE v) (rdE t (cnE (k : Int))), 0, [], []⟩]
abbrev LnS : Type := List Int × List b6
mutual
def b8 (ars : List Int) (pc : Int) : b5 → LnS → LnS × b5
 | ⟨k, v, ks⟩, s =>
  if k = 3 ∧ ae3 (l5 (A6 ars pc ks s).1.1 ars 5 (ks.getD 0 bV3)) = true then
   (((A6 ars pc ks s).1.1 ++ [n6 (l5 (A6 ars pc ks s).1.1 ars 5 ⟨k, v, ks⟩) pc], (A6 ars pc ks s).1.2 ++ rdL ((A6 ars pc ks s).1.1.length : Int) v (ks.getD 0 bV3) 3), vrE ((A6 ars pc ks s).1.1.length : Int))
  else ((A6 ars pc ks s).1, ⟨k, v, (A6 ars pc ks s).2⟩)
def A6 (ars : List Int) (pc : Int) : List b5 → LnS → LnS × List b5
 | [], s => (s, [])
 | e :: t, s => ((A6 ars pc t (b8 ars pc e s).1).1, (b8 ars pc e s).2 :: (A6 ars pc t (b8 ars pc e s).1).2)
end
theorem aJ8 (ars : List Int) (pc : Int) (e : b5) (s : LnS) : b8 ars pc e s =
  if e.kind = 3 ∧ ae3 (l5 (A6 ars pc e.kids s).1.1 ars 5 (e.kids.getD 0 bV3)) = true then
   (((A6 ars pc e.kids s).1.1 ++ [n6 (l5 (A6 ars pc e.kids s).1.1 ars 5 e) pc], (A6 ars pc e.kids s).1.2 ++ rdL ((A6 ars pc e.kids s).1.1.length : Int) e.value (e.kids.getD 0 bV3) 3), vrE ((A6 ars pc e.kids s).1.1.length : Int))
  else ((A6 ars pc e.kids s).1, ⟨e.kind, e.value, (A6 ars pc e.kids s).2⟩) := by
 cases e; rw [b8]; rfl
theorem av3 (ars : List Int) (pc : Int) : ∀ (a b : List b5) (s : LnS), A6 ars pc (a ++ b) s = ((A6 ars pc b (A6 ars pc a s).1).1, (A6 ars pc a s).2 ++ (A6 ars pc b (A6 ars pc a s).1).2)
 | [], b, s => by simp [A6]
 | e :: t, b, s => by
  simp only [List.cons_append, A6]
  rw [av3 ars pc t b]
theorem ar7 {ars : List Int} {pc : Int} {ks : List b5} {k : Nat} {s : LnS} (hk : k < ks.length) : A6 ars pc (ks.take (k + 1)) s = ((b8 ars pc (ks.getD k bV3) (A6 ars pc (ks.take k) s).1).1, (A6 ars pc (ks.take k) s).2 ++ [(b8 ars pc (ks.getD k bV3) (A6 ars pc (ks.take k) s).1).2]) := by
 rw [m8 _ _ hk, av3, A1 hk]
 simp [A6]
abbrev ifM (x : LnS × b5) (m l : Int) : LnS := (x.1.1 ++ [l] ++ [l], x.1.2 ++ [O7 (x.1.1.length : Int) (B4 m x.2 (cnE 0))] ++ [O7 ((x.1.1 ++ [l]).length : Int) (B4 m ⟨9, 0, [vrE (x.1.1.length : Int), cnE 0]⟩ (cnE 0))])
mutual
def A4 (ars : List Int) : b6 → Int → Int → LnS → LnS
 | ⟨k, t, i, v, c, b, e⟩, m, pc, s =>
  if k = 4 then ((m9 ars b m pc (s.1, [])).1, s.2 ++ [⟨4, 0, nnE, nnE, c, (m9 ars b m pc (s.1, [])).2, []⟩])
  else if k = 3 then
   (if ae3 (l5 s.1 ars 5 v) = true then
    m9 ars e (((b8 ars pc v s).1.1 ++ [n6 pc (l5 s.1 ars 5 v)]).length : Int) (n6 pc (l5 s.1 ars 5 v)) (m9 ars b ((b8 ars pc v s).1.1.length : Int) (n6 pc (l5 s.1 ars 5 v)) (ifM (b8 ars pc v s) m (n6 pc (l5 s.1 ars 5 v))))
   else ((m9 ars e m (n6 pc (l5 s.1 ars 5 v)) ((m9 ars b m (n6 pc (l5 s.1 ars 5 v)) ((b8 ars pc v s).1.1, [])).1, [])).1,
    (b8 ars pc v s).1.2 ++ [⟨3, 0, nnE, (b8 ars pc v s).2, 0, (m9 ars b m (n6 pc (l5 s.1 ars 5 v)) ((b8 ars pc v s).1.1, [])).2, (m9 ars e m (n6 pc (l5 s.1 ars 5 v)) ((m9 ars b m (n6 pc (l5 s.1 ars 5 v)) ((b8 ars pc v s).1.1, [])).1, [])).2⟩]))
  else if k = 5 then ((b8 ars pc v s).1.1, (b8 ars pc v s).1.2 ++ [⟨5, t, nnE, (b8 ars pc v s).2, 0, [], []⟩])
  else if k = 1 then ((b8 ars pc v s).1.1, (b8 ars pc v s).1.2 ++ [O7 t (B4 m (b8 ars pc v s).2 (vrE t))])
  else if ae3 (l5 (b8 ars pc v s).1.1 ars 5 i) = true then
   ((b8 ars pc v s).1.1 ++ [n6 (l5 (b8 ars pc v s).1.1 ars 5 (b8 ars pc v s).2) pc], (b8 ars pc v s).1.2 ++ [O7 ((b8 ars pc v s).1.1.length : Int) (b8 ars pc v s).2] ++ stL ((b8 ars pc v s).1.1.length : Int) t i m 4)
  else ((b8 ars pc v s).1.1, (b8 ars pc v s).1.2 ++ [⟨2, t, i, B4 m (b8 ars pc v s).2 (rdE t i), 0, [], []⟩])
def m9 (ars : List Int) : List b6 → Int → Int → LnS → LnS
 | [], _, _, s => s
 | x :: r, m, pc, s => m9 ars r m pc (A4 ars x m pc s)
end
theorem a28 (ars : List Int) (a b : List b6) (m pc : Int) (s : LnS) : m9 ars (a ++ b) m pc s = m9 ars b m pc (m9 ars a m pc s) := by
 induction a generalizing s with
 | nil => rfl
 | cons x r ih => simp only [List.cons_append, m9]; exact ih _
theorem bl2 {ars : List Int} {ss : List b6} {k : Nat} {m pc : Int} {s : LnS} (hk : k < ss.length) : m9 ars (ss.take (k + 1)) m pc s = A4 ars (ss.getD k bV3) m pc (m9 ars (ss.take k) m pc s) := by
 rw [m8 _ _ hk, a28, A1 hk]
 simp [m9]
section
variable {ars : List Int} {s : b6} {m pc : Int} {x : LnS}
theorem ln4 (k : s.kind = 4) : A4 ars s m pc x = ((m9 ars s.body m pc (x.1, [])).1, x.2 ++ [⟨4, 0, nnE, nnE, s.count, (m9 ars s.body m pc (x.1, [])).2, []⟩]) := by
 obtain ⟨kd, tg, ix, vl, ct, bd, el⟩ := s
 have k : kd = 4 := k
 rw [A4, if_pos k]; rfl
theorem bP3 (k : s.kind = 3) (h : ae3 (l5 x.1 ars 5 s.value) = true) : A4 ars s m pc x = m9 ars s.els (((b8 ars pc s.value x).1.1 ++ [n6 pc (l5 x.1 ars 5 s.value)]).length : Int) (n6 pc (l5 x.1 ars 5 s.value)) (m9 ars s.body ((b8 ars pc s.value x).1.1.length : Int) (n6 pc (l5 x.1 ars 5 s.value)) (ifM (b8 ars pc s.value x) m (n6 pc (l5 x.1 ars 5 s.value)))) := by
 obtain ⟨kd, tg, ix, vl, ct, bd, el⟩ := s
 have k : kd = 3 := k
 have h : ae3 (l5 x.1 ars 5 vl) = true := h
 rw [A4, if_neg (by omega), if_pos k, if_pos h]; rfl
theorem bP4 (k : s.kind = 3) (h : ae3 (l5 x.1 ars 5 s.value) = false) : A4 ars s m pc x = ((m9 ars s.els m (n6 pc (l5 x.1 ars 5 s.value)) ((m9 ars s.body m (n6 pc (l5 x.1 ars 5 s.value)) ((b8 ars pc s.value x).1.1, [])).1, [])).1,
  (b8 ars pc s.value x).1.2 ++ [⟨3, 0, nnE, (b8 ars pc s.value x).2, 0, (m9 ars s.body m (n6 pc (l5 x.1 ars 5 s.value)) ((b8 ars pc s.value x).1.1, [])).2, (m9 ars s.els m (n6 pc (l5 x.1 ars 5 s.value)) ((m9 ars s.body m (n6 pc (l5 x.1 ars 5 s.value)) ((b8 ars pc s.value x).1.1, [])).1, [])).2⟩]) := by
 obtain ⟨kd, tg, ix, vl, ct, bd, el⟩ := s
 have k : kd = 3 := k
 have h : ae3 (l5 x.1 ars 5 vl) = false := h
 rw [A4, if_neg (by omega), if_pos k, if_neg (by rw [h]; decide)]; rfl
theorem ln5 (k : s.kind = 5) : A4 ars s m pc x = ((b8 ars pc s.value x).1.1, (b8 ars pc s.value x).1.2 ++ [⟨5, s.target, nnE, (b8 ars pc s.value x).2, 0, [], []⟩]) := by
 obtain ⟨kd, tg, ix, vl, ct, bd, el⟩ := s
 have k : kd = 5 := k
 rw [A4, if_neg (by omega), if_neg (by omega), if_pos k]; rfl
theorem ln1 (k : s.kind = 1) : A4 ars s m pc x = ((b8 ars pc s.value x).1.1, (b8 ars pc s.value x).1.2 ++ [O7 s.target (B4 m (b8 ars pc s.value x).2 (vrE s.target))]) := by
 obtain ⟨kd, tg, ix, vl, ct, bd, el⟩ := s
 have k : kd = 1 := k
 rw [A4, if_neg (by omega), if_neg (by omega), if_neg (by omega), if_pos k]; rfl
theorem bK7 (k : s.kind = 2) (h : ae3 (l5 (b8 ars pc s.value x).1.1 ars 5 s.index) = true) : A4 ars s m pc x = ((b8 ars pc s.value x).1.1 ++ [n6 (l5 (b8 ars pc s.value x).1.1 ars 5 (b8 ars pc s.value x).2) pc], (b8 ars pc s.value x).1.2 ++ [O7 ((b8 ars pc s.value x).1.1.length : Int) (b8 ars pc s.value x).2] ++ stL ((b8 ars pc s.value x).1.1.length : Int) s.target s.index m 4) := by
 obtain ⟨kd, tg, ix, vl, ct, bd, el⟩ := s
 have k : kd = 2 := k
 have h : ae3 (l5 (b8 ars pc vl x).1.1 ars 5 ix) = true := h
 rw [A4, if_neg (by omega), if_neg (by omega), if_neg (by omega), if_neg (by omega), if_pos h]; rfl
theorem bK8 (k : s.kind = 2) (h : ae3 (l5 (b8 ars pc s.value x).1.1 ars 5 s.index) = false) : A4 ars s m pc x = ((b8 ars pc s.value x).1.1, (b8 ars pc s.value x).1.2 ++ [⟨2, s.target, s.index, B4 m (b8 ars pc s.value x).2 (rdE s.target s.index), 0, [], []⟩]) := by
 obtain ⟨kd, tg, ix, vl, ct, bd, el⟩ := s
 have k : kd = 2 := k
 have h : ae3 (l5 (b8 ars pc vl x).1.1 ars 5 ix) = false := h
 rw [A4, if_neg (by omega), if_neg (by omega), if_neg (by omega), if_neg (by omega), if_neg (by rw [h]; decide)]; rfl
end
theorem G4 {nv nw na : Nat} (h : nv ≤ nw) : ∀ (d : Nat) (e : b5), l9 nv na d e = true → l9 nw na d e = true
 | 0, _, hs => by simp [l9] at hs
 | d + 1, e, hs => by
  simp only [l9, bV8, bX0] at hs ⊢
  refine ⟨⟨?_, fun x hx => G4 h d x (hs.1.2 x hx)⟩, hs.2⟩
  have h1 := hs.1.1
  simp only [E3, bV8, decide_eq_true_eq] at h1 ⊢
  refine ⟨h1.1, Int.lt_of_lt_of_le h1.2 ?_⟩
  unfold N6
  (repeat' split) <;> omega
theorem aH4 {nv na : Nat} : ∀ (d : Nat) (e : b5), l9 nv na d e = true → l9 nv na (d + 1) e = true
 | 0, _, hs => by simp [l9] at hs
 | d + 1, e, hs => by
  rw [l9] at hs ⊢
  simp only [bV8, bX0] at hs ⊢
  exact ⟨⟨hs.1.1, fun x hx => aH4 d x (hs.1.2 x hx)⟩, hs.2⟩
theorem aZ6 {nv na c d : Nat} {e : b5} (h : c ≤ d) (hs : l9 nv na c e = true) : l9 nv na d e = true := by
 induction d with
 | zero => rwa [show c = 0 by omega] at hs
 | succ d ih =>
  rcases bY6 c (d + 1) with hl | hl
  ·exact aH4 d e (ih (by omega))
  ·rwa [show c = d + 1 by omega] at hs
theorem aM1 {ars : List Int} {pc : Int} {nv na d : Nat} {e : b5} {s : LnS} (ha : atomB e = true) (hs : l9 nv na d e = true) : b8 ars pc e s = (s, e) ∧ e.kids = [] := by
 obtain ⟨k, v, ks⟩ := e
 cases d with
 | zero => simp [l9] at hs
 | succ d =>
  have hk : k = 1 ∨ k = 2 := by
   have h := ha
   simp only [atomB, Bool.or_eq_true, decide_eq_true_eq] at h
   exact h
  have hn : ks = [] := by
   simp only [l9, E3, bV8, decide_eq_true_eq] at hs
   have h1 := hs.1.1.1.1
   have h2 : K7 k = 0 := by unfold K7; rw [if_pos hk]
   have h3 : (ks.length : Int) = 0 := h1.trans h2
   exact bY8 (by omega)
  subst hn
  refine ⟨?_, rfl⟩
  rw [b8, if_neg (by omega)]
  rfl
theorem a06 {nv na d : Nat} {e : b5} (k : e.kind = 3) (hs : l9 nv na (d + 1) e = true) : ∃ a, e.kids = [a] ∧ atomB a = true ∧ l9 nv na d a = true ∧ a.kids = [] := by
 obtain ⟨kd, v, ks⟩ := e
 have k : kd = 3 := k
 subst k
 simp only [l9, E3, bV8, decide_eq_true_eq] at hs
 have h1 : (ks.length : Int) = 1 := hs.1.1.1.1
 match ks, h1, hs with
 | [a], _, hs =>
  have h2 : atomB a = true := by
   have h := hs.2
   unfold T6 at h
   have h : (decide ((3 : Int) ≠ 3) || atomB a) = true := h
   simpa using h
  have h3 : l9 nv na d a = true := bX0.1 hs.1.2 a (bY7.2 rfl)
  exact ⟨a, rfl, h2, h3, (aM1 (ars := []) (pc := 0) (s := ([], [])) h2 h3).2⟩
theorem aI0 {ars : List Int} {pc : Int} {nv na d : Nat} {e : b5} {s : LnS} (k : e.kind = 3) (hs : l9 nv na (d + 1) e = true) : A6 ars pc e.kids s = (s, e.kids) := by
 obtain ⟨a, h1, h2, h3, -⟩ := a06 k hs
 rw [h1]
 have := aM1 (ars := ars) (pc := pc) (s := s) h2 h3
 simp only [A6, this.1]
structure Grw (nv na d : Nat) (sz : Nat) (s : LnS) (r : LnS) : Prop where
 lo : s.1.length ≤ r.1.length
 hi : r.1.length ≤ s.1.length + sz
 st : l8 r.2 ≤ l8 s.2 + 40 * sz
 len : s.2.length ≤ r.2.length
theorem br6 (v a : Int) (i : b5) (hi : i.kids = []) : ∀ n : Nat, l8 (rdL v a i n) = 2 + 9 * n
 | 0 => rfl
 | n + 1 => by
  have h0 : t2 i = 0 := by cases i; simp only [b5.kids] at hi; subst hi; rfl
  rw [rdL, B3, br6 v a i hi n]
  simp [l8, J4, t2, s6, h0]; omega
theorem Z9 (v a : Int) (i : b5) : ∀ n : Nat, (rdL v a i n).length = n + 1
 | 0 => rfl
 | n + 1 => by rw [rdL, bV4, Z9 v a i n]; rfl
theorem E1 (v t : Int) (i : b5) (m : Int) : ∀ n : Nat, (stL v t i m n).length = n
 | 0 => rfl
 | n + 1 => by rw [stL, bV4, E1 v t i m n]; rfl
theorem ai1 (m : Int) (e f : b5) : t2 (B4 m e f) ≤ 3 + t2 e + t2 f := by
 unfold B4; split
 ·omega
 ·simp [t2, s6]; omega
theorem bp9 (v t : Int) (i : b5) (m : Int) (hi : i.kids = []) : ∀ n : Nat, l8 (stL v t i m n) ≤ 20 * n
 | 0 => bW6 _
 | n + 1 => by
  have h0 : t2 i = 0 := by cases i; simp only [b5.kids] at hi; subst hi; rfl
  have h1 := bp9 v t i m hi n
  have h2 := ai1 m (V5 i (n : Int)) (cnE 0)
  have h3 : t2 (V5 i (n : Int)) = 4 := by simp [t2, s6, h0]
  have h4 : t2 (cnE 0) = 0 := rfl
  rw [stL, B3]
  simp only [l8, J4, t2, s6]
  omega
theorem bj0 {nv na d : Nat} {v : Nat} (h : v < nv) : l9 nv na (d + 1) (vrE (v : Int)) = true := by
 simp [l9, E3, T6, K7, N6, b5.kids, b5.kind, b5.value, h]
theorem bg0 {ars : List Int} {pc : Int} {na d : Nat} (hg : ∀ (e : b5) (s : LnS), l9 s.1.length na d e = true → Grw s.1.length na d (1 + t2 e) s (b8 ars pc e s).1 ∧ l9 (b8 ars pc e s).1.1.length na d (b8 ars pc e s).2 = true ∧ t2 (b8 ars pc e s).2 ≤ t2 e) :
  ∀ (ks : List b5) (s : LnS), (∀ x ∈ ks, l9 s.1.length na d x = true) → Grw s.1.length na d (s6 ks) s (A6 ars pc ks s).1 ∧ (∀ x ∈ (A6 ars pc ks s).2, l9 (A6 ars pc ks s).1.1.length na d x = true) ∧ s6 (A6 ars pc ks s).2 ≤ s6 ks ∧ (A6 ars pc ks s).2.length = ks.length := by
 intro ks
 induction ks with
 | nil => intro s _; exact ⟨⟨bW6 _, bW6 _, bW6 _, bW6 _⟩, fun x hx => (by cases hx), bW6 _, rfl⟩
 | cons x r ih =>
  intro s h
  obtain ⟨g1, g2, g3⟩ := hg x s (h x bX6)
  obtain ⟨k1, k2, k3, k4⟩ := ih (b8 ars pc x s).1 fun y hy => G4 g1.lo d y (h y (bX9 _ hy))
  simp only [A6, s6]
  refine ⟨⟨bX8 g1.lo k1.lo, ?_, ?_, bX8 g1.len k1.len⟩, ?_, ?_, ?_⟩
  ·have := g1.hi; have := k1.hi; omega
  ·have := g1.st; have := k1.st; omega
  ·intro y hy
   rcases bZ6.1 hy with rfl | hy
   ·exact G4 k1.lo d _ g2
   ·exact k2 y hy
  ·omega
  ·simp [k4]
theorem ai4 (ars : List Int) (pc : Int) (na : Nat) : ∀ (d : Nat) (e : b5) (s : LnS), l9 s.1.length na d e = true →
  Grw s.1.length na d (1 + t2 e) s (b8 ars pc e s).1 ∧ l9 (b8 ars pc e s).1.1.length na d (b8 ars pc e s).2 = true ∧ t2 (b8 ars pc e s).2 ≤ t2 e
 | 0, _, _, hs => by simp [l9] at hs
 | d + 1, e, s, hs => by
  have key := bg0 (ars := ars) (pc := pc) (na := na) (d := d) fun e s h => ai4 ars pc na d e s h
  have hs0 := hs
  rw [l9] at hs
  simp only [bV8, bX0] at hs
  obtain ⟨g1, g2, g3, g4⟩ := key e.kids s hs.1.2
  rw [aJ8]
  split
  ·rename_i h
   obtain ⟨a, h1, h2, h3, h4⟩ := a06 h.1 hs0
   have hz : t2 e = 1 := by
    rw [F6, h1]
    have : t2 a = 0 := by rw [F6, h4]; rfl
    simp [s6, this]
   have hr := aI0 (ars := ars) (pc := pc) (s := s) h.1 hs0
   have e0 : e.kids.getD 0 bV3 = a := by rw [h1]; rfl
   rw [hr, e0]
   refine ⟨⟨?_, ?_, ?_, ?_⟩, ?_, ?_⟩
   ·simp
   ·simp
   ·simp only [B3, br6 _ _ a h4]; omega
   ·simp
   ·have : l9 (s.1.length + 1) na (d + 1) (vrE (s.1.length : Int)) = true := bj0 (by omega)
    simpa using this
   ·exact bX5 _
  ·rename_i h
   refine ⟨⟨g1.lo, ?_, ?_, g1.len⟩, ?_, ?_⟩
   ·have := g1.hi; rw [F6]; show (A6 ars pc e.kids s).1.1.length ≤ _; omega
   ·have := g1.st; rw [F6]; show l8 (A6 ars pc e.kids s).1.2 ≤ _; omega
   ·rw [l9]
    simp only [bV8, bX0]
    refine ⟨⟨?_, g2⟩, ?_⟩
    ·have h1 := hs.1.1
     simp only [E3, bV8, decide_eq_true_eq] at h1 ⊢
     refine ⟨⟨?_, h1.1.2⟩, Int.lt_of_lt_of_le h1.2 ?_⟩
     ·show (((A6 ars pc e.kids s).2.length : Nat) : Int) = K7 e.kind
      rw [g4]; exact h1.1.1
     ·show N6 s.1.length na e.kind ≤ N6 (A6 ars pc e.kids s).1.1.length na e.kind
      have := g1.lo
      unfold N6
      (repeat' split) <;> omega
    ·by_cases k : e.kind = 3
     ·rw [aI0 (ars := ars) (pc := pc) (s := s) k hs0]
      show T6 ⟨e.kind, e.value, e.kids⟩ = true
      rw [b5.eta]; exact hs.2
     ·unfold T6; rw [Bool.or_eq_true]; exact .inl (decide_eq_true k)
   ·rw [F6 e]; exact g3
mutual
theorem aJ7 (ars : List Int) (pc : Int) : ∀ (e : b5) (vs : List Int) (bd : List b6), b8 ars pc e (vs, bd) = (((b8 ars pc e (vs, [])).1.1, bd ++ (b8 ars pc e (vs, [])).1.2), (b8 ars pc e (vs, [])).2)
 | ⟨k, v, ks⟩, vs, bd => by
  rw [b8, b8, al7 ars pc ks vs bd]
  split
  ·simp
  ·rfl
theorem al7 (ars : List Int) (pc : Int) : ∀ (ks : List b5) (vs : List Int) (bd : List b6), A6 ars pc ks (vs, bd) = (((A6 ars pc ks (vs, [])).1.1, bd ++ (A6 ars pc ks (vs, [])).1.2), (A6 ars pc ks (vs, [])).2)
 | [], vs, bd => by simp [A6]
 | e :: t, vs, bd => by
  simp only [A6]
  rw [aJ7 ars pc e vs bd, al7 ars pc t (b8 ars pc e (vs, [])).1.1 (bd ++ (b8 ars pc e (vs, [])).1.2)]
  have h : A6 ars pc t (b8 ars pc e (vs, [])).1 = (((A6 ars pc t ((b8 ars pc e (vs, [])).1.1, [])).1.1, (b8 ars pc e (vs, [])).1.2 ++ (A6 ars pc t ((b8 ars pc e (vs, [])).1.1, [])).1.2), (A6 ars pc t ((b8 ars pc e (vs, [])).1.1, [])).2) := al7 ars pc t (b8 ars pc e (vs, [])).1.1 (b8 ars pc e (vs, [])).1.2
  rw [h]
  simp
end
mutual
theorem bb2 (ars : List Int) : ∀ (s : b6) (m pc : Int) (vs : List Int) (bd : List b6), A4 ars s m pc (vs, bd) = ((A4 ars s m pc (vs, [])).1, bd ++ (A4 ars s m pc (vs, [])).2)
 | ⟨k, t, i, v, c, b, e⟩, m, pc, vs, bd => by
  rw [A4, A4, aJ7 ars pc v vs bd]
  split
  ·simp
  ·split
   ·split
    ·have h1 := fun m pc vs bd => V3 ars b m pc vs bd
     have h2 := fun m pc vs bd => V3 ars e m pc vs bd
     simp only [ifM]
     rw [h1 _ _ _ (bd ++ (b8 ars pc v (vs, [])).1.2 ++ _ ++ _), h2, h1 _ _ _ ((b8 ars pc v (vs, [])).1.2 ++ _ ++ _), h2 _ _ _ ((b8 ars pc v (vs, [])).1.2 ++ _ ++ _ ++ _)]
     simp
    ·simp
   ·split
    ·simp
    ·split
     ·simp
     ·split <;> simp
theorem V3 (ars : List Int) : ∀ (ss : List b6) (m pc : Int) (vs : List Int) (bd : List b6), m9 ars ss m pc (vs, bd) = ((m9 ars ss m pc (vs, [])).1, bd ++ (m9 ars ss m pc (vs, [])).2)
 | [], _, _, _, _ => by simp [m9]
 | x :: r, m, pc, vs, bd => by
  simp only [m9]
  rw [bb2 ars x m pc vs bd, V3 ars r m pc (A4 ars x m pc (vs, [])).1 (bd ++ (A4 ars x m pc (vs, [])).2)]
  have h : m9 ars r m pc (A4 ars x m pc (vs, [])) = ((m9 ars r m pc ((A4 ars x m pc (vs, [])).1, [])).1, (A4 ars x m pc (vs, [])).2 ++ (m9 ars r m pc ((A4 ars x m pc (vs, [])).1, [])).2) := V3 ars r m pc (A4 ars x m pc (vs, [])).1 (A4 ars x m pc (vs, [])).2
  rw [h]
  simp
end
structure GrS (sz : Nat) (x r : LnS) : Prop where
 lo : x.1.length ≤ r.1.length
 hi : r.1.length ≤ x.1.length + 4 * sz
 st : l8 r.2 ≤ l8 x.2 + 130 * sz
 len : x.2.length ≤ r.2.length
theorem GrS.refl (x : LnS) (n : Nat) : GrS n x x := ⟨bW6 _, by omega, by omega, bW6 _⟩
theorem ar8 {nv na : Nat} {s : b6} (h : C9 nv na s = true) (k : s.kind = 2) : s.index.kids = [] ∧ atomB s.index = true ∧ l9 nv na 5 s.index = true := by
 rw [O4 k] at h
 simp only [bV8] at h
 have hs := al1 h.2.1
 exact ⟨(aM1 (ars := []) (pc := 0) (s := ([], [])) h.2.2.1 hs).2, h.2.2.1, hs⟩
theorem aD6 {e : b5} (h : e.kids = []) : t2 e = 0 := by rw [F6, h]; rfl
theorem aW0 {ars : List Int} {na nv d : Nat} (ih : ∀ (s : b6) (m pc : Int) (x : LnS), m5 nv na d s = true → nv ≤ x.1.length → GrS (1 + J4 s) x (A4 ars s m pc x)) :
  ∀ (ss : List b6) (m pc : Int) (x : LnS), ss.all (m5 nv na d) = true → nv ≤ x.1.length → GrS (l8 ss) x (m9 ars ss m pc x)
 | [], _, _, x, _, _ => GrS.refl x _
 | s :: r, m, pc, x, h, hx => by
  simp only [List.all_cons, bV8] at h
  have h1 := ih s m pc x h.1 hx
  have h2 := aW0 ih r m pc (A4 ars s m pc x) h.2 (bX8 hx h1.lo)
  rw [m9, l8]
  exact ⟨bX8 h1.lo h2.lo, by have := h1.hi; have := h2.hi; omega, by have := h1.st; have := h2.st; omega, bX8 h1.len h2.len⟩
theorem bg1 (ars : List Int) (na nv : Nat) : ∀ (d : Nat) (s : b6) (m pc : Int) (x : LnS), m5 nv na d s = true → nv ≤ x.1.length → GrS (1 + J4 s) x (A4 ars s m pc x)
 | 0, _, _, _, _, h, _ => by simp [m5] at h
 | d + 1, s, m, pc, x, h, hx => by
  have blk := fun (ss : List b6) (m pc : Int) (x : LnS) => aW0 (ars := ars) (na := na) (nv := nv) (d := d) (fun s m pc x => bg1 ars na nv d s m pc x) ss m pc x
  rw [L7, bV8, bV8] at h
  obtain ⟨hh, hb, he⟩ := h
  have hsz : J4 s = t2 s.index + t2 s.value + l8 s.body + l8 s.els := by cases s; rfl
  by_cases k4 : s.kind = 4
  ·rw [ln4 k4]
   have h1 := blk s.body m pc (x.1, []) hb hx
   have a := h1.lo; have b := h1.hi; have c := h1.st
   simp only [l8] at a b c
   have e0 : t2 nnE = 0 := rfl
   refine ⟨a, ?_, ?_, ?_⟩
   ·simp only; omega
   ·simp only [B3, l8, J4, e0]; omega
   ·simp
  have hv : l9 x.1.length na 5 s.value = true := G4 hx 5 _ (C3 hh k4)
  obtain ⟨g1, g2, g3⟩ := ai4 ars pc na 5 s.value x hv
  have a0 := g1.lo; have b0 := g1.hi; have c0 := g1.st; have d0 := g1.len
  have e0 : t2 nnE = 0 := rfl
  have e1 : t2 (cnE 0) = 0 := rfl
  by_cases k3 : s.kind = 3
  ·cases hs : ae3 (l5 x.1 ars 5 s.value)
   ·rw [bP4 k3 hs]
    have h1 := blk s.body m (n6 pc (l5 x.1 ars 5 s.value)) ((b8 ars pc s.value x).1.1, []) hb (bX8 hx a0)
    have h2 := blk s.els m (n6 pc (l5 x.1 ars 5 s.value)) ((m9 ars s.body m (n6 pc (l5 x.1 ars 5 s.value)) ((b8 ars pc s.value x).1.1, [])).1, []) he (bX8 hx (bX8 a0 h1.lo))
    have a := h1.lo; have b := h1.hi; have c := h1.st
    have a2 := h2.lo; have b2 := h2.hi; have c2 := h2.st
    simp only [l8] at a b c a2 b2 c2
    refine ⟨?_, ?_, ?_, ?_⟩
    ·simp only; omega
    ·simp only; omega
    ·simp only [B3, l8, J4, e0]; omega
    ·simp; omega
   ·rw [bP3 k3 hs]
    generalize hl : n6 pc (l5 x.1 ars 5 s.value) = l
    generalize hy : ifM (b8 ars pc s.value x) m l = y
    have y1 : y.1.length = (b8 ars pc s.value x).1.1.length + 2 := by rw [← hy]; simp
    have y2 : l8 y.2 ≤ l8 (b8 ars pc s.value x).1.2 + 20 + t2 (b8 ars pc s.value x).2 := by
     have m1 := ai1 m (b8 ars pc s.value x).2 (cnE 0)
     have m2 := ai1 m ⟨9, 0, [vrE ((b8 ars pc s.value x).1.1.length : Int), cnE 0]⟩ (cnE 0)
     have m3 : t2 ⟨9, 0, [vrE ((b8 ars pc s.value x).1.1.length : Int), cnE 0]⟩ = 2 := rfl
     rw [← hy]
     simp only [ifM, B3, l8, J4, e0]; omega
    have y3 : (b8 ars pc s.value x).1.2.length ≤ y.2.length := by rw [← hy]; simp
    have h1 := blk s.body ((b8 ars pc s.value x).1.1.length : Int) l y hb (by omega)
    have h2 := blk s.els (((b8 ars pc s.value x).1.1 ++ [l]).length : Int) l (m9 ars s.body ((b8 ars pc s.value x).1.1.length : Int) l y) he (by have := h1.lo; omega)
    have a := h1.lo; have b := h1.hi; have c := h1.st; have d1 := h1.len
    have a2 := h2.lo; have b2 := h2.hi; have c2 := h2.st; have d2 := h2.len
    exact ⟨by omega, by omega, by omega, by omega⟩
  by_cases k5 : s.kind = 5
  ·rw [ln5 k5]
   refine ⟨a0, ?_, ?_, ?_⟩
   ·simp only; omega
   ·simp only [B3, l8, J4, e0]; omega
   ·simp; omega
  by_cases k1 : s.kind = 1
  ·rw [ln1 k1]
   have m1 := ai1 m (b8 ars pc s.value x).2 (vrE s.target)
   have m2 : t2 (vrE s.target) = 0 := rfl
   refine ⟨a0, ?_, ?_, ?_⟩
   ·simp only; omega
   ·simp only [B3, l8, J4, e0]; omega
   ·simp; omega
  by_cases k2 : s.kind = 2
  ·obtain ⟨q1, -, -⟩ := ar8 hh k2
   cases hs : ae3 (l5 (b8 ars pc s.value x).1.1 ars 5 s.index)
   ·rw [bK8 k2 hs]
    have m1 := ai1 m (b8 ars pc s.value x).2 (rdE s.target s.index)
    have m2 : t2 (rdE s.target s.index) = 1 := by simp [t2, s6, aD6 q1]
    have m3 := aD6 q1
    refine ⟨a0, ?_, ?_, ?_⟩
    ·simp only; omega
    ·simp only [B3, l8, J4]; omega
    ·simp; omega
   ·rw [bK7 k2 hs]
    have m1 := bp9 ((b8 ars pc s.value x).1.1.length : Int) s.target s.index m q1 4
    refine ⟨?_, ?_, ?_, ?_⟩
    ·simp; omega
    ·simp; omega
    ·simp only [B3, l8, J4, e0]; omega
    ·simp; omega
  ·rw [P6 ⟨k1, k2, k3, k4, k5⟩] at hh; cases hh
theorem az3 (ars : List Int) {na nv d : Nat} (ss : List b6) (m pc : Int) (x : LnS) (h : ss.all (m5 nv na d) = true) (hx : nv ≤ x.1.length) : GrS (l8 ss) x (m9 ars ss m pc x) := aW0 (bg1 ars na nv d) ss m pc x h hx
theorem au2 {nv na : Nat} {e : b5} (h : s0 nv na e = true) : t2 e ≤ 14 := by
 unfold s0 at h; simp only [bV8, decide_eq_true_eq] at h; omega
theorem aD4 {e : b5} (h : noneB e = true) : t2 e = 0 := by
 unfold noneB at h; simp only [bV8, decide_eq_true_eq] at h
 exact aD6 (bY8 h.2)
theorem be7 {nv na d : Nat} (ih : ∀ s : b6, m5 nv na d s = true → 1 + J4 s ≤ 29 * nS s) : ∀ ss : List b6, ss.all (m5 nv na d) = true → l8 ss ≤ 29 * J0 ss
 | [], _ => bW6 _
 | s :: r, h => by
  simp only [List.all_cons, bV8] at h
  have h1 := ih s h.1
  have h2 := be7 ih r h.2
  rw [l8, J0]; omega
theorem bp2 {nv na : Nat} : ∀ (d : Nat) (s : b6), m5 nv na d s = true → 1 + J4 s ≤ 29 * nS s
 | 0, _, h => by simp [m5] at h
 | d + 1, s, h => by
  rw [L7, bV8, bV8] at h
  obtain ⟨hh, hb, he⟩ := h
  have h1 := be7 (fun s => bp2 d s) s.body hb
  have h2 := be7 (fun s => bp2 d s) s.els he
  have hsz : J4 s = t2 s.index + t2 s.value + l8 s.body + l8 s.els := by cases s; rfl
  have hn := ai0 s
  have key : t2 s.index + t2 s.value ≤ 28 := by
   by_cases k4 : s.kind = 4
   ·rw [ac0 k4] at hh; simp only [bV8] at hh
    have := aD4 hh.2.1; have := aD4 hh.2.2; omega
   by_cases k3 : s.kind = 3
   ·rw [ad7 k3] at hh; simp only [bV8] at hh
    have := aD4 hh.2.1; have := au2 hh.2.2; omega
   by_cases k15 : s.kind = 1 ∨ s.kind = 5
   ·rw [F8 k15] at hh; simp only [bV8] at hh
    have := aD4 hh.2.1; have := au2 hh.2.2; omega
   by_cases k2 : s.kind = 2
   ·rw [O4 k2] at hh; simp only [bV8] at hh
    have := au2 hh.2.1; have := au2 hh.2.2.2; omega
   ·rw [P6 (by omega)] at hh; cases hh
  omega
def av2 (p : k6) : LnS := m9 p.arrays p.body (-1) 0 (p.vars, [])
def bl1 (p : k6) : k6 := ⟨(av2 p).1, p.arrays, (av2 p).2⟩
theorem aa8 {p : k6} (h : s9 p = true) : p.vars.length ≤ 12 ∧ p.arrays.length ≤ 2 ∧ l8 p.body ≤ 1740 := by
 unfold s9 L9 ac6 at h
 simp only [bV8, decide_eq_true_eq] at h
 have := be7 (bp2 5) p.body h.1.2
 omega
theorem aW1 {p : k6} (h : s9 p = true) : p.vars.length ≤ (av2 p).1.length ∧ (av2 p).1.length ≤ 7000 ∧ l8 (av2 p).2 ≤ 230000 := by
 have hz := aa8 h
 have hb : p.body.all (m5 p.vars.length p.arrays.length 5) = true := (az2 h).2.2.2
 have g := az3 p.arrays p.body (-1) 0 (p.vars, []) hb (bW6 _)
 have a := g.lo; have b := g.hi; have c := g.st
 simp only [l8] at a b c
 unfold av2
 omega
theorem bC5 {p : k6} (h : s9 p = true) : (bl1 p).size ≤ 240000 := by
 have h1 := aW1 h
 have h2 := aa8 h
 show (av2 p).1.length + p.arrays.length + l8 (av2 p).2 ≤ _
 omega
def okL (p : k6) : Bool := decide ((U6 p false).1 = 0) && s9 (bl1 p)
def B7 (p : k6) : k6 := if okL p = true then bl1 p else ⟨[], [], []⟩
theorem R2 {p : k6} (h : (U6 p false).1 = 0) : s9 p = true := ((bD7 p false).1 h).1
theorem bG4 {p : k6} (h : ¬ (U6 p false).1 = 0) : okL p = false := by unfold okL; rw [decide_eq_false h, Bool.false_and]
theorem bG3 {p : k6} (h : s9 (bl1 p) = false) : okL p = false := by unfold okL; rw [h, Bool.and_false]
theorem bG2 {p : k6} (h : (U6 p false).1 = 0) (h2 : s9 (bl1 p) = true) : okL p = true := by unfold okL; rw [decide_eq_true h, h2]; rfl
theorem a26 {p : k6} (h : okL p = false) : B7 p = ⟨[], [], []⟩ := by unfold B7; rw [h]; rfl
theorem bG7 {p : k6} (h : okL p = true) : B7 p = bl1 p := by unfold B7; rw [h]; rfl
theorem bb1 (p : k6) : (B7 p).size ≤ 240000 := by
 cases h : okL p
 ·rw [a26 h]; simp [k6.size, l8]
 ·rw [bG7 h]
  unfold okL at h
  simp only [bV8, decide_eq_true_eq] at h
  exact bC5 (R2 h.1)
mutual
def AV.den (t : Bool) (n : Nat) : AV → AV
 | .v x => .v x
 | .ptr a b => .ptr a b
 | .ea a b c d => .ea a b c d
 | .ref i => if !t && natEq i n then .v (.slice none 0 0) else .ref i
 | .agg l => .agg (AV.denL t n l)
 | .tup l => .tup (AV.denL t n l)
 | .fn f l => .fn f (AV.denL t n l)
 | .bm f l => .bm f (AV.denL t n l)
 | .tref i => if t && natEq i n then .v (.slice none 0 0) else .tref i
def AV.denL (t : Bool) (n : Nat) : List AV → List AV
 | [] => []
 | x :: r => x.den t n :: AV.denL t n r
end
def It.den (t : Bool) (n : Nat) : It → It
 | .box cs => .box (AV.denL t n cs)
 | x => x
mutual
theorem AV.val_den {ρ : Nat → Value} {t : Bool} {n : Nat} {z : Value} (hz : if t then I8 z = .slice none 0 0 else z = .slice none 0 0) : ∀ (x : AV), (∀ i ∈ (x.den t n).ids, i < n) → x.val (fun j => if j = n then z else ρ j) = (x.den t n).val ρ ∧ ∀ i ∈ x.ids, i < n + 1
 | .v _, _ => ⟨rfl, fun i hi => by simp [AV.ids] at hi⟩
 | .ptr a b, h => by
  have ha : a < n := h a (by simp [AV.den, AV.ids])
  refine ⟨?_, fun i hi => by simp [AV.ids] at hi; omega⟩
  simp only [AV.den, AV.val]
  rw [if_neg (by omega)]
 | .ea a b c d, h => by
  have ha : a < n := h a (by simp [AV.den, AV.ids])
  refine ⟨?_, fun i hi => by simp [AV.ids] at hi; omega⟩
  simp only [AV.den, AV.val]
  rw [if_neg (by omega)]
 | .ref a, h => by
  by_cases e : t = false ∧ a = n
  ·obtain ⟨rfl, rfl⟩ := e
   refine ⟨?_, fun i hi => by simp [AV.ids] at hi; omega⟩
   simp only [Bool.false_eq_true, if_false] at hz
   simp [AV.den, AV.val, natEq, hz]
  ·have hd : (AV.ref a).den t n = .ref a := by
    simp only [AV.den]
    rw [if_neg]
    simp [natEq]; intro h1 h2; exact e ⟨h1, h2⟩
   rw [hd] at h ⊢
   have ha : a < n := h a (by simp [AV.ids])
   refine ⟨?_, fun i hi => by simp [AV.ids] at hi; omega⟩
   simp only [AV.val]
   rw [if_neg (by omega)]
 | .tref a, h => by
  by_cases e : t = true ∧ a = n
  ·obtain ⟨rfl, rfl⟩ := e
   refine ⟨?_, fun i hi => by simp [AV.ids] at hi; omega⟩
   simp only [if_true] at hz
   simp [AV.den, AV.val, natEq, hz]
  ·have hd : (AV.tref a).den t n = .tref a := by
    simp only [AV.den]
    rw [if_neg]
    simp [natEq]; intro h1 h2; exact e ⟨h1, h2⟩
   rw [hd] at h ⊢
   have ha : a < n := h a (by simp [AV.ids])
   refine ⟨?_, fun i hi => by simp [AV.ids] at hi; omega⟩
   simp only [AV.val]
   rw [if_neg (by omega)]
 | .agg l, h => by
  obtain ⟨h1, h2⟩ := AV.vals_den hz l (by simpa [AV.den, AV.ids] using h)
  exact ⟨by simp only [AV.den, AV.val]; rw [h1], by simpa [AV.ids] using h2⟩
 | .tup l, h => by
  obtain ⟨h1, h2⟩ := AV.vals_den hz l (by simpa [AV.den, AV.ids] using h)
  exact ⟨by simp only [AV.den, AV.val]; rw [h1], by simpa [AV.ids] using h2⟩
 | .fn f l, h => by
  obtain ⟨h1, h2⟩ := AV.vals_den hz l (by simpa [AV.den, AV.ids] using h)
  exact ⟨by simp only [AV.den, AV.val]; rw [h1], by simpa [AV.ids] using h2⟩
 | .bm f l, h => by
  obtain ⟨h1, h2⟩ := AV.vals_den hz l (by simpa [AV.den, AV.ids] using h)
  exact ⟨by simp only [AV.den, AV.val]; rw [h1], by simpa [AV.ids] using h2⟩
theorem AV.vals_den {ρ : Nat → Value} {t : Bool} {n : Nat} {z : Value} (hz : if t then I8 z = .slice none 0 0 else z = .slice none 0 0) : ∀ (l : List AV), (∀ i ∈ AV.idsL (AV.denL t n l), i < n) → AV.vals (fun j => if j = n then z else ρ j) l = AV.vals ρ (AV.denL t n l) ∧ ∀ i ∈ AV.idsL l, i < n + 1
 | [], _ => ⟨rfl, fun i hi => by simp [AV.idsL] at hi⟩
 | x :: r, h => by
  obtain ⟨h1, h2⟩ := AV.val_den hz x fun i hi => h i (by simp only [AV.denL, AV.idsL, bY5]; exact .inl hi)
  obtain ⟨h3, h4⟩ := AV.vals_den hz r fun i hi => h i (by simp only [AV.denL, AV.idsL, bY5]; exact .inr hi)
  refine ⟨by simp only [AV.denL, AV.vals]; rw [h1, h3], fun i hi => ?_⟩
  simp only [AV.idsL, bY5] at hi
  rcases hi with hi | hi
  ·exact h2 i hi
  ·exact h4 i hi
end
theorem aJ5 {m : Bool} {n : Nat} {t : Nat} {x : AV} : ∀ {tm : List (Nat × AV)}, E2 tm t = some x → E2 (tm.map fun p => (p.1, p.2.den m n)) t = some (x.den m n)
 | [], h => by cases h
 | (k, y) :: r, h => by
  simp only [E2, bY9] at h ⊢
  split at h
  ·rename_i e; cases h; rw [if_pos e]
  ·rename_i e; rw [if_neg e]; exact aJ5 h
section
variable {P : Program} {ι : Type} {φ ψ : Nat → Prop} {w0 w : World} {F : ι → Rs} {ρ ρ0 : Nat → Value} {N m n : Nat} {S : List It} {tm : List (Nat × AV)} {a : Act}
theorem A9.nilW (G : A9 φ ψ w0 F N m ρ0 ρ S tm a w) (n : Nat) (hn : S.length = n) (b : Bool) (x : It) (z : Value) (hz : if b then I8 z = .slice none 0 0 else z = .slice none 0 0) (hids : x.ids = []) (hb : ∀ g, ¬ (x.res (fun j => if j = n then z else ρ j) n).blk g)
  (hx : ∀ φ', (x.res (fun j => if j = n then z else ρ j) n).holds w φ') (S1 : List It) (tm1 : List (Nat × AV)) (hS : S = S1.map (It.den b n)) (ht : tm = tm1.map fun p => (p.1, p.2.den b n)) :
  ∃ ρ', A9 φ ψ w0 F N m ρ0 ρ' (S1 ++ [x]) tm1 a w := by
 have hl : S1.length = n := by rw [← hn, hS, List.length_map]
 have hat : ∀ j (hj : j < n), w7 S j = (S1[j]'(by omega)).den b n := fun j hj => by
  rw [ai3 (show j < S.length by omega)]
  have h1 := congrArg (·[j]?) hS
  simp only [List.getElem?_map, bW0 (show j < S.length by omega), bW0 (show j < S1.length by omega), Option.map_some, Option.some.injEq] at h1
  exact h1
 have hnew : ∀ j (hj : j < n), w7 (S1 ++ [x]) j = S1[j]'(by omega) := fun j hj => by
  simp [w7, bW2, bX7 (show j < S1.length by omega), bW0 (show j < S1.length by omega)]
 have hlast : w7 (S1 ++ [x]) n = x := by
  simp [w7, bW2, ← hl]
 have hout : ∀ j, n < j → w7 (S1 ++ [x]) j = .none := fun j hj => B6 (by simp; omega)
 have hbx : ∀ j (hj : j < n), ((S1[j]'(by omega)).res (fun j => if j = n then z else ρ j) j = (w7 S j).res ρ j) ∧ ∀ i ∈ (S1[j]'(by omega)).ids, i < n + 1 := fun j hj => by
  rw [hat j hj]
  have hb := (G.bd j).1
  rw [hat j hj, hn] at hb
  generalize S1[j]'(by omega) = x at *
  cases x with
  | box cs =>
   obtain ⟨h1, h2⟩ := AV.vals_den (ρ := ρ) (n := n) hz cs hb
   refine ⟨?_, h2⟩
   simp only [It.res, It.den]
   rw [h1, if_neg (show ¬ j = n by omega)]
  | none => exact ⟨rfl, fun i hi => by cases hi⟩
  | dead => exact ⟨rfl, fun i hi => by cases hi⟩
  | dat d' => exact ⟨by simp only [It.res, It.den]; rw [if_neg (show ¬ j = n by omega)], fun i hi => by cases hi⟩
  | row e' d' => exact ⟨by simp only [It.res, It.den]; rw [if_neg (show ¬ j = n by omega)], fun i hi => by cases hi⟩
  | tree d' => exact ⟨by simp only [It.res, It.den]; rw [if_neg (show ¬ j = n by omega)], fun i hi => by cases hi⟩
  | kept e' d' => exact ⟨by cases e' <;> (simp only [It.res, It.den]; rw [if_neg (show ¬ j = n by omega)]), fun i hi => by cases hi⟩
 have hw : ∀ t x, E2 tm1 t = some x → x.val (fun j => if j = n then z else ρ j) = (x.den b n).val ρ ∧ ∀ i ∈ x.ids, i < n + 1 := fun t x hx => by
  refine AV.val_den hz x fun i hi => ?_
  have h1 : E2 tm t = some (x.den b n) := by rw [ht]; exact aJ5 hx
  have := G.tmi t _ h1 i hi
  omega
 refine ⟨fun j => if j = n then z else ρ j, ?_⟩
 refine ⟨G.size, G.defs, fun t x hx => ?_, fun t x hx i hi => ?_, fun j => ⟨fun i hi => ?_, fun hj => B6 hj⟩, ?_, ?_, fun i hi => ?_⟩
 ·have h1 : E2 tm t = some (x.den b n) := by rw [ht]; exact aJ5 hx
  rw [(hw t x hx).1]; exact G.tmv t _ h1
 ·have := (hw t x hx).2 i hi
  simp; omega
 ·rcases Nat.lt_trichotomy j n with h | h | h
  ·rw [hnew j h] at hi
   have := (hbx j h).2 i hi
   simp; omega
  ·subst h; rw [hlast, hids] at hi; cases hi
  ·rw [hout j h] at hi; cases hi
 ·refine s7.put G.mem (.inr n) (fun k hk => ?_) (D0.refl _ _) ?_ ?_
  ·cases k with
   | inl i => rfl
   | inr j =>
    simp only [v9]
    rcases Nat.lt_trichotomy j n with h | h | h
    ·rw [hnew j h]; exact (hbx j h).1
    ·exact absurd (by rw [h]) hk
    ·rw [hout j h, B6 (show S.length ≤ j by omega)]; rfl
  ·simp only [v9, hlast]; exact hx _
  ·intro g hg
   simp only [v9, hlast] at hg
   exact absurd hg (hb g)
 ·have := G.le; simp; omega
 ·show (if i = n then _ else ρ i) = ρ0 i
  have := G.le
  rw [if_neg (by omega)]; exact G.old i hi
theorem A9.nil (G : A9 φ ψ w0 F N m ρ0 ρ S tm a w) (n : Nat) (e : TypeId) (d : D) (k : Nat) (S1 : List It) (tm1 : List (Nat × AV)) (hn : S.length = n := by kernel_rfl) (hd : D.nil k = some d := by kernel_rfl) (hS : S = S1.map (It.den false n) := by kernel_rfl) (ht : tm = tm1.map (fun p => (p.1, p.2.den false n)) := by kernel_rfl) :
  ∃ ρ', A9 φ ψ w0 F N m ρ0 ρ' (S1 ++ [.row e d]) tm1 a w := by
 have hz := D.nil_len hd
 refine G.nilW n hn false (.row e d) (.slice none 0 0) (by simp) rfl (fun g hg => ?_) (fun φ' => ?_) S1 tm1 hS ht
 ·simp only [It.res, if_true] at hg
  cases hg
 ·simp only [It.res, if_true]
  refine ⟨fun xs => RW.nice d xs, [], ?_, RW.nil hz _⟩
  rw [hz]; exact World.ownsRow_nil _ _ _ _
theorem A9.nilT (G : A9 φ ψ w0 F N m ρ0 ρ S tm a w) (n : Nat) (d : D) (S1 : List It) (tm1 : List (Nat × AV)) (hn : S.length = n := by kernel_rfl) (hd : ((ao7 d).isSome && natEq d.len 0) = true := by kernel_rfl) (hS : S = S1.map (It.den true n) := by kernel_rfl) (ht : tm = tm1.map (fun p => (p.1, p.2.den true n)) := by kernel_rfl) :
  ∃ ρ', A9 φ ψ w0 F N m ρ0 ρ' (S1 ++ [.tree d]) tm1 a w := by
 simp only [bV8, natEq, beq_iff_eq] at hd
 obtain ⟨e, he⟩ := bZ4.1 hd.1
 obtain ⟨z, h1, h2⟩ := as5 (.slice none 0 0) (fun _ => False) 0 fun b h => h.elim
 refine G.nilW n hn true (.tree d) z (by simp [h1]) rfl (fun g hg => ?_) (fun φ' => ?_) S1 tm1 hS ht
 ·simp only [It.res, if_true] at hg
  exact ((h2 g).1 hg).elim
 ·simp only [It.res, if_true]
  rw [h1]
  refine ⟨fun _ _ h hs => h.same hs, ⟨e, [], fun _ => False, he, ?_, (fun g hg => by cases hg), (fun b hb => hb.elim), ?_⟩, fun b hb => ((h2 b).1 hb).elim⟩
  ·rw [hd.2]; exact World.ownsRow_nil _ _ _ _
  ·have h0 := hd.2
   cases d <;> simp only [ao7] at he <;> first | cases he | skip
   all_goals (simp only [D.len] at h0; rw [bY8 h0]; rfl)
end
inductive Ln where
 | no
 | row (e : TypeId)
 | tree
def D6 (M : List Ln) (i : Nat) : Ln := M.getD i .no
def Ln.isT : Ln → Bool
 | .tree => true
 | _ => false
mutual
def AV.tr (M : List Ln) : AV → AV
 | .v x => .v x
 | .ptr a b => .ptr a b
 | .ea a b c d => .ea a b c d
 | .ref i => if (D6 M i).isT then .tref i else .ref i
 | .agg l => .agg (AV.trL M l)
 | .tup l => .tup (AV.trL M l)
 | .fn f l => .fn f (AV.trL M l)
 | .bm f l => .bm f (AV.trL M l)
 | .tref i => .tref i
def AV.trL (M : List Ln) : List AV → List AV
 | [] => []
 | x :: r => x.tr M :: AV.trL M r
end
mutual
def AV.trOk (M : List Ln) : AV → Bool
 | .v _ => true
 | .ptr a _ => !(D6 M a).isT
 | .ea a _ _ _ => !(D6 M a).isT
 | .ref _ => true
 | .agg l => AV.trOkL M l
 | .tup l => AV.trOkL M l
 | .fn _ l => AV.trOkL M l
 | .bm _ l => AV.trOkL M l
 | .tref i => !(D6 M i).isT
def AV.trOkL (M : List Ln) : List AV → Bool
 | [] => true
 | x :: r => x.trOk M && AV.trOkL M r
end
mutual
theorem AV.val_tr {ρ ρ' : Nat → Value} {M : List Ln} (h : ∀ i, ρ' i = if (D6 M i).isT then I8 (ρ i) else ρ i) : ∀ (x : AV), x.trOk M = true → (x.tr M).val ρ = x.val ρ'
 | .v _, _ => rfl
 | .ptr a _, hx => by
  simp only [AV.trOk, bW7] at hx
  simp only [AV.tr, AV.val]; rw [h a, hx]; rfl
 | .ea a _ _ _, hx => by
  simp only [AV.trOk, bW7] at hx
  simp only [AV.tr, AV.val]; rw [h a, hx]; rfl
 | .ref i, _ => by
  simp only [AV.tr]
  cases hm : (D6 M i).isT
  ·simp only [Bool.false_eq_true, if_false, AV.val]; rw [h i, hm]; rfl
  ·simp only [if_true, AV.val]; rw [h i, hm]; rfl
 | .agg l, hx => by simp only [AV.tr, AV.val]; rw [AV.vals_tr h l (by simpa [AV.trOk] using hx)]
 | .tup l, hx => by simp only [AV.tr, AV.val]; rw [AV.vals_tr h l (by simpa [AV.trOk] using hx)]
 | .fn _ l, hx => by simp only [AV.tr, AV.val]; rw [AV.vals_tr h l (by simpa [AV.trOk] using hx)]
 | .bm _ l, hx => by simp only [AV.tr, AV.val]; rw [AV.vals_tr h l (by simpa [AV.trOk] using hx)]
 | .tref i, hx => by
  simp only [AV.trOk, bW7] at hx
  simp only [AV.tr, AV.val]; rw [h i, hx]; rfl
theorem AV.vals_tr {ρ ρ' : Nat → Value} {M : List Ln} (h : ∀ i, ρ' i = if (D6 M i).isT then I8 (ρ i) else ρ i) : ∀ (l : List AV), AV.trOkL M l = true → AV.vals ρ (AV.trL M l) = AV.vals ρ' l
 | [], _ => rfl
 | x :: r, hx => by
  simp only [AV.trOkL, bV8] at hx
  simp only [AV.trL, AV.vals]; rw [AV.val_tr h x hx.1, AV.vals_tr h r hx.2]
end
def E8 (M : List Ln) : Ln → It → It
 | .row e, .dat d => .row e d
 | .tree, .dat d => .tree d
 | .no, .box cs => .box (AV.trL M cs)
 | _, x => x
def Y8 (M : List Ln) (S : List It) : List It := (bX4 S.length).map fun i => E8 M (D6 M i) (w7 S i)
theorem ab8 (M : List Ln) (S : List It) (i : Nat) : w7 (Y8 M S) i = E8 M (D6 M i) (w7 S i) := by
 unfold Y8
 rcases bY6 i S.length with h | h
 ·conv => lhs; rw [w7, bW2, List.getElem?_map, List.getElem?_range h]
  rfl
 ·rw [B6 (by simpa using h), B6 h]
  cases D6 M i <;> rfl
def a38 : D → Bool
 | .rows _ => false
 | .brows _ => false
 | .exprs _ => false
 | .stmts _ => false
 | _ => true
theorem bh1 {w w' : World} {φ φ' : Nat → Prop} {d : D} {xs : List Value} (hd : a38 d = true) (h : RW w φ d xs) : RW w' φ' d xs := by
 intro i hi j x hx
 obtain ⟨u, h1, h2⟩ := h i hi j x hx
 refine ⟨u, h1, ?_⟩
 have : ∃ y, x = .v y := by
  have hm := bX1 hx
  cases d <;> simp only [a38, Bool.false_eq_true] at hd <;> simp [D.elem, bb4, as3] at hm
  ·exact ⟨_, hm⟩
  ·exact ⟨_, hm⟩
  ·exact ⟨_, hm⟩
  ·exact ⟨_, hm⟩
  ·rcases hm with h | h | h | h | h <;> exact ⟨_, h⟩
  ·rcases hm with h | h <;> exact ⟨_, h⟩
 obtain ⟨y, rfl⟩ := this
 exact h2
def a27 (M : List Ln) (l : Ln) (p x : It) : Bool :=
 match l with
 | .no => match x with
  | .dat _ => (match p with | .dat _ => true | _ => false)
  | .row _ d => a38 d
  | .box cs => AV.trOkL M cs
  | .kept _ _ => false
  | _ => true
 | .row _ => (match p, x with | .dat d, .dat _ => a38 d | _, _ => false)
 | .tree => (match p, x with | .dat d, .dat _ => (ao7 d).isSome | _, _ => false)
def bs0 (M : List Ln) (l : Ln) (p : It) : Bool :=
 match l, p with
 | .no, .box cs => AV.trOkL M cs
 | _, _ => true
def bu3 (M : List Ln) (c : p6) : Bool :=
 decide (M.length ≤ c.pre.length) && decide (c.pre.length ≤ c.post.length) && AV.trOkL M c.args && c.res.trOk M && (bX4 c.post.length).all (fun i => a27 M (D6 M i) (w7 c.pre i) (w7 c.post i)) && (bX4 c.pre.length).all fun i => bs0 M (D6 M i) (w7 c.pre i)
def Rs.snap (w : World) (r : Rs) : Rs := .own r.blk fun w' => ∀ b, r.blk b → b < w.heap.size → w'.heap[b]? = w.heap[b]?
theorem Rs.snap_holds {w : World} {φ φ' : Nat → Prop} {r : Rs} (h : r.holds w φ) : (r.snap w).holds w φ' := by
 refine ⟨fun w1 w2 h1 h2 b hb hlt => ?_, fun b _ _ => rfl, fun b hb => Rs.lt h hb⟩
 have h3 := h1 b hb hlt
 rw [h2 b hb, h3]
 have : (w1.heap[b]?).isSome = true := by rw [h3, Array.getElem?_eq_getElem hlt]; rfl
 obtain ⟨o, ho⟩ := bZ4.1 this
 exact (Array.getElem?_eq_some_iff.1 ho).1
theorem aW7 : ∀ {P X : List It} {i : Nat} {d e : D}, az8 P X = az7 P X → w7 P i = .dat d → w7 X i = .dat e → d = e
 | P, X, i, d, e, h, h1, h2 => by
  have hp : P[i]? = some (.dat d) := by
   rcases bY6 i P.length with hl | hl
   ·rw [ai3 hl] at h1; rw [bW0 hl, h1]
   ·rw [B6 hl] at h1; cases h1
  have hx : X[i]? = some (.dat e) := by
   rcases bY6 i X.length with hl | hl
   ·rw [ai3 hl] at h2; rw [bW0 hl, h2]
   ·rw [B6 hl] at h2; cases h2
  exact bL9 h hp hx
theorem p6.lend0 {P : Program} {c : p6} (hc : c.ok P) (M : List Ln) (hb : bu3 M c = true) (he : az8 c.pre c.post = az7 c.pre c.post) : p6.ok P ⟨c.f, AV.trL M c.args, Y8 M c.pre, Y8 M c.post, c.res.tr M⟩ := by
 simp only [bu3, bV8, decide_eq_true_eq] at hb
 obtain ⟨⟨⟨⟨⟨hM, hle⟩, hargs⟩, hres⟩, hpost⟩, hpre⟩ := hb
 have hno : ∀ i, c.pre.length ≤ i → D6 M i = .no := fun i hi => by
  unfold D6; rw [bW2, bY0 (by omega)]; rfl
 have hpo : ∀ i, a27 M (D6 M i) (w7 c.pre i) (w7 c.post i) = true := fun i => by
  rcases bY6 i c.post.length with h | h
  ·exact bX0.1 hpost i (List.mem_range.2 h)
  ·rw [hno i (by omega), B6 h]; rfl
 have hpr : ∀ i, bs0 M (D6 M i) (w7 c.pre i) = true := fun i => by
  rcases bY6 i c.pre.length with h | h
  ·exact bX0.1 hpre i (List.mem_range.2 h)
  ·rw [hno i h, B6 h]; rfl
 intro ι φ ψ w0 w F ρ MM
 let ρ1 : Nat → Value := fun i => if (D6 M i).isT then I8 (ρ i) else ρ i
 have hρ1 : ∀ i, ρ1 i = if (D6 M i).isT then I8 (ρ i) else ρ i := fun _ => rfl
 let F1 : ι → Rs := fun i => (F i).snap w
 have hLi : ∀ i, v9 F ρ (w7 (Y8 M c.pre)) (.inl i) = F i := fun _ => rfl
 have hLj : ∀ j, v9 F ρ (w7 (Y8 M c.pre)) (.inr j) = (E8 M (D6 M j) (w7 c.pre j)).res ρ j := fun j => by simp only [v9]; rw [ab8]
 generalize hL : v9 F ρ (w7 (Y8 M c.pre)) = L at MM hLi hLj
 have h1j : ∀ j, D6 M j = .no → (w7 c.pre j).res ρ1 j = L (.inr j) := fun j hl => by
  rw [hLj, hl]
  have hp := hpr j
  have e : ρ1 j = ρ j := by rw [hρ1, hl]; rfl
  cases hx : w7 c.pre j with
  | none => rfl
  | dead => rfl
  | dat d => simp only [E8, It.res]; rw [e]
  | row e' d => simp only [E8, It.res]; rw [e]
  | tree d => simp only [E8, It.res]; rw [e]
  | kept e' d => cases e' <;> (simp only [E8, It.res]; rw [e])
  | box cs =>
   rw [hl, hx] at hp
   simp only [bs0] at hp
   simp only [E8, It.res]
   rw [e, AV.vals_tr hρ1 cs hp]
 have hlent : ∀ j, D6 M j ≠ .no → (∃ d, w7 c.pre j = .dat d ∧ w7 c.post j = .dat d ∧ ((∃ e, D6 M j = .row e ∧ a38 d = true) ∨ D6 M j = .tree)) := fun j hj => by
  have h := hpo j
  cases hl : D6 M j with
  | no => exact absurd hl hj
  | row e =>
   rw [hl] at h
   simp only [a27] at h
   split at h
   ·rename_i d d' h1 h2
    exact ⟨d, h1, by rw [h2, ← aW7 he h1 h2], .inl ⟨e, rfl, h⟩⟩
   ·cases h
  | tree =>
   rw [hl] at h
   simp only [a27] at h
   split at h
   ·rename_i d d' h1 h2
    exact ⟨d, h1, by rw [h2, ← aW7 he h1 h2], .inr rfl⟩
   ·cases h
 have hsub : ∀ k b, (v9 F1 ρ1 (w7 c.pre) k).blk b → (L k).blk b ∧ ∀ j, k = .inr j → D6 M j = .no := fun k b hb => by
  cases k with
  | inl i => rw [hLi]; exact ⟨hb, fun j h => by cases h⟩
  | inr j =>
   by_cases hl : D6 M j = .no
   ·simp only [v9] at hb
    rw [h1j j hl] at hb
    exact ⟨hb, fun j' h => by cases h; exact hl⟩
   ·obtain ⟨d, h1, _⟩ := hlent j hl
    simp only [v9, h1, It.res] at hb
    exact hb.elim
 have hfr1 : ∀ b, FrF φ L b → FrF φ (v9 F1 ρ1 (w7 c.pre)) b := fun b hb => ⟨hb.1, fun k hk => hb.2 k (hsub k b hk).1⟩
 let ψ1 : Nat → Prop := fun b => ∀ k, ¬ (v9 F1 ρ1 (w7 c.pre) k).blk b
 have M1 : s7 φ ψ1 w w (v9 F1 ρ1 (w7 c.pre)) := by
  refine ⟨D0.refl _ _, fun b hb => MM.fresh b (bX8 MM.size hb), fun k => ?_, fun k k' b hkk h1 h2 => MM.dis k k' b hkk (hsub k b h1).1 (hsub k' b h2).1, fun k b h1 => .inr fun h => h k h1, fun k b h1 => MM.ph k b (hsub k b h1).1⟩
  cases k with
  | inl i => exact Rs.snap_holds (show (F i).holds w _ from by rw [← hLi i]; exact MM.holds (.inl i))
  | inr j =>
   by_cases hl : D6 M j = .no
   ·simp only [v9]
    rw [h1j j hl]
    exact Rs.keep (MM.holds (.inr j)) (N2.mono fun b _ hf => hfr1 b hf) fun _ _ => rfl
   ·obtain ⟨d, h1, h2, h3⟩ := hlent j hl
    have hh := MM.holds (.inr j)
    have hown : ∀ b, (L (.inr j)).blk b → FrF φ (v9 F1 ρ1 (w7 c.pre)) b := fun b hb => ⟨MM.ph _ _ hb, fun k hk => by
     obtain ⟨q1, q2⟩ := hsub k b hk
     by_cases e : k = .inr j
     ·exact hl (q2 j e)
     ·exact MM.dis k (.inr j) b e q1 hb⟩
    simp only [v9, h1, It.res]
    refine ⟨RD.nice _ _, ?_⟩
    rcases h3 with ⟨e, h3, hflat⟩ | h3
    ·rw [hLj, h3, h1] at hh
     simp only [E8, It.res] at hh
     obtain ⟨_, xs, o1, o2⟩ := hh
     have e1 : ρ1 j = ρ j := by rw [hρ1, h3]; rfl
     rw [e1]
     refine RD.make (H1 o1 fun g hg => hown g ?_) (bh1 hflat o2)
     rw [hLj, h3, h1]; exact hg
    ·rw [hLj, h3, h1] at hh
     simp only [E8, It.res] at hh
     have e1 : ρ1 j = I8 (ρ j) := by rw [hρ1, h3]; rfl
     rw [e1]
     refine G9.read hh.2.1 fun b hb => hown b ?_
     rw [hLj, h3, h1]; exact hb
 simp only
 rw [AV.vals_tr hρ1 c.args hargs]
 refine (hc ι φ ψ1 w w F1 ρ1 M1).mono ?_
 rintro x w' ⟨ρ2, g1, g2, M2⟩
 have hplen : (Y8 M c.pre).length = c.pre.length := by simp [Y8]
 let ρ' : Nat → Value := fun j => if j < c.pre.length then ρ j else ρ2 j
 have hρ' : ∀ j, ρ2 j = if (D6 M j).isT then I8 (ρ' j) else ρ' j := fun j => by
  show _ = if (D6 M j).isT then I8 (if j < c.pre.length then ρ j else ρ2 j) else (if j < c.pre.length then ρ j else ρ2 j)
  rcases bY6 j c.pre.length with h | h
  ·rw [if_pos h, g1 j h]
  ·rw [hno j h]
   exact (if_neg (Nat.not_lt.2 h)).symm
 have hρo : ∀ j, D6 M j ≠ .no → ρ' j = ρ j := fun j hj => by
  rcases bY6 j c.pre.length with h | h
  ·exact if_pos h
  ·exact absurd (hno j h) hj
 refine ⟨ρ', fun i hi => if_pos (by rw [hplen] at hi; exact hi), by rw [AV.val_tr hρ' c.res hres]; exact g2, ?_⟩
 have hL'j : ∀ j, v9 F ρ' (w7 (Y8 M c.post)) (.inr j) = (E8 M (D6 M j) (w7 c.post j)).res ρ' j := fun j => by simp only [v9]; rw [ab8]
 have hL'i : ∀ i, v9 F ρ' (w7 (Y8 M c.post)) (.inl i) = F i := fun _ => rfl
 generalize hL' : v9 F ρ' (w7 (Y8 M c.post)) = L' at hL'j hL'i
 have hL2j : ∀ j, D6 M j = .no → L' (.inr j) = v9 F1 ρ2 (w7 c.post) (.inr j) := fun j hl => by
  rw [hL'j, hl]
  have hp := hpo j
  have e : ρ2 j = ρ' j := by rw [hρ', hl]; rfl
  simp only [v9]
  cases hx : w7 c.post j with
  | none => rfl
  | dead => rfl
  | dat d => simp only [E8, It.res]; rw [e]
  | row e' d => simp only [E8, It.res]; rw [e]
  | tree d => simp only [E8, It.res]; rw [e]
  | kept e' d => cases e' <;> (simp only [E8, It.res]; rw [e])
  | box cs =>
   rw [hl, hx] at hp
   simp only [a27] at hp
   simp only [E8, It.res]
   rw [e, AV.vals_tr hρ' cs hp]
 have hlj : ∀ j, D6 M j ≠ .no → L' (.inr j) = L (.inr j) := fun j hl => by
  obtain ⟨d, h1, h2, h3⟩ := hlent j hl
  rw [hL'j, hLj, h1, h2]
  rcases h3 with ⟨e, h3, _⟩ | h3
  ·rw [h3]; simp only [E8, It.res]; rw [hρo j hl]
  ·rw [h3]; simp only [E8, It.res]; rw [hρo j hl]
 have hin : ∀ b, b < w.heap.size → ¬ ψ1 b → ∃ k, (L k).blk b ∧ ∀ j, k = .inr j → D6 M j = .no := fun b _ hn => by
  obtain ⟨k, hk⟩ := Classical.not_forall.1 hn
  exact ⟨k, hsub k b (Classical.not_not.1 hk)⟩
 have hnew : ∀ k b, (∀ j, k = .inr j → D6 M j = .no) → (v9 F1 ρ2 (w7 c.post) k).blk b → b < w.heap.size → ∃ k', (L k').blk b ∧ ∀ j, k' = .inr j → D6 M j = .no := fun k b _ hb hlt => by
  rcases M2.ge k b hb with h | h
  ·omega
  ·exact hin b hlt h
 have hback : ∀ k b, (L' k).blk b → b < w.heap.size → ∃ k', (L k').blk b := fun k b hb hlt => by
  cases k with
  | inl i => rw [hL'i] at hb; exact ⟨.inl i, by rw [hLi]; exact hb⟩
  | inr j =>
   by_cases hl : D6 M j = .no
   ·rw [hL2j j hl] at hb
    obtain ⟨k', h1, _⟩ := hnew (.inr j) b (fun j' h => by cases h; exact hl) hb hlt
    exact ⟨k', h1⟩
   ·rw [hlj j hl] at hb; exact ⟨_, hb⟩
 have hsame : ∀ b, b < w.heap.size → ψ1 b → w'.heap[b]? = w.heap[b]? := fun b h1 h2 => M2.kept.block b h1 h2
 have hagr : N2 (FrF φ L) (FrF φ L') w w' := ⟨M2.kept.size, fun b hb hf => ⟨⟨hf.1, fun k hk => let ⟨k', h1⟩ := hback k b hk hb; hf.2 k' h1⟩, hsame b hb fun k hk => (hfr1 b hf).2 k hk⟩⟩
 have hlsame : ∀ j, D6 M j ≠ .no → ∀ b, (L (.inr j)).blk b → w'.heap[b]? = w.heap[b]? := fun j hl b hb => hsame b (MM.lt hb) fun k hk => by
  obtain ⟨q1, q2⟩ := hsub k b hk
  by_cases e : k = .inr j
  ·exact hl (q2 j e)
  ·exact MM.dis k (.inr j) b e q1 hb
 have hcross : ∀ j k b, D6 M j ≠ .no → (∀ j, k = .inr j → D6 M j = .no) → (L (.inr j)).blk b → ¬ (v9 F1 ρ2 (w7 c.post) k).blk b := fun j k b hl hk h1 h2 => by
  obtain ⟨k', h3, h4⟩ := hnew k b hk h2 (MM.lt h1)
  exact MM.dis k' (.inr j) b (fun e => hl (h4 j e)) h3 h1
 refine ⟨⟨M2.kept.os.trans MM.kept.os, M2.kept.tape.trans MM.kept.tape, M2.kept.output.trans MM.kept.output, bX8 MM.size M2.kept.size, fun b hb hp => (hsame b (bY4 hb MM.size) fun k hk => ?_).trans (MM.kept.block b hb hp)⟩, MM.fresh, fun k => ?_, fun k k' b hkk h1 h2 => ?_, fun k b h1 => ?_, fun k b h1 => ?_⟩
 ·rcases MM.ge k b (hsub k b hk).1 with h | h
  ·omega
  ·exact h hp
 ·cases k with
  | inl i =>
   rw [hL'i, ← hLi i]
   refine Rs.keep (MM.holds (.inl i)) hagr fun b hb => ?_
   have := (M2.holds (.inl i)).2.1 b (by rw [← hLi i]; exact hb) (MM.lt hb)
   exact this
  | inr j =>
   by_cases hl : D6 M j = .no
   ·have hh := M2.holds (.inr j)
    rw [← hL2j j hl] at hh
    have hp := hpo j
    rw [hl] at hp
    cases hx : w7 c.post j with
    | none => rw [hL'j, hl, hx]; exact Rs.none_holds _ _
    | dead => rw [hL'j, hl, hx]; exact Rs.none_holds _ _
    | box cs => rw [hL'j, hl, hx] at hh ⊢; exact hh
    | tree d => rw [hL'j, hl, hx] at hh ⊢; exact hh
    | kept e' d => rw [hx] at hp; exact absurd hp (by simp [a27])
    | row e d =>
     rw [hx] at hp
     simp only [a27] at hp
     rw [hL'j, hl, hx] at hh ⊢
     simp only [E8, It.res] at hh ⊢
     obtain ⟨_, xs, o1, o2⟩ := hh
     exact ⟨fun xs => RW.nice d xs, xs, o1, bh1 hp o2⟩
    | dat d =>
     rw [hx] at hp
     simp only [a27] at hp
     split at hp
     ·rename_i d' hpx
      have hd : d' = d := aW7 he hpx hx
      subst hd
      have e : L' (.inr j) = L (.inr j) := by
       rw [hL'j, hLj, hl, hx, hpx]
       simp only [E8, It.res]
       have : j < c.pre.length := by
        rcases bY6 j c.pre.length with h | h
        ·exact h
        ·rw [B6 h] at hpx; cases hpx
       rw [show ρ' j = ρ j from if_pos this]
      rw [e]
      refine Rs.keep (MM.holds (.inr j)) hagr fun b hb => ?_
      rw [hLj, hl, hpx] at hb
      exact hb.elim
     ·cases hp
   ·rw [hlj j hl]
    exact Rs.keep (MM.holds (.inr j)) hagr fun b hb => hlsame j hl b hb
 ·have key : ∀ k, (∃ j, k = .inr j ∧ D6 M j ≠ .no ∧ (L' k) = L k) ∨ ((∀ j, k = .inr j → D6 M j = .no) ∧ ∀ b, (L' k).blk b → (v9 F1 ρ2 (w7 c.post) k).blk b) := fun k => by
   cases k with
   | inl i => exact .inr ⟨(fun j h => by cases h), fun b hb => by rw [hL'i] at hb; exact hb⟩
   | inr j =>
    by_cases hl : D6 M j = .no
    ·exact .inr ⟨fun j' h => by cases h; exact hl, fun b hb => by rw [hL2j j hl] at hb; exact hb⟩
    ·exact .inl ⟨j, rfl, hl, hlj j hl⟩
  rcases key k with ⟨j, rfl, k1, k2⟩ | ⟨k1, k2⟩ <;> rcases key k' with ⟨j', rfl, k3, k4⟩ | ⟨k3, k4⟩
  ·rw [k2] at h1; rw [k4] at h2; exact MM.dis _ _ b hkk h1 h2
  ·rw [k2] at h1; exact hcross j k' b k1 k3 h1 (k4 b h2)
  ·rw [k4] at h2; exact hcross j' k b k3 k1 h2 (k2 b h1)
  ·exact M2.dis k k' b hkk (k2 b h1) (k4 b h2)
 ·cases k with
  | inl i => rw [hL'i, ← hLi i] at h1; exact MM.ge _ b h1
  | inr j =>
   by_cases hl : D6 M j = .no
   ·rw [hL2j j hl] at h1
    rcases bY6 b w.heap.size with hlt | hge
    ·obtain ⟨k', h2, _⟩ := hnew (.inr j) b (fun j' h => by cases h; exact hl) h1 hlt
     exact MM.ge k' b h2
    ·exact .inl (bX8 MM.size hge)
   ·rw [hlj j hl] at h1; exact MM.ge _ b h1
 ·cases k with
  | inl i => rw [hL'i, ← hLi i] at h1; exact MM.ph _ b h1
  | inr j =>
   by_cases hl : D6 M j = .no
   ·rw [hL2j j hl] at h1; exact M2.ph _ b h1
   ·rw [hlj j hl] at h1; exact MM.ph _ b h1
def bv0 (M : List Ln) : Ln → It → It
 | .row e, .dat d => .kept (some e) d
 | .tree, .dat d => .kept none d
 | .no, .box cs => .box (AV.trL M cs)
 | _, x => x
def bu9 (M : List Ln) (S : List It) : List It := (bX4 S.length).map fun i => bv0 M (D6 M i) (w7 S i)
theorem bt9 (M : List Ln) (S : List It) (i : Nat) : w7 (bu9 M S) i = bv0 M (D6 M i) (w7 S i) := by
 unfold bu9
 rcases bY6 i S.length with h | h
 ·conv => lhs; rw [w7, bW2, List.getElem?_map, List.getElem?_range h]
  rfl
 ·rw [B6 (by simpa using h), B6 h]
  cases D6 M i <;> rfl
theorem p6.lend {P : Program} {c : p6} (hc : c.ok P) (M : List Ln) (hb : bu3 M c = true := by kernel_rfl) (he : az8 c.pre c.post = az7 c.pre c.post := by kernel_rfl) : p6.ok P ⟨c.f, AV.trL M c.args, Y8 M c.pre, bu9 M c.post, c.res.tr M⟩ :=
 p6.okPost (p6.lend0 hc M hb he) _ fun ρ i => by
  simp only
  rw [bt9, ab8]
  cases D6 M i <;> cases w7 c.post i <;> rfl
section
variable {P : Program} {ι κ : Type} {φ ψ : Nat → Prop} {w0 w : World} {F : ι → Rs} {ρ ρ0 : Nat → Value} {N m n : Nat} {S : List It} {tm : List (Nat × AV)} {a : Act}
theorem s7.release {L L' : κ → Rs} (M : s7 φ ψ w0 w L) (h : ∀ k, L' k = L k ∨ ((∀ b, ¬ (L' k).blk b) ∧ ∀ φ', (∀ b, FrF φ L b → φ' b) → (∀ b, (L k).blk b → φ' b) → (L' k).holds w φ')) : s7 φ ψ w0 w L' := by
 have old : ∀ k b, (L' k).blk b → (L k).blk b := fun k b hb => by
  rcases h k with e | ⟨h1, _⟩
  ·rw [e] at hb; exact hb
  ·exact (h1 b hb).elim
 have hfr : ∀ b, FrF φ L b → FrF φ L' b := fun b hb => ⟨hb.1, fun k hk => hb.2 k (old k b hk)⟩
 refine ⟨M.kept, M.fresh, fun k => ?_, fun i j g hij h1 h2 => M.dis i j g hij (old i g h1) (old j g h2), fun i b hb => M.ge i b (old i b hb), fun i b hb => M.ph i b (old i b hb)⟩
 rcases h k with e | ⟨h1, h2⟩
 ·rw [e]; exact Rs.keep (M.holds k) (N2.mono fun b _ hf => hfr b hf) fun _ _ => rfl
 ·refine h2 _ hfr fun b hb => ⟨M.ph k b hb, fun j hj => ?_⟩
  by_cases e : j = k
  ·subst e; exact h1 b hj
  ·exact M.dis j k b e (old j b hj) hb
mutual
theorem AV.ids_tr (M : List Ln) : ∀ (x : AV), (x.tr M).ids = x.ids
 | .v _ => rfl
 | .ptr _ _ => rfl
 | .ea _ _ _ _ => rfl
 | .ref i => by simp only [AV.tr]; split <;> rfl
 | .agg l => by simp only [AV.tr, AV.ids]; exact AV.idsL_tr M l
 | .tup l => by simp only [AV.tr, AV.ids]; exact AV.idsL_tr M l
 | .fn _ l => by simp only [AV.tr, AV.ids]; exact AV.idsL_tr M l
 | .bm _ l => by simp only [AV.tr, AV.ids]; exact AV.idsL_tr M l
 | .tref _ => rfl
theorem AV.idsL_tr (M : List Ln) : ∀ (l : List AV), AV.idsL (AV.trL M l) = AV.idsL l
 | [] => rfl
 | x :: r => by simp only [AV.trL, AV.idsL]; rw [AV.ids_tr M x, AV.idsL_tr M r]
end
theorem aV8 {M : List Ln} {t : Nat} {x : AV} : ∀ {tm : List (Nat × AV)}, E2 tm t = some x → E2 (tm.map fun p => (p.1, p.2.tr M)) t = some (x.tr M) ∧ ∃ p ∈ tm, p.2 = x
 | [], h => by cases h
 | (k, y) :: r, h => by
  simp only [E2, bY9] at h ⊢
  split at h
  ·cases h; rename_i hk; rw [if_pos hk]; exact ⟨rfl, _, bX6, rfl⟩
  ·rename_i hk; rw [if_neg hk]
   obtain ⟨h1, p, h2, h3⟩ := aV8 h
   exact ⟨h1, p, bX9 _ h2, h3⟩
def bR7 (M : List Ln) (m : Nat) (S1 : List It) (tm1 : List (Nat × AV)) : Bool :=
 decide (M.length ≤ S1.length) && (bX4 S1.length).all (fun i => match D6 M i, w7 S1 i with
  | .no, .box cs => AV.trOkL M cs
  | .no, _ => true
  | .row _, .dat _ => true
  | .tree, .dat _ => decide (m ≤ i)
  | _, _ => false) && tm1.all fun p => p.2.trOk M
theorem It.ids_lend (M : List Ln) (l : Ln) (x : It) : x.ids = [] ∨ (E8 M l x).ids = x.ids := by
 cases x with
 | box cs => cases l <;> first | exact .inr rfl | exact .inr (AV.idsL_tr M cs)
 | _ => exact .inl rfl
theorem A9.frz (G : A9 φ ψ w0 F N m ρ0 ρ S tm a w) (M : List Ln) (S1 : List It) (tm1 : List (Nat × AV)) (hb : bR7 M m S1 tm1 = true := by kernel_rfl) (hS : S = Y8 M S1 := by kernel_rfl) (ht : tm = tm1.map (fun p => (p.1, p.2.tr M)) := by kernel_rfl) :
  ∃ ρ', A9 φ ψ w0 F N m ρ0 ρ' S1 tm1 a w := by
 subst hS
 subst ht
 simp only [bR7, bV8, decide_eq_true_eq] at hb
 obtain ⟨⟨hM, hall⟩, htm⟩ := hb
 have hlen : (Y8 M S1).length = S1.length := by simp [Y8]
 have hno : ∀ i, S1.length ≤ i → D6 M i = .no := fun i hi => by
  unfold D6; rw [bW2, bY0 (by omega)]; rfl
 have hat := fun i (hi : i < S1.length) => bX0.1 hall i (List.mem_range.2 hi)
 let ρ1 : Nat → Value := fun i => if (D6 M i).isT then I8 (ρ i) else ρ i
 have hρ1 : ∀ i, ρ1 i = if (D6 M i).isT then I8 (ρ i) else ρ i := fun _ => rfl
 have hρn : ∀ i, (D6 M i).isT = false → ρ1 i = ρ i := fun i h => by rw [hρ1, h]; rfl
 refine ⟨ρ1, G.size, G.defs, fun t x hx => ?_, fun t x hx i hi => ?_, fun j => ⟨fun i hi => ?_, fun hj => B6 hj⟩, ?_, ?_, fun i hi => ?_⟩
 ·obtain ⟨h1, p, h2, h3⟩ := aV8 (M := M) hx
  rw [G.tmv t _ h1, AV.val_tr hρ1 x (by rw [← h3]; exact bX0.1 htm p h2)]
 ·obtain ⟨h1, _⟩ := aV8 (M := M) hx
  have := G.tmi t _ h1 i (by rw [AV.ids_tr]; exact hi)
  rw [hlen] at this; exact this
 ·have h1 := (G.bd j).1 i
  rw [ab8, hlen] at h1
  rcases It.ids_lend M (D6 M j) (w7 S1 j) with h | h
  ·rw [h] at hi; cases hi
  ·exact h1 (by rw [h]; exact hi)
 ·refine G.mem.release fun k => ?_
  cases k with
  | inl i => exact .inl rfl
  | inr j =>
   simp only [v9]
   rw [ab8]
   rcases bY6 j S1.length with hj | hj
   case inr => rw [hno j hj, B6 hj]; exact .inl rfl
   have h1 := hat j hj
   cases hl : D6 M j with
   | no =>
    have e : ρ1 j = ρ j := hρn j (by rw [hl]; rfl)
    rw [hl] at h1
    left
    cases hx : w7 S1 j with
    | box cs =>
     rw [hx] at h1
     simp only [E8, It.res]
     rw [e, AV.vals_tr hρ1 cs h1]
    | none => rfl
    | dead => rfl
    | dat d => simp only [E8, It.res]; rw [e]
    | row e' d => simp only [E8, It.res]; rw [e]
    | tree d => simp only [E8, It.res]; rw [e]
    | kept e' d => cases e' <;> (simp only [E8, It.res]; rw [e])
   | row e' =>
    have e : ρ1 j = ρ j := hρn j (by rw [hl]; rfl)
    rw [hl] at h1
    cases hx : w7 S1 j <;> rw [hx] at h1 <;> first | cases h1 | skip
    rename_i d
    refine .inr ⟨fun b hb => hb, fun φ' hf hown => ⟨RD.nice _ _, ?_⟩⟩
    have hh := G.mem.holds (.inr j)
    simp only [v9] at hh
    rw [ab8, hl, hx] at hh
    simp only [E8, It.res] at hh
    obtain ⟨_, xs, o1, o2⟩ := hh
    rw [e]
    exact RD.make (H1 o1 fun g hg => hown g hg) (RW.nice _ _ _ _ _ _ (N2.mono fun b _ hb => hf b hb) o2)
   | tree =>
    have e : ρ1 j = I8 (ρ j) := by rw [hρ1, hl]; rfl
    rw [hl] at h1
    cases hx : w7 S1 j <;> rw [hx] at h1 <;> first | cases h1 | skip
    rename_i d
    refine .inr ⟨fun b hb => hb, fun φ' hf hown => ⟨RD.nice _ _, ?_⟩⟩
    have hh := G.mem.holds (.inr j)
    simp only [v9] at hh
    rw [ab8, hl, hx] at hh
    simp only [E8, It.res] at hh
    rw [e]
    exact G9.read hh.2.1 fun b hb => hown b hb
 ·have := G.le; rw [hlen] at this; exact this
 ·have hm := G.le
  rw [hlen] at hm
  have : (D6 M i).isT = false := by
   cases hl : D6 M i with
   | no => rfl
   | row _ => rfl
   | tree =>
    have h1 := hat i (by omega)
    rw [hl] at h1
    cases hx : w7 S1 i <;> rw [hx] at h1 <;> simp at h1
    omega
  show ρ1 i = ρ0 i
  rw [hρn i this]; exact G.old i hi
end
theorem bj7 {ks ls : List b5} {k : Nat} (h1 : k < ks.length) (h2 : k < ls.length) (h : af4 ks[k] ls[k] = false) : T4 ks ls = false := by
 cases hs : T4 ks ls
 ·rfl
 ·have := (af3 ks ls).1 hs
  subst this
  rw [(al0 _ _).2 rfl] at h; cases h
theorem bj6 {ks ls : List b6} {k : Nat} (h1 : k < ks.length) (h2 : k < ls.length) (h : aH7 ks[k] ls[k] = false) : K5 ks ls = false := by
 cases hs : K5 ks ls
 ·rfl
 ·have := (V2 ks ls).1 hs
  subst this
  rw [(aH6 _ _).2 rfl] at h; cases h
def EqE (e : b5) : Prop := ∀ (φ φ' : Nat → Prop) (v u : Value) (e' : b5) (w : World), K8 w φ v e → K8 w φ' u e' →
 Calls Tryz.prog 216 #[v, u] w fun x w' => x = .returned (.bool (af4 e e')) ∧ Below w.heap.size w w'
theorem bc3 (ks : List b5) (ih : ∀ e ∈ ks, EqE e) (φ φ' : Nat → Prop) (v u : Value) (ls : List b5) (w : World) (h : t5 w φ v ks) (h' : t5 w φ' u ls) :
  Calls Tryz.prog 243 #[v, u] w fun x w' => x = .returned (.bool (T4 ks ls)) ∧ Below w.heap.size w w' := by
 obtain ⟨a, cap, rfl, -, hn, -, hc⟩ := h.open
 obtain ⟨a', cap', rfl, -, hn', -, hc'⟩ := h'.open
 have HC := show Hid _ from hc
 have HC' := show Hid _ from hc'
 clear hc hc' h h'
 by_cases hl : ks.length = ls.length
 ·have heq : ((ks.length : Int) == (ls.length : Int)) = true := by simp; omega
  have HL := show Hid _ from hl
  clear hl
  go_enter Tryz.func243, Tryz.ntmps243
  go_wp2
  go_loopw [5] (fun i wr => ∃ k : Nat, k ≤ ks.length ∧ i = .int .i64 k ∧ ks.take k = ls.take k ∧ Below w.heap.size w wr) (fun i _ => ks.length - (intOf i).toNat)
  case atStart => exact ⟨0, bX5 _, rfl, rfl, Below.refl _ _⟩
  case round =>
   obtain ⟨k, hk, rfl, ht, hb⟩ := hrel
   have HT := show Hid _ from ht
   have HB := show Hid _ from hb
   clear ht hb
   by_cases hlt : k < ks.length
   ·have hlt2 : k < ls.length := by have := HL.out; omega
    obtain ⟨b, off, kv, rfl, hbk, hf, c0, c1, c2, hkv⟩ := HC.out k hlt
    obtain ⟨b', off', kv', rfl, hbk', hf', d0, d1, d2, hkv'⟩ := HC'.out k hlt2
    rw [← (ac7 HB.out).1 _ _ hbk] at c0 c1 c2
    rw [← (ac7 HB.out).1 _ _ hbk'] at d0 d1 d2
    obtain ⟨q, hq⟩ : ∃ q, q = af4 ks[k] ls[k] := ⟨_, rfl⟩
    have HC3 : Hid (∀ X, Calls Tryz.prog 216 #[.agg #[.int .i64 ks[k].kind, .int .i64 ks[k].value, kv], .agg #[.int .i64 ls[k].kind, .int .i64 ls[k].value, kv']] (wr.ext X) fun e w'' => e = .returned (.bool q) ∧ ∃ Y, w'' = wr.ext Y) := fun X => by
     have bb := HB.out.trans ((A0 wr X).mono HB.out.size)
     rw [hq]
     exact Calls.ext_of' (ih _ (bX2 hlt) φ φ' _ _ _ _ ⟨kv, rfl, t5.nice _ _ _ _ _ _ (N2.below bb) hkv⟩ ⟨kv', rfl, t5.nice _ _ _ _ _ _ (N2.below bb) hkv'⟩)
    have HQ := show Hid _ from hq
    have j0 := fun X => n7 c0 X
    have j1 := fun X => n7 c1 X
    have j2 := fun X => n7 c2 X
    have i0 := fun X => n7 d0 X
    have i1 := fun X => n7 d1 X
    have i2 := fun X => n7 d2 X
    clear hkv hkv' hq c0 c1 c2 d0 d1 d2
    cases q
    ·go_wp2_with fail
     refine v6 (by kernel_rfl) (by kernel_rfl) ?_
     repeat (any_goals (first | go_big_quiet_step (((go_at_call 216; exact HC3.out _))) | quiet_step (((go_at_call 216; exact HC3.out _)))))
     refine wpQuiet_nil ?_
     rintro _ ⟨X, rfl⟩
     go_wp2_with fail
     go_ret
     exact ⟨k8 (bj7 hlt hlt2 HQ.out.symm).symm, HB.out.trans ((A0 wr X).mono HB.out.size)⟩
    ·go_wp2_with fail
     refine v6 (by kernel_rfl) (by kernel_rfl) ?_
     repeat (any_goals (first | go_big_quiet_step (((go_at_call 216; exact HC3.out _))) | quiet_step (((go_at_call 216; exact HC3.out _)))))
     refine wpQuiet_nil ?_
     rintro _ ⟨X, rfl⟩
     go_wp2_with fail
     exact ⟨⟨k + 1, by omega, by go_num, ah3 HT.out hlt hlt2 ((al0 _ _).1 HQ.out.symm), HB.out.trans ((A0 wr X).mono HB.out.size)⟩, by simp [intOf]; omega⟩
   ·have hge : ¬ ((k : Int) < (ks.length : Int)) := by omega
    go_wp2_with fail
    go_ret
    exact ⟨k8 (by rw [R4 HT.out (by omega) (by have := HL.out; omega)]; exact ((af3 _ _).2 rfl).symm), HB.out⟩
 ·have hne : ((ks.length : Int) == (ls.length : Int)) = false := by simp; omega
  have HL := show Hid _ from hl
  clear hl
  go_enter Tryz.func243, Tryz.ntmps243
  go_wp2
  go_ret
  exact ⟨k8 (a94 HL.out).symm, Below.refl _ _⟩
theorem aK8 (e : b5) : EqE e := by
 refine b5.ind (P := EqE) (fun k n ks ih => ?_) e
 intro φ φ' v u e' w h h'
 obtain ⟨kv, rfl, hk⟩ := h
 obtain ⟨ku, rfl, hk'⟩ := h'
 simp only [b5.kind, b5.value, b5.kids] at hk ⊢
 cases e' with
 | mk k' n' ks' =>
 have HS : Hid (af4 ⟨k, n, ks⟩ ⟨k', n', ks'⟩ = (decide (k = k') && decide (n = n') && T4 ks ks')) := rfl
 simp only [b5.kind, b5.value, b5.kids] at hk' ⊢
 obtain ⟨W, hW, M⟩ : ∃ W, W = (w.alloc (.cells #[.int .i64 k, .int .i64 n, kv] 104)).alloc (.cells #[.int .i64 k', .int .i64 n', ku] 104) ∧ C2 (fun _ => True) (fun _ => True) w W [.box w.heap.size [.int .i64 k, .int .i64 n, kv], .box (w.heap.size + 1) [.int .i64 k', .int .i64 n', ku]] :=
  ⟨_, rfl, ((C2.start fun _ _ => trivial).box _ _).box' _ _ (by simp)⟩
 have HK := show Hid (t5 W φ kv ks ∧ t5 W φ' ku ks') from ⟨t5.nice _ _ _ _ _ _ (N2.below (M.below fun _ _ => trivial)) hk, t5.nice _ _ _ _ _ _ (N2.below (M.below fun _ _ => trivial)) hk'⟩
 have HB := show Hid _ from M.below fun _ _ => trivial
 have c0 := M.c 0 0 rfl rfl
 have c1 := M.c 0 1 rfl rfl
 have c2 := M.c 0 2 rfl rfl
 have d0 := M.c 1 0 rfl rfl
 have d1 := M.c 1 1 rfl rfl
 have d2 := M.c 1 2 rfl rfl
 rw [hW] at c0 c1 c2 d0 d1 d2
 clear hk hk' M
 by_cases q0 : k = k'
 ·have p0 : (k == k') = true := by simp [q0]
  by_cases q1 : n = n'
  ·have p1 : (n == n') = true := by simp [q1]
   have Q := show Hid _ from And.intro q0 q1
   clear q0 q1
   go_enter Tryz.func216, Tryz.ntmps216
   go_wp2_with fail
   rw [← hW]
   clear hW c0 c1 c2 d0 d1 d2
   refine (bc3 ks ih φ φ' kv ku ks' _ HK.out.1 HK.out.2).mono ?_
   rintro x w1 ⟨rfl, b1⟩
   have B1 := show Hid _ from HB.out.trans (b1.mono HB.out.size)
   obtain ⟨q, hq⟩ : ∃ q, q = T4 ks ks' := ⟨_, rfl⟩
   rw [← hq]
   have HQ := show Hid _ from hq
   clear hq
   cases q
   ·go_wp2_with fail
    go_ret
    exact ⟨k8 (by rw [HS.out, ← HQ.out]; simp), B1.out⟩
   ·go_wp2_with fail
    go_ret
    exact ⟨k8 (by rw [HS.out, ← HQ.out]; simp [Q.out.1, Q.out.2]), B1.out⟩
  ·have p1 : (n == n') = false := by simp [q1]
   have Q := show Hid _ from q1
   clear q0 q1
   go_enter Tryz.func216, Tryz.ntmps216
   go_wp2_with fail
   go_ret
   exact ⟨k8 (by rw [HS.out, show decide (n = n') = false from decide_eq_false Q.out]; simp), by rw [← hW]; exact HB.out⟩
 ·have p0 : (k == k') = false := by simp [q0]
  have Q := show Hid _ from q0
  clear q0
  go_enter Tryz.func216, Tryz.ntmps216
  go_wp2_with fail
  go_ret
  exact ⟨k8 (by rw [HS.out, show decide (k = k') = false from decide_eq_false Q.out]; simp), by rw [← hW]; exact HB.out⟩
def EqS (e : b6) : Prop := ∀ (φ φ' : Nat → Prop) (v u : Value) (e' : b6) (w : World), Q1 w φ v e → Q1 w φ' u e' →
 Calls Tryz.prog 164 #[v, u] w fun x w' => x = .returned (.bool (aH7 e e')) ∧ Below w.heap.size w w'
theorem as4 (ks : List b6) (ih : ∀ e ∈ ks, EqS e) (φ φ' : Nat → Prop) (v u : Value) (ls : List b6) (w : World) (h : t8 w φ v ks) (h' : t8 w φ' u ls) :
  Calls Tryz.prog 84 #[v, u] w fun x w' => x = .returned (.bool (K5 ks ls)) ∧ Below w.heap.size w w' := by
 obtain ⟨a, cap, rfl, -, hn, -, hc⟩ := h.open
 obtain ⟨a', cap', rfl, -, hn', -, hc'⟩ := h'.open
 have HC := show Hid _ from hc
 have HC' := show Hid _ from hc'
 clear hc hc' h h'
 by_cases hl : ks.length = ls.length
 ·have heq : ((ks.length : Int) == (ls.length : Int)) = true := by simp; omega
  have HL := show Hid _ from hl
  clear hl
  go_enter Tryz.func84, Tryz.ntmps84
  go_wp2
  go_loopw [5] (fun i wr => ∃ k : Nat, k ≤ ks.length ∧ i = .int .i64 k ∧ ks.take k = ls.take k ∧ Below w.heap.size w wr) (fun i _ => ks.length - (intOf i).toNat)
  case atStart => exact ⟨0, bX5 _, rfl, rfl, Below.refl _ _⟩
  case round =>
   obtain ⟨k, hk, rfl, ht, hb⟩ := hrel
   have HT := show Hid _ from ht
   have HB := show Hid _ from hb
   clear ht hb
   by_cases hlt : k < ks.length
   ·have hlt2 : k < ls.length := by have := HL.out; omega
    obtain ⟨b, off, iv, vv, bv, ev, rfl, hbk, hf, ⟨c0, c1, c2, c3, c4, c5, c6, c7, c8, c9, c10⟩, g1, g2, g3, g4⟩ := HC.out k hlt
    obtain ⟨b', off', iv', vv', bv', ev', rfl, hbk', hf', ⟨d0, d1, d2, d3, d4, d5, d6, d7, d8, d9, d10⟩, g1', g2', g3', g4'⟩ := HC'.out k hlt2
    rw [← (ac7 HB.out).1 _ _ hbk] at c0 c1 c2 c3 c4 c5 c6 c7 c8 c9 c10
    rw [← (ac7 HB.out).1 _ _ hbk'] at d0 d1 d2 d3 d4 d5 d6 d7 d8 d9 d10
    obtain ⟨q, hq⟩ : ∃ q, q = aH7 ks[k] ls[k] := ⟨_, rfl⟩
    have HC3 : Hid (∀ X, Calls Tryz.prog 164 #[.agg #[.int .i64 ks[k].kind, .int .i64 ks[k].target, .int .i64 ks[k].index.kind, .int .i64 ks[k].index.value, iv, .int .i64 ks[k].value.kind, .int .i64 ks[k].value.value, vv, .int .i64 ks[k].count, bv, ev], .agg #[.int .i64 ls[k].kind, .int .i64 ls[k].target, .int .i64 ls[k].index.kind, .int .i64 ls[k].index.value, iv', .int .i64 ls[k].value.kind, .int .i64 ls[k].value.value, vv', .int .i64 ls[k].count, bv', ev']] (wr.ext X) fun e w'' => e = .returned (.bool q) ∧ ∃ Y, w'' = wr.ext Y) := fun X => by
     have bb := HB.out.trans ((A0 wr X).mono HB.out.size)
     rw [hq]
     exact Calls.ext_of' (ih _ (bX2 hlt) φ φ' _ _ _ _ (Q1.nice _ _ _ _ _ _ (N2.below bb) ⟨iv, vv, bv, ev, rfl, g1, g2, g3, g4⟩) (Q1.nice _ _ _ _ _ _ (N2.below bb) ⟨iv', vv', bv', ev', rfl, g1', g2', g3', g4'⟩))
    have HQ := show Hid _ from hq
    have j0 := fun X => n7 c0 X
    have j1 := fun X => n7 c1 X
    have j2 := fun X => n7 c2 X
    have j3 := fun X => n7 c3 X
    have j4 := fun X => n7 c4 X
    have j5 := fun X => n7 c5 X
    have j6 := fun X => n7 c6 X
    have j7 := fun X => n7 c7 X
    have j8 := fun X => n7 c8 X
    have j9 := fun X => n7 c9 X
    have j10 := fun X => n7 c10 X
    have i0 := fun X => n7 d0 X
    have i1 := fun X => n7 d1 X
    have i2 := fun X => n7 d2 X
    have i3 := fun X => n7 d3 X
    have i4 := fun X => n7 d4 X
    have i5 := fun X => n7 d5 X
    have i6 := fun X => n7 d6 X
    have i7 := fun X => n7 d7 X
    have i8 := fun X => n7 d8 X
    have i9 := fun X => n7 d9 X
    have i10 := fun X => n7 d10 X
    clear g1 g2 g3 g4 g1' g2' g3' g4' hq c0 d0 c1 d1 c2 d2 c3 d3 c4 d4 c5 d5 c6 d6 c7 d7 c8 d8 c9 d9 c10 d10
    cases q
    ·go_wp2_with fail
     refine v6 (by kernel_rfl) (by kernel_rfl) ?_
     repeat (any_goals (first | go_big_quiet_step (((go_at_call 164; exact HC3.out _))) | quiet_step (((go_at_call 164; exact HC3.out _)))))
     refine wpQuiet_nil ?_
     rintro _ ⟨X, rfl⟩
     go_wp2_with fail
     go_ret
     exact ⟨k8 (bj6 hlt hlt2 HQ.out.symm).symm, HB.out.trans ((A0 wr X).mono HB.out.size)⟩
    ·go_wp2_with fail
     refine v6 (by kernel_rfl) (by kernel_rfl) ?_
     repeat (any_goals (first | go_big_quiet_step (((go_at_call 164; exact HC3.out _))) | quiet_step (((go_at_call 164; exact HC3.out _)))))
     refine wpQuiet_nil ?_
     rintro _ ⟨X, rfl⟩
     go_wp2_with fail
     exact ⟨⟨k + 1, by omega, by go_num, ah3 HT.out hlt hlt2 ((aH6 _ _).1 HQ.out.symm), HB.out.trans ((A0 wr X).mono HB.out.size)⟩, by simp [intOf]; omega⟩
   ·have hge : ¬ ((k : Int) < (ks.length : Int)) := by omega
    go_wp2_with fail
    go_ret
    exact ⟨k8 (by rw [R4 HT.out (by omega) (by have := HL.out; omega)]; exact ((V2 _ _).2 rfl).symm), HB.out⟩
 ·have hne : ((ks.length : Int) == (ls.length : Int)) = false := by simp; omega
  have HL := show Hid _ from hl
  clear hl
  go_enter Tryz.func84, Tryz.ntmps84
  go_wp2
  go_ret
  exact ⟨k8 (a93 HL.out).symm, Below.refl _ _⟩
theorem bc2 (s : b6) : EqS s := by
 refine b6.ind (P := EqS) (fun k t i v c b e ihb ihe => ?_) s
 intro φ φ' x u s' w h h'
 obtain ⟨iv, vv, bv, ev, rfl, g1, g2, g3, g4⟩ := h
 obtain ⟨iv', vv', bv', ev', rfl, g1', g2', g3', g4'⟩ := h'
 cases s' with
 | mk k' t' i' v' c' b' e' =>
 have HS : Hid (aH7 ⟨k, t, i, v, c, b, e⟩ ⟨k', t', i', v', c', b', e'⟩ = (decide (k = k') && decide (t = t') && af4 i i' && af4 v v' && decide (c = c') && K5 b b' && K5 e e')) := rfl
 simp only [b6.index, b6.value, b6.body, b6.els, b6.kind, b6.target, b6.count] at g1 g2 g3 g4 g1' g2' g3' g4' ⊢
 obtain ⟨W, hW, M⟩ : ∃ W, W = (w.alloc (.cells #[.int .i64 k, .int .i64 t, .int .i64 i.kind, .int .i64 i.value, iv, .int .i64 v.kind, .int .i64 v.value, vv, .int .i64 c, bv, ev] 106)).alloc (.cells #[.int .i64 k', .int .i64 t', .int .i64 i'.kind, .int .i64 i'.value, iv', .int .i64 v'.kind, .int .i64 v'.value, vv', .int .i64 c', bv', ev'] 106) ∧ C2 (fun _ => True) (fun _ => True) w W [.box w.heap.size [.int .i64 k, .int .i64 t, .int .i64 i.kind, .int .i64 i.value, iv, .int .i64 v.kind, .int .i64 v.value, vv, .int .i64 c, bv, ev], .box (w.heap.size + 1) [.int .i64 k', .int .i64 t', .int .i64 i'.kind, .int .i64 i'.value, iv', .int .i64 v'.kind, .int .i64 v'.value, vv', .int .i64 c', bv', ev']] :=
  ⟨_, rfl, ((C2.start fun _ _ => trivial).box _ _).box' _ _ (by simp)⟩
 have HG := show Hid (∀ W', Below w.heap.size w W' → K8 W' φ (.agg #[.int .i64 i.kind, .int .i64 i.value, iv]) i ∧ K8 W' φ (.agg #[.int .i64 v.kind, .int .i64 v.value, vv]) v ∧ t8 W' φ bv b ∧ t8 W' φ ev e) from fun W' k =>
  ⟨⟨iv, rfl, t5.nice _ _ _ _ _ _ (N2.below k) g1⟩, ⟨vv, rfl, t5.nice _ _ _ _ _ _ (N2.below k) g2⟩, t8.nice _ _ _ _ _ _ (N2.below k) g3, t8.nice _ _ _ _ _ _ (N2.below k) g4⟩
 have HG' := show Hid (∀ W', Below w.heap.size w W' → K8 W' φ' (.agg #[.int .i64 i'.kind, .int .i64 i'.value, iv']) i' ∧ K8 W' φ' (.agg #[.int .i64 v'.kind, .int .i64 v'.value, vv']) v' ∧ t8 W' φ' bv' b' ∧ t8 W' φ' ev' e') from fun W' k =>
  ⟨⟨iv', rfl, t5.nice _ _ _ _ _ _ (N2.below k) g1'⟩, ⟨vv', rfl, t5.nice _ _ _ _ _ _ (N2.below k) g2'⟩, t8.nice _ _ _ _ _ _ (N2.below k) g3', t8.nice _ _ _ _ _ _ (N2.below k) g4'⟩
 clear g1 g2 g3 g4 g1' g2' g3' g4'
 have c0 := M.c 0 0 rfl rfl
 have d0 := M.c 1 0 rfl rfl
 have c1 := M.c 0 1 rfl rfl
 have d1 := M.c 1 1 rfl rfl
 have c2 := M.c 0 2 rfl rfl
 have d2 := M.c 1 2 rfl rfl
 have c3 := M.c 0 3 rfl rfl
 have d3 := M.c 1 3 rfl rfl
 have c4 := M.c 0 4 rfl rfl
 have d4 := M.c 1 4 rfl rfl
 rw [hW] at c0 d0 c1 d1 c2 d2 c3 d3 c4 d4
 have HB0 := show Hid _ from M.below fun _ _ => trivial
 have HM := show Hid _ from M
 clear M
 by_cases q0 : k = k'
 rotate_left
 ·have p0 : (k == k') = false := by simp [q0]
  have Q := show Hid _ from q0
  clear q0
  go_enter Tryz.func164, Tryz.ntmps164
  go_wp2_with fail
  go_ret
  exact ⟨k8 (by rw [HS.out, show decide (k = k') = false from decide_eq_false Q.out]; simp), by rw [← hW]; exact HB0.out⟩
 have p0 : (k == k') = true := by simp [q0]
 by_cases q1 : t = t'
 rotate_left
 ·have p1 : (t == t') = false := by simp [q1]
  have Q := show Hid _ from q1
  clear q0 q1
  go_enter Tryz.func164, Tryz.ntmps164
  go_wp2_with fail
  go_ret
  exact ⟨k8 (by rw [HS.out, show decide (t = t') = false from decide_eq_false Q.out]; simp), by rw [← hW]; exact HB0.out⟩
 have p1 : (t == t') = true := by simp [q1]
 have Q0 := show Hid _ from And.intro q0 q1
 clear q0 q1
 go_enter Tryz.func164, Tryz.ntmps164
 go_wp2_with fail
 rw [← hW]
 have M := HM.out
 clear hW HM p0 p1 c0 d0 c1 d1 c2 d2 c3 d3 c4 d4
 refine (aK8 i φ φ' _ _ i' _ (HG.out _ (M.below fun _ _ => trivial)).1 (HG'.out _ (M.below fun _ _ => trivial)).1).mono ?_
 rintro x w1 ⟨rfl, b1⟩
 replace M := M.call b1
 clear b1
 obtain ⟨r1, hq⟩ : ∃ q, q = af4 i i' := ⟨_, rfl⟩
 rw [← hq]
 have Hr1 := show Hid _ from hq
 clear hq
 have HB := show Hid _ from M.below fun _ _ => trivial
 have c5 := M.c 0 5 rfl rfl
 have d5 := M.c 1 5 rfl rfl
 have c6 := M.c 0 6 rfl rfl
 have d6 := M.c 1 6 rfl rfl
 have c7 := M.c 0 7 rfl rfl
 have d7 := M.c 1 7 rfl rfl
 have HM := show Hid _ from M
 clear M
 cases r1
 ·go_wp2_with fail
  go_ret
  exact ⟨k8 (by rw [HS.out, ← Hr1.out]; simp), HB.out⟩
 go_wp2_with fail
 have M := HM.out
 clear HM HB c5 d5 c6 d6 c7 d7
 refine (aK8 v φ φ' _ _ v' _ (HG.out _ (M.below fun _ _ => trivial)).2.1 (HG'.out _ (M.below fun _ _ => trivial)).2.1).mono ?_
 rintro x w1 ⟨rfl, b1⟩
 replace M := M.call b1
 clear b1
 obtain ⟨r2, hq⟩ : ∃ q, q = af4 v v' := ⟨_, rfl⟩
 rw [← hq]
 have Hr2 := show Hid _ from hq
 clear hq
 have HB := show Hid _ from M.below fun _ _ => trivial
 have c8 := M.c 0 8 rfl rfl
 have d8 := M.c 1 8 rfl rfl
 have c9 := M.c 0 9 rfl rfl
 have d9 := M.c 1 9 rfl rfl
 have HM := show Hid _ from M
 clear M
 cases r2
 ·go_wp2_with fail
  go_ret
  exact ⟨k8 (by rw [HS.out, ← Hr2.out]; simp), HB.out⟩
 by_cases q4 : c = c'
 rotate_left
 ·have p4 : (c == c') = false := by simp [q4]
  have Q := show Hid _ from q4
  clear q4
  go_wp2_with fail
  go_ret
  exact ⟨k8 (by rw [HS.out, show decide (c = c') = false from decide_eq_false Q.out]; simp), HB.out⟩
 have p4 : (c == c') = true := by simp [q4]
 have Q4 := show Hid _ from q4
 clear q4
 go_wp2_with fail
 have M := HM.out
 clear HM HB p4 c8 d8 c9 d9
 refine (as4 b ihb φ φ' bv bv' b' _ (HG.out _ (M.below fun _ _ => trivial)).2.2.1 (HG'.out _ (M.below fun _ _ => trivial)).2.2.1).mono ?_
 rintro x w1 ⟨rfl, b1⟩
 replace M := M.call b1
 clear b1
 obtain ⟨r3, hq⟩ : ∃ q, q = K5 b b' := ⟨_, rfl⟩
 rw [← hq]
 have Hr3 := show Hid _ from hq
 clear hq
 have HB := show Hid _ from M.below fun _ _ => trivial
 have c10 := M.c 0 10 rfl rfl
 have d10 := M.c 1 10 rfl rfl
 have HM := show Hid _ from M
 clear M
 cases r3
 ·go_wp2_with fail
  go_ret
  exact ⟨k8 (by rw [HS.out, ← Hr3.out]; simp), HB.out⟩
 go_wp2_with fail
 have M := HM.out
 clear HM HB c10 d10
 refine (as4 e ihe φ φ' ev ev' e' _ (HG.out _ (M.below fun _ _ => trivial)).2.2.2 (HG'.out _ (M.below fun _ _ => trivial)).2.2.2).mono ?_
 rintro x w1 ⟨rfl, b1⟩
 replace M := M.call b1
 clear b1
 obtain ⟨r4, hq⟩ : ∃ q, q = K5 e e' := ⟨_, rfl⟩
 rw [← hq]
 have Hr4 := show Hid _ from hq
 clear hq
 have HB := show Hid _ from M.below fun _ _ => trivial
 have HM := show Hid _ from M
 clear M
 cases r4
 ·go_wp2_with fail
  go_ret
  exact ⟨k8 (by rw [HS.out, ← Hr4.out]; simp), HB.out⟩
 go_wp2_with fail
 go_ret
 exact ⟨k8 (by rw [HS.out, ← Hr1.out, ← Hr2.out, ← Hr3.out, ← Hr4.out, decide_eq_true Q0.out.1, decide_eq_true Q0.out.2, decide_eq_true Q4.out]; rfl), HB.out⟩
theorem aN4 (φ φ' : Nat → Prop) (x u : Value) (p q : k6) (w : World) (h : ap5 w φ x p) (h' : ap5 w φ' u q) :
  Calls Tryz.prog 30 #[x, u] w fun e w' => e = .returned (.bool (p.same q)) ∧ Below w.heap.size w w' := by
 obtain ⟨v1, v2, v3, rfl, h1, h2, h3⟩ := h
 obtain ⟨u1, u2, u3, rfl, k1, k2, k3⟩ := h'
 have HS : Hid (p.same q = (decide (p.vars = q.vars) && decide (p.arrays = q.arrays) && K5 p.body q.body)) := rfl
 obtain ⟨W, hW, M⟩ : ∃ W, W = (w.alloc (.cells #[v1, v2, v3] 26)).alloc (.cells #[u1, u2, u3] 26) ∧ C2 (fun _ => True) (fun _ => True) w W [.box w.heap.size [v1, v2, v3], .box (w.heap.size + 1) [u1, u2, u3]] :=
  ⟨_, rfl, ((C2.start fun _ _ => trivial).box _ _).box' _ _ (by simp)⟩
 have HG := show Hid (∀ W', Below w.heap.size w W' → (V9 W' v1 p.vars.length 1 (ints p.vars) ∧ V9 W' v2 p.arrays.length 1 (ints p.arrays) ∧ t8 W' φ v3 p.body) ∧ (V9 W' u1 q.vars.length 1 (ints q.vars) ∧ V9 W' u2 q.arrays.length 1 (ints q.arrays) ∧ t8 W' φ' u3 q.body)) from fun W' k =>
  ⟨⟨h1.row.below k, h2.row.below k, t8.nice _ _ _ _ _ _ (N2.below k) h3⟩, k1.row.below k, k2.row.below k, t8.nice _ _ _ _ _ _ (N2.below k) k3⟩
 clear h1 h2 h3 k1 k2 k3
 have c0 := M.c 0 0 rfl rfl
 have d0 := M.c 1 0 rfl rfl
 rw [hW] at c0 d0
 have HM := show Hid _ from M
 clear M
 go_enter Tryz.func30, Tryz.ntmps30
 go_wp2_with fail
 rw [← hW]
 have M := HM.out
 clear hW HM c0 d0
 refine (aK7 _ _ p.vars q.vars _ (HG.out _ (M.below fun _ _ => trivial)).1.1 (HG.out _ (M.below fun _ _ => trivial)).2.1).mono ?_
 rintro x w1 ⟨rfl, n1, rfl⟩
 replace M := M.call (below_drewN (Below.refl _ _) n1)
 obtain ⟨r1, hq⟩ : ∃ r, r = decide (p.vars = q.vars) := ⟨_, rfl⟩
 rw [← hq]
 have Hr1 := show Hid _ from hq
 clear hq
 have HB := show Hid _ from M.below fun _ _ => trivial
 have c1 := M.c 0 1 rfl rfl
 have d1 := M.c 1 1 rfl rfl
 have HM := show Hid _ from M
 clear M
 cases r1
 ·go_wp2_with fail
  go_ret
  exact ⟨k8 (by rw [HS.out, ← Hr1.out]; simp), HB.out⟩
 go_wp2_with fail
 have M := HM.out
 clear HM HB c1 d1
 refine (aK7 _ _ p.arrays q.arrays _ (HG.out _ (M.below fun _ _ => trivial)).1.2.1 (HG.out _ (M.below fun _ _ => trivial)).2.2.1).mono ?_
 rintro x w1 ⟨rfl, n2, rfl⟩
 replace M := M.call (below_drewN (Below.refl _ _) n2)
 rw [World.drewN_drewN] at M
 obtain ⟨r2, hq⟩ : ∃ r, r = decide (p.arrays = q.arrays) := ⟨_, rfl⟩
 rw [← hq]
 have Hr2 := show Hid _ from hq
 clear hq
 have HB := show Hid _ from M.below fun _ _ => trivial
 have c2 := M.c 0 2 rfl rfl
 have d2 := M.c 1 2 rfl rfl
 have HM := show Hid _ from M
 clear M
 cases r2
 ·go_wp2_with fail
  go_ret
  exact ⟨k8 (by rw [HS.out, ← Hr2.out]; simp), HB.out⟩
 go_wp2_with fail
 have M := HM.out
 clear HM HB c2 d2
 refine (as4 p.body (fun s _ => bc2 s) φ φ' v3 u3 q.body _ (HG.out _ (M.below fun _ _ => trivial)).1.2.2 (HG.out _ (M.below fun _ _ => trivial)).2.2.2).mono ?_
 rintro x w1 ⟨rfl, b1⟩
 replace M := M.call b1
 clear b1
 obtain ⟨r3, hq⟩ : ∃ r, r = K5 p.body q.body := ⟨_, rfl⟩
 rw [← hq]
 have Hr3 := show Hid _ from hq
 clear hq
 have HB := show Hid _ from M.below fun _ _ => trivial
 clear M
 cases r3
 ·go_wp2_with fail
  go_ret
  exact ⟨k8 (by rw [HS.out, ← Hr3.out]; simp), HB.out⟩
 go_wp2_with fail
 go_ret
 exact ⟨k8 (by rw [HS.out, ← Hr1.out, ← Hr2.out, ← Hr3.out]; rfl), HB.out⟩
theorem a49 (p : k6) (m : Int) (hm : 0 ≤ m) (hm2 : m ≤ 1048576) : p6.ok Tryz.prog (P3 26 [pA 0, iA m] (pS p) (iA (L0 m p.size))) :=
 ae6 fun φ w ρ h => aM5 φ _ p m w ⟨ρ 0, ρ 1, ρ 2, rfl, h 0 _ rfl, h 1 _ rfl, h 2 _ rfl⟩ hm hm2
theorem a59 (p q : k6) : p6.ok Tryz.prog (P3 30 [pA 0, pA 3] (pS p ++ pS q) (bA (p.same q))) :=
 ae6 fun φ w ρ h => aN4 φ φ _ _ p q w ⟨ρ 0, ρ 1, ρ 2, rfl, h 0 _ rfl, h 1 _ rfl, h 2 _ rfl⟩ ⟨ρ 3, ρ 4, ρ 5, rfl, h 3 _ rfl, h 4 _ rfl, h 5 _ rfl⟩
theorem br9 {P : Program} {f : FuncId} {x : Value} {p : k6} {post : List It} (hc : p6.ok P ⟨f, [pA 0], pS p, post, .v x⟩) (u : Value) (w : World) (hp : ap5 w (fun _ => True) u p) :
  Calls P f #[u] w fun e w' => e = .returned x ∧ Below w.heap.size w w' := by
 obtain ⟨v1, v2, v3, rfl, h1, h2, h3⟩ := hp
 have M0 : s7 (fun _ => True) (fun _ => True) w w (v9 (fun _ : Empty => Rs.none) (fun _ => undef) (w7 [])) := by
  refine (s7.start (ι := Empty ⊕ Nat) (w0 := w) (φ := fun _ => True) (ψ := fun _ => True) fun _ _ => trivial).map (fun k => some k) (fun k k' i a b => by cases a; cases b; rfl) fun k => ?_
  cases k with
  | inl e => exact e.elim
  | inr j => exact .inr rfl
 have ha : N2 (fun _ => True) (FrF (fun _ => True) (v9 (fun _ : Empty => Rs.none) (fun _ => undef) (w7 []))) w w := N2.mono fun b _ _ => ⟨bW1, fun i => by
  cases i with
  | inl e => exact e.elim
  | inr j => exact fun h => h.elim⟩
 obtain ⟨ρ', g1, M2, g2⟩ := s7.dats [.sl (.ints p.vars), .sl (.ints p.arrays), .sl (.stmts p.body)] [v1, v2, v3] 0 M0
  ⟨RD.nice (.ints p.vars) _ _ _ _ _ ha h1, RD.nice (.ints p.arrays) _ _ _ _ _ ha h2, RD.nice (.stmts p.body) _ _ _ _ _ ha h3, bW1⟩ (fun _ _ => rfl) (fun _ _ _ => rfl)
 have e : v8 (w7 []) (X8 [.sl (.ints p.vars), .sl (.ints p.arrays), .sl (.stmts p.body)] 0) = w7 (pS p) := by
  funext j
  match j with
  | 0 => rfl
  | 1 => rfl
  | 2 => rfl
  | j + 3 => simp [X8, v8, w7]
 rw [e] at M2
 simp only [xav, AV.vals, AV.val, List.cons.injEq, and_true] at g2
 obtain ⟨rfl, rfl, rfl⟩ := g2
 refine (hc Empty _ _ w w _ ρ' M2).mono ?_
 rintro e w' ⟨ρ2, -, rfl, M3⟩
 exact ⟨rfl, M3.below fun _ _ => trivial⟩
theorem au9 (v : Value) (xs : List Int) (K : Nat) (w : World) (h : w.ownsRow 0 3 1 v xs.length (ints xs)) (hK : K + xs.length ≤ 9000000000000000000) :
  Calls Tryz.prog 85 #[v, .int .i64 K] w fun e w' => e = .returned (.int .i64 (K + xs.length : Nat)) ∧ w'.ownsRow 0 3 1 v xs.length (ints (D7 K xs.length)) ∧ D0 (fun b => ¬ v.ownBlock = some b) w w' := by
 obtain ⟨lo, hi, _, _, ho, hb⟩ := (R3.mk' h).tight
 refine (aV6 v xs K lo hi w ho hK).mono ?_
 rintro e w1 ⟨rfl, h1, h2⟩
 refine ⟨rfl, I2 h1.1 (bX5 _), h2.os, h2.tape, h2.output, h2.size, fun b hb1 hb2 => h2.block b hb1 ?_⟩
 rcases bY6 b lo with h3 | h3
 ·exact .inl h3
 ·rcases bY6 b hi with h4 | h4
  ·exact absurd (hb b h3 h4) hb2
  ·exact .inr h4
theorem C2.turnRow {φ ψ : Nat → Prop} {w0 w w' : World} {L : List Y5} (M : C2 φ ψ w0 w L) (i : Nat) {e : TypeId} {sz : Nat} {v : Value} {n : Nat} {xs xs' : List Value} (hi : L[i]? = some (.row e sz v n xs)) (hk : D0 (fun b => ¬ v.ownBlock = some b) w w') (h : w'.ownsRow 0 e sz v n xs') : C2 φ ψ w0 w' (L.set i (.row e sz v n xs')) :=
 M.put hi _ hk h fun _ hg => .inl hg
def mkP (p : k6) (k : Nat) : k6 := ⟨D7 k p.vars.length, D7 (k + p.vars.length) p.arrays.length, al5 p.body ((k + p.vars.length + p.arrays.length : Nat) : Int)⟩
def aC2 (p : k6) : Int := p.vars.length + p.arrays.length + mkN p.body
theorem aC3 (v : Value) (p : k6) (k : Nat) (w : World) (S : Nat → Prop) (h : aj9 w v p S) (hb : k + aC2 p ≤ 9000000000000000000) :
  Calls Tryz.prog 31 #[v, .int .i64 k] w fun x w' => x = .returned (.int .i64 (k + aC2 p)) ∧ aj9 w' v (mkP p k) S ∧ D0 (fun b => ¬ S b) w w' := by
 obtain ⟨v1, v2, v3, S3, rfl, h1, h2, h3, d1, d2, d3⟩ := h
 have hnn := (J6 p.body).1
 have hbb : (k : Int) + p.vars.length + p.arrays.length + mkN p.body ≤ 9000000000000000000 := by unfold aC2 at hb; omega
 obtain ⟨W, hW, M⟩ : ∃ W, W = w.alloc (.cells #[v1, v2, v3] 26) ∧ C2 (fun _ => True) (fun b => ¬ S b) w W [.box w.heap.size [v1, v2, v3], .row 3 1 v1 p.vars.length (ints p.vars), .row 3 1 v2 p.arrays.length (ints p.arrays), .own (fun b => S3 b ∧ b < w.heap.size) (fun w' => A5 w' v3 p.body (fun b => S3 b ∧ b < w.heap.size))] := by
  refine ⟨_, rfl, (((((C2.start fun _ _ => trivial).box [v1, v2, v3] 26).adopt (.row 3 1 v1 p.vars.length (ints p.vars)) ?_ bW1 (I1 h1 fun g hg => ?_) ?_ ?_).adopt (.row 3 1 v2 p.arrays.length (ints p.arrays)) ?_ bW1 (I1 h2 fun g hg => ?_) ?_ ?_).adopt (.own (fun b => S3 b ∧ b < w.heap.size) (fun w' => A5 w' v3 p.body (fun b => S3 b ∧ b < w.heap.size))) ?_ bW1 ⟨fun _ _ h hs => A5.same h hs, h3.cut.same fun b hb hl => ?_, fun b hb => ?_⟩ ?_ ?_)⟩
  ·intro a ha; simp at ha; subst ha; trivial
  ·exact (Below.refl _ _ |>.alloc (bW6 _) _).block g (World.ownsRow.lt h1 g hg).2
  ·intro a ha g hg h; simp at ha; subst ha; cases h; have := (World.ownsRow.lt h1 _ hg).2; omega
  ·intro g hg hn; exact hn (d1 g hg).1
  ·intro a ha; simp at ha; rcases ha with rfl | rfl <;> trivial
  ·exact (Below.refl _ _ |>.alloc (bW6 _) _).block g (World.ownsRow.lt h2 g hg).2
  ·intro a ha g hg h; simp at ha; rcases ha with rfl | rfl
   ·cases h; have := (World.ownsRow.lt h2 _ hg).2; omega
   ·exact (d1 g h).2.2 hg
  ·intro g hg hn; exact hn (d2 g hg).1
  ·intro a ha; simp at ha; rcases ha with rfl | rfl | rfl <;> trivial
  ·exact (Below.refl _ _ |>.alloc (bW6 _) _).block b hb.2
  ·simp; have := hb.2; omega
  ·intro a ha g hg h; simp at ha; rcases ha with rfl | rfl | rfl
   ·cases h; have := hg.2; omega
   ·exact (d1 g h).2.1 hg.1
   ·exact (d2 g h).2 hg.1
  ·intro g hg hn; exact hn (d3 g hg.1)
 have HD := show Hid _ from And.intro d1 (And.intro d2 d3)
 clear h1 h2 h3 d1 d2 d3
 have c0 := M.c 0 0 rfl rfl
 rw [hW] at c0
 go_enter Tryz.func31, Tryz.ntmps31
 go_wp2_with fail
 rw [← hW]
 clear hW c0
 refine (au9 v1 p.vars k _ (M.r 1 rfl) (by omega)).mono ?_
 rintro x w1 ⟨rfl, k1, kp1⟩
 replace M := M.turnRow 1 rfl kp1 k1
 clear k1 kp1
 have c1 := M.c 0 1 rfl rfl
 have HM := show Hid _ from M
 clear M
 go_wp2_with fail
 have M := HM.out
 clear HM c1
 refine (au9 v2 p.arrays (k + p.vars.length) _ (M.r 2 rfl) (by omega)).mono ?_
 rintro x w2 ⟨rfl, k1, kp1⟩
 replace M := M.turnRow 2 rfl kp1 k1
 clear k1 kp1
 have c2 := M.c 0 2 rfl rfl
 have HM := show Hid _ from M
 clear M
 go_wp2_with fail
 have M := HM.out
 clear HM c2
 refine (aM9 p.body v3 ((k + p.vars.length + p.arrays.length : Nat) : Int) _ _ (M.o 3 rfl) (by omega) (by omega)).mono ?_
 rintro x w3 ⟨rfl, k1, kp1⟩
 replace M := M.turn 3 rfl kp1 (fun _ _ h hs => A5.same h hs) k1
 clear k1 kp1
 have HM := show Hid _ from M
 clear M
 go_wp2_with fail
 go_ret
 have M := HM.out
 obtain ⟨d1, d2, d3⟩ := HD.out
 refine ⟨C1 (by unfold aC2; omega), ⟨v1, v2, v3, S3, rfl, ?_, ?_, (show A5 _ v3 (al5 p.body _) _ from M.o 3 rfl).mono fun _ h => h.1, d1, d2, d3⟩, M.kept⟩
 ·rw [show (mkP p k).vars = D7 k p.vars.length from rfl, ar6]; exact M.r 1 rfl
 ·rw [show (mkP p k).arrays = D7 (k + p.vars.length) p.arrays.length from rfl, ar6]; exact M.r 2 rfl
section
variable {P : Program} {ι κ : Type} {φ ψ : Nat → Prop} {w0 w w' : World} {F : ι → Rs} {ρ ρ0 : Nat → Value}
theorem s7.turns {L L' : κ → Rs} (M : s7 φ ψ w0 w L) (hblk : ∀ k b, (L' k).blk b ↔ (L k).blk b) (K : κ → Prop) (ho : ∀ k, ¬ K k → L' k = L k) (hk : D0 (fun b => ¬ ∃ k, K k ∧ (L k).blk b) w w') (h : ∀ k, K k → (L' k).holds w' (FrF φ L')) : s7 φ ψ w0 w' L' := by
 have hfr : ∀ b, FrF φ L b → FrF φ L' b := fun b hb => ⟨hb.1, fun k hk => hb.2 k ((hblk k b).1 hk)⟩
 refine ⟨⟨hk.os.trans M.kept.os, hk.tape.trans M.kept.tape, hk.output.trans M.kept.output, bX8 M.size hk.size, fun b hb hp => (hk.block b (bY4 hb M.size) ?_).trans (M.kept.block b hb hp)⟩, M.fresh, fun k => ?_, fun i j g hij h1 h2 => M.dis i j g hij ((hblk i g).1 h1) ((hblk j g).1 h2), fun i b hb => M.ge i b ((hblk i b).1 hb), fun i b hb => M.ph i b ((hblk i b).1 hb)⟩
 ·rintro ⟨k, _, h2⟩
  rcases M.ge k b h2 with h | h
  ·omega
  ·exact h hp
 ·by_cases e : K k
  ·exact h k e
  ·rw [ho k e]
   refine Rs.keep (M.holds k) ⟨hk.size, fun b hb hf => ⟨hfr b hf, hk.block b hb fun ⟨j, _, h2⟩ => hf.2 j h2⟩⟩ fun g hg => hk.block g (M.lt hg) ?_
   rintro ⟨j, h1, h2⟩
   exact M.dis j k g (fun h => e (h ▸ h1)) h2 hg
theorem s7.grow {L L' : κ → Rs} (M : s7 φ ψ w0 w L) (hb : Below w.heap.size w w') (K : κ → Prop) (ho : ∀ k, ¬ K k → L' k = L k) (hg : ∀ k, K k → ∀ b, (L' k).blk b → w.heap.size ≤ b) (hd : ∀ j k b, j ≠ k → K j → K k → (L' j).blk b → ¬ (L' k).blk b) (h : ∀ k, K k → (L' k).holds w' (FrF φ L')) : s7 φ ψ w0 w' L' := by
 have M1 := M.call hb
 have old : ∀ k, ¬ K k → ∀ b, (L' k).blk b → b < w.heap.size := fun k hk b h1 => by rw [ho k hk] at h1; exact M.lt h1
 refine ⟨M1.kept, M.fresh, fun k => ?_, fun i j g hij h1 h2 => ?_, fun i b h1 => ?_, fun i b h1 => ?_⟩
 ·by_cases e : K k
  ·exact h k e
  ·rw [ho k e]
   refine Rs.keep (M.holds k) ⟨hb.size, fun b hl hf => ⟨⟨hf.1, fun j hj => ?_⟩, hb.block b hl⟩⟩ fun g hgx => hb.block g (M.lt hgx)
   by_cases e2 : K j
   ·have := hg j e2 b hj; omega
   ·rw [ho j e2] at hj; exact hf.2 j hj
 ·by_cases e1 : K i <;> by_cases e2 : K j
  ·exact hd i j g hij e1 e2 h1 h2
  ·have := hg i e1 g h1; have := old j e2 g h2; omega
  ·have := hg j e2 g h2; have := old i e1 g h1; omega
  ·rw [ho i e1] at h1; rw [ho j e2] at h2; exact M.dis i j g hij h1 h2
 ·by_cases e : K i
  ·exact .inl (bX8 M.size (hg i e b h1))
  ·rw [ho i e] at h1; exact M.ge i b h1
 ·by_cases e : K i
  ·exact M.fresh b (bX8 M.size (hg i e b h1))
  ·rw [ho i e] at h1; exact M.ph i b h1
end
abbrev oP (p : k6) : List It := [.row 3 (.ints p.vars), .row 3 (.ints p.arrays), .tree (.stmts p.body)]
abbrev oA (r : Nat) : AV := .agg [.ref r, .ref (r + 1), .tref (r + 2)]
theorem af5 {w : World} {φ : Nat → Prop} {v : Value} {l : List Int} (h : w.ownsRow 0 3 1 v l.length (ints l)) : (Rs.row 3 (D.ints l).sz v (D.ints l).len fun xs w φ => RW w φ (.ints l) xs).holds w φ := by
 refine ⟨fun xs => RW.nice (.ints l) xs, ints l, h, fun i hi j x hx => ?_⟩
 have hi' : i < l.length := hi
 simp only [D.elem] at hx
 have hj : j = 0 := by
  cases j with
  | zero => rfl
  | succ j => simp at hx
 subst hj
 simp at hx
 subst hx
 refine ⟨_, ?_, rfl⟩
 simp only [D.sz]
 rw [Nat.mul_one, bZ5]
 simp [ints, hi']
theorem br5 {w : World} {φ : Nat → Prop} {v : Value} {l : List Int} (h : (Rs.row 3 (D.ints l).sz v (D.ints l).len fun xs w φ => RW w φ (.ints l) xs).holds w φ) : w.ownsRow 0 3 1 v l.length (ints l) := by
 obtain ⟨_, xs, h1, h2⟩ := h
 have h3 : xs.length = l.length := by have := h1.1; simpa [D.len, D.sz] using this
 rw [bf0 h3 h2] at h1
 exact h1
theorem aZ1 (p : k6) (hb : p.size ≤ 1048576) : p6.ok Tryz.prog ⟨28, [pA 0], pS p, pS p ++ oP p, oA 3⟩ := by
 intro ι φ ψ w0 w F ρ M
 refine (aM4 (FrF φ (v9 F ρ (w7 (pS p)))) _ p w ⟨ρ 0, ρ 1, ρ 2, rfl, M.datAt (id := 0) rfl, M.datAt (id := 1) rfl, M.datAt (id := 2) rfl⟩ hb).mono ?_
 rintro e w' ⟨a1, k1, a2, k2, a3, k3, S, rfl, hO, hS, hbl⟩
 obtain ⟨v1, v2, v3, S3, hv, h1, h2, h3, d1, d2, d3⟩ := hO
 cases hv
 obtain ⟨z, hz1, hz2⟩ := as5 (.slice a3 p.body.length k3) (fun b => S3 b ∧ b < w'.heap.size) w'.heap.size fun b h => h.2
 refine ⟨fun i => if i = 3 then .slice a1 p.vars.length k1 else if i = 4 then .slice a2 p.arrays.length k2 else if i = 5 then z else ρ i, fun i hi => ?_, ?_, ?_⟩
 ·have : i < 3 := hi
  simp only [if_neg (show ¬ i = 3 by omega), if_neg (show ¬ i = 4 by omega), if_neg (show ¬ i = 5 by omega)]
 ·simp [AV.val, AV.vals, hz1]
 ·have hlt : ∀ j, 6 ≤ j → w7 (pS p ++ oP p) j = .none ∧ w7 (pS p) j = .none := fun j hj => ⟨B6 (by simp; omega), B6 (by simp; omega)⟩
  refine M.grow hbl (fun k => k = .inr 3 ∨ k = .inr 4 ∨ k = .inr 5) (fun k hk => ?_) ?_ ?_ ?_
  ·cases k with
   | inl i => rfl
   | inr j =>
    have n3 : j ≠ 3 := fun e => hk (.inl (by rw [e]))
    have n4 : j ≠ 4 := fun e => hk (.inr (.inl (by rw [e])))
    have n5 : j ≠ 5 := fun e => hk (.inr (.inr (by rw [e])))
    match j, n3, n4, n5 with
    | 0, _, _, _ => rfl
    | 1, _, _, _ => rfl
    | 2, _, _, _ => rfl
    | 3, h, _, _ => exact absurd rfl h
    | 4, _, h, _ => exact absurd rfl h
    | 5, _, _, h => exact absurd rfl h
    | j + 6, _, _, _ => simp only [v9, (hlt (j + 6) (by omega)).1, (hlt (j + 6) (by omega)).2]; rfl
  ·rintro k (rfl | rfl | rfl) b hbk
   ·exact (hS b (d1 b hbk).1).1
   ·exact (hS b (d2 b hbk).1).1
   ·exact (hS b (d3 b ((hz2 b).1 hbk).1)).1
  ·have x1 : ∀ b, (Value.slice a1 p.vars.length k1).ownBlock = some b → ¬ (Value.slice a2 p.arrays.length k2).ownBlock = some b := fun b hb => (d1 b hb).2.2
   rintro j k b hjk (rfl | rfl | rfl) (rfl | rfl | rfl) hj hk
   ·exact hjk rfl
   ·exact (d1 b hj).2.2 hk
   ·exact (d1 b hj).2.1 ((hz2 b).1 hk).1
   ·exact (d1 b hk).2.2 hj
   ·exact hjk rfl
   ·exact (d2 b hj).2 ((hz2 b).1 hk).1
   ·exact (d1 b hk).2.1 ((hz2 b).1 hj).1
   ·exact (d2 b hk).2 ((hz2 b).1 hj).1
   ·exact hjk rfl
  ·rintro k (rfl | rfl | rfl)
   ·exact af5 h1
   ·exact af5 h2
   ·have e : G7 z = fun b => S3 b ∧ b < w'.heap.size := funext fun b => propext (hz2 b)
    show (Rs.own (G7 z) fun w => G9 w (G7 z) (.stmts p.body) (I8 z)).holds _ _
    rw [hz1, e]
    exact ⟨fun _ _ h hs => h.same hs, (G9.block.2 h3).cut, fun b hb => hb.2⟩
theorem aN5 (p : k6) (k : Nat) (hb : k + aC2 p ≤ 9000000000000000000) : p6.ok Tryz.prog ⟨31, [oA 0, iA k], oP p, oP (mkP p k), iA (k + aC2 p)⟩ := by
 intro ι φ ψ w0 w F ρ M
 have r1 := br5 (M.holds (.inr 0))
 have r2 := br5 (M.holds (.inr 1))
 have r3 := (M.holds (.inr 2)).2.1
 have hO : aj9 w (.agg #[ρ 0, ρ 1, I8 (ρ 2)]) p (fun b => (ρ 0).ownBlock = some b ∨ (ρ 1).ownBlock = some b ∨ G7 (ρ 2) b) :=
  ⟨_, _, _, G7 (ρ 2), rfl, r1, r2, G9.block.1 r3,
   fun g hg => ⟨.inl hg, fun h => M.dis (.inr 0) (.inr 2) g (by simp) hg h, fun h => M.dis (.inr 0) (.inr 1) g (by simp) hg h⟩,
   fun g hg => ⟨.inr (.inl hg), fun h => M.dis (.inr 1) (.inr 2) g (by simp) hg h⟩, fun b hb => .inr (.inr hb)⟩
 refine (aC3 _ p k w _ hO hb).mono ?_
 rintro e w' ⟨rfl, hO', hk⟩
 obtain ⟨v1, v2, v3, S3, hv, h1, h2, h3, d1, d2, d3⟩ := hO'
 cases hv
 have hS3 : ∀ b, S3 b → G7 (ρ 2) b := fun b hb => by
  rcases d3 b hb with h | h | h
  ·exact ((d1 b h).2.1 hb).elim
  ·exact ((d2 b h).2 hb).elim
  ·exact h
 refine ⟨ρ, fun _ _ => rfl, rfl, M.turns (fun k b => ?_) (fun k => k = .inr 0 ∨ k = .inr 1 ∨ k = .inr 2) (fun k hk => ?_) ?_ ?_⟩
 ·cases k with
  | inl i => rfl
  | inr j =>
   match j with
   | 0 => exact Iff.rfl
   | 1 => exact Iff.rfl
   | 2 => exact Iff.rfl
   | j + 3 => simp only [v9]; rw [B6 (show (oP (mkP p _)).length ≤ j + 3 by simp), B6 (show (oP p).length ≤ j + 3 by simp)]
 ·cases k with
  | inl i => rfl
  | inr j =>
   match j, hk with
   | 0, h => exact absurd (.inl rfl) h
   | 1, h => exact absurd (.inr (.inl rfl)) h
   | 2, h => exact absurd (.inr (.inr rfl)) h
   | j + 3, _ => simp only [v9]; rw [B6 (show (oP (mkP p _)).length ≤ j + 3 by simp), B6 (show (oP p).length ≤ j + 3 by simp)]
 ·refine ⟨hk.os, hk.tape, hk.output, hk.size, fun b hb hn => hk.block b hb ?_⟩
  rintro (h | h | h)
  ·exact hn ⟨_, .inl rfl, h⟩
  ·exact hn ⟨_, .inr (.inl rfl), h⟩
  ·exact hn ⟨_, .inr (.inr rfl), h⟩
 ·rintro k (rfl | rfl | rfl)
  ·exact af5 h1
  ·exact af5 h2
  ·exact ⟨fun _ _ h hs => h.same hs, G9.block.2 (h3.mono hS3), fun b hb => bY4 (M.lt (i := .inr 2) hb) hk.size⟩
theorem bc6 (v : Value) (t : List Int) (w : World) (h : V9 w v t.length 1 (ints t)) (hb : t.length ≤ 1000000000000) :
  Calls Tryz.prog 70 #[v] w fun e w' => ∃ u, e = .returned u ∧ R3 w' w.heap.size w'.heap.size 3 1 u t.length (ints t) ∧ Below w.heap.size w w' := by
 obtain ⟨a, cap, rfl, hc1, hc2, hc3, -⟩ := h.open
 have hnil := fun w => Lib.run_eql_slice_nil (P := Tryz.prog) w 23 3 a t.length cap 0 0 Tryz.underlying23
 rcases a with _ | a
 ·have hn : t.length = 0 := by
   rcases Nat.eq_zero_or_pos t.length with h0 | h0
   ·exact h0
   ·obtain ⟨_, a, c, he, _, _, hx⟩ := h
    cases he
    obtain ⟨_, _, he, _⟩ := hx h0
    cases he
  have ht : t = [] := bY8 hn
  subst ht
  simp only [bV7, Option.isNone_none] at hnil
  go_enter Tryz.func70, Tryz.ntmps70
  go_wp2_with fail
  go_ret
  exact ⟨_, rfl, ⟨World.ownsRow_nil _ _ _ _, fun g hg => by cases hg⟩, Below.refl _ _⟩
 ·go_enter Tryz.func70, Tryz.ntmps70
  simp only [Option.isNone_some] at hnil
  have ba := (Below.refl w.heap.size w).alloc (bW6 _) (.cells #[] 3)
  go_wp2_with (at_builtin; refine a83 rfl _ _ rfl Tryz.underlying23 bH5 rfl (by omega) rfl (an1 w #[] 0 1 _ rfl rfl (by omega)).1 rfl (h.below ba) bv3 (by omega) (by omega) (by simp) ?_; rintro a4 q4 w4 o4 b4 - -)
  go_ret
  refine ⟨_, rfl, R3.mk' (by simpa using o4), ba.trans b4⟩
theorem R9 (l : List Int) (hb : l.length ≤ 1000000000000) : p6.ok Tryz.prog ⟨70, [.ref 0], [.dat (.ints l)], [.dat (.ints l), .row 3 (.ints l)], .ref 1⟩ := by
 intro ι φ ψ w0 w F ρ M
 have hr := M.datAt (id := 0) (d := .ints l) rfl
 refine (bc6 (ρ 0) l w (E9.row hr) hb).mono ?_
 rintro e w' ⟨u, rfl, ⟨ho, hg⟩, hbl⟩
 refine ⟨fun i => if i = 1 then u else ρ i, fun i hi => if_neg (show ¬ i = 1 by have : i < 1 := hi; omega), by simp [AV.val], ?_⟩
 refine M.grow hbl (fun k => k = .inr 1) (fun k hk => ?_) ?_ ?_ ?_
 ·cases k with
  | inl i => rfl
  | inr j =>
   match j, hk with
   | 0, _ => rfl
   | 1, h => exact absurd rfl h
   | j + 2, _ => rfl
 ·rintro k rfl b hb; exact (World.ownsRow.lt ho b hb).1
 ·rintro j k b hjk rfl rfl; exact absurd rfl hjk
 ·rintro k rfl; exact af5 (I2 ho (bX5 _))
theorem bG0 {l : List b5} {k : Nat} (hk : k < l.length) : l.take k ++ [⟨(l.getD k bV3).kind, (l.getD k bV3).value, (l.getD k bV3).kids⟩] = l.take (k + 1) := by
 rw [b5.eta, m8 _ _ hk, A1 hk]
theorem bF9 {l : List b6} {k : Nat} (hk : k < l.length) : l.take k ++ [⟨(l.getD k bV3).kind, (l.getD k bV3).target, ⟨(l.getD k bV3).index.kind, (l.getD k bV3).index.value, (l.getD k bV3).index.kids⟩, ⟨(l.getD k bV3).value.kind, (l.getD k bV3).value.value, (l.getD k bV3).value.kids⟩, (l.getD k bV3).count, (l.getD k bV3).body, (l.getD k bV3).els⟩] = l.take (k + 1) := by
 rw [b5.eta, b5.eta, b6.eta, m8 _ _ hk, A1 hk]
theorem aD1 {α : Type} {l : List α} {k : Nat} (h1 : k ≤ l.length) (h2 : ¬ (k : Int) < l.length) : l.take k = l := by rw [bW5 (by omega)]
theorem bu4 {α : Type} {l : List α} {k n : Nat} (h1 : k ≤ l.length) (h : l.length ≤ n) : (l.take k).length ≤ n := by rw [List.length_take]; omega
theorem a29 {e : b5} (h : t2 e ≤ 1048576) : e.kids.length ≤ 1048576 := by
 have h1 := P4 e.kids
 have h2 : t2 e = s6 e.kids := by cases e; rfl
 omega
theorem aQ2 {l : List b6} (h : l8 l ≤ 1048576) : l.length ≤ 1048576 := bX8 (D8 l) h
theorem af7 {α : Type} {l : List α} {x : α} {k : Nat} (h1 : k ≤ l.length) (h : l.length ≤ 1048576) : (l.take k).length + [x].length ≤ 1048577 := by
 have := bu4 (k := k) h1 h
 simp only [bV6, bV7]; omega
theorem bD1 {a b : Nat} (ha : a ≤ 1048577) (hb : Nat.ble b 1000 = true) : a * b ≤ 140737488355328 := by
 have h1 := Nat.le_of_ble_eq_true hb
 have h2 := Nat.mul_le_mul ha h1
 omega
theorem af9 {l : List b5} {k : Nat} (h : (k : Int) < l.length) : l.getD k bV3 ∈ l := by rw [A1 (by omega)]; exact bX2 (by omega)
theorem ac1 {l : List b6} {k : Nat} (h : (k : Int) < l.length) : l.getD k bV3 ∈ l := by rw [A1 (by omega)]; exact bX2 (by omega)
abbrev cpC (e : b5) : p6 := ⟨132, [eA e 0], eS e, eS e ++ [.tree (.exprs e.kids)], .agg [iA e.kind, iA e.value, .tref 1]⟩
abbrev aY4 (e : b5) (r0 : List It) : List It := dE e.kids :: .box (eL e 0) :: .box [iA 0, iA 0, .v (.slice none 0 0)] :: r0
theorem bq9 (e : b5) (hb : t2 e ≤ 1048576) (ih : ∀ (x : b5), x ∈ e.kids → p6.ok Tryz.prog (cpC x)) : p6.ok Tryz.prog (cpC e) := by
 refine H9 29 Tryz.func132 [dE e.kids] [(0, eA e 0)] fun G => ?_; have hl := a29 hb; refine wp_seq (s4 G l6 [0, 1, 9] (aY4 e []) [(1, .ptr 1 0), (2, .ptr 2 0)] fun G => b7 (wp_seq (s4 G l6 [0, 1, 2, 43] (aY4 e [.box [iA e.kind, iA e.value, .v (.slice none 0 0)]]) [(1, .ptr 1 0), (2, .ptr 2 0), (3, .ptr 3 0)] fun G => b7 (wp_seq (wp_seq (J5 G l6 [(1, .ptr 1 0), (2, .ptr 2 0), (3, .ptr 3 0), (4, iA 0)] fun G => b7 (wp_block ?_))))))); obtain ⟨ρ, G⟩ := G.nilT 4 (.exprs []) (aY4 e [.box [iA e.kind, iA e.value, .tref 4]]) [(1, .ptr 1 0), (2, .ptr 2 0), (3, .ptr 3 0), (4, iA 0)]; refine A3 (κ := Nat) (fun k => k ≤ e.kids.length) (fun k => e.kids.length - k) (fun k => [dE e.kids, .box (eL e 0), .box [iA 0, iA 0, .v (.slice none 0 0)], .box [iA e.kind, iA e.value, .tref 4], .tree (.exprs (e.kids.take k))]) (fun k => [(1, .ptr 1 0), (2, .ptr 2 0), (3, .ptr 3 0), (4, iA k)]) 0 (by omega) (A9.at G _ _) ?_; clear G; intro k ρ a w hp G; replace G := A9.at G (aY4 e [.box [iA e.kind, iA e.value, .tref 4], .tree (D.exprs (bV9 k e.kids))]) [(1, .ptr 1 0), (2, .ptr 2 0), (3, .ptr 3 0), (4, iA k)]; refine wp_seq (wp_seq (n9 G l6 [(14, bA (decide ((k : Int) < e.kids.length)))] fun G => b7 (rcD G (fun h0 q0 => ?_) fun h0 q0 => ?_)))
 ·refine wp_exit (A2 (A2 (w9 (b7 (wp_seq (s4 G l6 [0, 2, 4] [dE e.kids, .box [iA e.kind, iA e.value, .tref 2], .tree (D.exprs (bV9 k e.kids))] [(2, .ptr 1 0)] fun G => b7 (wp_ret ?_))))))); exact O9 G [0, 2] (by show _ = mR [0, 2] [dE e.kids, .tree (D.exprs e.kids)]; have e1 : (bV9 k e.kids : List b5) = (e.kids) := (aD1 hp (by assumption)); (first | rw [e1] | simp only [e1]) <;> rfl)
 ·refine wp_skip (b7 (wp_seq (wp_block (P2 G (B5 7 [53] (ih (e.kids.getD k bV3) (af9 (by assumption)))) [0, 1, 0, 4, 0, 28, 60, 124, 252, 511, 1023, 2047] [0, 1, 2, 3, 77] (aY4 e [.box [iA e.kind, iA e.value, .tref 4], .tree (D.exprs (bV9 k e.kids ++ [t3 (e.kids.getD k bV3)]))]) [(1, .ptr 1 0), (2, .ptr 2 0), (3, .ptr 3 0), (4, iA k)] [(0 : Int) ≤ (k : Int), (k : Int) < e.kids.length, k < e.kids.length, (bV9 k e.kids).length + [t3 (e.kids.getD k bV3)].length ≤ (9223372036854775807 : Nat), ((bV9 k e.kids).length + [t3 (e.kids.getD k bV3)].length) * (40 : Nat) ≤ (140737488355328 : Nat)] ⟨(by simp [h0]), (by assumption), (by have := af7 (x := (bV3 : b5)) hp hl; simp only [bV6, bV7] at this ⊢; omega), (by have := af7 (x := (bV3 : b5)) hp hl; simp only [bV6, bV7] at this ⊢; omega), (bD1 (af7 hp hl) (by kernel_rfl)), bW1⟩ fun G => w5 (b7 (J2 G l6 [(4, iA ((k : Int) + 1))] [wO ((k : Int) + 1)] (o1 (by omega)) fun G => b7 ?_)))))); exact Y3 G (k + 1) (by have := af7 (x := (bV3 : b5)) hp hl; simp only [bV6, bV7] at this ⊢; omega) (by have := af7 (x := (bV3 : b5)) hp hl; simp only [bV6, bV7] at this ⊢; omega) (rg 5) (by have e1 : (bV9 (k + 1) e.kids : List b5) = (bV9 k e.kids ++ [t3 (e.kids.getD k bV3)]) := ((bG0 (by omega)).symm); (first | rw [e1] | simp only [e1]) <;> rfl)
theorem aY0 (e : b5) : t2 e ≤ 1048576 → p6.ok Tryz.prog (cpC e) :=
 b5.ind (P := fun e => t2 e ≤ 1048576 → p6.ok Tryz.prog (cpC e)) (fun k n ks ih hb => bq9 ⟨k, n, ks⟩ hb fun x hx => ih x hx (by
  have h1 := aT1 (show x ∈ ks from hx)
  have h2 : t2 ⟨k, n, ks⟩ = s6 ks := rfl
  omega)) e
abbrev a45 (l : List b6) : p6 := ⟨151, [.ref 0], [dT l], [dT l, .tree (.stmts l)], .tref 1⟩
theorem aD8 {l : List b6} {k : Nat} (hb : l8 l ≤ 1048576) (h : (k : Int) < l.length) : t2 (l.getD k bV3).index ≤ 1048576 ∧ t2 (l.getD k bV3).value ≤ 1048576 ∧ l8 (l.getD k bV3).body ≤ 1048576 ∧ l8 (l.getD k bV3).els ≤ 1048576 := by
 have h1 := L5 (ac1 h)
 generalize l.getD k bV3 = s at *
 rcases s with ⟨_, _, i, v, _, b, e⟩
 simp only [J4] at h1
 simp only [b6.index, b6.value, b6.body, b6.els]
 omega
abbrev aE6 (k : Nat) (r0 : List (Nat × AV)) : List (Nat × AV) := (0, .ref 0) :: (2, .v (.slice none 0 0)) :: (3, .tref 1) :: (4, iA (k : Int)) :: r0
theorem aH8 (l : List b6) (hb : l8 l ≤ 1048576) (ih1 : ∀ (s : b6), s ∈ l → p6.ok Tryz.prog (a45 s.body)) (ih2 : ∀ (s : b6), s ∈ l → p6.ok Tryz.prog (a45 s.els)) : p6.ok Tryz.prog (a45 l) := by
  refine H9 38 Tryz.func151 [dT l] [(0, .ref 0)] fun G => ?_; have hl := aQ2 hb; refine wp_seq (n9 G l6 [(2, .v (.slice none 0 0))] fun G => b7 (wp_seq (s4 G l6 [0, 1] [dT l, .tree (D.stmts [])] [(0, .ref 0), (2, .v (.slice none 0 0)), (3, .tref 1)] fun G => b7 (wp_seq (wp_seq (J5 G l6 [(0, .ref 0), (2, .v (.slice none 0 0)), (3, .tref 1), (4, iA 0)] fun G => b7 (wp_block ?_))))))); refine A3 (κ := Nat) (fun k => k ≤ l.length) (fun k => l.length - k) (fun k => [dT l, .tree (.stmts (l.take k))]) (fun k => [(0, .ref 0), (2, .v (.slice none 0 0)), (3, .tref 1), (4, iA k)]) 0 (by omega) (A9.at G _ _) ?_; clear G; intro k ρ a w hp G; replace G := A9.at G [dT l, .tree (D.stmts (bV9 k l))] (aE6 k []); refine wp_seq (wp_seq (n9 G l6 [(10, bA (decide ((k : Int) < l.length)))] fun G => b7 (rcD G (fun h0 q0 => ?_) fun h0 q0 => ?_)))
  · refine wp_exit (A2 (A2 (w9 (b7 (wp_seq (n9 G l6 [(2, .tref 1)] fun G => b7 (wp_ret ?_))))))); exact O9 G [0, 1] (by show _ = mR [0, 1] [dT l, .tree (D.stmts l)]; have e1 : (bV9 k l : List b6) = (l) := (aD1 hp (by assumption)); (first | rw [e1] | simp only [e1]) <;> rfl)
  ·
   refine wp_skip (b7 (wp_seq (wp_block (wp_seq (R6 G l6 [0, 1, 26, 27, 28, 29, 34] [dT l, .tree (D.stmts (bV9 k l)), dE (l.getD k bV3).index.kids, dE (l.getD k bV3).value.kids, dT (l.getD k bV3).body, dT (l.getD k bV3).els, .box (sL (l.getD k bV3) 2)] (aE6 k [(5, .ptr 6 0)]) [(0 : Int) ≤ (k : Int), (k : Int) < l.length, k < l.length] ⟨(by simp [h0]), (by assumption), (by have := af7 (x := (bV3 : b6)) hp hl; simp only [bV6, bV7] at this ⊢; omega), bW1⟩ fun G => b7 (wp_seq (s4 G (B5 2 [2] (aY0 ((l.getD k bV3).index) ((aD8 hb (by assumption)).1))) [0, 1, 3, 4, 5, 6, 23] [dT l, .tree (D.stmts (bV9 k l)), dE (l.getD k bV3).value.kids, dT (l.getD k bV3).body, dT (l.getD k bV3).els, .box [iA (l.getD k bV3).kind, iA (l.getD k bV3).target, iA (l.getD k bV3).index.kind, iA (l.getD k bV3).index.value, .tref 6, iA (l.getD k bV3).value.kind, iA (l.getD k bV3).value.value, .ref 2, iA (l.getD k bV3).count, .ref 3, .ref 4], .tree (D.exprs (l.getD k bV3).index.kids)] (aE6 k [(5, .ptr 5 0)]) fun G => b7 (wp_seq (s4 G (B5 2 [2] (aY0 ((l.getD k bV3).value) ((aD8 hb (by assumption)).2.1))) [0, 1, 3, 4, 5, 6, 23] [dT l, .tree (D.stmts (bV9 k l)), dT (l.getD k bV3).body, dT (l.getD k bV3).els, .box [iA (l.getD k bV3).kind, iA (l.getD k bV3).target, iA (l.getD k bV3).index.kind, iA (l.getD k bV3).index.value, .tref 5, iA (l.getD k bV3).value.kind, iA (l.getD k bV3).value.value, .tref 6, iA (l.getD k bV3).count, .ref 2, .ref 3], .tree (D.exprs (l.getD k bV3).index.kids), .tree (D.exprs (l.getD k bV3).value.kids)] (aE6 k [(5, .ptr 4 0)]) fun G => b7 (wp_seq (s4 G (B5 2 [2] (ih1 (l.getD k bV3) (ac1 (by assumption)))) [0, 1, 3, 4, 5, 6, 23] [dT l, .tree (D.stmts (bV9 k l)), dT (l.getD k bV3).els, .box [iA (l.getD k bV3).kind, iA (l.getD k bV3).target, iA (l.getD k bV3).index.kind, iA (l.getD k bV3).index.value, .tref 4, iA (l.getD k bV3).value.kind, iA (l.getD k bV3).value.value, .tref 5, iA (l.getD k bV3).count, .tref 6, .ref 2], .tree (D.exprs (l.getD k bV3).index.kids), .tree (D.exprs (l.getD k bV3).value.kids), .tree (D.stmts (l.getD k bV3).body)] (aE6 k [(5, .ptr 3 0)]) fun G => b7 (wp_seq (s4 G (B5 2 [2] (ih2 (l.getD k bV3) (ac1 (by assumption)))) [0, 1, 3, 4, 5, 6, 23] [dT l, .tree (D.stmts (bV9 k l)), .box [iA (l.getD k bV3).kind, iA (l.getD k bV3).target, iA (l.getD k bV3).index.kind, iA (l.getD k bV3).index.value, .tref 3, iA (l.getD k bV3).value.kind, iA (l.getD k bV3).value.value, .tref 4, iA (l.getD k bV3).count, .tref 5, .tref 6], .tree (D.exprs (l.getD k bV3).index.kids), .tree (D.exprs (l.getD k bV3).value.kids), .tree (D.stmts (l.getD k bV3).body), .tree (D.stmts (l.getD k bV3).els)] (aE6 k [(5, .ptr 2 0)]) fun G => ?_)))))))))))))
   refine b7 (R6 G l6 [0, 31] [dT l, .tree (D.stmts (bV9 k l ++ [qzS (l.getD k bV3)]))] (aE6 k []) [(bV9 k l).length + [qzS (l.getD k bV3)].length ≤ (9223372036854775807 : Nat), ((bV9 k l).length + [qzS (l.getD k bV3)].length) * (152 : Nat) ≤ (140737488355328 : Nat)] ⟨(by have := af7 (x := (bV3 : b6)) hp hl; simp only [bV6, bV7] at this ⊢; omega), (bD1 (af7 hp hl) (by kernel_rfl)), bW1⟩ fun G => w5 (b7 (J2 G l6 [(4, iA ((k : Int) + 1))] [wO ((k : Int) + 1)] (o1 (by omega)) fun G => b7 ?_))); exact Y3 G (k + 1) (by have := af7 (x := (bV3 : b6)) hp hl; simp only [bV6, bV7] at this ⊢; omega) (by have := af7 (x := (bV3 : b6)) hp hl; simp only [bV6, bV7] at this ⊢; omega) [0, 1] (by have e1 : (bV9 (k + 1) l : List b6) = (bV9 k l ++ [qzS (l.getD k bV3)]) := ((bF9 (by omega)).symm); (first | rw [e1] | simp only [e1]) <;> rfl)
theorem bE4 (l : List b6) : l8 l ≤ 1048576 → p6.ok Tryz.prog (a45 l) := fun hb => aH8 l hb
 (fun s hs => (c_copyS2 s).1 (bX8 (Nat.le_of_lt (L5 hs)) hb)) fun s hs => (c_copyS2 s).2 (bX8 (Nat.le_of_lt (L5 hs)) hb)
where
 c_copyS2 (s : b6) : (J4 s ≤ 1048576 → p6.ok Tryz.prog (a45 s.body)) ∧ (J4 s ≤ 1048576 → p6.ok Tryz.prog (a45 s.els)) :=
  b6.ind (P := fun s => (J4 s ≤ 1048576 → p6.ok Tryz.prog (a45 s.body)) ∧ (J4 s ≤ 1048576 → p6.ok Tryz.prog (a45 s.els))) (fun k t i v c b e h1 h2 => by
   have hz : J4 ⟨k, t, i, v, c, b, e⟩ = t2 i + t2 v + l8 b + l8 e := rfl
   constructor
   ·intro hb
    refine aH8 b (by omega) (fun s hs => (h1 s hs).1 ?_) fun s hs => (h1 s hs).2 ?_
    ·have := L5 hs; omega
    ·have := L5 hs; omega
   ·intro hb
    refine aH8 e (by omega) (fun s hs => (h2 s hs).1 ?_) fun s hs => (h2 s hs).2 ?_
    ·have := L5 hs; omega
    ·have := L5 hs; omega) s
theorem by3 (p : k6) (hb : p.size ≤ 1048576) : p6.ok Tryz.prog ⟨78, [pA 0], pS p, pS p ++ oP p, oA 3⟩ := by
 refine H9 15 Tryz.func78 [dI p.vars, dI p.arrays, dT p.body] [(0, pA 0)] fun G => ?_
 have hb1 : p.vars.length ≤ 1048576 ∧ p.arrays.length ≤ 1048576 ∧ l8 p.body ≤ 1048576 := by unfold k6.size at hb; omega
 refine wp_seq (s4 G l6 [0, 1, 2, 3, 11] [dI p.vars, dI p.arrays, dT p.body, .box (pL 0), .box [.v (.slice none 0 0), .v (.slice none 0 0), .v (.slice none 0 0)]] [(1, .ptr 3 0), (2, .ptr 4 0)] fun G => b7 (wp_seq (P2 G (B5 10 [2] (bE4 p.body hb1.2.2)) [0, 0, 2, 7, 0, 0, 32, 127, 0, 256, 1023, 2047, 4095] [0, 1, 2, 4, 29, 61, 85] [dI p.vars, dI p.arrays, dT p.body, .box [.ref 4, .ref 5, .tref 6], .row 3 (D.ints ([] ++ p.vars)), .row 3 (D.ints ([] ++ p.arrays)), .tree (D.stmts p.body)] [(2, .ptr 3 0)] (aP ((0 : Nat) + p.vars.length) 8 (aP ((0 : Nat) + p.arrays.length) 8 [])) (aK (by omega) (aK (by omega) bW1)) fun G => b7 (wp_ret ?_)))); exact O9 G [0, 1, 2, 4, 5, 6]
abbrev owC (e : b5) : p6 := ⟨126, [eA e 0], eS e, eS e ++ [.tree (.exprs e.kids)], .agg [iA e.kind, iA e.value, .tref 1]⟩
abbrev aN8 : It := .box [iA 0, iA 0, .v (.slice none 0 0)]
theorem bI8 (e : b5) (hb : t2 e ≤ 1048576) (ih : ∀ (x : b5), x ∈ e.kids → p6.ok Tryz.prog (owC x)) : p6.ok Tryz.prog (owC e) := by
 refine H9 27 Tryz.func126 [dE e.kids] [(0, eA e 0)] fun G => ?_; have hl := a29 hb; refine wp_seq (s4 G l6 [0, 1, 9] [dE e.kids, .box (eL e 0), aN8] [(1, .ptr 1 0), (2, .ptr 2 0)] fun G => b7 (wp_seq (s4 G l6 [0, 1, 2, 43] [dE e.kids, .box (eL e 0), aN8, .box [iA e.kind, iA e.value, .v (.slice none 0 0)]] [(1, .ptr 1 0), (2, .ptr 2 0), (3, .ptr 3 0)] fun G => b7 (wp_seq (wp_seq (s4 G l6 [0, 2, 3] [dE e.kids, aN8, .box [iA e.kind, iA e.value, .v (.slice none 0 0)]] [(2, .ptr 1 0), (3, .ptr 2 0), (12, .ref 0), (13, iA (e.kids.length : Int)), (14, iA 0)] fun G => b7 (wp_block ?_))))))); obtain ⟨ρ, G⟩ := G.nilT 3 (.exprs []) [dE e.kids, .box [iA 0, iA 0, .v (.slice none 0 0)], .box [iA e.kind, iA e.value, .tref 3]] [(2, .ptr 1 0), (3, .ptr 2 0), (12, .ref 0), (13, iA (e.kids.length : Int)), (14, iA 0)]; refine A3 (κ := Nat) (fun k => k ≤ e.kids.length) (fun k => e.kids.length - k) (fun k => [dE e.kids, .box [iA 0, iA 0, .v (.slice none 0 0)], .box [iA e.kind, iA e.value, .tref 3], .tree (.exprs (e.kids.take k))]) (fun k => [(2, .ptr 1 0), (3, .ptr 2 0), (12, .ref 0), (13, iA (e.kids.length : Int)), (14, iA k)]) 0 (by omega) (A9.at G _ _) ?_; clear G; intro k ρ a w hp G; replace G := A9.at G [dE e.kids, aN8, .box [iA e.kind, iA e.value, .tref 3], .tree (D.exprs (bV9 k e.kids))] [(2, .ptr 1 0), (3, .ptr 2 0), (12, .ref 0), (13, iA (e.kids.length : Int)), (14, iA k)]; refine wp_seq (n9 G l6 [(15, bA (decide ((k : Int) < e.kids.length)))] fun G => b7 (wp_seq (rcD G (fun h0 q0 => ?_) fun h0 q0 => ?_)))
 ·refine wp_exit (A2 (A2 (w9 (b7 (wp_seq (s4 G l6 [0, 1, 3] [dE e.kids, .box [iA e.kind, iA e.value, .tref 2], .tree (D.exprs (bV9 k e.kids))] [(2, .ptr 1 0)] fun G => b7 (wp_ret ?_))))))); exact O9 G [0, 2] (by show _ = mR [0, 2] [dE e.kids, .tree (D.exprs e.kids)]; have e1 : (bV9 k e.kids : List b5) = (e.kids) := (aD1 hp (by assumption)); (first | rw [e1] | simp only [e1]) <;> rfl)
 ·refine wp_skip (b7 (wp_seq (wp_block (wp_seq (R6 G l6 [0, 1, 2, 3, 12, 20] [dE e.kids, aN8, .box [iA e.kind, iA e.value, .tref 3], .tree (D.exprs (bV9 k e.kids)), dE (e.kids.getD k bV3).kids, .box (eL (e.kids.getD k bV3) 4)] [(2, .ptr 1 0), (3, .ptr 2 0), (5, .ptr 5 0), (12, .ref 0), (13, iA (e.kids.length : Int)), (14, iA k)] [(0 : Int) ≤ (k : Int), (k : Int) < e.kids.length, k < e.kids.length] ⟨(by simp [h0]), (by assumption), (by have := af7 (x := (bV3 : b5)) hp hl; simp only [bV6, bV7] at this ⊢; omega), bW1⟩ fun G => b7 (P2 G (B5 3 [4] (ih (e.kids.getD k bV3) (af9 (by assumption)))) [0, 1, 0, 4, 12, 31, 63, 127] [0, 1, 2, 46] [dE e.kids, aN8, .box [iA e.kind, iA e.value, .tref 3], .tree (D.exprs (bV9 k e.kids ++ [t3 (e.kids.getD k bV3)]))] [(2, .ptr 1 0), (3, .ptr 2 0), (12, .ref 0), (13, iA (e.kids.length : Int)), (14, iA k)] [(bV9 k e.kids).length + [t3 (e.kids.getD k bV3)].length ≤ (9223372036854775807 : Nat), ((bV9 k e.kids).length + [t3 (e.kids.getD k bV3)].length) * (40 : Nat) ≤ (140737488355328 : Nat)] ⟨(by have := af7 (x := (bV3 : b5)) hp hl; simp only [bV6, bV7] at this ⊢; omega), (bD1 (af7 hp hl) (by kernel_rfl)), bW1⟩ fun G => w5 (b7 (J2 G l6 [(14, iA ((k : Int) + 1))] [wO ((k : Int) + 1)] (o1 (by omega)) fun G => b7 ?_)))))))); exact Y3 G (k + 1) (by have := af7 (x := (bV3 : b5)) hp hl; simp only [bV6, bV7] at this ⊢; omega) (by have := af7 (x := (bV3 : b5)) hp hl; simp only [bV6, bV7] at this ⊢; omega) (rg 4) (by have e1 : (bV9 (k + 1) e.kids : List b5) = (bV9 k e.kids ++ [t3 (e.kids.getD k bV3)]) := ((bG0 (by omega)).symm); (first | rw [e1] | simp only [e1]) <;> rfl)
theorem bx8 (e : b5) : t2 e ≤ 1048576 → p6.ok Tryz.prog (owC e) :=
 b5.ind (P := fun e => t2 e ≤ 1048576 → p6.ok Tryz.prog (owC e)) (fun k n ks ih hb => bI8 ⟨k, n, ks⟩ hb fun x hx => ih x hx (by
  have h1 := aT1 (show x ∈ ks from hx)
  have h2 : t2 ⟨k, n, ks⟩ = s6 ks := rfl
  omega)) e
abbrev a12 (l : List b6) : p6 := ⟨59, [.ref 0], [dT l], [dT l, .tree (.stmts l)], .tref 1⟩
theorem a95 (l : List b6) (hb : l8 l ≤ 1048576) (ih1 : ∀ (s : b6), s ∈ l → p6.ok Tryz.prog (a12 s.body)) (ih2 : ∀ (s : b6), s ∈ l → p6.ok Tryz.prog (a12 s.els)) : p6.ok Tryz.prog (a12 l) := by
 refine H9 36 Tryz.func59 [dT l] [(0, .ref 0)] fun G => ?_; have hl := aQ2 hb; refine wp_seq (n9 G l6 [(2, .v (.slice none 0 0))] fun G => b7 (wp_seq (n9 G l6 [(3, .v (.slice none 0 0))] fun G => b7 (wp_seq (wp_seq (J5 G l6 [(2, .v (.slice none 0 0)), (3, .v (.slice none 0 0)), (6, .ref 0), (7, iA (l.length : Int)), (8, iA 0)] fun G => b7 (wp_block ?_))))))); obtain ⟨ρ, G⟩ := G.nilT 1 (.stmts []) [dT l] [(2, .v (.slice none 0 0)), (3, .tref 1), (6, .ref 0), (7, iA (l.length : Int)), (8, iA 0)]; refine A3 (κ := Nat) (fun k => k ≤ l.length) (fun k => l.length - k) (fun k => [dT l, .tree (.stmts (l.take k))]) (fun k => [(2, .v (.slice none 0 0)), (3, .tref 1), (6, .ref 0), (7, iA (l.length : Int)), (8, iA k)]) 0 (by omega) (A9.at G _ _) ?_; clear G; intro k ρ a w hp G; replace G := A9.at G [dT l, .tree (D.stmts (bV9 k l))] [(2, .v (.slice none 0 0)), (3, .tref 1), (6, .ref 0), (7, iA (l.length : Int)), (8, iA k)]; refine wp_seq (n9 G l6 [(9, bA (decide ((k : Int) < l.length)))] fun G => b7 (wp_seq (rcD G (fun h0 q0 => ?_) fun h0 q0 => ?_)))
 ·refine wp_exit (A2 (A2 (w9 (b7 (wp_seq (n9 G l6 [(2, .tref 1)] fun G => b7 (wp_ret ?_))))))); exact O9 G [0, 1] (by show _ = mR [0, 1] [dT l, .tree (D.stmts l)]; have e1 : (bV9 k l : List b6) = (l) := (aD1 hp (by assumption)); (first | rw [e1] | simp only [e1]) <;> rfl)
 ·refine wp_skip (b7 (wp_seq (wp_block (wp_seq (R6 G l6 [0, 1, 10, 11, 12, 13, 18] [dT l, .tree (D.stmts (bV9 k l)), dE (l.getD k bV3).index.kids, dE (l.getD k bV3).value.kids, dT (l.getD k bV3).body, dT (l.getD k bV3).els, .box (sL (l.getD k bV3) 2)] [(2, .v (.slice none 0 0)), (3, .tref 1), (5, .ptr 6 0), (6, .ref 0), (7, iA (l.length : Int)), (8, iA k)] [(0 : Int) ≤ (k : Int), (k : Int) < l.length, k < l.length] ⟨(by simp [h0]), (by assumption), (by have := af7 (x := (bV3 : b6)) hp hl; simp only [bV6, bV7] at this ⊢; omega), bW1⟩ fun G => b7 (P2 G (E5 (t4 7 [2] (bx8 ((l.getD k bV3).index) ((aD8 hb (by assumption)).1)) (t4 10 [3] (bx8 ((l.getD k bV3).value) ((aD8 hb (by assumption)).2.1)) (t4 15 [4] (ih1 (l.getD k bV3) (ac1 (by assumption))) (t4 18 [5] (ih2 (l.getD k bV3) (ac1 (by assumption))) E4)))) fz []) [0, 0, 2, 0, 8, 0, 32, 96, 0, 256, 992, 0, 2048, 0, 8192, 26592, 0, 65536, 255968, 524286, 1048574, 2097151, 4194303] [0, 175] [dT l, .tree (D.stmts (bV9 k l ++ [qzS (l.getD k bV3)]))] [(2, .v (.slice none 0 0)), (3, .tref 1), (6, .ref 0), (7, iA (l.length : Int)), (8, iA k)] [(bV9 k l).length + [qzS (l.getD k bV3)].length ≤ (9223372036854775807 : Nat), ((bV9 k l).length + [qzS (l.getD k bV3)].length) * (152 : Nat) ≤ (140737488355328 : Nat)] ⟨(by have := af7 (x := (bV3 : b6)) hp hl; simp only [bV6, bV7] at this ⊢; omega), (bD1 (af7 hp hl) (by kernel_rfl)), bW1⟩ fun G => w5 (b7 (J2 G l6 [(8, iA ((k : Int) + 1))] [wO ((k : Int) + 1)] (o1 (by omega)) fun G => b7 ?_)))))))); exact Y3 G (k + 1) (by have := af7 (x := (bV3 : b6)) hp hl; simp only [bV6, bV7] at this ⊢; omega) (by have := af7 (x := (bV3 : b6)) hp hl; simp only [bV6, bV7] at this ⊢; omega) [0, 1] (by have e1 : (bV9 (k + 1) l : List b6) = (bV9 k l ++ [qzS (l.getD k bV3)]) := ((bF9 (by omega)).symm); (first | rw [e1] | simp only [e1]) <;> rfl)
theorem bM7 (l : List b6) : l8 l ≤ 1048576 → p6.ok Tryz.prog (a12 l) := fun hb => a95 l hb
 (fun s hs => (own2 s).1 (bX8 (Nat.le_of_lt (L5 hs)) hb)) fun s hs => (own2 s).2 (bX8 (Nat.le_of_lt (L5 hs)) hb)
where
 own2 (s : b6) : (J4 s ≤ 1048576 → p6.ok Tryz.prog (a12 s.body)) ∧ (J4 s ≤ 1048576 → p6.ok Tryz.prog (a12 s.els)) :=
  b6.ind (P := fun s => (J4 s ≤ 1048576 → p6.ok Tryz.prog (a12 s.body)) ∧ (J4 s ≤ 1048576 → p6.ok Tryz.prog (a12 s.els))) (fun k t i v c b e h1 h2 => by
   have hz : J4 ⟨k, t, i, v, c, b, e⟩ = t2 i + t2 v + l8 b + l8 e := rfl
   constructor
   ·intro hb
    refine a95 b (by omega) (fun s hs => (h1 s hs).1 ?_) fun s hs => (h1 s hs).2 ?_
    ·have := L5 hs; omega
    ·have := L5 hs; omega
   ·intro hb
    refine a95 e (by omega) (fun s hs => (h2 s hs).1 ?_) fun s hs => (h2 s hs).2 ?_
    ·have := L5 hs; omega
    ·have := L5 hs; omega) s
theorem bS3 (p : k6) (hb : p.size ≤ 1048576) : p6.ok Tryz.prog ⟨58, [pA 0], pS p, pS p ++ oP p, oA 3⟩ := by
 refine H9 13 Tryz.func58 [dI p.vars, dI p.arrays, dT p.body] [(0, pA 0)] fun G => ?_
 have hb1 : p.vars.length ≤ 1048576 ∧ p.arrays.length ≤ 1048576 ∧ l8 p.body ≤ 1048576 := by unfold k6.size at hb; omega
 refine wp_seq (s4 G l6 [0, 1, 2, 3, 11] [dI p.vars, dI p.arrays, dT p.body, .box (pL 0), .box [.v (.slice none 0 0), .v (.slice none 0 0), .v (.slice none 0 0)]] [(1, .ptr 3 0), (2, .ptr 4 0)] fun G => b7 (wp_seq (ae5 G (E5 (t4 2 [0] (R9 p.vars (by omega)) (t4 5 [1] (R9 p.arrays (by omega)) (t4 8 [2] (bM7 p.body hb1.2.2) E4))) fz []) [0, 1, 3, 0, 8, 31, 0, 64, 255, 511, 1023] [0, 1, 2, 4, 21, 45, 69] [dI p.vars, dI p.arrays, dT p.body, .box [.ref 4, .ref 5, .tref 6], .row 3 (D.ints p.vars), .row 3 (D.ints p.arrays), .tree (D.stmts p.body)] [(2, .ptr 3 0)] fun G => b7 (wp_ret ?_)))); exact O9 G [0, 1, 2, 4, 5, 6]
section
variable {P : Program} {ι κ : Type} {φ ψ : Nat → Prop} {w0 w : World} {F : ι → Rs} {ρ ρ0 : Nat → Value} {N m n : Nat} {S : List It} {tm : List (Nat × AV)} {a : Act}
def aP3 (n : Nat) : List Ln := bV5 n .no ++ [.tree]
theorem a18 (n i : Nat) : D6 (aP3 n) i = if i = n then .tree else .no := by
 unfold D6 aP3
 rw [bW2]
 rcases Nat.lt_trichotomy i n with h | h | h
 ·rw [bX7 (by simpa using h), if_neg (by omega)]
  simp [List.getElem?_replicate, h]
 ·subst h; simp
 ·rw [bY0 (by simp; omega), if_neg (by omega)]; rfl
theorem p6.datPost {f : FuncId} {args : List AV} {S0 S : List It} {d : D} {res : AV} (hc : p6.ok P ⟨f, args, S0, S ++ [.tree d], res⟩) (res1 : AV) (hr : res = res1.tr (aP3 S.length) := by kernel_rfl) (hk : (decide (S0.length ≤ S.length) && (res1.trOk (aP3 S.length) && S.all fun x => x.ids.isEmpty)) = true := by kernel_rfl) : p6.ok P ⟨f, args, S0, S ++ [.dat d], res1⟩ := by
 simp only [bV8, decide_eq_true_eq] at hk
 obtain ⟨hl0, hk⟩ := hk
 subst hr
 intro ι φ ψ w0 w F ρ M
 refine (hc ι φ ψ w0 w F ρ M).mono ?_
 rintro x w' ⟨ρ', h1, rfl, M2⟩
 let ρ1 : Nat → Value := fun i => if (D6 (aP3 S.length) i).isT then I8 (ρ' i) else ρ' i
 have hρ1 : ∀ i, ρ1 i = if (D6 (aP3 S.length) i).isT then I8 (ρ' i) else ρ' i := fun _ => rfl
 have hne : ∀ i, i ≠ S.length → ρ1 i = ρ' i := fun i hi => by rw [hρ1, a18, if_neg hi]; rfl
 have heq : ρ1 S.length = I8 (ρ' S.length) := by rw [hρ1, a18, if_pos rfl]; rfl
 refine ⟨ρ1, fun i hi => by rw [hne i (by simp only at hi; omega)]; exact h1 i hi, by rw [AV.val_tr hρ1 res1 hk.1], ?_⟩
 refine M2.release fun k => ?_
 cases k with
 | inl i => exact .inl rfl
 | inr j =>
  simp only [v9]
  rcases Nat.lt_trichotomy j S.length with hj | hj | hj
  ·have e1 : w7 (S ++ [.dat d]) j = w7 S j := by simp [w7, bW2, bX7 hj]
   have e2 : w7 (S ++ [.tree d]) j = w7 S j := by simp [w7, bW2, bX7 hj]
   rw [e1, e2]
   left
   have h2 : (w7 S j).ids = [] := by
    have h3 := bX0.1 hk.2 _ (bX2 hj)
    rw [ai3 hj]
    simpa using h3
   exact It.res_congr _ (fun i hi => by rw [h2] at hi; cases hi) (.inr (.inr (hne j (by omega))))
  ·subst hj
   have e1 : w7 (S ++ [.dat d]) S.length = .dat d := by simp [w7, bW2]
   have e2 : w7 (S ++ [.tree d]) S.length = .tree d := by simp [w7, bW2]
   rw [e1, e2]
   refine .inr ⟨fun b hb => hb, fun φ' hf hown => ⟨RD.nice _ _, ?_⟩⟩
   have hh := M2.holds (.inr S.length)
   simp only [v9] at hh
   rw [e2] at hh
   rw [heq]
   exact G9.read hh.2.1 fun b hb => hown b (by rw [show (It.tree d).res ρ' S.length = Rs.own (G7 (ρ' S.length)) _ from rfl]; exact hb)
  ·rw [B6 (by simp; omega), B6 (by simp; omega)]; exact .inl rfl
theorem It.res_ren' {σ : Nat → Nat} {i j : Nat} {ρ : Nat → Value} (x : It) (h : σ i = j) : (x.ren σ).res ρ j = x.res (fun i => ρ (σ i)) i := by
 subst h; exact It.res_ren x
def mv (i n j : Nat) : Nat := if natEq j i then n else j
theorem aJ4 {f : AV → AV} {t : Nat} {y : AV} : ∀ {tm : List (Nat × AV)}, E2 (tm.map fun p => (p.1, f p.2)) t = some y → ∃ x, E2 tm t = some x ∧ y = f x
 | [], h => by cases h
 | (k, z) :: r, h => by
  simp only [E2, bY9] at h ⊢
  split at h
  ·rename_i hk; cases h; exact ⟨z, by rw [if_pos hk], rfl⟩
  ·rename_i hk
   obtain ⟨x, h1, h2⟩ := aJ4 h
   exact ⟨x, by rw [if_neg hk]; exact h1, h2⟩
theorem bL5 {i n : Nat} {x : AV} : ∀ j ∈ (x.ren (mv i n)).ids, (∃ k ∈ x.ids, mv i n k = j) := by
 have key : (∀ x : AV, ∀ j ∈ (x.ren (mv i n)).ids, ∃ k ∈ x.ids, mv i n k = j) ∧ (∀ l : List AV, ∀ j ∈ AV.idsL (AV.renL (mv i n) l), ∃ k ∈ AV.idsL l, mv i n k = j) := by
  have hL : ∀ (l : List AV), (∀ x ∈ l, ∀ j ∈ (x.ren (mv i n)).ids, ∃ k ∈ x.ids, mv i n k = j) → ∀ j ∈ AV.idsL (AV.renL (mv i n) l), ∃ k ∈ AV.idsL l, mv i n k = j := by
   intro l
   induction l with
   | nil => intro _ j hj; cases hj
   | cons y r ih =>
    intro h j hj
    simp only [AV.renL, AV.idsL, bY5] at hj ⊢
    rcases hj with hj | hj
    ·obtain ⟨k, h1, h2⟩ := h y bX6 j hj
     exact ⟨k, .inl h1, h2⟩
    ·obtain ⟨k, h1, h2⟩ := ih (fun x hx => h x (bX9 _ hx)) j hj
     exact ⟨k, .inr h1, h2⟩
  have hx : ∀ x : AV, ∀ j ∈ (x.ren (mv i n)).ids, ∃ k ∈ x.ids, mv i n k = j := fun x => goX hL x
  exact ⟨hx, fun l => hL l fun x _ => hx x⟩
 exact key.1 x
where
 goX {i n : Nat} (hL : ∀ (l : List AV), (∀ x ∈ l, ∀ j ∈ (x.ren (mv i n)).ids, ∃ k ∈ x.ids, mv i n k = j) → ∀ j ∈ AV.idsL (AV.renL (mv i n) l), ∃ k ∈ AV.idsL l, mv i n k = j) : ∀ x : AV, ∀ j ∈ (x.ren (mv i n)).ids, ∃ k ∈ x.ids, mv i n k = j
  | .v _, j, hj => by cases hj
  | .ptr a b, j, hj => ⟨a, bY7.2 rfl, (bY7.1 hj).symm⟩
  | .ea a b c d, j, hj => ⟨a, bY7.2 rfl, (bY7.1 hj).symm⟩
  | .ref a, j, hj => ⟨a, bY7.2 rfl, (bY7.1 hj).symm⟩
  | .tref a, j, hj => ⟨a, bY7.2 rfl, (bY7.1 hj).symm⟩
  | .agg l, j, hj => hL l (fun x _ => goX hL x) j hj
  | .tup l, j, hj => hL l (fun x _ => goX hL x) j hj
  | .fn _ l, j, hj => hL l (fun x _ => goX hL x) j hj
  | .bm _ l, j, hj => hL l (fun x _ => goX hL x) j hj
theorem A9.shift (G : A9 φ ψ w0 F N m ρ0 ρ S tm a w) (i n : Nat) (S1 : List It) (tm1 : List (Nat × AV)) (hn : (natEq S.length n && decide (i < n)) = true := by kernel_rfl) (hS : S1 = (S.map (It.ren (mv i n))).set i .dead ++ [(w7 S i).ren (mv i n)] := by kernel_rfl) (ht : tm1 = tm.map (fun p => (p.1, p.2.ren (mv i n))) := by kernel_rfl) :
  ∃ ρ', A9 φ ψ w0 F N m ρ0 ρ' S1 tm1 a w := by
 subst hS
 subst ht
 simp only [bV8, natEq, beq_iff_eq, decide_eq_true_eq] at hn
 obtain ⟨hn, hin⟩ := hn
 have hlen : ((S.map (It.ren (mv i n))).set i .dead ++ [(w7 S i).ren (mv i n)]).length = n + 1 := by simp [hn]
 have hat : ∀ j, w7 ((S.map (It.ren (mv i n))).set i .dead ++ [(w7 S i).ren (mv i n)]) j = if j = n then (w7 S i).ren (mv i n) else if j = i then .dead else (w7 S j).ren (mv i n) := fun j => by
  by_cases e : j = n
  ·subst e
   rw [if_pos rfl]
   simp only [w7, bW2]
   rw [bZ0 (by simp [hn])]
   simp [hn]
  ·rw [if_neg e]
   by_cases e2 : j = i
   ·subst e2
    rw [if_pos rfl]
    simp only [w7, bW2]
    rw [bX7 (by simp; omega)]
    simp [show j < S.length by omega]
   ·rw [if_neg e2]
    simp only [w7, bW2]
    rcases bY6 j n with h | h
    ·rw [bX7 (by simp; omega), List.getElem?_set_ne (fun h => e2 h.symm), List.getElem?_map, bW0 (by omega)]
     rfl
    ·rw [bY0 (by simp; omega), bY0 (by omega)]; rfl
 have hbd : ∀ x : AV, (∀ j ∈ x.ids, j < n) → ∀ j ∈ (x.ren (mv i n)).ids, j < n + 1 := fun x h j hj => by
  obtain ⟨k, h1, h2⟩ := bL5 j hj
  have := h k h1
  rw [← h2]; unfold mv
  split <;> omega
 let ρ1 : Nat → Value := fun j => if j = n then ρ i else ρ j
 have hmv : ∀ j, j < n → ρ1 (mv i n j) = ρ j := fun j hj => by
  show (if mv i n j = n then ρ i else ρ (mv i n j)) = ρ j
  by_cases e : j = i
  ·subst e; simp [mv, natEq]
  ·have h : mv i n j = j := by simp [mv, natEq, e]
   rw [h, if_neg (by omega)]
 have hval : ∀ x : AV, (∀ j ∈ x.ids, j < n) → (x.ren (mv i n)).val ρ1 = x.val ρ := fun x h => by
  rw [AV.val_ren]
  exact AV.val_congr x fun j hj => hmv j (h j hj)
 have hids : ∀ j, ∀ q ∈ (w7 S j).ids, q < n := fun j q hq => by have := (G.bd j).1 q hq; omega
 have hitem : ∀ j, ∀ q ∈ ((w7 S j).ren (mv i n)).ids, q < n + 1 := fun j q hq => by
  cases hx : w7 S j with
  | box cs =>
   rw [hx] at hq
   have h1 := hids j
   rw [hx] at h1
   exact hbd (.agg cs) h1 q hq
  | _ => rw [hx] at hq; cases hq
 refine ⟨ρ1, G.size, G.defs, fun t y hy => ?_, fun t y hy j hj => ?_, fun j => ⟨fun q hq => ?_, fun hj => B6 hj⟩, ?_, ?_, fun j hj => ?_⟩
 ·obtain ⟨x, h1, rfl⟩ := aJ4 hy
  rw [G.tmv t x h1, hval x fun j hj => by have := G.tmi t x h1 j hj; omega]
 ·obtain ⟨x, h1, rfl⟩ := aJ4 hy
  rw [hlen]
  exact hbd x (fun j hj => by have := G.tmi t x h1 j hj; omega) j hj
 ·rw [hlen]
  rw [hat] at hq
  split at hq
  ·exact hitem i q hq
  ·split at hq
   ·cases hq
   ·exact hitem j q hq
 ·refine G.mem.map (fun k : ι ⊕ Nat => (match k with | .inl q => some (.inl q) | .inr j => if j = n then some (.inr i) else if j = i then none else some (.inr j) : Option (ι ⊕ Nat))) ?_ ?_
  ·intro k k' x h1 h2
   match k, k' with
   | .inl q, .inl q' => simp at h1 h2; rw [← h1] at h2; simpa using h2.symm
   | .inl q, .inr j => simp at h1; subst h1; simp at h2; split at h2 <;> simp at h2
   | .inr j, .inl q => simp at h2; subst h2; simp at h1; split at h1 <;> simp at h1
   | .inr j, .inr j' =>
    simp only at h1 h2
    by_cases e1 : j = n <;> by_cases e2 : j' = n
    ·rw [e1, e2]
    ·rw [if_pos e1] at h1
     rw [if_neg e2] at h2
     by_cases e3 : j' = i
     ·rw [if_pos e3] at h2; cases h2
     ·rw [if_neg e3] at h2
      simp at h1 h2
      rw [← h1] at h2
      exact absurd (Sum.inr.inj h2) e3
    ·rw [if_pos e2] at h2
     rw [if_neg e1] at h1
     by_cases e3 : j = i
     ·rw [if_pos e3] at h1; cases h1
     ·rw [if_neg e3] at h1
      simp at h1 h2
      rw [← h2] at h1
      exact absurd (Sum.inr.inj h1) e3
    ·rw [if_neg e1] at h1
     rw [if_neg e2] at h2
     by_cases e3 : j = i
     ·rw [if_pos e3] at h1; cases h1
     ·by_cases e4 : j' = i
      ·rw [if_pos e4] at h2; cases h2
      ·rw [if_neg e3] at h1
       rw [if_neg e4] at h2
       simp at h1 h2
       rw [← h1] at h2
       rw [Sum.inr.inj h2]
  ·intro k
   match k with
   | .inl q => exact .inl ⟨_, rfl, rfl⟩
   | .inr j =>
    by_cases e : j = n
    ·refine .inl ⟨.inr i, by simp [e], ?_⟩
     simp only [v9]
     rw [hat, if_pos e]
     subst e
     have h1 : mv i j i = j := by simp [mv, natEq]
     rw [It.res_ren' (w7 S i) h1]
     exact It.res_congr _ (fun q hq => hmv q (hids i q hq)) (.inr (.inr (hmv i hin)))
    ·by_cases e2 : j = i
     ·refine .inr ?_
      simp only [v9]
      rw [hat, if_neg e, if_pos e2]
      rfl
     ·refine .inl ⟨.inr j, by simp [e, e2], ?_⟩
      simp only [v9]
      rw [hat, if_neg e, if_neg e2]
      rcases bY6 j n with hj | hj
      ·have h1 : mv i n j = j := by simp [mv, natEq, e2]
       rw [It.res_ren' (w7 S j) h1]
       exact It.res_congr _ (fun q hq => hmv q (hids j q hq)) (.inr (.inr (hmv j hj)))
      ·rw [B6 (by omega)]; rfl
 ·have := G.le; rw [hlen]; omega
 ·have := G.le
  show (if j = n then ρ i else ρ j) = ρ0 j
  rw [if_neg (by omega)]; exact G.old j hj
end
theorem p6.dupPost {P : Program} {f : FuncId} {args : List AV} {pre S : List It} {d : D} {res res' : AV} {i : Nat} (hc : p6.ok P ⟨f, args, pre, S, res⟩) (hi : S[i]? = some (.dat d)) (hl : pre.length ≤ S.length)
  (hS : S.all (fun x => ab7 S.length x.ids) = true) (hr : ∀ ρ : Nat → Value, ρ S.length = ρ i → res'.val ρ = res.val ρ) (hg : ab7 S.length res.ids = true) : p6.ok P ⟨f, args, pre, S ++ [.dat d], res'⟩ := by
 intro ι φ ψ w0 w F ρ M
 refine (hc ι φ ψ w0 w F ρ M).mono ?_
 rintro x w' ⟨ρ1, h1, rfl, M1⟩
 have hi' : w7 S i = .dat d := by simp [w7, hi]
 have hlt : i < S.length := (bW9.1 hi).1
 have hinv : Inv (w7 S) ρ1 [S.length] := fun ρ' h j => by
  by_cases hj : j < S.length
  ·refine It.res_congr _ (fun k hk => h k ?_) (.inr (.inr (h j (by simp; omega))))
   have h1 := I3 (bX0.1 hS (S[j]) (bX2 hj)) k (by simpa [w7, bW2, bW0 hj] using hk)
   simp; omega
  ·rw [show w7 S j = .none by simp only [w7, bW2, bY0 (Nat.le_of_not_lt hj)]; rfl]; rfl
 obtain ⟨ρ2, h3, M2, h4⟩ := M1.newDat (id := S.length) (by simp [w7]) hinv (M1.datAt hi')
 have e : v8 (w7 S) [(S.length, .dat d)] = w7 (S ++ [.dat d]) := by
  funext j
  simp only [v8, w7, bW2]
  by_cases hj : j = S.length
  ·subst hj; simp
  ·rw [if_neg hj]
   by_cases hj2 : j < S.length
   ·rw [bX7 hj2]
   ·rw [bY0 (by omega), bY0 (by simp; omega)]
 rw [e] at M2
 have hρ : ρ2 i = ρ1 i := h3 i (by simp; omega)
 refine ⟨ρ2, fun k hk => by
  have hk : k < pre.length := hk
  rw [h3 k (by simp; omega)]; exact h1 k hk, ?_, M2⟩
 rw [hr ρ2 (by rw [← h4, hρ])]
 exact congrArg _ (AV.val_congr res fun k hk => by
  have := I3 hg k hk
  exact h3 k (by simp; omega)).symm
abbrev nlA : AV := .v (.slice none 0 0)
abbrev qT (l : List b6) : It := .row 106 (.stmts l)
abbrev qI (l : List Int) : It := .row 3 (.ints l)
theorem a97 (vs ars : List Int) (d : Nat) (ih : ∀ (e : b5), l9 vs.length ars.length d e = true → p6.ok Tryz.prog (P3 159 [.agg [.ref 0, .ref 1, nlA], eA e 2] ([dI vs, dI ars] ++ eS e) (iA (l5 vs ars d e))))
    (e : b5) (he : l9 vs.length ars.length (d + 1) e = true) : p6.ok Tryz.prog (P3 159 [.agg [.ref 0, .ref 1, nlA], eA e 2] ([dI vs, dI ars] ++ eS e) (iA (l5 vs ars (d + 1) e))) := by
  refine H9 42 Tryz.func159 [dI vs, dI ars, dE e.kids] [(0, .agg [.ref 0, .ref 1, .v (.slice none 0 0)]), (1, eA e 2)] fun G => ?_; refine wp_seq (s4 G l6 [0, 1, 2, 3, 11] [dI vs, dI ars, dE e.kids, .box [.ref 0, .ref 1, .v (.slice none 0 0)], .box (eL e 2)] [(2, .ptr 3 0), (3, .ptr 4 0), (4, iA 0)] fun G => b7 (wp_seq (n9 G l6 [(5, iA 0)] fun G => b7 (wp_seq (wp_seq (n9 G l6 [(8, iA e.kind)] fun G => b7 (wp_block (wp_seq (n9 G l6 [(9, bA (e.kind == 2))] fun G => b7 (rcE G (fun h0 q0 => ?_) fun h0 q0 => ?_))))))))))
  ·
   refine wp_seq (n9 G l6 [(17, bA (e.kind == 3))] fun G => b7 (rcE G (fun h1 q1 => ?_) fun h1 q1 => ?_))
   ·
    refine wp_skip (w5 (b7 (wp_seq (wp_seq (J5 G l6 [(2, .ptr 3 0), (3, .ptr 4 0), (4, iA 0), (5, iA 0), (6, iA 0)] fun G => b7 (wp_block ?_)))))); refine A3 (κ := Nat) (fun k => k ≤ e.kids.length) (fun k => e.kids.length - k) (fun k => [dI vs, dI ars, dE e.kids, .box [.ref 0, .ref 1, .v (.slice none 0 0)], .box (eL e 2)]) (fun k => [(2, .ptr 3 0), (3, .ptr 4 0), (4, iA 0), (5, iA (w6 vs ars d 0 e.kids k)), (6, iA k)]) 0 (by simp [he, h0, h1]) (A9.at G _ _) ?_; clear G; intro k ρ a w hp G; have hlen : e.kids.length ≤ 9223372036854775807 := G.len 2 (d := .exprs e.kids) (by kernel_rfl); refine wp_seq (wp_seq (J5 G l6 [(2, .ptr 3 0), (3, .ptr 4 0), (4, iA 0), (5, iA (w6 vs ars d 0 e.kids k)), (6, iA k), (29, bA (decide ((k : Int) < e.kids.length)))] fun G => b7 (rcD G (fun h2 q2 => ?_) fun h2 q2 => ?_)))
    · refine wp_exit (A2 (A2 (w9 (b7 (wp_seq (s4 G l6 [0, 1, 2] [dI vs, dI ars, dE e.kids] [(4, iA (w6 vs ars d 0 e.kids k))] fun G => b7 (wp_ret ?_))))))); exact Z7 (w6 vs ars d 0 e.kids k) G [0, 1, 2] (M6 (by omega) (by simp [ar4, h0, q0, h1, q1, h2, q2]; done))
    · refine wp_skip (b7 (wp_seq (wp_block (au3 G (B5 7 [0, 1, 53] (ih (e.kids.getD k bV3) (O3 he (by omega)))) [0, 0, 0, 4, 0, 28, 60, 126, 255, 511] [(5, iA (n6 (w6 vs ars d 0 e.kids k) (l5 vs ars d (e.kids.getD k bV3))))] (iX k k e.kids.length []) (iK (by omega) bW1) fun G => w5 (b7 (J2 G l6 [(6, iA ((k : Int) + 1))] [wO ((k : Int) + 1)] (o1 (by omega)) fun G => b7 ?_)))))); exact Y3 G (k + 1) (by omega) (by omega) (rg 5) (ht := by have e1 : (w6 vs ars d 0 e.kids (k + 1) : Int) = (n6 (w6 vs ars d 0 e.kids k) (l5 vs ars d (e.kids.getD k bV3))) := (I4 (by omega)); (first | rw [e1] | simp only [e1]) <;> rfl)
   ·
    refine J2 G l6 [(5, iA (ars.getD e.value.toNat 0))] [(0 : Int) ≤ e.value, e.value < (ars.length : Int), e.value.toNat < ars.length] ⟨((Y2 he (by assumption)).1), ((Y2 he (by assumption)).2.1), ((Y2 he (by assumption)).2.2), bW1⟩ fun G => w5 (b7 (wp_seq (wp_seq (J5 G l6 [(2, .ptr 3 0), (3, .ptr 4 0), (4, iA 0), (5, iA (ars.getD e.value.toNat 0)), (6, iA 0)] fun G => b7 (wp_block ?_))))); refine A3 (κ := Nat) (fun k => k ≤ e.kids.length) (fun k => e.kids.length - k) (fun k => [dI vs, dI ars, dE e.kids, .box [.ref 0, .ref 1, .v (.slice none 0 0)], .box (eL e 2)]) (fun k => [(2, .ptr 3 0), (3, .ptr 4 0), (4, iA 0), (5, iA (w6 vs ars d (ars.getD e.value.toNat 0) e.kids k)), (6, iA k)]) 0 (by simp [he, h0, h1]) (A9.at G _ _) ?_; clear G; intro k ρ a w hp G; have hlen : e.kids.length ≤ 9223372036854775807 := G.len 2 (d := .exprs e.kids) (by kernel_rfl); refine wp_seq (wp_seq (J5 G l6 [(2, .ptr 3 0), (3, .ptr 4 0), (4, iA 0), (5, iA (w6 vs ars d (ars.getD e.value.toNat 0) e.kids k)), (6, iA k), (29, bA (decide ((k : Int) < e.kids.length)))] fun G => b7 (rcD G (fun h3 q3 => ?_) fun h3 q3 => ?_)))
    · refine wp_exit (A2 (A2 (w9 (b7 (wp_seq (s4 G l6 [0, 1, 2] [dI vs, dI ars, dE e.kids] [(4, iA (w6 vs ars d (ars.getD e.value.toNat 0) e.kids k))] fun G => b7 (wp_ret ?_))))))); exact Z7 (w6 vs ars d (ars.getD e.value.toNat 0) e.kids k) G [0, 1, 2] (M6 (by omega) (by simp [ar4, h0, q0, h1, q1, h3, q3]; done))
    · refine wp_skip (b7 (wp_seq (wp_block (au3 G (B5 7 [0, 1, 53] (ih (e.kids.getD k bV3) (O3 he (by omega)))) [0, 0, 0, 4, 0, 28, 60, 126, 255, 511] [(5, iA (n6 (w6 vs ars d (ars.getD e.value.toNat 0) e.kids k) (l5 vs ars d (e.kids.getD k bV3))))] (iX k k e.kids.length []) (iK (by omega) bW1) fun G => w5 (b7 (J2 G l6 [(6, iA ((k : Int) + 1))] [wO ((k : Int) + 1)] (o1 (by omega)) fun G => b7 ?_)))))); exact Y3 G (k + 1) (by omega) (by omega) (rg 5) (ht := by have e1 : (w6 vs ars d (ars.getD e.value.toNat 0) e.kids (k + 1) : Int) = (n6 (w6 vs ars d (ars.getD e.value.toNat 0) e.kids k) (l5 vs ars d (e.kids.getD k bV3))) := (I4 (by omega)); (first | rw [e1] | simp only [e1]) <;> rfl)
  ·
   refine J2 G l6 [(5, iA (vs.getD e.value.toNat 0))] [(0 : Int) ≤ e.value, e.value < (vs.length : Int), e.value.toNat < vs.length] ⟨((Y1 he (by assumption)).1), ((Y1 he (by assumption)).2.1), ((Y1 he (by assumption)).2.2), bW1⟩ fun G => w5 (b7 (wp_seq (wp_seq (J5 G l6 [(2, .ptr 3 0), (3, .ptr 4 0), (4, iA 0), (5, iA (vs.getD e.value.toNat 0)), (6, iA 0)] fun G => b7 (wp_block ?_))))); refine A3 (κ := Nat) (fun k => k ≤ e.kids.length) (fun k => e.kids.length - k) (fun k => [dI vs, dI ars, dE e.kids, .box [.ref 0, .ref 1, .v (.slice none 0 0)], .box (eL e 2)]) (fun k => [(2, .ptr 3 0), (3, .ptr 4 0), (4, iA 0), (5, iA (w6 vs ars d (vs.getD e.value.toNat 0) e.kids k)), (6, iA k)]) 0 (by simp [he, h0]) (A9.at G _ _) ?_; clear G; intro k ρ a w hp G; have hlen : e.kids.length ≤ 9223372036854775807 := G.len 2 (d := .exprs e.kids) (by kernel_rfl); refine wp_seq (wp_seq (J5 G l6 [(2, .ptr 3 0), (3, .ptr 4 0), (4, iA 0), (5, iA (w6 vs ars d (vs.getD e.value.toNat 0) e.kids k)), (6, iA k), (29, bA (decide ((k : Int) < e.kids.length)))] fun G => b7 (rcD G (fun h4 q4 => ?_) fun h4 q4 => ?_)))
   · refine wp_exit (A2 (A2 (w9 (b7 (wp_seq (s4 G l6 [0, 1, 2] [dI vs, dI ars, dE e.kids] [(4, iA (w6 vs ars d (vs.getD e.value.toNat 0) e.kids k))] fun G => b7 (wp_ret ?_))))))); exact Z7 (w6 vs ars d (vs.getD e.value.toNat 0) e.kids k) G [0, 1, 2] (M6 (by omega) (by simp [ar4, h0, q0, h4, q4]; done))
   · refine wp_skip (b7 (wp_seq (wp_block (au3 G (B5 7 [0, 1, 53] (ih (e.kids.getD k bV3) (O3 he (by omega)))) [0, 0, 0, 4, 0, 28, 60, 126, 255, 511] [(5, iA (n6 (w6 vs ars d (vs.getD e.value.toNat 0) e.kids k) (l5 vs ars d (e.kids.getD k bV3))))] (iX k k e.kids.length []) (iK (by omega) bW1) fun G => w5 (b7 (J2 G l6 [(6, iA ((k : Int) + 1))] [wO ((k : Int) + 1)] (o1 (by omega)) fun G => b7 ?_)))))); exact Y3 G (k + 1) (by omega) (by omega) (rg 5) (ht := by have e1 : (w6 vs ars d (vs.getD e.value.toNat 0) e.kids (k + 1) : Int) = (n6 (w6 vs ars d (vs.getD e.value.toNat 0) e.kids k) (l5 vs ars d (e.kids.getD k bV3))) := (I4 (by omega)); (first | rw [e1] | simp only [e1]) <;> rfl)
abbrev ad8 : It := .box [.ref 0, .ref 1, .v (.slice none 0 0)]
abbrev ag5 (e : b5) (k : Nat) (r0 : List (Nat × AV)) : List (Nat × AV) := (27, .ref 2) :: (28, iA (e.kids.length : Int)) :: (29, iA (k : Int)) :: r0
theorem bq2 (vs ars : List Int) (d : Nat) (ih : ∀ (e : b5), l9 vs.length ars.length d e = true → p6.ok Tryz.prog (P3 141 [.agg [.ref 0, .ref 1, nlA], eA e 2] ([dI vs, dI ars] ++ eS e) (iA (l5 vs ars d e))))
    (e : b5) (he : l9 vs.length ars.length (d + 1) e = true) : p6.ok Tryz.prog (P3 141 [.agg [.ref 0, .ref 1, nlA], eA e 2] ([dI vs, dI ars] ++ eS e) (iA (l5 vs ars (d + 1) e))) := by
  refine H9 40 Tryz.func141 [dI vs, dI ars, dE e.kids] [(0, .agg [.ref 0, .ref 1, .v (.slice none 0 0)]), (1, eA e 2)] fun G => ?_; refine wp_seq (s4 G l6 [0, 1, 2, 3, 11] [dI vs, dI ars, dE e.kids, ad8, .box (eL e 2)] [(2, .ptr 3 0), (3, .ptr 4 0), (4, iA 0)] fun G => b7 (wp_seq (n9 G l6 [(5, iA 0)] fun G => b7 (wp_seq (wp_seq (n9 G l6 [(9, iA e.kind)] fun G => b7 (wp_block (wp_seq (n9 G l6 [(10, bA (e.kind == 2))] fun G => b7 (rcE G (fun h0 q0 => ?_) fun h0 q0 => ?_))))))))))
  ·
   refine wp_seq (n9 G l6 [(18, bA (e.kind == 3))] fun G => b7 (rcE G (fun h1 q1 => ?_) fun h1 q1 => ?_))
   ·
    refine wp_skip (w5 (b7 (wp_seq (wp_seq (s4 G l6 (rg 4) [dI vs, dI ars, dE e.kids, ad8] [(2, .ptr 3 0), (4, iA 0), (5, iA 0), (27, .ref 2), (28, iA (e.kids.length : Int)), (29, iA 0)] fun G => b7 (wp_block ?_)))))); refine A3 (κ := Nat) (fun k => k ≤ e.kids.length) (fun k => e.kids.length - k) (fun k => [dI vs, dI ars, dE e.kids, .box [.ref 0, .ref 1, .v (.slice none 0 0)]]) (fun k => [(2, .ptr 3 0), (4, iA 0), (5, iA (w6 vs ars d 0 e.kids k)), (27, .ref 2), (28, iA (e.kids.length : Int)), (29, iA k)]) 0 (by simp [he, h0, h1]) (A9.at G _ _) ?_; clear G; intro k ρ a w hp G; have hlen : e.kids.length ≤ 9223372036854775807 := G.len 2 (d := .exprs e.kids) (by kernel_rfl); refine wp_seq (J5 G l6 ((2, .ptr 3 0) :: (4, iA 0) :: (5, iA (w6 vs ars d 0 e.kids k)) :: (ag5 e k [(30, bA (decide ((k : Int) < e.kids.length)))])) fun G => b7 (wp_seq (rcD G (fun h2 q2 => ?_) fun h2 q2 => ?_)))
    · refine wp_exit (A2 (A2 (w9 (b7 (wp_seq (s4 G l6 [0, 1, 2] [dI vs, dI ars, dE e.kids] [(4, iA (w6 vs ars d 0 e.kids k))] fun G => b7 (wp_ret ?_))))))); exact Z7 (w6 vs ars d 0 e.kids k) G [0, 1, 2] (M6 (by omega) (by simp [ar4, h0, q0, h1, q1, h2, q2]; done))
    · refine wp_skip (b7 (wp_seq (wp_block (wp_seq (R6 G l6 [0, 1, 2, 3, 12, 20] [dI vs, dI ars, dE e.kids, ad8, dE (e.kids.getD k bV3).kids, .box (eL (e.kids.getD k bV3) 4)] ((2, .ptr 3 0) :: (4, iA 0) :: (5, iA (w6 vs ars d 0 e.kids k)) :: (7, .ptr 5 0) :: (ag5 e k [])) (iX k k e.kids.length []) (iK (by omega) bW1) fun G => b7 (s4 G (B5 3 [0, 1, 4] (ih (e.kids.getD k bV3) (O3 he (by omega)))) (rg 4) [dI vs, dI ars, dE e.kids, ad8] ((2, .ptr 3 0) :: (4, iA 0) :: (5, iA (n6 (w6 vs ars d 0 e.kids k) (l5 vs ars d (e.kids.getD k bV3)))) :: (ag5 e k [])) fun G => w5 (b7 (J2 G l6 [(29, iA ((k : Int) + 1))] [wO ((k : Int) + 1)] (o1 (by omega)) fun G => b7 ?_)))))))); exact Y3 G (k + 1) (by omega) (by omega) (rg 4) (ht := by have e1 : (w6 vs ars d 0 e.kids (k + 1) : Int) = (n6 (w6 vs ars d 0 e.kids k) (l5 vs ars d (e.kids.getD k bV3))) := (I4 (by omega)); (first | rw [e1] | simp only [e1]) <;> rfl)
   ·
    refine J2 G l6 [(5, iA (ars.getD e.value.toNat 0))] [(0 : Int) ≤ e.value, e.value < (ars.length : Int), e.value.toNat < ars.length] ⟨((Y2 he (by assumption)).1), ((Y2 he (by assumption)).2.1), ((Y2 he (by assumption)).2.2), bW1⟩ fun G => w5 (b7 (wp_seq (wp_seq (s4 G l6 (rg 4) [dI vs, dI ars, dE e.kids, ad8] [(2, .ptr 3 0), (4, iA 0), (5, iA (ars.getD e.value.toNat 0)), (27, .ref 2), (28, iA (e.kids.length : Int)), (29, iA 0)] fun G => b7 (wp_block ?_))))); refine A3 (κ := Nat) (fun k => k ≤ e.kids.length) (fun k => e.kids.length - k) (fun k => [dI vs, dI ars, dE e.kids, .box [.ref 0, .ref 1, .v (.slice none 0 0)]]) (fun k => [(2, .ptr 3 0), (4, iA 0), (5, iA (w6 vs ars d (ars.getD e.value.toNat 0) e.kids k)), (27, .ref 2), (28, iA (e.kids.length : Int)), (29, iA k)]) 0 (by simp [he, h0, h1]) (A9.at G _ _) ?_; clear G; intro k ρ a w hp G; have hlen : e.kids.length ≤ 9223372036854775807 := G.len 2 (d := .exprs e.kids) (by kernel_rfl); refine wp_seq (J5 G l6 ((2, .ptr 3 0) :: (4, iA 0) :: (5, iA (w6 vs ars d (ars.getD e.value.toNat 0) e.kids k)) :: (ag5 e k [(30, bA (decide ((k : Int) < e.kids.length)))])) fun G => b7 (wp_seq (rcD G (fun h3 q3 => ?_) fun h3 q3 => ?_)))
    · refine wp_exit (A2 (A2 (w9 (b7 (wp_seq (s4 G l6 [0, 1, 2] [dI vs, dI ars, dE e.kids] [(4, iA (w6 vs ars d (ars.getD e.value.toNat 0) e.kids k))] fun G => b7 (wp_ret ?_))))))); exact Z7 (w6 vs ars d (ars.getD e.value.toNat 0) e.kids k) G [0, 1, 2] (M6 (by omega) (by simp [ar4, h0, q0, h1, q1, h3, q3]; done))
    · refine wp_skip (b7 (wp_seq (wp_block (wp_seq (R6 G l6 [0, 1, 2, 3, 12, 20] [dI vs, dI ars, dE e.kids, ad8, dE (e.kids.getD k bV3).kids, .box (eL (e.kids.getD k bV3) 4)] ((2, .ptr 3 0) :: (4, iA 0) :: (5, iA (w6 vs ars d (ars.getD e.value.toNat 0) e.kids k)) :: (7, .ptr 5 0) :: (ag5 e k [])) (iX k k e.kids.length []) (iK (by omega) bW1) fun G => b7 (s4 G (B5 3 [0, 1, 4] (ih (e.kids.getD k bV3) (O3 he (by omega)))) (rg 4) [dI vs, dI ars, dE e.kids, ad8] ((2, .ptr 3 0) :: (4, iA 0) :: (5, iA (n6 (w6 vs ars d (ars.getD e.value.toNat 0) e.kids k) (l5 vs ars d (e.kids.getD k bV3)))) :: (ag5 e k [])) fun G => w5 (b7 (J2 G l6 [(29, iA ((k : Int) + 1))] [wO ((k : Int) + 1)] (o1 (by omega)) fun G => b7 ?_)))))))); exact Y3 G (k + 1) (by omega) (by omega) (rg 4) (ht := by have e1 : (w6 vs ars d (ars.getD e.value.toNat 0) e.kids (k + 1) : Int) = (n6 (w6 vs ars d (ars.getD e.value.toNat 0) e.kids k) (l5 vs ars d (e.kids.getD k bV3))) := (I4 (by omega)); (first | rw [e1] | simp only [e1]) <;> rfl)
  ·
   refine J2 G l6 [(5, iA (vs.getD e.value.toNat 0))] [(0 : Int) ≤ e.value, e.value < (vs.length : Int), e.value.toNat < vs.length] ⟨((Y1 he (by assumption)).1), ((Y1 he (by assumption)).2.1), ((Y1 he (by assumption)).2.2), bW1⟩ fun G => w5 (b7 (wp_seq (wp_seq (s4 G l6 (rg 4) [dI vs, dI ars, dE e.kids, ad8] [(2, .ptr 3 0), (4, iA 0), (5, iA (vs.getD e.value.toNat 0)), (27, .ref 2), (28, iA (e.kids.length : Int)), (29, iA 0)] fun G => b7 (wp_block ?_))))); refine A3 (κ := Nat) (fun k => k ≤ e.kids.length) (fun k => e.kids.length - k) (fun k => [dI vs, dI ars, dE e.kids, .box [.ref 0, .ref 1, .v (.slice none 0 0)]]) (fun k => [(2, .ptr 3 0), (4, iA 0), (5, iA (w6 vs ars d (vs.getD e.value.toNat 0) e.kids k)), (27, .ref 2), (28, iA (e.kids.length : Int)), (29, iA k)]) 0 (by simp [he, h0]) (A9.at G _ _) ?_; clear G; intro k ρ a w hp G; have hlen : e.kids.length ≤ 9223372036854775807 := G.len 2 (d := .exprs e.kids) (by kernel_rfl); refine wp_seq (J5 G l6 ((2, .ptr 3 0) :: (4, iA 0) :: (5, iA (w6 vs ars d (vs.getD e.value.toNat 0) e.kids k)) :: (ag5 e k [(30, bA (decide ((k : Int) < e.kids.length)))])) fun G => b7 (wp_seq (rcD G (fun h4 q4 => ?_) fun h4 q4 => ?_)))
   · refine wp_exit (A2 (A2 (w9 (b7 (wp_seq (s4 G l6 [0, 1, 2] [dI vs, dI ars, dE e.kids] [(4, iA (w6 vs ars d (vs.getD e.value.toNat 0) e.kids k))] fun G => b7 (wp_ret ?_))))))); exact Z7 (w6 vs ars d (vs.getD e.value.toNat 0) e.kids k) G [0, 1, 2] (M6 (by omega) (by simp [ar4, h0, q0, h4, q4]; done))
   · refine wp_skip (b7 (wp_seq (wp_block (wp_seq (R6 G l6 [0, 1, 2, 3, 12, 20] [dI vs, dI ars, dE e.kids, ad8, dE (e.kids.getD k bV3).kids, .box (eL (e.kids.getD k bV3) 4)] ((2, .ptr 3 0) :: (4, iA 0) :: (5, iA (w6 vs ars d (vs.getD e.value.toNat 0) e.kids k)) :: (7, .ptr 5 0) :: (ag5 e k [])) (iX k k e.kids.length []) (iK (by omega) bW1) fun G => b7 (s4 G (B5 3 [0, 1, 4] (ih (e.kids.getD k bV3) (O3 he (by omega)))) (rg 4) [dI vs, dI ars, dE e.kids, ad8] ((2, .ptr 3 0) :: (4, iA 0) :: (5, iA (n6 (w6 vs ars d (vs.getD e.value.toNat 0) e.kids k) (l5 vs ars d (e.kids.getD k bV3)))) :: (ag5 e k [])) fun G => w5 (b7 (J2 G l6 [(29, iA ((k : Int) + 1))] [wO ((k : Int) + 1)] (o1 (by omega)) fun G => b7 ?_)))))))); exact Y3 G (k + 1) (by omega) (by omega) (rg 4) (ht := by have e1 : (w6 vs ars d (vs.getD e.value.toNat 0) e.kids (k + 1) : Int) = (n6 (w6 vs ars d (vs.getD e.value.toNat 0) e.kids k) (l5 vs ars d (e.kids.getD k bV3))) := (I4 (by omega)); (first | rw [e1] | simp only [e1]) <;> rfl)
theorem aP5 (vs ars : List Int) : ∀ (d : Nat) (e : b5), l9 vs.length ars.length d e = true → p6.ok Tryz.prog (P3 159 [.agg [.ref 0, .ref 1, nlA], eA e 2] ([dI vs, dI ars] ++ eS e) (iA (l5 vs ars d e)))
 | 0, _, h => by simp [l9] at h
 | d + 1, e, h => a97 vs ars d (aP5 vs ars d) e h
theorem bg3 (vs ars : List Int) : ∀ (d : Nat) (e : b5), l9 vs.length ars.length d e = true → p6.ok Tryz.prog (P3 141 [.agg [.ref 0, .ref 1, nlA], eA e 2] ([dI vs, dI ars] ++ eS e) (iA (l5 vs ars d e)))
 | 0, _, h => by simp [l9] at h
 | d + 1, e, h => bq2 vs ars d (bg3 vs ars d) e h
theorem ac3 (vs ars : List Int) (ky vy : Int) (ks : List b5) (h : l9 vs.length ars.length 5 ⟨ky, vy, ks⟩ = true) : p6.ok Tryz.prog (P3 159 [.agg [.ref 0, .ref 1, nlA], .agg [iA ky, iA vy, .ref 2]] [dI vs, dI ars, dE ks] (iA (l5 vs ars 5 ⟨ky, vy, ks⟩))) := aP5 vs ars 5 ⟨ky, vy, ks⟩ h
theorem am0 (vs ars : List Int) (ky vy : Int) (ks : List b5) (h : l9 vs.length ars.length 5 ⟨ky, vy, ks⟩ = true) : p6.ok Tryz.prog (P3 141 [.agg [.ref 0, .ref 1, nlA], .agg [iA ky, iA vy, .ref 2]] [dI vs, dI ars, dE ks] (iA (l5 vs ars 5 ⟨ky, vy, ks⟩))) := bg3 vs ars 5 ⟨ky, vy, ks⟩ h
theorem M9 (n : Int) : p6.ok Tryz.prog ⟨203, [iA n], [], [dE []], .agg [iA 1, iA n, .ref 0]⟩ := by
 refine H9 5 Tryz.func203 [] [(0, iA n)] fun G => ?_; refine wp_seq (s4 G l6 [0] [.box [iA 0, iA 0, .v (.slice none 0 0)]] [(0, iA n), (2, .ptr 0 0)] fun G => b7 (wp_seq (s4 G l6 [0] [.box [iA 1, iA n, .v (.slice none 0 0)]] [(2, .ptr 0 0)] fun G => b7 (wp_ret ?_)))); obtain ⟨ρ, G⟩ := G.nil 1 0 (.exprs []) 9 [.box [iA 1, iA n, .ref 1]] [(2, .ptr 0 0)]; obtain ⟨ρ, G⟩ := G.frz [.no, .row 0] [.box [iA 1, iA n, .ref 1], dE []] [(2, .ptr 0 0)]; exact O9 G [1]
theorem an9 (n : Int) : p6.ok Tryz.prog ⟨157, [iA n], [], [dE []], .agg [iA 2, iA n, .ref 0]⟩ := by
 refine H9 5 Tryz.func157 [] [(0, iA n)] fun G => ?_; refine wp_seq (s4 G l6 [0] [.box [iA 0, iA 0, .v (.slice none 0 0)]] [(0, iA n), (2, .ptr 0 0)] fun G => b7 (wp_seq (s4 G l6 [0] [.box [iA 2, iA n, .v (.slice none 0 0)]] [(2, .ptr 0 0)] fun G => b7 (wp_ret ?_)))); obtain ⟨ρ, G⟩ := G.nil 1 0 (.exprs []) 9 [.box [iA 2, iA n, .ref 1]] [(2, .ptr 0 0)]; obtain ⟨ρ, G⟩ := G.frz [.no, .row 0] [.box [iA 2, iA n, .ref 1], dE []] [(2, .ptr 0 0)]; exact O9 G [1]
theorem ag0 (k : Int) (ks : List b5) : p6.ok Tryz.prog ⟨204, [iA k, .ref 0], [.row 104 (.exprs ks)], [dE ks], .agg [iA k, iA 0, .ref 0]⟩ := by
 refine H9 8 Tryz.func204 [.row 104 (D.exprs ks)] [(0, iA k), (1, .ref 0)] fun G => ?_; refine wp_seq (s4 G l6 [0, 1] [.row 104 (D.exprs ks), .box [iA 0, iA 0, .v (.slice none 0 0)]] [(0, iA k), (1, .ref 0), (4, .ptr 1 0)] fun G => b7 (wp_seq (s4 G l6 [0, 1] [.row 104 (D.exprs ks), .box [iA k, iA 0, .ref 0]] [(4, .ptr 1 0)] fun G => b7 (wp_ret ?_)))); obtain ⟨ρ, G⟩ := G.frz [.row 104] [dE ks, .box [iA k, iA 0, .ref 0]] [(4, .ptr 1 0)]; exact O9 G [0]
theorem aw8 (n ky vy : Int) (ks : List b5) : p6.ok Tryz.prog ⟨161, [iA n, .agg [iA ky, iA vy, .ref 0]], [dE ks], [dE ks, dE [⟨ky, vy, ks⟩]], .agg [iA 3, iA n, .ref 1]⟩ := by
 refine H9 9 Tryz.func161 [dE ks] [(0, iA n), (1, .agg [iA ky, iA vy, .ref 0])] fun G => ?_; refine wp_seq (s4 G l6 [0, 1, 9] [dE ks, .box [iA ky, iA vy, .ref 0], .box [iA 0, iA 0, .v (.slice none 0 0)]] [(0, iA n), (3, .ptr 1 0), (4, .ptr 2 0)] fun G => b7 (wp_seq (s4 G l6 [0, 2, 19] [dE ks, .box [iA 3, iA n, .ref 2], .row 104 (D.exprs ([b5.mk ky vy ks] ++ []))] [(4, .ptr 1 0)] fun G => b7 (wp_ret ?_)))); obtain ⟨ρ, G⟩ := G.frz [.no, .no, .row 104] [dE ks, .box [iA 3, iA n, .ref 2], dE ([b5.mk ky vy ks] ++ [])] [(4, .ptr 1 0)]; exact O9 G [0, 2]
theorem bi2 (ky vy : Int) (ks : List b5) (k : Int) : p6.ok Tryz.prog ⟨205, [.agg [iA ky, iA vy, .ref 0], iA k], [dE ks], [dE ks, dE (V5 ⟨ky, vy, ks⟩ k).kids], .agg [iA 9, iA 0, .ref 1]⟩ := by
 refine H9 13 Tryz.func205 [dE ks] [(0, .agg [iA ky, iA vy, .ref 0]), (1, iA k)] fun G => ?_; refine wp_seq (s4 G l6 [0, 1, 9] [dE ks, .box [iA ky, iA vy, .ref 0], .box [iA 0, iA 0, .v (.slice none 0 0)]] [(1, iA k), (2, .ptr 1 0), (4, .ptr 2 0)] fun G => b7 (wp_seq (ae5 G (E5 (t4 1 [] (M9 3) (t4 3 [19] (ag0 7 ([b5.mk ky vy ks] ++ ([b5.mk 1 3 []] ++ []))) (t4 5 [] (M9 k) (t4 7 [51] (ag0 9 ([b5.mk 7 0 ([b5.mk ky vy ks] ++ ([b5.mk 1 3 []] ++ []))] ++ ([b5.mk 1 k []] ++ []))) E4)))) fz []) [0, 0, 3, 7, 0, 31, 63, 127, 255] [0, 2, 51] [dE ks, .box [iA 9, iA 0, .ref 2], dE ([b5.mk 7 0 ([b5.mk ky vy ks] ++ ([b5.mk 1 3 []] ++ []))] ++ ([b5.mk 1 k []] ++ []))] [(4, .ptr 1 0)] fun G => b7 (wp_ret ?_)))); exact O9 G [0, 2]
theorem bG6 {m : Int} {e f : b5} (h : m < 0) : B4 m e f = e := if_pos h
theorem bG5 {m : Int} {e f : b5} (h : ¬ m < 0) : B4 m e f = seE (vrE m) e f := if_neg h
theorem bk1 (m k1 v1 k2 v2 : Int) (s1 s2 : List b5) (hm : m < 0) : p6.ok Tryz.prog ⟨156, [iA m, .agg [iA k1, iA v1, .ref 0], .agg [iA k2, iA v2, .ref 1]], [dE s1, dE s2], [dE s1, dE s2], .agg [iA k1, iA v1, .ref 0]⟩ := by
 refine H9 16 Tryz.func156 [dE s1, dE s2] [(0, iA m), (1, .agg [iA k1, iA v1, .ref 0]), (2, .agg [iA k2, iA v2, .ref 1])] fun G => ?_; refine wp_seq (s4 G l6 [0, 1, 2, 10, 18] [dE s1, dE s2, .box [iA k1, iA v1, .ref 0], .box [iA k2, iA v2, .ref 1], .box [iA 0, iA 0, .v (.slice none 0 0)]] [(0, iA m), (4, .ptr 2 0), (5, .ptr 3 0), (6, .ptr 4 0)] fun G => b7 (wp_seq (wp_seq (J5 G l6 [(0, iA m), (4, .ptr 2 0), (5, .ptr 3 0), (6, .ptr 4 0), (8, bA (decide (m < 0)))] fun G => b7 ?_)))); cases h0 : (decide (m < 0))
 ·have q0 := dFf h0; exact False.elim (by omega)
 ·have q0 := dTt h0; refine rT G _ h0 (wp_seq (s4 G l6 (rg 5) [dE s1, dE s2, .box [iA k1, iA v1, .ref 0], .box [iA k2, iA v2, .ref 1], .box [iA k1, iA v1, .ref 0]] [(0, iA m), (4, .ptr 2 0), (5, .ptr 3 0), (6, .ptr 4 0)] fun G => b7 (wp_ret (t6 ?_)))); exact O9 G [0, 1]
theorem bk0 (m k1 v1 k2 v2 : Int) (s1 s2 : List b5) (hm : ¬ m < 0) : p6.ok Tryz.prog ⟨156, [iA m, .agg [iA k1, iA v1, .ref 0], .agg [iA k2, iA v2, .ref 1]], [dE s1, dE s2], [dE s1, dE s2, dE (seE (vrE m) ⟨k1, v1, s1⟩ ⟨k2, v2, s2⟩).kids], .agg [iA 11, iA 0, .ref 2]⟩ := by
 refine H9 16 Tryz.func156 [dE s1, dE s2] [(0, iA m), (1, .agg [iA k1, iA v1, .ref 0]), (2, .agg [iA k2, iA v2, .ref 1])] fun G => ?_; refine wp_seq (s4 G l6 [0, 1, 2, 10, 18] [dE s1, dE s2, .box [iA k1, iA v1, .ref 0], .box [iA k2, iA v2, .ref 1], .box [iA 0, iA 0, .v (.slice none 0 0)]] [(0, iA m), (4, .ptr 2 0), (5, .ptr 3 0), (6, .ptr 4 0)] fun G => b7 (wp_seq (wp_seq (J5 G l6 [(0, iA m), (4, .ptr 2 0), (5, .ptr 3 0), (6, .ptr 4 0), (8, bA (decide (m < 0)))] fun G => b7 ?_)))); cases h0 : (decide (m < 0))
 ·have q0 := dFf h0; refine rF G _ h0 (wp_skip (b7 (wp_seq (ae5 G (E5 (t4 1 [] (an9 m) (t4 5 [37] (ag0 11 ([b5.mk 2 m []] ++ ([b5.mk k1 v1 s1] ++ ([b5.mk k2 v2 s2] ++ [])))) E4)) fz []) [0, 1, 0, 0, 15, 31, 63] [0, 1, 4, 37] [dE s1, dE s2, .box [iA 11, iA 0, .ref 3], dE ([b5.mk 2 m []] ++ ([b5.mk k1 v1 s1] ++ ([b5.mk k2 v2 s2] ++ [])))] [(6, .ptr 2 0)] fun G => b7 (wp_ret ?_))))); exact O9 G [0, 1, 3]
 ·have q0 := dTt h0; exact False.elim (by omega)
theorem am1 (m k1 v1 k2 v2 : Int) (s1 s2 : List b5) : p6.ok Tryz.prog ⟨156, [iA m, .agg [iA k1, iA v1, .ref 0], .agg [iA k2, iA v2, .ref 1]], [dE s1, dE s2], [dE s1, dE s2, dE (B4 m ⟨k1, v1, s1⟩ ⟨k2, v2, s2⟩).kids], .agg [iA (B4 m ⟨k1, v1, s1⟩ ⟨k2, v2, s2⟩).kind, iA (B4 m ⟨k1, v1, s1⟩ ⟨k2, v2, s2⟩).value, .ref 2]⟩ := by
 by_cases hm : m < 0
 ·rw [bG6 hm]
  exact p6.dupPost (S := [dE s1, dE s2]) (d := .exprs s1) (i := 0) (bk1 m k1 v1 k2 v2 s1 s2 hm) rfl (bW6 _) rfl (fun ρ h => by
   have h : ρ 2 = ρ 0 := h
   simp only [AV.val, AV.vals, h]; rfl) rfl
 ·rw [bG5 hm]
  exact bk0 m k1 v1 k2 v2 s1 s2 hm
theorem ao0 (vs ars : List Int) (bd : List b6) (l : Int) (hl : vs.length ≤ 8000000) : p6.ok Tryz.prog ⟨202, [.agg [.ref 0, .ref 1, nlA, .ref 2], iA l], [qI vs, dI ars, qT bd], [qI vs, dI ars, qT bd, qI (vs ++ [l])], .tup [.agg [.ref 3, .ref 1, nlA, .ref 2], iA (vs.length : Int)]⟩ := by
 refine H9 22 Tryz.func202 [.row 3 (D.ints vs), dI ars, .row 106 (D.stmts bd)] [(0, .agg [.ref 0, .ref 1, .v (.slice none 0 0), .ref 2]), (1, iA l)] fun G => ?_; refine wp_seq (s4 G l6 [0, 1, 2, 3, 11] [.row 3 (D.ints vs), dI ars, .row 106 (D.stmts bd), .box [.ref 0, .ref 1, .v (.slice none 0 0), .ref 2], .box [.v (.slice none 0 0), .v (.slice none 0 0), .v (.slice none 0 0), .v (.slice none 0 0)]] [(1, iA l), (2, .ptr 3 0), (4, .ptr 4 0), (5, iA 0)] fun G => b7 (wp_seq (R6 G l6 [0, 1, 2, 3, 4, 61] [.row 3 (D.ints vs), dI ars, .row 106 (D.stmts bd), .box [.ref 5, .ref 1, .v (.slice none 0 0), .ref 2], .box [.v (.slice none 0 0), .v (.slice none 0 0), .v (.slice none 0 0), .v (.slice none 0 0)], .row 3 (D.ints ([] ++ vs ++ ([l] ++ [])))] [(2, .ptr 3 0), (4, .ptr 4 0), (5, iA 0)] (aP ((0 : Nat) + vs.length) 8 (aP (([] ++ vs).length + 1) 8 [])) (aK (by omega) (aK (by simp only [bV4, bV6, bV7]; omega) bW1)) fun G => b7 (wp_seq (P2 G l6 [0, 0, 2, 6, 14, 30, 1, 127] [0, 1, 2, 4, 5] [.row 3 (D.ints vs), dI ars, .row 106 (D.stmts bd), .box [.ref 4, .ref 1, .v (.slice none 0 0), .ref 2], .row 3 (D.ints ([] ++ vs ++ ([l] ++ [])))] [(4, .ptr 3 0), (5, iA ((([] ++ vs ++ ([l] ++ [])).length : Int) - 1))] [wO ((([] ++ vs ++ ([l] ++ [])).length : Int) - 1)] ⟨(w64 (by simp only [bV4, bV6, bV7]; omega) (by simp only [bV4, bV6, bV7]; omega)), bW1⟩ fun G => b7 (wp_ret ?_)))))); exact rxv (.tup [.agg [.ref 4, .ref 1, .v (.slice none 0 0), .ref 2], iA ((([] ++ vs ++ ([l] ++ [])).length : Int) - 1)]) G [0, 1, 2, 4] (by have e1 : ((vs.length : Int) : Int) = ((([] ++ vs ++ ([l] ++ [])).length : Int) - 1) := (by simp only [bV4, bV6, bV7]; omega); (first | rw [e1] | simp only [e1]) <;> rfl)
theorem V8 (vs ars : List Int) (bd : List b6) (v ky vy : Int) (ks : List b5) (hl : bd.length ≤ 800000) : p6.ok Tryz.prog ⟨155, [.agg [.ref 0, .ref 1, nlA, .ref 2], iA v, .agg [iA ky, iA vy, .ref 3]], [qI vs, dI ars, qT bd, dE ks], [qI vs, dI ars, .dead, dE ks, qT (bd ++ [O7 v ⟨ky, vy, ks⟩])], .agg [.ref 0, .ref 1, nlA, .ref 4]⟩ := by
 refine H9 16 Tryz.func155 [.row 3 (D.ints vs), dI ars, .row 106 (D.stmts bd), dE ks] [(0, .agg [.ref 0, .ref 1, .v (.slice none 0 0), .ref 2]), (1, iA v), (2, .agg [iA ky, iA vy, .ref 3])] fun G => ?_; refine wp_seq (s4 G l6 [0, 1, 2, 3, 4, 12, 20] [.row 3 (D.ints vs), dI ars, .row 106 (D.stmts bd), dE ks, .box [.ref 0, .ref 1, .v (.slice none 0 0), .ref 2], .box [iA ky, iA vy, .ref 3], .box [.v (.slice none 0 0), .v (.slice none 0 0), .v (.slice none 0 0), .v (.slice none 0 0)]] [(1, iA v), (3, .ptr 4 0), (5, .ptr 5 0), (6, .ptr 6 0)] fun G => b7 (wp_seq (R6 G l6 [0, 1, 2, 3, 4, 6, 55] [.row 3 (D.ints vs), dI ars, .dead, dE ks, .box [.ref 0, .ref 1, .v (.slice none 0 0), .ref 6], .box [.v (.slice none 0 0), .v (.slice none 0 0), .v (.slice none 0 0), .v (.slice none 0 0)], .row 106 (D.stmts (bd ++ ([b6.mk 1 v (b5.mk 0 0 []) (b5.mk ky vy ks) 0 [] []] ++ [])))] [(3, .ptr 4 0), (6, .ptr 5 0)] (aP (bd.length + 1) 152 []) (aK (by omega) bW1) fun G => b7 (wp_seq (s4 G l6 [0, 1, 2, 3, 5, 6] [.row 3 (D.ints vs), dI ars, .dead, dE ks, .box [.ref 0, .ref 1, .v (.slice none 0 0), .ref 5], .row 106 (D.stmts (bd ++ ([b6.mk 1 v (b5.mk 0 0 []) (b5.mk ky vy ks) 0 [] []] ++ [])))] [(6, .ptr 4 0)] fun G => b7 (wp_ret ?_)))))); exact O9 G [0, 1, 2, 3, 5]
def av4 (k v r : Int) : l7 := if k = 3 then ⟨4, r, v, r, 0⟩ else if k = 11 then ⟨7, r, r, r + 1, r + 2⟩ else ⟨6, r, k, r, r + 1⟩
mutual
def b9 : b5 → Int → List l7
 | ⟨k, v, ks⟩, r => if k = 1 then [⟨1, r, v, 0, 0⟩] else if k = 2 then [⟨2, r, v, 0, 0⟩] else m7 ks r ++ [av4 k v r]
def m7 : List b5 → Int → List l7
 | [], _ => []
 | e :: t, r => b9 e r ++ m7 t (r + 1)
end
theorem an6 (e : b5) (r : Int) : b9 e r = if e.kind = 1 then [⟨1, r, e.value, 0, 0⟩] else if e.kind = 2 then [⟨2, r, e.value, 0, 0⟩] else m7 e.kids r ++ [av4 e.kind e.value r] := by cases e; rw [b9]; rfl
theorem ap1 : ∀ (a b : List b5) (r : Int), m7 (a ++ b) r = m7 a r ++ m7 b (r + a.length)
 | [], b, r => by simp [m7]
 | e :: t, b, r => by
  simp only [List.cons_append, m7, bZ1]
  rw [ap1 t b (r + 1)]
  congr 2
  simp only [bV6]
  rw [show r + 1 + (t.length : Int) = r + ((t.length + 1 : Nat) : Int) by omega]
theorem aC0 {ks : List b5} {k : Nat} {r : Int} (hk : k < ks.length) : m7 (ks.take (k + 1)) r = m7 (ks.take k) r ++ b9 (ks.getD k bV3) (r + k) := by
 rw [m8 _ _ hk, ap1, A1 hk]
 simp [m7, List.length_take, Nat.min_eq_left (Nat.le_of_lt hk)]
mutual
theorem R7 : ∀ (e : b5) (r : Int), (b9 e r).length ≤ 1 + t2 e
 | ⟨k, v, ks⟩, r => by
  have h := aj2 ks r
  rw [b9]
  simp only [t2]
  split
  ·simp
  ·split
   ·simp
   ·simp only [bV4, bV6, bV7]; omega
theorem aj2 : ∀ (ks : List b5) (r : Int), (m7 ks r).length ≤ s6 ks
 | [], _ => by simp [m7]
 | e :: t, r => by
  have h1 := R7 e r
  have h2 := aj2 t (r + 1)
  simp only [m7, s6, bV4]; omega
end
abbrev K9 : Type := List l7 × List Int × Int
def G2 (x : K9) (n : Int) (c : List l7) : K9 := (x.1 ++ c, x.2.1 ++ bV5 c.length n, x.2.2)
def bk5 (l : List l7) (i : Nat) (n : Int) : List l7 := l.set i ⟨(l.getD i bV3).op, (l.getD i bV3).a, n, (l.getD i bV3).c, (l.getD i bV3).d⟩
def bJ3 (l : List l7) (i : Nat) (n : Int) : List l7 := l.set i ⟨(l.getD i bV3).op, n, (l.getD i bV3).b, (l.getD i bV3).c, (l.getD i bV3).d⟩
mutual
def U1 : b6 → Int → K9 → K9
 | ⟨k, t, i, v, c, b, e⟩, d, x =>
  if k = 4 then G2 (p7 b (d + 1) (G2 (x.1, x.2.1, x.2.2 + 1) x.2.2 [⟨1, 9 + d, c, 0, 0⟩])) x.2.2 [⟨10, 9 + d, ((x.1.length + 1 : Nat) : Int), 0, 0⟩]
  else if k = 1 then G2 (G2 (x.1, x.2.1, x.2.2 + 1) x.2.2 (b9 v 0)) x.2.2 [⟨3, t, 0, 0, 0⟩]
  else if k = 5 then G2 (G2 (G2 (x.1, x.2.1, x.2.2 + 1) x.2.2 (b9 v 0)) x.2.2 [⟨11, 0, 0, 0, 0⟩]) x.2.2 [⟨3, t, 0, 0, 0⟩]
  else if k = 2 then G2 (G2 (G2 (x.1, x.2.1, x.2.2 + 1) x.2.2 (b9 v 0)) x.2.2 (b9 i 1)) x.2.2 [⟨5, t, 1, 0, 0⟩]
  else
   (fun (y : K9) =>
    (fun (z : K9) =>
     (fun (u : K9) => (bJ3 u.1 (z.1.length - 1) (u.1.length : Int), u.2)) (p7 e (d + 1) (bk5 z.1 y.1.length (z.1.length : Int), z.2)))
    (G2 (p7 b (d + 1) (G2 y x.2.2 [⟨9, 0, 0, 0, 0⟩])) x.2.2 [⟨8, 0, 0, 0, 0⟩]))
   (G2 (x.1, x.2.1, x.2.2 + 1) x.2.2 (b9 v 0))
def p7 : List b6 → Int → K9 → K9
 | [], _, x => x
 | s :: r, d, x => p7 r d (U1 s d x)
end
theorem bc5 (a b : List b6) (d : Int) (x : K9) : p7 (a ++ b) d x = p7 b d (p7 a d x) := by
 induction a generalizing x with
 | nil => rfl
 | cons s r ih => simp only [List.cons_append, p7]; exact ih _
theorem X1 {ss : List b6} {k : Nat} {d : Int} {x : K9} (hk : k < ss.length) : p7 (ss.take (k + 1)) d x = U1 (ss.getD k bV3) d (p7 (ss.take k) d x) := by
 rw [m8 _ _ hk, bc5, A1 hk]
 simp [p7]
mutual
def bm4 : b6 → Nat
 | ⟨k, _, i, v, _, b, e⟩ => if k = 4 then 2 + aC5 b else if k = 1 then (b9 v 0).length + 1 else if k = 5 then (b9 v 0).length + 2 else if k = 2 then (b9 v 0).length + (b9 i 1).length + 1 else (b9 v 0).length + 2 + aC5 b + aC5 e
def aC5 : List b6 → Nat
 | [] => 0
 | s :: r => bm4 s + aC5 r
end
mutual
theorem bD6 : ∀ (s : b6) (d : Int) (x : K9), (U1 s d x).1.length = x.1.length + bm4 s ∧ (U1 s d x).2.1.length = x.2.1.length + bm4 s
 | ⟨k, t, i, v, c, b, e⟩, d, x => by
  rw [U1, bm4]
  split
  ·have h := N7 b (d + 1) (G2 (x.1, x.2.1, x.2.2 + 1) x.2.2 [⟨1, 9 + d, c, 0, 0⟩])
   simp only [G2, bV4, bV6, bV7, bW3] at h ⊢
   omega
  ·split
   ·simp only [G2, bV4, bV6, bV7, bW3]; omega
   ·split
    ·simp only [G2, bV4, bV6, bV7, bW3]; omega
    ·split
     ·simp only [G2, bV4, bV6, bV7, bW3]; omega
     ·simp only
      generalize hy : G2 (x.1, x.2.1, x.2.2 + 1) x.2.2 (b9 v 0) = y
      have hy1 : y.1.length = x.1.length + (b9 v 0).length := by rw [← hy]; simp [G2]
      have hy2 : y.2.1.length = x.2.1.length + (b9 v 0).length := by rw [← hy]; simp [G2]
      have h1 := N7 b (d + 1) (G2 y x.2.2 [⟨9, 0, 0, 0, 0⟩])
      generalize p7 b (d + 1) (G2 y x.2.2 [⟨9, 0, 0, 0, 0⟩]) = z at h1 ⊢
      have h2 := N7 e (d + 1) (bk5 (G2 z x.2.2 [⟨8, 0, 0, 0, 0⟩]).1 y.1.length ((G2 z x.2.2 [⟨8, 0, 0, 0, 0⟩]).1.length : Int), (G2 z x.2.2 [⟨8, 0, 0, 0, 0⟩]).2)
      simp only [G2, bJ3, bk5, bX3, bV4, bV6, bV7, bW3] at h1 h2 ⊢
      omega
theorem N7 : ∀ (ss : List b6) (d : Int) (x : K9), (p7 ss d x).1.length = x.1.length + aC5 ss ∧ (p7 ss d x).2.1.length = x.2.1.length + aC5 ss
 | [], _, _ => ⟨rfl, rfl⟩
 | s :: r, d, x => by
  have h1 := bD6 s d x
  have h2 := N7 r d (U1 s d x)
  rw [p7, aC5]
  omega
end
mutual
theorem bD5 : ∀ s : b6, bm4 s ≤ 4 + 4 * J4 s
 | ⟨k, t, i, v, c, b, e⟩ => by
  have h1 := R7 v 0
  have h2 := R7 i 1
  have h3 := Q7 b
  have h4 := Q7 e
  rw [bm4]
  simp only [J4]
  (repeat' split) <;> omega
theorem Q7 : ∀ ss : List b6, aC5 ss ≤ 4 * l8 ss
 | [] => bX5 _
 | s :: r => by
  have h1 := bD5 s
  have h2 := Q7 r
  simp only [aC5, l8]; omega
end
abbrev rN (l : List l7) : It := .row 86 (.instrs l)
abbrev rI (l : List Int) : It := .row 3 (.ints l)
theorem K0 (l : List l7) (fr : List Int) (at0 n o x y z u : Int) (h1 : l.length ≤ 8000000) (h2 : fr.length ≤ 8000000) : p6.ok Tryz.prog ⟨147, [.agg [.ref 0, .ref 1, iA at0], iA n, .agg [iA o, iA x, iA y, iA z, iA u]], [rN l, rI fr], [.dead, .dead, rN (l ++ [⟨o, x, y, z, u⟩]), rI (fr ++ [n])], .agg [.ref 2, .ref 3, iA at0]⟩ := by
 refine H9 20 Tryz.func147 [.row 86 (D.instrs l), .row 3 (D.ints fr)] [(0, .agg [.ref 0, .ref 1, iA at0]), (1, iA n), (2, .agg [iA o, iA x, iA y, iA z, iA u])] fun G => ?_; refine wp_seq (s4 G l6 [0, 1, 2, 10, 18] [.row 86 (D.instrs l), .row 3 (D.ints fr), .box [.ref 0, .ref 1, iA at0], .box [iA o, iA x, iA y, iA z, iA u], .box [.v (.slice none 0 0), .v (.slice none 0 0), iA 0]] [(1, iA n), (3, .ptr 2 0), (5, .ptr 3 0), (6, .ptr 4 0)] fun G => b7 (wp_seq (R6 G l6 [0, 1, 2, 4, 37] [.dead, .row 3 (D.ints fr), .box [.ref 4, .ref 1, iA at0], .box [.v (.slice none 0 0), .v (.slice none 0 0), iA 0], .row 86 (D.instrs (l ++ ([l7.mk o x y z u] ++ [])))] [(1, iA n), (3, .ptr 2 0), (6, .ptr 3 0)] (aP (l.length + 1) 40 []) (aK (by omega) bW1) fun G => b7 (wp_seq (R6 G l6 [0, 1, 2, 3, 4, 37] [.dead, .dead, .box [.ref 4, .ref 5, iA at0], .box [.v (.slice none 0 0), .v (.slice none 0 0), iA 0], .row 86 (D.instrs (l ++ ([l7.mk o x y z u] ++ []))), .row 3 (D.ints (fr ++ ([n] ++ [])))] [(3, .ptr 2 0), (6, .ptr 3 0)] (aP (fr.length + 1) 8 []) (aK (by omega) bW1) fun G => b7 (wp_seq (s4 G l6 [0, 1, 3, 4, 5] [.dead, .dead, .box [.ref 3, .ref 4, iA at0], .row 86 (D.instrs (l ++ ([l7.mk o x y z u] ++ []))), .row 3 (D.ints (fr ++ ([n] ++ [])))] [(6, .ptr 2 0)] fun G => b7 (wp_ret ?_)))))))); exact O9 G [0, 1, 3, 4]
abbrev l7C (l : List l7) (fr : List Int) (at0 n : Int) (e : b5) (reg : Int) : p6 := ⟨239, [.agg [.ref 0, .ref 1, iA at0], iA n, eA e 2, iA reg], [rN l, rI fr, dE e.kids], [.dead, .dead, dE e.kids, rN (l ++ b9 e reg), rI (fr ++ bV5 (b9 e reg).length n)], .agg [.ref 3, .ref 4, iA at0]⟩
theorem ce1 {e : b5} {r : Int} (k : e.kind = 1) : b9 e r = [⟨1, r, e.value, 0, 0⟩] := by rw [an6, if_pos k]
theorem ce2 {e : b5} {r : Int} (k : e.kind = 2) : b9 e r = [⟨2, r, e.value, 0, 0⟩] := by rw [an6, if_neg (by omega), if_pos k]
theorem am7 (ks : List b5) (k : Nat) : s6 (ks.take k) ≤ s6 ks ∧ (k < ks.length → s6 (ks.take k) + 1 + t2 (ks.getD k bV3) ≤ s6 ks) ∧ (ks.take k).length ≤ s6 (ks.take k) := by
 refine ⟨?_, fun h => ?_, P4 _⟩
 ·have := O2 (ks.take k) (ks.drop k)
  rw [List.take_append_drop] at this
  omega
 ·have h1 := O2 (ks.take (k + 1)) (ks.drop (k + 1))
  rw [List.take_append_drop, m8 _ _ h, O2, ← A1 (d := bV3) h] at h1
  simp only [s6] at h1
  omega
section
variable {e : b5} {l : List l7} {fr : List Int} {n reg : Int} {k : Nat}
theorem aT0 (e : b5) : t2 e = s6 e.kids := by cases e; rfl
theorem bx2 (h0 : 0 ≤ reg) (h1 : reg + t2 e ≤ 2000000) (hk : k < e.kids.length) : 0 ≤ reg + (k : Int) ∧ reg + (k : Int) + t2 (e.kids.getD k bV3) ≤ 2000000 := by
 have h2 := (am7 e.kids k).2.1 hk
 have h3 := (am7 e.kids k).2.2
 rw [List.length_take] at h3
 rw [aT0] at h1
 omega
theorem bx3 (h2 : l.length + t2 e ≤ 5000000) (hk : k < e.kids.length) : (l ++ m7 (e.kids.take k) reg).length + t2 (e.kids.getD k bV3) ≤ 5000000 := by
 have h3 := (am7 e.kids k).2.1 hk
 have h4 := aj2 (e.kids.take k) reg
 rw [aT0] at h2
 rw [bV4]
 omega
theorem K6 (h2 : l.length + t2 e ≤ 5000000) : (l ++ m7 (e.kids.take k) reg).length ≤ 5000000 := by
 have h3 := (am7 e.kids k).1
 have h4 := aj2 (e.kids.take k) reg
 rw [aT0] at h2
 rw [bV4]
 omega
theorem P1 (h3 : fr.length = l.length) : (fr ++ bV5 (m7 (e.kids.take k) reg).length n).length = (l ++ m7 (e.kids.take k) reg).length := by simp [h3]
theorem bh7 (hk : k < e.kids.length) : l ++ m7 (e.kids.take (k + 1)) reg = l ++ m7 (e.kids.take k) reg ++ b9 (e.kids.getD k bV3) (reg + (k : Int)) := by rw [aC0 hk, bZ1]
theorem a47 (hk : k < e.kids.length) : fr ++ bV5 (m7 (e.kids.take (k + 1)) reg).length n = fr ++ bV5 (m7 (e.kids.take k) reg).length n ++ bV5 (b9 (e.kids.getD k bV3) (reg + (k : Int))).length n := by
 rw [aC0 hk, bV4, bZ1, List.replicate_append_replicate]
theorem a46 : l = l ++ m7 (e.kids.take 0) reg := by simp [m7]
theorem aQ0 : fr = fr ++ bV5 (m7 (e.kids.take 0) reg).length n := by simp [m7]
theorem aA3 (k1 : ¬ e.kind = 1) (k2 : ¬ e.kind = 2) (hk : e.kids.length ≤ k) {x : l7} (hx : av4 e.kind e.value reg = x) : l ++ b9 e reg = l ++ m7 (e.kids.take k) reg ++ [x] := by
 rw [an6, if_neg k1, if_neg k2, bW5 hk, hx, bZ1]
theorem an7 (k1 : ¬ e.kind = 1) (k2 : ¬ e.kind = 2) (hk : e.kids.length ≤ k) : fr ++ bV5 (b9 e reg).length n = fr ++ bV5 (m7 (e.kids.take k) reg).length n ++ [n] := by
 rw [an6, if_neg k1, if_neg k2, bW5 hk, bZ1, bV4, bV6, bV7, List.replicate_succ']
theorem la3 (k : e.kind = 3) : av4 e.kind e.value reg = ⟨4, reg, e.value, reg, 0⟩ := by rw [av4, if_pos k]
theorem bP6 (k : e.kind = 11) : av4 e.kind e.value reg = ⟨7, reg, reg, reg + 1, reg + 2⟩ := by rw [av4, if_neg (by omega), if_pos k]
theorem la0 (k3 : ¬ e.kind = 3) (k : ¬ e.kind = 11) : av4 e.kind e.value reg = ⟨6, reg, e.kind, reg, reg + 1⟩ := by rw [av4, if_neg k3, if_neg k]
end
abbrev ae0 (e : b5) (l : List l7) (fr : List Int) (n : Int) (reg : Int) : List It := [.dead, .dead, dE e.kids, .row 86 (D.instrs (l ++ b9 e reg)), .row 3 (D.ints (fr ++ bV5 (b9 e reg).length n))]
abbrev aa4 (n : Int) (reg : Int) (r0 : List (Nat × AV)) : List (Nat × AV) := (1, iA n) :: (3, iA reg) :: (4, .ptr 3 0) :: (6, .ptr 4 0) :: (8, .ptr 5 0) :: r0
abbrev aR2 (e : b5) (at0 : Int) (r0 : List It) : List It := .dead :: .dead :: dE e.kids :: .box [.ref 6, .ref 7, iA at0] :: .box (eL e 2) :: .box [.v (.slice none 0 0), .v (.slice none 0 0), iA 0] :: r0
theorem bq3 (e : b5) (ih : ∀ (u : b5), u ∈ e.kids → ∀ (l : List l7) (fr : List Int) (at0 n reg : Int), 0 ≤ reg → reg + t2 u ≤ 2000000 → l.length + t2 u ≤ 5000000 → fr.length = l.length → p6.ok Tryz.prog (l7C l fr at0 n u reg)) (l : List l7) (fr : List Int) (at0 n reg : Int) (r0 : 0 ≤ reg) (r1 : reg + t2 e ≤ 2000000) (r2 : l.length + t2 e ≤ 5000000) (r3 : fr.length = l.length) : p6.ok Tryz.prog (l7C l fr at0 n e reg) := by
  refine H9 82 Tryz.func239 [.row 86 (D.instrs l), .row 3 (D.ints fr), dE e.kids] [(0, .agg [.ref 0, .ref 1, iA at0]), (1, iA n), (2, eA e 2), (3, iA reg)] fun G => ?_
  have hlen : e.kids.length ≤ t2 e := by cases e; exact P4 _
  refine wp_seq (s4 G l6 [0, 1, 2, 3, 11, 19] [.row 86 (D.instrs l), .row 3 (D.ints fr), dE e.kids, .box [.ref 0, .ref 1, iA at0], .box (eL e 2), .box [.v (.slice none 0 0), .v (.slice none 0 0), iA 0]] (aa4 n reg []) fun G => b7 (wp_seq (wp_seq (n9 G l6 [(11, iA e.kind)] fun G => b7 (wp_block (wp_seq (n9 G l6 [(12, bA (e.kind == 1))] fun G => b7 (rcE G (fun h0 q0 => ?_) fun h0 q0 => ?_))))))))
  ·
   refine wp_seq (n9 G l6 [(21, bA (e.kind == 2))] fun G => b7 (rcE G (fun h1 q1 => ?_) fun h1 q1 => ?_))
   ·
    refine wp_skip (w5 (b7 (wp_seq (wp_seq (J5 G l6 (aa4 n reg [(9, iA 0)]) fun G => b7 (wp_block ?_)))))); obtain ⟨ρ, G⟩ := G.shift 0 6 [.dead, .row 3 (D.ints fr), dE e.kids, .box [.ref 6, .ref 1, iA at0], .box (eL e 2), .box [.v (.slice none 0 0), .v (.slice none 0 0), iA 0], .row 86 (D.instrs l)] (aa4 n reg [(9, iA 0)]); obtain ⟨ρ, G⟩ := G.shift 1 7 (aR2 e at0 [.row 86 (D.instrs l), .row 3 (D.ints fr)]) (aa4 n reg [(9, iA 0)]); replace G := G.as (aR2 e at0 [.row 86 (D.instrs (l ++ m7 (bV9 0 e.kids) reg)), .row 3 (D.ints (fr ++ bV5 (m7 (bV9 0 e.kids) reg).length n))]) (aa4 n reg [(9, iA 0)]) (by have e1 : (l ++ m7 (bV9 0 e.kids) reg : List l7) = (l) := a46.symm; have e2 : (fr ++ bV5 (m7 (bV9 0 e.kids) reg).length n : List Int) = (fr) := aQ0.symm; (first | rw [e1, e2] | simp only [e1, e2]) <;> rfl) (by kernel_rfl); refine A3 (κ := Nat) (fun k => k ≤ e.kids.length) (fun k => e.kids.length - k) (fun k => [.dead, .dead, dE e.kids, .box [.ref 6, .ref 7, iA at0], .box (eL e 2), .box [.v (.slice none 0 0), .v (.slice none 0 0), iA 0], .row 86 (.instrs (l ++ m7 (e.kids.take k) reg)), .row 3 (.ints (fr ++ bV5 (m7 (e.kids.take k) reg).length n))]) (fun k => [(1, iA n), (3, iA reg), (4, .ptr 3 0), (6, .ptr 4 0), (8, .ptr 5 0), (9, iA k)]) 0 (by simp [h0, h1]) (A9.at G _ _) ?_; clear G; intro k ρ a w hp G; replace G := A9.at G (aR2 e at0 [.row 86 (D.instrs (l ++ m7 (bV9 k e.kids) reg)), .row 3 (D.ints (fr ++ bV5 (m7 (bV9 k e.kids) reg).length n))]) (aa4 n reg [(9, iA k)]); refine wp_seq (wp_seq (n9 G l6 [(34, bA (decide ((k : Int) < e.kids.length)))] fun G => b7 (rcD G (fun h2 q2 => ?_) fun h2 q2 => ?_)))
    ·
     refine wp_exit (A2 (A2 (w9 (b7 (wp_seq (wp_seq (n9 G l6 [(49, iA e.kind)] fun G => b7 (wp_block (wp_seq (n9 G l6 [(50, bA (e.kind == 3))] fun G => b7 (rcE G (fun h3 q3 => ?_) fun h3 q3 => ?_)))))))))))
     ·
      refine wp_seq (n9 G l6 [(60, bA (e.kind == 11))] fun G => b7 (rcE G (fun h4 q4 => ?_) fun h4 q4 => ?_))
      · refine wp_skip (w5 (b7 (wp_seq (R6 G (B5 9 [6, 7] (K0 (l ++ m7 (bV9 k e.kids) reg) (fr ++ bV5 (m7 (bV9 k e.kids) reg).length n) at0 n 6 reg e.kind reg (reg + 1) (by have := K6 (k := k) (reg := reg) r2; have := P1 (e := e) (n := n) (k := k) (reg := reg) r3; omega) (by have := K6 (k := k) (reg := reg) r2; have := P1 (e := e) (n := n) (k := k) (reg := reg) r3; omega))) [0, 1, 2, 5, 80, 81] [.dead, .dead, dE e.kids, .box [.ref 4, .ref 5, iA at0], .row 86 (D.instrs (l ++ m7 (bV9 k e.kids) reg ++ [l7.mk 6 reg e.kind reg (reg + 1)])), .row 3 (D.ints (fr ++ bV5 (m7 (bV9 k e.kids) reg).length n ++ [n]))] [(8, .ptr 3 0)] [wO (reg + 1)] (o1 (by omega)) fun G => b7 (wp_ret ?_))))); exact O9 G [0, 1, 2, 4, 5] (by show _ = mR [0, 1, 2, 4, 5] (ae0 e l fr n reg); unfold ae0; have e1 : (l ++ b9 e reg : List l7) = (l ++ m7 (bV9 k e.kids) reg ++ [l7.mk 6 reg e.kind reg (reg + 1)]) := (aA3 (by omega) (by omega) (by omega) (la0 (by omega) (by omega))); have e2 : (fr ++ bV5 (b9 e reg).length n : List Int) = (fr ++ bV5 (m7 (bV9 k e.kids) reg).length n ++ [n]) := (an7 (by omega) (by omega) (by omega)); (first | rw [e1, e2] | simp only [e1, e2]) <;> rfl)
      · refine wp_seq (R6 G (B5 9 [6, 7] (K0 (l ++ m7 (bV9 k e.kids) reg) (fr ++ bV5 (m7 (bV9 k e.kids) reg).length n) at0 n 7 reg reg (reg + 1) (reg + 2) (by have := K6 (k := k) (reg := reg) r2; have := P1 (e := e) (n := n) (k := k) (reg := reg) r3; omega) (by have := K6 (k := k) (reg := reg) r2; have := P1 (e := e) (n := n) (k := k) (reg := reg) r3; omega))) [0, 1, 2, 3, 4, 5, 6, 7, 80, 81] [.dead, .dead, dE e.kids, .box [.ref 6, .ref 7, iA at0], .box (eL e 2), .box [.ref 8, .ref 9, iA at0], .dead, .dead, .row 86 (D.instrs (l ++ m7 (bV9 k e.kids) reg ++ [l7.mk 7 reg reg (reg + 1) (reg + 2)])), .row 3 (D.ints (fr ++ bV5 (m7 (bV9 k e.kids) reg).length n ++ [n]))] (aa4 n reg []) [wO (reg + 1), wO (reg + 2)] (o2 (by omega)) fun G => b7 (wp_ret (M8 (t6 ?_)))); exact O9 G [0, 1, 2, 8, 9] (by show _ = mR [0, 1, 2, 8, 9] (ae0 e l fr n reg); unfold ae0; have e1 : (l ++ b9 e reg : List l7) = (l ++ m7 (bV9 k e.kids) reg ++ [l7.mk 7 reg reg (reg + 1) (reg + 2)]) := (aA3 (by omega) (by omega) (by omega) (bP6 (by omega))); have e2 : (fr ++ bV5 (b9 e reg).length n : List Int) = (fr ++ bV5 (m7 (bV9 k e.kids) reg).length n ++ [n]) := (an7 (by omega) (by omega) (by omega)); (first | rw [e1, e2] | simp only [e1, e2]) <;> rfl)
     · refine wp_seq (s4 G (B5 7 [6, 7] (K0 (l ++ m7 (bV9 k e.kids) reg) (fr ++ bV5 (m7 (bV9 k e.kids) reg).length n) at0 n 4 reg e.value reg 0 (by have := K6 (k := k) (reg := reg) r2; have := P1 (e := e) (n := n) (k := k) (reg := reg) r3; omega) (by have := K6 (k := k) (reg := reg) r2; have := P1 (e := e) (n := n) (k := k) (reg := reg) r3; omega))) [0, 1, 2, 3, 4, 5, 6, 7, 64, 65] [.dead, .dead, dE e.kids, .box [.ref 6, .ref 7, iA at0], .box (eL e 2), .box [.ref 8, .ref 9, iA at0], .dead, .dead, .row 86 (D.instrs (l ++ m7 (bV9 k e.kids) reg ++ [l7.mk 4 reg e.value reg 0])), .row 3 (D.ints (fr ++ bV5 (m7 (bV9 k e.kids) reg).length n ++ [n]))] (aa4 n reg []) fun G => b7 (wp_ret (M8 (t6 ?_)))); exact O9 G [0, 1, 2, 8, 9] (by show _ = mR [0, 1, 2, 8, 9] (ae0 e l fr n reg); unfold ae0; have e1 : (l ++ b9 e reg : List l7) = (l ++ m7 (bV9 k e.kids) reg ++ [l7.mk 4 reg e.value reg 0]) := (aA3 (by omega) (by omega) (by omega) (la3 (by omega))); have e2 : (fr ++ bV5 (b9 e reg).length n : List Int) = (fr ++ bV5 (m7 (bV9 k e.kids) reg).length n ++ [n]) := (an7 (by omega) (by omega) (by omega)); (first | rw [e1, e2] | simp only [e1, e2]) <;> rfl)
    · refine wp_skip (b7 (wp_seq (wp_block (P2 G (B5 10 [6, 7, 56] (ih (e.kids.getD k bV3) (af9 (by omega)) (l ++ m7 (bV9 k e.kids) reg) (fr ++ bV5 (m7 (bV9 k e.kids) reg).length n) at0 n (reg + (k : Int)) (by have := K6 (k := k) (reg := reg) r2; have := P1 (e := e) (n := n) (k := k) (reg := reg) r3; omega) ((bx2 r0 r1 (by omega)).2) (bx3 r2 (by omega)) (P1 r3))) [0, 0, 0, 4, 0, 28, 60, 0, 0, 384, 1023, 2047] [0, 1, 2, 3, 4, 5, 88, 89] (aR2 e at0 [.row 86 (D.instrs (l ++ m7 (bV9 k e.kids) reg ++ b9 (e.kids.getD k bV3) (reg + (k : Int)))), .row 3 (D.ints (fr ++ bV5 (m7 (bV9 k e.kids) reg).length n ++ bV5 (b9 (e.kids.getD k bV3) (reg + (k : Int))).length n))]) (aa4 n reg [(9, iA k)]) (iX k k e.kids.length ((wO (reg + (k : Int))) :: [])) (iK (by have := K6 (k := k) (reg := reg) r2; have := P1 (e := e) (n := n) (k := k) (reg := reg) r3; omega) (o1 (by omega))) fun G => w5 (b7 (J2 G l6 [(9, iA ((k : Int) + 1))] [wO ((k : Int) + 1)] (o1 (by omega)) fun G => b7 ?_)))))); exact Y3 G (k + 1) (by have := K6 (k := k) (reg := reg) r2; have := P1 (e := e) (n := n) (k := k) (reg := reg) r3; omega) (by have := K6 (k := k) (reg := reg) r2; have := P1 (e := e) (n := n) (k := k) (reg := reg) r3; omega) (rg 8) (by have e1 : (l ++ m7 (bV9 (k + 1) e.kids) reg : List l7) = (l ++ m7 (bV9 k e.kids) reg ++ b9 (e.kids.getD k bV3) (reg + (k : Int))) := (bh7 (by omega)); have e2 : (fr ++ bV5 (m7 (bV9 (k + 1) e.kids) reg).length n : List Int) = (fr ++ bV5 (m7 (bV9 k e.kids) reg).length n ++ bV5 (b9 (e.kids.getD k bV3) (reg + (k : Int))).length n) := (a47 (by omega)); (first | rw [e1, e2] | simp only [e1, e2]) <;> rfl)
   · refine wp_seq (s4 G (B5 6 [0, 1] (K0 l fr at0 n 2 reg e.value 0 0 (by omega) (by omega))) [0, 1, 2, 3, 4, 5, 54, 55] [.dead, .dead, dE e.kids, .box [.ref 0, .ref 1, iA at0], .box (eL e 2), .box [.ref 6, .ref 7, iA at0], .row 86 (D.instrs (l ++ [l7.mk 2 reg e.value 0 0])), .row 3 (D.ints (fr ++ [n]))] (aa4 n reg []) fun G => b7 (wp_ret (M8 (t6 ?_)))); exact O9 G [0, 1, 2, 6, 7] (by show _ = mR [0, 1, 2, 6, 7] (ae0 e l fr n reg); unfold ae0; rw [ce2 (by omega)] <;> rfl)
  · refine wp_seq (s4 G (B5 6 [0, 1] (K0 l fr at0 n 1 reg e.value 0 0 (by omega) (by omega))) [0, 1, 2, 3, 4, 5, 54, 55] [.dead, .dead, dE e.kids, .box [.ref 0, .ref 1, iA at0], .box (eL e 2), .box [.ref 6, .ref 7, iA at0], .row 86 (D.instrs (l ++ [l7.mk 1 reg e.value 0 0])), .row 3 (D.ints (fr ++ [n]))] (aa4 n reg []) fun G => b7 (wp_ret (M8 (t6 ?_)))); exact O9 G [0, 1, 2, 6, 7] (by show _ = mR [0, 1, 2, 6, 7] (ae0 e l fr n reg); unfold ae0; rw [ce1 (by omega)] <;> rfl)
theorem a53 (e : b5) : ∀ (l : List l7) (fr : List Int) (at0 n reg : Int), 0 ≤ reg → reg + t2 e ≤ 2000000 → l.length + t2 e ≤ 5000000 → fr.length = l.length → p6.ok Tryz.prog (l7C l fr at0 n e reg) :=
 b5.ind (P := fun e => ∀ (l : List l7) (fr : List Int) (at0 n reg : Int), 0 ≤ reg → reg + t2 e ≤ 2000000 → l.length + t2 e ≤ 5000000 → fr.length = l.length → p6.ok Tryz.prog (l7C l fr at0 n e reg)) (fun k v ks ih l fr at0 n reg r0 r1 r2 r3 => bq3 ⟨k, v, ks⟩ (fun u hu => ih u hu) l fr at0 n reg r0 r1 r2 r3) e
end Go.Proofs.YthikdkjjdeehoaaGreat
