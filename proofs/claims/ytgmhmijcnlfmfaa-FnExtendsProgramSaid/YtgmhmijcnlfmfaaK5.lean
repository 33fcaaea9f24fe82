/- Part 5: functions on the way, plain laws. Conditions: as said. -/
import Derived.WalkSpells
import Derived.Lib.SliceRun
import Derived.Test.YtgmhmijcnlfmfaaK1
import Derived.Test.YtgmhmijcnlfmfaaK3
import Derived.Test.YtgmhmijcnlfmfaaK4
set_option maxRecDepth 100000
set_option maxHeartbeats 16000000
set_option linter.unusedVariables false
set_option linter.unusedSimpArgs false
open Bool renaming and_eq_false_iff → bN9, and_eq_true → bL3, and_eq_true_iff → bO2, not_eq_false' → bM1, not_eq_true' → bL9
open Inhabited renaming default → bL2
open Int renaming mul_le_mul_of_nonneg_right → bP1
open List renaming all_eq_true → bL7, eq_nil_of_length_eq_zero → bN7, getD_eq_getElem?_getD → bL4, getElem?_append_left → bN2, getElem?_append_right → bP2, getElem?_eq_getElem → bL5, getElem?_eq_none → bM8, getElem_mem → bN6, length_append → bM3, length_cons → bM2, length_nil → bN8, map_cons → bO4, mem_append → bN1, mem_cons → bO6, mem_cons_of_mem → bN4, mem_cons_self → bM7, mem_of_getElem? → bN3, mem_singleton → bO0, range → bM9, replicate → bN0, take → bL8, take_of_length_le → bM5
open Nat renaming le_refl → bM4, le_trans → bN5, lt_or_ge → bO5, mul_le_mul_right → bO7, zero_le → bO9
open Option renaming isSome_iff_exists → bP0
open True renaming intro → bM6

namespace Go.Proofs.Ytgmhmijcnlfmfaa
open Go Go.RowKit
def w7 (F : Nat → b6 → Int × Nat) : Nat → List b6 → Int × Nat
 | c, [] => (0, c)
 | c, s :: r => if (F c s).1 = 0 then w7 F (F c s).2 r else F c s
def X1 (p : b8) (s : b6) (pc : Int) : Int := if s.kind = 3 then f8 pc (i6 p s.value) else pc
def stC (p : b8) (strict : Bool) : Nat → Int → Nat → b6 → Int × Nat
  | 0, _, c, _ => (0, c)
  | d + 1, pc, c, s => if M8 p s pc strict = 0 then
      (if (w7 (stC p strict d (X1 p s pc)) (c + 1) s.body).1 = 0 then w7 (stC p strict d (X1 p s pc)) (w7 (stC p strict d (X1 p s pc)) (c + 1) s.body).2 s.els
       else w7 (stC p strict d (X1 p s pc)) (c + 1) s.body)
    else (M8 p s pc strict, c)
abbrev l7 (p : b8) (strict : Bool) (d : Nat) (pc : Int) (c : Nat) (ss : List b6) : Int × Nat := w7 (stC p strict d pc) c ss
theorem T1 (F : Nat → b6 → Int × Nat) : ∀ (a b : List b6) (c : Nat), w7 F c (a ++ b) = if (w7 F c a).1 = 0 then w7 F (w7 F c a).2 b else w7 F c a
 | [], b, c => by simp [w7]
 | x :: r, b, c => by
  simp only [List.cons_append, w7]
  by_cases h : (F c x).1 = 0
  ·simp only [h, if_true]; exact T1 F r b _
  ·simp [h]
theorem M0 {F : Nat → b6 → Int × Nat} {c k : Nat} {ss : List b6} (h : (w7 F c (ss.take k)).1 = 0) (hk : k < ss.length) : w7 F c (ss.take (k + 1)) = F (w7 F c (ss.take k)).2 (ss.getD k bL2) := by
 rw [j9 _ _ hk, T1, if_pos h, i9 hk]
 simp only [w7]
 split
 ·rename_i h; exact Prod.ext h.symm rfl
 ·rfl
theorem x3 {F : Nat → b6 → Int × Nat} {c k : Nat} {ss : List b6} (h : (w7 F c (ss.take k)).1 = 0) (hk : k < ss.length) (hf : ¬ (F (w7 F c (ss.take k)).2 (ss.getD k bL2)).1 = 0) : w7 F c ss = F (w7 F c (ss.take k)).2 (ss.getD k bL2) := by
 conv => lhs; rw [← List.take_append_drop (k + 1) ss]
 rw [T1, M0 h hk, if_neg hf]
theorem at7 {F : Nat → b6 → Int × Nat} {c k : Nat} {ss : List b6} (hk : ss.length ≤ k) : w7 F c ss = w7 F c (ss.take k) := by rw [bM5 hk]
theorem ag1 {F : Nat → b6 → Int × Nat} (hF : ∀ c s, (F c s).2 ≤ c + nS s) : ∀ (ss : List b6) (c : Nat), (w7 F c ss).2 ≤ c + K5 ss
 | [], c => by simp [w7]
 | s :: r, c => by
  simp only [w7, K5]
  have h1 := hF c s
  have h2 := ag1 hF r (F c s).2
  split <;> omega
theorem aQ2 {p : b8} {strict : Bool} : ∀ (d : Nat) (pc : Int) (c : Nat) (s : b6), (stC p strict d pc c s).2 ≤ c + nS s
 | 0, _, c, s => by simp [stC]
 | d + 1, pc, c, s => by
  have hs := ai5 s
  have h1 := ag1 (aQ2 (p := p) (strict := strict) d (X1 p s pc)) s.body (c + 1)
  have h2 := ag1 (aQ2 (p := p) (strict := strict) d (X1 p s pc)) s.els (w7 (stC p strict d (X1 p s pc)) (c + 1) s.body).2
  rw [stC]
  split
  ·split <;> omega
  ·simp only; omega
theorem aU9 {p : b8} {strict : Bool} {d : Nat} {pc : Int} {c : Nat} {ss : List b6} : (l7 p strict d pc c ss).2 ≤ c + K5 ss := ag1 (aQ2 d pc) ss c
theorem F8 {nv na d k : Nat} {ss : List b6} (hs : ss.all (c8 nv na (d + 1)) = true) (hk : k < ss.length) : s6 nv na (ss.getD k bL2) = true ∧ (ss.getD k bL2).body.all (c8 nv na d) = true ∧ (ss.getD k bL2).els.all (c8 nv na d) = true := by
 have h := bL7.1 hs _ (bN6 hk)
 rw [G3, bL3, bL3] at h
 rw [i9 hk]; exact h
theorem bq2 {k : Nat} {ss : List b6} (hk : k < ss.length) : K5 (ss.take k) + (1 + K5 (ss.getD k bL2).body + K5 (ss.getD k bL2).els) ≤ K5 ss := by
 have h1 := a31 hk
 have h2 := aK0 ss (k + 1)
 rw [ai5] at h1
 rw [i9 hk]; omega
section
variable {p : b8} {strict : Bool} {d c : Nat} {pc : Int} {s : b6}
theorem am5 (h : ¬ M8 p s pc strict = 0) : stC p strict (d + 1) pc c s = (M8 p s pc strict, c) := by rw [stC, if_neg h]
theorem H2 {x : Int} (h : M8 p s pc strict = 0) (hx : X1 p s pc = x) (h2 : ¬ (l7 p strict d x (c + 1) s.body).1 = 0) : stC p strict (d + 1) pc c s = l7 p strict d x (c + 1) s.body := by
 subst hx; rw [stC, if_pos h, if_neg h2]
theorem D5 {x : Int} (h : M8 p s pc strict = 0) (hx : X1 p s pc = x) (h2 : (l7 p strict d x (c + 1) s.body).1 = 0) : stC p strict (d + 1) pc c s = l7 p strict d x (l7 p strict d x (c + 1) s.body).2 s.els := by
 subst hx; rw [stC, if_pos h, if_pos h2]
theorem O9 (k : s.kind = 3) : X1 p s pc = f8 pc (i6 p s.value) := if_pos k
theorem O8 (k : ¬ s.kind = 3) : X1 p s pc = pc := if_neg k
end
theorem au9 {p : b8} {strict : Bool} {d k c : Nat} {pc : Int} {ss : List b6} (hc : c + K5 ss ≤ 4000000) (hk : k < ss.length) : (l7 p strict (d + 1) pc c (ss.take k)).2 + 1 + K5 (ss.getD k bL2).body ≤ 4000000 := by
 have h1 := bq2 (k := k) (ss := ss) hk
 have h2 := aU9 (p := p) (strict := strict) (d := d + 1) (pc := pc) (c := c) (ss := ss.take k)
 omega
theorem az9 {p : b8} {strict : Bool} {d k c : Nat} {pc x : Int} {ss : List b6} (hc : c + K5 ss ≤ 4000000) (hk : k < ss.length) : (l7 p strict d x ((l7 p strict (d + 1) pc c (ss.take k)).2 + 1) (ss.getD k bL2).body).2 + K5 (ss.getD k bL2).els ≤ 4000000 := by
 have h1 := bq2 (k := k) (ss := ss) hk
 have h2 := aU9 (p := p) (strict := strict) (d := d + 1) (pc := pc) (c := c) (ss := ss.take k)
 have h3 := aU9 (p := p) (strict := strict) (d := d) (pc := x) (c := (l7 p strict (d + 1) pc c (ss.take k)).2 + 1) (ss := (ss.getD k bL2).body)
 omega
theorem bn1 {p : b8} {strict : Bool} {d k c : Nat} {pc : Int} {ss : List b6} (hc : c + K5 ss ≤ 4000000) (hk : k < ss.length) : IntKind.i64.wrap (((l7 p strict (d + 1) pc c (ss.take k)).2 : Int) + 1) = ((l7 p strict (d + 1) pc c (ss.take k)).2 : Int) + 1 := by
 have h1 := au9 (p := p) (strict := strict) (d := d) (pc := pc) hc hk
 exact w64 (by omega) (by omega)
abbrev bn0 (p : b8) (d : Nat) (ss : List b6) (pc : Int) (c : Nat) (strict : Bool) : d8 := E0 236 [pA 0, .ref 3, iA pc, iA c, bA strict] (pS p ++ [.dat (.stmts ss)]) (.tup [iA (l7 p strict d pc c ss).1, iA (l7 p strict d pc c ss).2])
theorem aU0 (p : b8) (pc : Int) (c : Nat) (strict : Bool) : d8.ok Try.prog (bn0 p 0 [] pc c strict) := by
 refine x6 74 Try.func236 [dI p.vars, dI p.arrays, dT p.body, dT []] [(0, pA 0), (1, .ref 3), (2, iA pc), (3, iA c), (4, bA strict)] fun G => ?_; refine wp_seq (e6 G c4 (rg 5) [dI p.vars, dI p.arrays, dT p.body, dT [], .box (pL 0)] [(1, .ref 3), (2, iA pc), (3, iA c), (4, bA strict), (5, .ptr 4 0), (10, iA 0), (11, iA 0)] fun G => b5 (wp_seq (wp_seq (B7 G c4 [(1, .ref 3), (2, iA pc), (3, iA c), (4, bA strict), (5, .ptr 4 0), (10, iA 0), (11, iA 0), (12, iA 0)] fun G => b5 (wp_block ?_))))); refine m6 (κ := Nat) (fun k => k = 0) (fun k => 0) (fun k => [dI p.vars, dI p.arrays, dT p.body, dT [], .box (pL 0)]) (fun k => [(1, .ref 3), (2, iA pc), (3, iA c), (4, bA strict), (5, .ptr 4 0), (10, iA 0), (11, iA 0), (12, iA 0)]) 0 (by kernel_rfl) (m8.at G _ _) ?_; clear G; intro k ρ a w hp G; refine wp_seq (wp_seq (d9 G c4 [(19, bA false)] fun G => b5 (rF G false (by kernel_rfl) (wp_exit (l8 (l8 (l5 (b5 (wp_seq (e6 G c4 (rg 4) [dI p.vars, dI p.arrays, dT p.body, dT []] [(10, iA 0), (11, iA c)] fun G => b5 (wp_ret ?_))))))))))); exact C4 G (rg 4)
abbrev aa2 (p : b8) (d : Nat) (strict : Bool) (ss : List b6) (pc : Int) (c : Nat) (k : Nat) := l7 p strict d (f8 pc (i6 p (ss.getD k bL2).value)) ((l7 p strict (d + 1) pc c (bL8 k ss)).snd + 1) (ss.getD k bL2).body
abbrev N1 (p : b8) (d : Nat) (strict : Bool) (ss : List b6) (pc : Int) (c : Nat) (k : Nat) := l7 p strict d pc ((l7 p strict (d + 1) pc c (bL8 k ss)).snd + 1) (ss.getD k bL2).body
abbrev aG7 (p : b8) (d : Nat) (strict : Bool) (ss : List b6) (pc : Int) (c : Nat) (k : Nat) := l7 p strict d (f8 pc (i6 p (ss.getD k bL2).value)) (aa2 p d strict ss pc c k).snd (ss.getD k bL2).els
abbrev aw4 (strict : Bool) (k : Nat) (r0 : List (Nat × AV)) : List (Nat × AV) := (4, bA strict) :: (5, .ptr 4 0) :: (10, iA 0) :: (11, iA 0) :: (12, iA (k : Int)) :: r0
abbrev ao3 (p : b8) (ss : List b6) (r0 : List It) : List It := dI p.vars :: dI p.arrays :: dT p.body :: dT ss :: .box (pL 0) :: r0
theorem aT8 (p : b8) (d : Nat) (strict : Bool) (ih : ∀ (ss : List b6) (pc : Int) (c : Nat), ss.all (c8 p.vars.length p.arrays.length d) = true → c + K5 ss ≤ 4000000 → d8.ok Try.prog (bn0 p d ss pc c strict))
    (ss : List b6) (pc : Int) (c : Nat) (hs : ss.all (c8 p.vars.length p.arrays.length (d + 1)) = true) (hc : c + K5 ss ≤ 4000000) : d8.ok Try.prog (bn0 p (d + 1) ss pc c strict) := by
  refine x6 74 Try.func236 [dI p.vars, dI p.arrays, dT p.body, dT ss] [(0, pA 0), (1, .ref 3), (2, iA pc), (3, iA c), (4, bA strict)] fun G => ?_; have hlen : ss.length ≤ 9223372036854775807 := G.len 3 (d := .stmts ss) (by kernel_rfl); refine wp_seq (e6 G c4 (rg 5) (ao3 p ss []) [(1, .ref 3), (2, iA pc), (3, iA c), (4, bA strict), (5, .ptr 4 0), (10, iA 0), (11, iA 0)] fun G => b5 (wp_seq (wp_seq (B7 G c4 [(1, .ref 3), (2, iA pc), (3, iA c), (4, bA strict), (5, .ptr 4 0), (10, iA 0), (11, iA 0), (12, iA 0)] fun G => b5 (wp_block ?_))))); refine m6 (κ := Nat) (fun k => k ≤ ss.length ∧ (l7 p strict (d + 1) pc c (ss.take k)).1 = 0) (fun k => ss.length - k) (fun k => [dI p.vars, dI p.arrays, dT p.body, dT ss, .box (pL 0)]) (fun k => [(1, .ref 3), (2, iA pc), (3, iA (l7 p strict (d + 1) pc c (ss.take k)).2), (4, bA strict), (5, .ptr 4 0), (10, iA 0), (11, iA 0), (12, iA k)]) 0 (⟨bO9 _, rfl⟩) (m8.at G _ _) ?_; clear G; intro k ρ a w hp G; replace G := m8.at G (ao3 p ss []) ((1, .ref 3) :: (2, iA pc) :: (3, iA ((l7 p strict (d + 1) pc c (bL8 k ss)).snd : Int)) :: (aw4 strict k [])); refine wp_seq (wp_seq (d9 G c4 [(19, bA (decide ((k : Int) < ss.length)))] fun G => b5 (M7 G (fun h0 q0 => ?_) fun h0 q0 => ?_)))
  · refine wp_exit (l8 (l8 (l5 (b5 (wp_seq (e6 G c4 (rg 4) [dI p.vars, dI p.arrays, dT p.body, dT ss] [(10, iA 0), (11, iA ((l7 p strict (d + 1) pc c (bL8 k ss)).snd : Int))] fun G => b5 (wp_ret ?_))))))); exact U5 (.tup [iA 0, iA ((l7 p strict (d + 1) pc c (bL8 k ss)).snd : Int)]) G (rg 4) (by have e1 : ((l7 p strict (d + 1) pc c ss).fst : Int) = (0) := (by rw [l7, at7 (k := k) (by omega)]; exact hp.2); have e2 : (((l7 p strict (d + 1) pc c ss).snd : Int) : Int) = (((l7 p strict (d + 1) pc c (bL8 k ss)).snd : Int)) := (by rw [l7, at7 (k := k) (by omega)]); (first | rw [e1, e2] | simp only [e1, e2]) <;> rfl)
  ·
   refine wp_skip (b5 (wp_seq (wp_block (wp_seq (S4 G c4 [0, 1, 2, 3, 4, 29, 30, 31, 32, 37] (ao3 p ss [dE (ss.getD k bL2).index.kids, dE (ss.getD k bL2).value.kids, dT (ss.getD k bL2).body, dT (ss.getD k bL2).els, .box (sL (ss.getD k bL2) 5)]) ((1, .ref 3) :: (2, iA pc) :: (3, iA ((l7 p strict (d + 1) pc c (bL8 k ss)).snd : Int)) :: (aw4 strict k [(13, .ptr 9 0)])) (iX k k ss.length []) (iK (by omega) bM6) fun G => b5 (wp_seq (d9 G (o9 4 [0, 1, 2, 5, 6, 7, 8] (bm7 p (ss.getD k bL2) pc strict ((F8 hs (by omega)).1))) [(14, iA (M8 p (ss.getD k bL2) pc strict))] fun G => b5 (wp_seq (wp_seq (d9 G c4 [(32, bA (M8 p (ss.getD k bL2) pc strict != 0))] fun G => b5 (rcN G (fun h1 q1 => ?_) fun h1 q1 => ?_)))))))))))
   ·
    refine wp_skip (b5 (wp_seq (C8 G c4 [(3, iA (((l7 p strict (d + 1) pc c (bL8 k ss)).snd : Int) + 1))] [wO (((l7 p strict (d + (1 : Nat)) pc c (bL8 k ss)).snd : Int) + 1)] ⟨(bn1 hc (by omega)), bM6⟩ fun G => b5 (wp_seq (d9 G c4 [(15, iA pc)] fun G => b5 (wp_seq (wp_seq (d9 G c4 [(40, bA ((ss.getD k bL2).kind == 3))] fun G => b5 (I7 G (fun h2 q2 => ?_) fun h2 q2 => ?_)))))))))
    ·
     refine wp_skip (b5 (wp_seq (d9 G (o9 6 [0, 1, 2, 7] (ih ((ss.getD k bL2).body) pc ((l7 p strict (d + 1) pc c (bL8 k ss)).snd + 1) ((F8 hs (by omega)).2.1) (au9 hc (by omega)))) [(3, iA ((N1 p d strict ss pc c k).snd : Int)), (14, iA (N1 p d strict ss pc c k).fst)] fun G => b5 (wp_seq (wp_seq (d9 G c4 [(58, bA ((N1 p d strict ss pc c k).fst == 0))] fun G => b5 (I7 (u := ((l7 p strict d pc ((l7 p strict (d + (1 : Nat)) pc c (bL8 k ss)).snd + (1 : Nat)) (ss.getD k bL2).body).fst)) (v := (0 : Int)) G (fun h3 q3 => ?_) fun h3 q3 => ?_)))))))
     ·
      refine wp_skip (b5 (wp_seq (e6 G c4 (rg 5) (ao3 p ss []) ((1, .ref 3) :: (2, iA pc) :: (3, iA ((N1 p d strict ss pc c k).snd : Int)) :: (aw4 strict k [(14, iA (N1 p d strict ss pc c k).fst), (70, bA ((N1 p d strict ss pc c k).fst != 0))])) fun G => b5 ?_))); cases h4 : ((l7 p strict d pc ((l7 p strict (d + (1 : Nat)) pc c (bL8 k ss)).snd + (1 : Nat)) (ss.getD k bL2).body).fst != 0)
      · have q4 := bne_eq_false_iff_eq.1 h4; exact False.elim (by omega)
      · have q4 := bne_iff_ne.1 h4; refine rT G _ h4 (wp_seq (d9 G c4 [(10, iA (N1 p d strict ss pc c k).fst), (11, iA ((N1 p d strict ss pc c k).snd : Int))] fun G => b5 (wp_ret (r7 (d7 (d7 (r7 (d7 ?_)))))))); exact U5 (.tup [iA (l7 p strict d pc ((l7 p strict (d + 1) pc c (bL8 k ss)).snd + 1) (ss.getD k bL2).body).fst, iA ((l7 p strict d pc ((l7 p strict (d + 1) pc c (bL8 k ss)).snd + 1) (ss.getD k bL2).body).snd : Int)]) G (rg 4) (by have e1 : ((l7 p strict (d + 1) pc c ss).fst : Int) = ((l7 p strict d pc ((l7 p strict (d + 1) pc c (bL8 k ss)).snd + 1) (ss.getD k bL2).body).fst) := (by rw [l7, x3 hp.2 (by omega) (by rw [H2 (by with_reducible assumption) (O8 (by with_reducible assumption)) (by with_reducible assumption)]; with_reducible assumption), H2 (by with_reducible assumption) (O8 (by with_reducible assumption)) (by with_reducible assumption)]); have e2 : (((l7 p strict (d + 1) pc c ss).snd : Int) : Int) = (((l7 p strict d pc ((l7 p strict (d + 1) pc c (bL8 k ss)).snd + 1) (ss.getD k bL2).body).snd : Int)) := (by rw [l7, x3 hp.2 (by omega) (by rw [H2 (by with_reducible assumption) (O8 (by with_reducible assumption)) (by with_reducible assumption)]; with_reducible assumption), H2 (by with_reducible assumption) (O8 (by with_reducible assumption)) (by with_reducible assumption)]); (first | rw [e1, e2] | simp only [e1, e2]) <;> rfl)
     ·
      refine e6 G (o9 6 [0, 1, 2, 8] (ih ((ss.getD k bL2).els) pc ((N1 p d strict ss pc c k).snd) ((F8 hs (by omega)).2.2) (az9 hc (by omega)))) (rg 5) (ao3 p ss []) ((1, .ref 3) :: (2, iA pc) :: (3, iA ((l7 p strict d pc (N1 p d strict ss pc c k).snd (ss.getD k bL2).els).snd : Int)) :: (aw4 strict k [(14, iA (l7 p strict d pc (N1 p d strict ss pc c k).snd (ss.getD k bL2).els).fst)])) fun G => b5 (wp_seq (d9 G c4 [(70, bA ((l7 p strict d pc (N1 p d strict ss pc c k).snd (ss.getD k bL2).els).fst != 0))] fun G => b5 (rcN (u := ((l7 p strict d pc (l7 p strict d pc ((l7 p strict (d + (1 : Nat)) pc c (bL8 k ss)).snd + (1 : Nat)) (ss.getD k bL2).body).snd (ss.getD k bL2).els).fst)) (v := (0 : Int)) G (fun h5 q5 => ?_) fun h5 q5 => ?_)))
      · refine wp_skip (j8 (b5 (C8 G c4 [(12, iA ((k : Int) + 1))] [wO ((k : Int) + 1)] (o1 (by omega)) fun G => b5 ?_))); exact N5 G (k + 1) (⟨by omega, by rw [l7, M0 hp.2 (by omega), D5 (by with_reducible assumption) (O8 (by with_reducible assumption)) (by with_reducible assumption)]; with_reducible assumption⟩) (by omega) (rg 5) (ht := by have e1 : (((l7 p strict (d + 1) pc c (bL8 (k + 1) ss)).snd : Int) : Int) = (((l7 p strict d pc (l7 p strict d pc ((l7 p strict (d + 1) pc c (bL8 k ss)).snd + 1) (ss.getD k bL2).body).snd (ss.getD k bL2).els).snd : Int)) := (by rw [l7, M0 hp.2 (by omega), D5 (by with_reducible assumption) (O8 (by with_reducible assumption)) (by with_reducible assumption)]); (first | rw [e1] | simp only [e1]) <;> rfl)
      · refine wp_seq (d9 G c4 [(10, iA (l7 p strict d pc (N1 p d strict ss pc c k).snd (ss.getD k bL2).els).fst), (11, iA ((l7 p strict d pc (N1 p d strict ss pc c k).snd (ss.getD k bL2).els).snd : Int))] fun G => b5 (wp_ret (r7 (d7 (d7 (r7 (d7 ?_))))))); exact U5 (.tup [iA (l7 p strict d pc (l7 p strict d pc ((l7 p strict (d + 1) pc c (bL8 k ss)).snd + 1) (ss.getD k bL2).body).snd (ss.getD k bL2).els).fst, iA ((l7 p strict d pc (l7 p strict d pc ((l7 p strict (d + 1) pc c (bL8 k ss)).snd + 1) (ss.getD k bL2).body).snd (ss.getD k bL2).els).snd : Int)]) G (rg 4) (by have e1 : ((l7 p strict (d + 1) pc c ss).fst : Int) = ((l7 p strict d pc (l7 p strict d pc ((l7 p strict (d + 1) pc c (bL8 k ss)).snd + 1) (ss.getD k bL2).body).snd (ss.getD k bL2).els).fst) := (by rw [l7, x3 hp.2 (by omega) (by rw [D5 (by with_reducible assumption) (O8 (by with_reducible assumption)) (by with_reducible assumption)]; with_reducible assumption), D5 (by with_reducible assumption) (O8 (by with_reducible assumption)) (by with_reducible assumption)]); have e2 : (((l7 p strict (d + 1) pc c ss).snd : Int) : Int) = (((l7 p strict d pc (l7 p strict d pc ((l7 p strict (d + 1) pc c (bL8 k ss)).snd + 1) (ss.getD k bL2).body).snd (ss.getD k bL2).els).snd : Int)) := (by rw [l7, x3 hp.2 (by omega) (by rw [D5 (by with_reducible assumption) (O8 (by with_reducible assumption)) (by with_reducible assumption)]; with_reducible assumption), D5 (by with_reducible assumption) (O8 (by with_reducible assumption)) (by with_reducible assumption)]); (first | rw [e1, e2] | simp only [e1, e2]) <;> rfl)
    ·
     refine d9 G (o9 4 [0, 1, 2, 6] (C2 p ((ss.getD k bL2).value) (p8 (F8 hs (by omega)).1 (by omega)))) [(15, iA (f8 pc (i6 p (ss.getD k bL2).value)))] fun G => b5 (wp_seq (d9 G (o9 6 [0, 1, 2, 7] (ih ((ss.getD k bL2).body) (f8 pc (i6 p (ss.getD k bL2).value)) ((l7 p strict (d + 1) pc c (bL8 k ss)).snd + 1) ((F8 hs (by omega)).2.1) (au9 hc (by omega)))) [(3, iA ((aa2 p d strict ss pc c k).snd : Int)), (14, iA (aa2 p d strict ss pc c k).fst)] fun G => b5 (wp_seq (wp_seq (d9 G c4 [(58, bA ((aa2 p d strict ss pc c k).fst == 0))] fun G => b5 (I7 (u := ((l7 p strict d (f8 pc (i6 p (ss.getD k bL2).value)) ((l7 p strict (d + (1 : Nat)) pc c (bL8 k ss)).snd + (1 : Nat)) (ss.getD k bL2).body).fst)) (v := (0 : Int)) G (fun h6 q6 => ?_) fun h6 q6 => ?_))))))
     ·
      refine wp_skip (b5 (wp_seq (e6 G c4 (rg 5) (ao3 p ss []) ((1, .ref 3) :: (2, iA pc) :: (3, iA ((aa2 p d strict ss pc c k).snd : Int)) :: (aw4 strict k [(14, iA (aa2 p d strict ss pc c k).fst), (70, bA ((aa2 p d strict ss pc c k).fst != 0))])) fun G => b5 ?_))); cases h7 : ((l7 p strict d (f8 pc (i6 p (ss.getD k bL2).value)) ((l7 p strict (d + (1 : Nat)) pc c (bL8 k ss)).snd + (1 : Nat)) (ss.getD k bL2).body).fst != 0)
      · have q7 := bne_eq_false_iff_eq.1 h7; exact False.elim (by omega)
      · have q7 := bne_iff_ne.1 h7; refine rT G _ h7 (wp_seq (d9 G c4 [(10, iA (aa2 p d strict ss pc c k).fst), (11, iA ((aa2 p d strict ss pc c k).snd : Int))] fun G => b5 (wp_ret (r7 (d7 (d7 (r7 (d7 ?_)))))))); exact U5 (.tup [iA (l7 p strict d (f8 pc (i6 p (ss.getD k bL2).value)) ((l7 p strict (d + 1) pc c (bL8 k ss)).snd + 1) (ss.getD k bL2).body).fst, iA ((l7 p strict d (f8 pc (i6 p (ss.getD k bL2).value)) ((l7 p strict (d + 1) pc c (bL8 k ss)).snd + 1) (ss.getD k bL2).body).snd : Int)]) G (rg 4) (by have e1 : ((l7 p strict (d + 1) pc c ss).fst : Int) = ((l7 p strict d (f8 pc (i6 p (ss.getD k bL2).value)) ((l7 p strict (d + 1) pc c (bL8 k ss)).snd + 1) (ss.getD k bL2).body).fst) := (by rw [l7, x3 hp.2 (by omega) (by rw [H2 (by with_reducible assumption) (O9 (by with_reducible assumption)) (by with_reducible assumption)]; with_reducible assumption), H2 (by with_reducible assumption) (O9 (by with_reducible assumption)) (by with_reducible assumption)]); have e2 : (((l7 p strict (d + 1) pc c ss).snd : Int) : Int) = (((l7 p strict d (f8 pc (i6 p (ss.getD k bL2).value)) ((l7 p strict (d + 1) pc c (bL8 k ss)).snd + 1) (ss.getD k bL2).body).snd : Int)) := (by rw [l7, x3 hp.2 (by omega) (by rw [H2 (by with_reducible assumption) (O9 (by with_reducible assumption)) (by with_reducible assumption)]; with_reducible assumption), H2 (by with_reducible assumption) (O9 (by with_reducible assumption)) (by with_reducible assumption)]); (first | rw [e1, e2] | simp only [e1, e2]) <;> rfl)
     ·
      refine e6 G (o9 6 [0, 1, 2, 8] (ih ((ss.getD k bL2).els) (f8 pc (i6 p (ss.getD k bL2).value)) ((aa2 p d strict ss pc c k).snd) ((F8 hs (by omega)).2.2) (az9 hc (by omega)))) (rg 5) (ao3 p ss []) ((1, .ref 3) :: (2, iA pc) :: (3, iA ((aG7 p d strict ss pc c k).snd : Int)) :: (aw4 strict k [(14, iA (aG7 p d strict ss pc c k).fst)])) fun G => b5 (wp_seq (d9 G c4 [(70, bA ((aG7 p d strict ss pc c k).fst != 0))] fun G => b5 (rcN (u := ((l7 p strict d (f8 pc (i6 p (ss.getD k bL2).value)) (l7 p strict d (f8 pc (i6 p (ss.getD k bL2).value)) ((l7 p strict (d + (1 : Nat)) pc c (bL8 k ss)).snd + (1 : Nat)) (ss.getD k bL2).body).snd (ss.getD k bL2).els).fst)) (v := (0 : Int)) G (fun h8 q8 => ?_) fun h8 q8 => ?_)))
      · refine wp_skip (j8 (b5 (C8 G c4 [(12, iA ((k : Int) + 1))] [wO ((k : Int) + 1)] (o1 (by omega)) fun G => b5 ?_))); exact N5 G (k + 1) (⟨by omega, by rw [l7, M0 hp.2 (by omega), D5 (by with_reducible assumption) (O9 (by with_reducible assumption)) (by with_reducible assumption)]; with_reducible assumption⟩) (by omega) (rg 5) (ht := by have e1 : (((l7 p strict (d + 1) pc c (bL8 (k + 1) ss)).snd : Int) : Int) = (((l7 p strict d (f8 pc (i6 p (ss.getD k bL2).value)) (l7 p strict d (f8 pc (i6 p (ss.getD k bL2).value)) ((l7 p strict (d + 1) pc c (bL8 k ss)).snd + 1) (ss.getD k bL2).body).snd (ss.getD k bL2).els).snd : Int)) := (by rw [l7, M0 hp.2 (by omega), D5 (by with_reducible assumption) (O9 (by with_reducible assumption)) (by with_reducible assumption)]); (first | rw [e1] | simp only [e1]) <;> rfl)
      · refine wp_seq (d9 G c4 [(10, iA (aG7 p d strict ss pc c k).fst), (11, iA ((aG7 p d strict ss pc c k).snd : Int))] fun G => b5 (wp_ret (r7 (d7 (d7 (r7 (d7 ?_))))))); exact U5 (.tup [iA (l7 p strict d (f8 pc (i6 p (ss.getD k bL2).value)) (l7 p strict d (f8 pc (i6 p (ss.getD k bL2).value)) ((l7 p strict (d + 1) pc c (bL8 k ss)).snd + 1) (ss.getD k bL2).body).snd (ss.getD k bL2).els).fst, iA ((l7 p strict d (f8 pc (i6 p (ss.getD k bL2).value)) (l7 p strict d (f8 pc (i6 p (ss.getD k bL2).value)) ((l7 p strict (d + 1) pc c (bL8 k ss)).snd + 1) (ss.getD k bL2).body).snd (ss.getD k bL2).els).snd : Int)]) G (rg 4) (by have e1 : ((l7 p strict (d + 1) pc c ss).fst : Int) = ((l7 p strict d (f8 pc (i6 p (ss.getD k bL2).value)) (l7 p strict d (f8 pc (i6 p (ss.getD k bL2).value)) ((l7 p strict (d + 1) pc c (bL8 k ss)).snd + 1) (ss.getD k bL2).body).snd (ss.getD k bL2).els).fst) := (by rw [l7, x3 hp.2 (by omega) (by rw [D5 (by with_reducible assumption) (O9 (by with_reducible assumption)) (by with_reducible assumption)]; with_reducible assumption), D5 (by with_reducible assumption) (O9 (by with_reducible assumption)) (by with_reducible assumption)]); have e2 : (((l7 p strict (d + 1) pc c ss).snd : Int) : Int) = (((l7 p strict d (f8 pc (i6 p (ss.getD k bL2).value)) (l7 p strict d (f8 pc (i6 p (ss.getD k bL2).value)) ((l7 p strict (d + 1) pc c (bL8 k ss)).snd + 1) (ss.getD k bL2).body).snd (ss.getD k bL2).els).snd : Int)) := (by rw [l7, x3 hp.2 (by omega) (by rw [D5 (by with_reducible assumption) (O9 (by with_reducible assumption)) (by with_reducible assumption)]; with_reducible assumption), D5 (by with_reducible assumption) (O9 (by with_reducible assumption)) (by with_reducible assumption)]); (first | rw [e1, e2] | simp only [e1, e2]) <;> rfl)
   · refine wp_seq (d9 G c4 [(10, iA (M8 p (ss.getD k bL2) pc strict)), (11, iA ((l7 p strict (d + 1) pc c (bL8 k ss)).snd : Int))] fun G => b5 (wp_ret (d7 (r7 (d7 (d7 (r7 (d7 ?_)))))))); exact U5 (.tup [iA (M8 p (ss.getD k bL2) pc strict), iA ((l7 p strict (d + 1) pc c (bL8 k ss)).snd : Int)]) G (rg 4) (by have e1 : ((l7 p strict (d + 1) pc c ss).fst : Int) = (M8 p (ss.getD k bL2) pc strict) := (by rw [l7, x3 hp.2 (by omega) (by rw [am5 (by with_reducible assumption)]; with_reducible assumption), am5 (by with_reducible assumption)]); have e2 : (((l7 p strict (d + 1) pc c ss).snd : Int) : Int) = (((l7 p strict (d + 1) pc c (bL8 k ss)).snd : Int)) := (by rw [l7, x3 hp.2 (by omega) (by rw [am5 (by with_reducible assumption)]; with_reducible assumption), am5 (by with_reducible assumption)]); (first | rw [e1, e2] | simp only [e1, e2]) <;> rfl)
theorem aT9 (p : b8) (strict : Bool) : ∀ (d : Nat) (ss : List b6) (pc : Int) (c : Nat), ss.all (c8 p.vars.length p.arrays.length d) = true → c + K5 ss ≤ 4000000 → d8.ok Try.prog (bn0 p d ss pc c strict) := by
 intro d
 induction d with
 | zero =>
  intro ss pc c h hc
  cases ss with
  | nil => exact aU0 p pc c strict
  | cons s r => simp [c8] at h
 | succ d ih => intro ss pc c h hc; exact aT8 p d strict ih ss pc c h hc
theorem ai2 {p : b8} (h : e5 p = true) : p.body.all (c8 p.vars.length p.arrays.length 5) = true ∧ K5 p.body ≤ 60 := by
 simp only [e5, P0, bL3, decide_eq_true_eq] at h
 exact ⟨h.1.2, h.2⟩
theorem bf8 (p : b8) (strict : Bool) (h : e5 p = true) : d8.ok Try.prog (E0 236 [pA 0, .ref 2, iA 0, iA 0, bA strict] (pS p) (.tup [iA (l7 p strict 5 0 0 p.body).1, iA (l7 p strict 5 0 0 p.body).2])) :=
 d8.dup (S := pS p) (S' := pS p) (d := .stmts p.body) (i := 2) (aT9 p strict 5 p.body 0 0 (ai2 h).1 (by have := (ai2 h).2; omega)) rfl rfl rfl (fun ρ h => by simp only [AV.vals, AV.val]; rw [show ρ 3 = ρ 2 from h]; rfl) rfl
def H9 (p : b8) (strict : Bool) : Int × Int := if e5 p then (if (l7 p strict 5 0 0 p.body).1 = 0 then (0, -1) else ((l7 p strict 5 0 0 p.body).1, ((l7 p strict 5 0 0 p.body).2 : Int))) else (5, -1)
section
variable {p : b8} {strict : Bool}
theorem bq1 (h : e5 p = false) : H9 p strict = (5, -1) := by rw [H9, h]; rfl
theorem a06 (h : e5 p = true) (h1 : (l7 p strict 5 0 0 p.body).1 = 0) : H9 p strict = (0, -1) := by rw [H9, h, h1]; rfl
theorem bf5 (h : e5 p = true) (h1 : ¬ (l7 p strict 5 0 0 p.body).1 = 0) : H9 p strict = ((l7 p strict 5 0 0 p.body).1, ((l7 p strict 5 0 0 p.body).2 : Int)) := by rw [H9, h, if_neg h1]; rfl
end
theorem a47 (p : b8) (strict : Bool) (hb : c9 p.body ≤ 1048576) : d8.ok Try.prog (E0 219 [pA 0, bA strict] (pS p) (.tup [iA (H9 p strict).1, iA (H9 p strict).2])) := by
  refine x6 24 Try.func219 [dI p.vars, dI p.arrays, dT p.body] [(0, pA 0), (1, bA strict)] fun G => ?_; refine wp_seq (e6 G c4 (rg 4) [dI p.vars, dI p.arrays, dT p.body, .box (pL 0)] [(1, bA strict), (2, .ptr 3 0), (4, iA 0), (5, iA 0)] fun G => b5 (wp_seq (wp_seq (d9 G (o9 1 [0, 1, 2] (l0 p (by assumption))) [(10, .v (.bool !e5 p))] fun G => b5 ?_)))); cases h0 : (!e5 p)
  ·
   have q0 : (e5 p) = true := (Eq.mp (bM1 _) h0); refine rF G _ h0 (wp_skip (b5 (wp_seq (e6 G (o9 4 [0, 1, 2] (bf8 p strict (by assumption))) [0, 1, 2] [dI p.vars, dI p.arrays, dT p.body] [(4, iA 0), (5, iA 0), (6, iA (l7 p strict 5 0 0 p.body).fst), (7, iA ((l7 p strict 5 0 0 p.body).snd : Int))] fun G => b5 (wp_seq (wp_seq (d9 G c4 [(20, bA ((l7 p strict 5 0 0 p.body).fst == 0))] fun G => b5 (I7 G (fun h1 q1 => ?_) fun h1 q1 => ?_))))))))
   · refine wp_skip (b5 (wp_seq (d9 G c4 [(4, iA (l7 p strict 5 0 0 p.body).fst), (5, iA ((l7 p strict 5 0 0 p.body).snd : Int))] fun G => b5 (wp_ret ?_)))); exact U5 (.tup [iA (l7 p strict 5 0 0 p.body).fst, iA ((l7 p strict 5 0 0 p.body).snd : Int)]) G [0, 1, 2] (by have e1 : ((H9 p strict).fst : Int) = ((l7 p strict 5 0 0 p.body).fst) := (by rw [bf5 (by assumption) (by assumption)]; done); have e2 : ((H9 p strict).snd : Int) = (((l7 p strict 5 0 0 p.body).snd : Int)) := (by rw [bf5 (by assumption) (by assumption)]; done); (first | rw [e1, e2] | simp only [e1, e2]) <;> rfl)
   · refine wp_seq (d9 G c4 [(4, iA (l7 p strict 5 0 0 p.body).fst), (5, iA (-1))] fun G => b5 (wp_ret (d7 ?_))); exact U5 (.tup [iA (l7 p strict 5 0 0 p.body).fst, iA (-1)]) G [0, 1, 2] (by have e1 : ((H9 p strict).fst : Int) = ((l7 p strict 5 0 0 p.body).fst) := ((congrArg Prod.fst (a06 (by assumption) (by assumption))).trans (Eq.symm (by assumption))); have e2 : ((H9 p strict).snd : Int) = (-1) := (by rw [a06 (by assumption) (by assumption)]; done); (first | rw [e1, e2] | simp only [e1, e2]) <;> rfl)
  · have q0 : (e5 p) = false := (Eq.mp (bL9 _) h0); refine rT G _ h0 (wp_seq (d9 G c4 [(4, iA 5), (5, iA (-1))] fun G => b5 (wp_ret (d7 ?_)))); exact U5 (.tup [iA 5, iA (-1)]) G [0, 1, 2] (by have e1 : ((H9 p strict).fst : Int) = (5) := (by rw [bq1 (by assumption)]; done); have e2 : ((H9 p strict).snd : Int) = (-1) := (by rw [bq1 (by assumption)]; done); (first | rw [e1, e2] | simp only [e1, e2]) <;> rfl)
theorem O1 (p : b8) (hb : c9 p.body ≤ 1048576) : d8.ok Try.prog (E0 185 [pA 0] (pS p) (.tup [iA (H9 p false).1, iA (H9 p false).2])) := by
 refine x6 8 Try.func185 [dI p.vars, dI p.arrays, dT p.body] [(0, pA 0)] fun G => ?_; refine wp_seq (e6 G c4 (rg 4) [dI p.vars, dI p.arrays, dT p.body, .box (pL 0)] [(1, .ptr 3 0), (2, iA 0), (3, iA 0)] fun G => b5 (wp_seq (e6 G (o9 1 [0, 1, 2] (a47 p false (by assumption))) [0, 1, 2] [dI p.vars, dI p.arrays, dT p.body] [(2, iA (H9 p false).fst), (3, iA (H9 p false).snd)] fun G => b5 (wp_ret ?_)))); exact C4 G [0, 1, 2]
section
variable {p : b8} {s : b6} {cx : Int}
end
theorem bs7 : ∀ x : Fin 4, ∀ y : Fin 4, ∃ z : Fin 4, f8 x.val y.val = (z.val : Int) := by decide +kernel
theorem ar1 {x y : Int} (hx : c5 x = true) (hy : c5 y = true) : c5 (f8 x y) = true := by
 obtain ⟨a, rfl⟩ := K2 hx
 obtain ⟨b, rfl⟩ := K2 hy
 obtain ⟨c, h⟩ := bs7 a b
 rw [h]
 simp [c5]; omega
theorem Z0 {l : List Int} (h : l.all c5 = true) (i : Nat) : c5 (l.getD i 0) = true := by
 rcases bO5 i l.length with hi | hi
 ·rw [i9 hi]; exact bL7.1 h _ (bN6 hi)
 ·rw [bL4, bM8 hi]; rfl
theorem af6 {vs ars : List Int} (h1 : vs.all c5 = true) (h2 : ars.all c5 = true) : ∀ (d : Nat) (e : b7), c5 (c6 vs ars d e) = true
 | 0, _ => rfl
 | d + 1, e => by
  rw [c6]
  have key : ∀ (ks : List b7) (a : Int), c5 a = true → c5 (ks.foldl (fun a k => f8 a (c6 vs ars d k)) a) = true := by
   intro ks
   induction ks with
   | nil => intro a ha; exact ha
   | cons x r ih => intro a ha; rw [List.foldl_cons]; exact ih _ (ar1 ha (af6 h1 h2 d x))
  refine key _ _ ?_
  unfold al6
  split
  ·exact Z0 h1 _
  ·split
   ·exact Z0 h2 _
   ·rfl
def bc6 (p : b8) : Bool := p.vars.all c5 && p.arrays.all c5
theorem aR4 {p : b8} (h : e5 p = true) : bc6 p = true := by
 unfold e5 w4 at h
 simp only [bL3] at h
 unfold bc6
 rw [h.1.1.1.1.1.1, h.1.1.1.1.1.2]; rfl
abbrev C1 : Type := List Int × List Int
def bv (x : Int) : BitVec 64 := BitVec.ofInt 64 x
def ofb (b : BitVec 64) : Int := IntKind.i64.wrap (b.toNat : Int)
theorem bw5 (b : BitVec 64) : bv (ofb b) = b := by
 apply BitVec.eq_of_toNat_eq
 unfold bv ofb
 rw [BitVec.toNat_ofInt]
 have h := b.isLt
 unfold IntKind.wrap
 simp only [IntKind.bits, IntKind.signed, Bool.true_and, decide_eq_true_eq]
 split <;> omega
theorem bj7 (x y : Int) : f8 x y = ofb (bv x ||| bv y) := rfl
theorem bg4 (x y : Int) : bv (f8 x y) = bv x ||| bv y := by rw [bj7, bw5]
def M9 (x y : Int) : Prop := bv x ||| bv y = bv y
theorem M9.refl (x : Int) : M9 x x := BitVec.or_self
theorem M9.trans {x y z : Int} (h : M9 x y) (k : M9 y z) : M9 x z := by
 unfold M9 at *
 rw [← k, ← BitVec.or_assoc, h]
theorem as5 (x y : Int) : M9 x (f8 x y) := by unfold M9; rw [bg4, ← BitVec.or_assoc, BitVec.or_self]
theorem S6 {x y a b : Int} (h : M9 x a) (k : M9 y b) : M9 (f8 x y) (f8 a b) := by
 unfold M9 at *
 rw [bg4, bg4, BitVec.or_assoc, ← BitVec.or_assoc (bv y), BitVec.or_comm (bv y) (bv a), BitVec.or_assoc (bv a), k, ← BitVec.or_assoc, h]
theorem bw6 : ∀ x : Fin 4, ∀ y : Fin 4, bv x.val = bv y.val → x = y := by decide +kernel
theorem bu1 : ∀ x : Fin 4, ∀ y : Fin 4, bv x.val ||| bv y.val = bv y.val → x.val ≤ y.val := by decide +kernel
theorem M9.anti {x y : Int} (h : M9 x y) (k : M9 y x) (hx : c5 x = true) (hy : c5 y = true) : x = y := by
 obtain ⟨a, rfl⟩ := K2 hx
 obtain ⟨b, rfl⟩ := K2 hy
 unfold M9 at *
 rw [BitVec.or_comm, h] at k
 rw [bw6 b a k]
theorem M9.nat {x y : Int} (h : M9 x y) (hx : c5 x = true) (hy : c5 y = true) : x.toNat ≤ y.toNat := by
 obtain ⟨a, rfl⟩ := K2 hx
 obtain ⟨b, rfl⟩ := K2 hy
 have := bu1 a b h
 omega
def Y8 (q r : C1) : Prop := (∀ i, M9 (q.1.getD i 0) (r.1.getD i 0)) ∧ ∀ i, M9 (q.2.getD i 0) (r.2.getD i 0)
def shP (q r : C1) : Prop := r.1.length = q.1.length ∧ r.2.length = q.2.length
def okP (q : C1) : Prop := q.1.all c5 = true ∧ q.2.all c5 = true
theorem Y8.refl (q : C1) : Y8 q q := ⟨fun _ => M9.refl _, fun _ => M9.refl _⟩
theorem Y8.trans {q r s : C1} (h : Y8 q r) (k : Y8 r s) : Y8 q s := ⟨fun i => (h.1 i).trans (k.1 i), fun i => (h.2 i).trans (k.2 i)⟩
theorem shP.refl (q : C1) : shP q q := ⟨rfl, rfl⟩
theorem shP.trans {q r s : C1} (h : shP q r) (k : shP r s) : shP q s := ⟨k.1.trans h.1, k.2.trans h.2⟩
theorem shP.symm {q r : C1} (h : shP q r) : shP r q := ⟨h.1.symm, h.2.symm⟩
theorem az0 {a b : List Int} (hl : b.length = a.length) (h : ∀ i, M9 (a.getD i 0) (b.getD i 0)) (k : ∀ i, M9 (b.getD i 0) (a.getD i 0)) (ha : a.all c5 = true) (hb : b.all c5 = true) : a = b := by
 apply List.ext_getElem (by omega)
 intro i h1 h2
 have := (h i).anti (k i) (Z0 ha i) (Z0 hb i)
 rw [i9 h1, i9 h2] at this
 exact this
theorem Y8.anti {q r : C1} (h : Y8 q r) (k : Y8 r q) (hs : shP q r) (hq : okP q) (hr : okP r) : q = r :=
 Prod.ext (az0 hs.1 h.1 k.1 hq.1 hr.1) (az0 hs.2 h.2 k.2 hq.2 hr.2)
theorem ba6 {q r : C1} (h : Y8 q r) (e : b7) : M9 (al6 q.1 q.2 e) (al6 r.1 r.2 e) := by
 unfold al6
 split
 ·exact h.1 _
 ·split
  ·exact h.2 _
  ·exact M9.refl _
theorem X0 {q r : C1} (h : Y8 q r) : ∀ (d : Nat) (e : b7), M9 (c6 q.1 q.2 d e) (c6 r.1 r.2 d e)
 | 0, _ => M9.refl _
 | d + 1, e => by
  rw [c6, c6]
  have key : ∀ (ks : List b7) (a b : Int), M9 a b → M9 (ks.foldl (fun a k => f8 a (c6 q.1 q.2 d k)) a) (ks.foldl (fun a k => f8 a (c6 r.1 r.2 d k)) b) := by
   intro ks
   induction ks with
   | nil => intro a b hab; exact hab
   | cons x t ih => intro a b hab; rw [List.foldl_cons, List.foldl_cons]; exact ih _ _ (S6 hab (X0 h d x))
  exact key _ _ _ (ba6 h e)
def A5 (q : C1) (s : b6) (cx : Int) : C1 :=
 if s.kind = 1 then (q.1.set s.target.toNat (f8 (f8 (q.1.getD s.target.toNat 0) (c6 q.1 q.2 5 s.value)) cx), q.2)
 else if s.kind = 2 then (q.1, q.2.set s.target.toNat (f8 (f8 (f8 (q.2.getD s.target.toNat 0) (c6 q.1 q.2 5 s.value)) (c6 q.1 q.2 5 s.index)) cx))
 else q
def U6 (q : C1) (s : b6) (cx : Int) : Int := if s.kind = 3 then f8 cx (c6 q.1 q.2 5 s.value) else cx
def upS (b : Bool) : Nat → C1 → Int → b6 → C1
 | 0, q, _, _ => q
 | d + 1, q, cx, s => s.els.foldl (fun r t => upS b d r (U6 (if b then s.body.foldl (fun r t => upS b d r (U6 (A5 q s cx) s cx) t) (A5 q s cx) else A5 q s cx) s cx) t) (s.body.foldl (fun r t => upS b d r (U6 (A5 q s cx) s cx) t) (A5 q s cx))
abbrev r8 (b : Bool) (d : Nat) (q : C1) (cx : Int) (ss : List b6) : C1 := ss.foldl (fun r t => upS b d r cx t) q
theorem V6 (b : Bool) (d : Nat) (q : C1) (cx : Int) (s : b6) : upS b (d + 1) q cx s = r8 b d (r8 b d (A5 q s cx) (U6 (A5 q s cx) s cx) s.body) (U6 (if b then r8 b d (A5 q s cx) (U6 (A5 q s cx) s cx) s.body else A5 q s cx) s cx) s.els := by rw [upS]
theorem aq6 (l : List Int) (t i : Nat) (x : Int) : (l.set t x).getD i 0 = if t = i ∧ t < l.length then x else l.getD i 0 := by
 simp only [bL4, List.getElem?_set]
 by_cases h : t = i
 ·subst h
  by_cases h2 : t < l.length
  ·simp [h2]
  ·simp [h2]
 ·simp [h]
theorem aX5 {l : List Int} {t : Nat} {x : Int} (h : l.all c5 = true) (hx : c5 x = true) : (l.set t x).all c5 = true := by
 rw [bL7] at *
 intro y hy
 rcases List.mem_or_eq_of_mem_set hy with h1 | h1
 ·exact h y h1
 ·rw [h1]; exact hx
theorem aR8 (q : C1) (s : b6) (cx : Int) : shP q (A5 q s cx) := by
 unfold A5
 split
 ·exact ⟨by simp, rfl⟩
 ·split
  ·exact ⟨rfl, by simp⟩
  ·exact shP.refl _
theorem aI3 {l : List Int} {t : Nat} {x : Int} (h : M9 (l.getD t 0) x) (i : Nat) : M9 (l.getD i 0) ((l.set t x).getD i 0) := by
 rw [aq6]
 split
 ·rename_i h1; rw [← h1.1]; exact h
 ·exact M9.refl _
theorem aI2 {l m : List Int} {t : Nat} {x y : Int} (hl : m.length = l.length) (h : ∀ i, M9 (l.getD i 0) (m.getD i 0)) (hx : M9 x y) (i : Nat) : M9 ((l.set t x).getD i 0) ((m.set t y).getD i 0) := by
 rw [aq6, aq6, hl]
 split
 ·exact hx
 ·exact h i
theorem ba9 (q : C1) (s : b6) (cx : Int) : Y8 q (A5 q s cx) := by
 unfold A5
 split
 ·exact ⟨aI3 ((as5 _ _).trans (as5 _ _)), fun _ => M9.refl _⟩
 ·split
  ·exact ⟨fun _ => M9.refl _, aI3 (((as5 _ _).trans (as5 _ _)).trans (as5 _ _))⟩
  ·exact Y8.refl _
theorem ba8 {q r : C1} (h : Y8 q r) (hs : shP q r) {cx cy : Int} (hc : M9 cx cy) (s : b6) : Y8 (A5 q s cx) (A5 r s cy) := by
 unfold A5
 split
 ·exact ⟨aI2 hs.1 h.1 (S6 (S6 (h.1 _) (X0 h 5 _)) hc), h.2⟩
 ·split
  ·exact ⟨h.1, aI2 hs.2 h.2 (S6 (S6 (S6 (h.2 _) (X0 h 5 _)) (X0 h 5 _)) hc)⟩
  ·exact h
theorem bs9 {q : C1} (h : okP q) {cx : Int} (hc : c5 cx = true) (s : b6) : okP (A5 q s cx) := by
 unfold A5
 split
 ·exact ⟨aX5 h.1 (ar1 (ar1 (Z0 h.1 _) (af6 h.1 h.2 5 _)) hc), h.2⟩
 ·split
  ·exact ⟨h.1, aX5 h.2 (ar1 (ar1 (ar1 (Z0 h.2 _) (af6 h.1 h.2 5 _)) (af6 h.1 h.2 5 _)) hc)⟩
  ·exact h
theorem aK7 {q r : C1} (h : Y8 q r) {cx cy : Int} (hc : M9 cx cy) (s : b6) : M9 (U6 q s cx) (U6 r s cy) := by
 unfold U6
 split
 ·exact S6 hc (X0 h 5 _)
 ·exact hc
theorem bd6 {q : C1} (h : okP q) {cx : Int} (hc : c5 cx = true) (s : b6) : c5 (U6 q s cx) = true := by
 unfold U6
 split
 ·exact ar1 hc (af6 h.1 h.2 5 _)
 ·exact hc
theorem Z1 {F : C1 → b6 → C1} (hF : ∀ q s, shP q (F q s)) : ∀ (ss : List b6) (q : C1), shP q (ss.foldl F q)
 | [], q => shP.refl q
 | s :: r, q => (hF q s).trans (Z1 hF r _)
theorem Q4 {F : C1 → b6 → C1} (hF : ∀ q s, Y8 q (F q s)) : ∀ (ss : List b6) (q : C1), Y8 q (ss.foldl F q)
 | [], q => Y8.refl q
 | s :: r, q => (hF q s).trans (Q4 hF r _)
theorem an1 {F : C1 → b6 → C1} (hF : ∀ q s, okP q → okP (F q s)) : ∀ (ss : List b6) (q : C1), okP q → okP (ss.foldl F q)
 | [], _, h => h
 | s :: r, q, h => an1 hF r _ (hF q s h)
theorem Z2 {F G : C1 → b6 → C1} (hF : ∀ q s, shP q (F q s)) (hG : ∀ q s, shP q (G q s)) (h : ∀ q r s, shP q r → Y8 q r → Y8 (F q s) (G r s)) : ∀ (ss : List b6) (q r : C1), shP q r → Y8 q r → Y8 (ss.foldl F q) (ss.foldl G r)
 | [], _, _, _, hl => hl
 | s :: t, q, r, hs, hl => Z2 hF hG h t _ _ (((hF q s).symm.trans hs).trans (hG r s)) (h q r s hs hl)
theorem V5 (b : Bool) : ∀ (d : Nat) (cx : Int) (q : C1) (s : b6), shP q (upS b d q cx s)
 | 0, _, q, _ => shP.refl q
 | d + 1, cx, q, s => by
  rw [V6]
  exact ((aR8 q s cx).trans (Z1 (fun q s => V5 b d _ q s) _ _)).trans (Z1 (fun q s => V5 b d _ q s) _ _)
theorem am3 (b : Bool) : ∀ (d : Nat) (cx : Int) (q : C1) (s : b6), Y8 q (upS b d q cx s)
 | 0, _, q, _ => Y8.refl q
 | d + 1, cx, q, s => by
  rw [V6]
  exact ((ba9 q s cx).trans (Q4 (fun q s => am3 b d _ q s) _ _)).trans (Q4 (fun q s => am3 b d _ q s) _ _)
theorem a75 (b : Bool) : ∀ (d : Nat) (cx : Int) (q : C1) (s : b6), c5 cx = true → okP q → okP (upS b d q cx s)
 | 0, _, _, _, _, h => h
 | d + 1, cx, q, s, hc, h => by
  rw [V6]
  have h1 := bs9 h hc s
  have h2 : okP (r8 b d (A5 q s cx) (U6 (A5 q s cx) s cx) s.body) := an1 (fun q t hq => a75 b d _ q t (bd6 h1 hc s) hq) _ _ h1
  refine an1 (fun q t hq => a75 b d _ q t (bd6 ?_ hc s) hq) _ _ h2
  split
  ·exact h2
  ·exact h1
theorem aB6 {b b' : Bool} (hb : b = true → b' = true) : ∀ (d : Nat) (cx cy : Int) (q r : C1) (s : b6), M9 cx cy → shP q r → Y8 q r → Y8 (upS b d q cx s) (upS b' d r cy s)
 | 0, _, _, _, _, _, _, _, h => h
 | d + 1, cx, cy, q, r, s, hc, hs, h => by
  rw [V6, V6]
  have h1 := ba8 h hs hc s
  have s1 : shP (A5 q s cx) (A5 r s cy) := ((aR8 q s cx).symm.trans hs).trans (aR8 r s cy)
  have hi := aK7 h1 hc s
  have h2 : Y8 (r8 b d (A5 q s cx) (U6 (A5 q s cx) s cx) s.body) (r8 b' d (A5 r s cy) (U6 (A5 r s cy) s cy) s.body) := Z2 (fun q t => V5 b d _ q t) (fun q t => V5 b' d _ q t) (fun q r t hs hl => aB6 hb d _ _ q r t hi hs hl) _ _ _ s1 h1
  have s2 : shP (r8 b d (A5 q s cx) (U6 (A5 q s cx) s cx) s.body) (r8 b' d (A5 r s cy) (U6 (A5 r s cy) s cy) s.body) := ((Z1 (fun q t => V5 b d _ q t) _ _).symm.trans s1).trans (Z1 (fun q t => V5 b' d _ q t) _ _)
  refine Z2 (fun q t => V5 b d _ q t) (fun q t => V5 b' d _ q t) (fun q r t hs hl => aB6 hb d _ _ q r t ?_ hs hl) _ _ _ s2 h2
  refine aK7 ?_ hc s
  cases b with
  | true =>
   have e := hb rfl
   subst e
   exact h2
  | false =>
   simp only [Bool.false_eq_true, if_false]
   split
   ·exact h1.trans (Q4 (fun q t => am3 b' d _ q t) _ _)
   ·exact h1
section
variable {b : Bool} {d : Nat} {cx : Int} {q r : C1} {ss : List b6}
theorem ac2 : shP q (r8 b d q cx ss) := Z1 (fun q t => V5 b d _ q t) _ _
theorem ap5 : Y8 q (r8 b d q cx ss) := Q4 (fun q t => am3 b d _ q t) _ _
theorem a76 (hc : c5 cx = true) (h : okP q) : okP (r8 b d q cx ss) := an1 (fun q t hq => a75 b d _ q t hc hq) _ _ h
end
def aB8 (l : List Int) : Nat := (l.map Int.toNat).sum
def av6 (q : C1) : Nat := aB8 q.1 + aB8 q.2
theorem aB7 : ∀ {a b : List Int}, b.length = a.length → a.all c5 = true → b.all c5 = true → (∀ i, M9 (a.getD i 0) (b.getD i 0)) → aB8 a ≤ aB8 b ∧ (aB8 a = aB8 b → a = b)
 | [], b, hl, _, _, _ => by rw [bN7 hl]; exact ⟨bM4 _, fun _ => rfl⟩
 | x :: r, [], hl, _, _, _ => by cases hl
 | x :: r, y :: t, hl, ha, hb, h => by
  simp only [List.all_cons, bL3] at ha hb
  have h0 := h 0
  simp at h0
  obtain ⟨k1, k2⟩ := aB7 (a := r) (b := t) (by simpa using hl) ha.2 hb.2 fun i => by have := h (i + 1); simpa using this
  have k3 := h0.nat ha.1 hb.1
  simp only [aB8, bO4, List.sum_cons] at k1 k2 ⊢
  refine ⟨by omega, fun e => ?_⟩
  obtain ⟨a, rfl⟩ := K2 ha.1
  obtain ⟨b, rfl⟩ := K2 hb.1
  rw [k2 (by omega)]
  congr 1
  omega
theorem aq0 : ∀ {l : List Int}, l.all c5 = true → aB8 l ≤ 3 * l.length
 | [], _ => bO9 _
 | x :: r, h => by
  simp only [List.all_cons, bL3] at h
  have h1 := aq0 h.2
  obtain ⟨a, rfl⟩ := K2 h.1
  simp only [aB8, bO4, List.sum_cons, bM2] at h1 ⊢
  omega
theorem aX1 {q r : C1} (hs : shP q r) (hq : okP q) (hr : okP r) (h : Y8 q r) (hne : ¬ r = q) : av6 q < av6 r := by
 obtain ⟨a1, a2⟩ := aB7 hs.1 hq.1 hr.1 h.1
 obtain ⟨b1, b2⟩ := aB7 hs.2 hq.2 hr.2 h.2
 unfold av6
 refine Nat.lt_of_not_le fun hle => hne (Prod.ext (a2 (by omega)).symm (b2 (by omega)).symm)
theorem aH5 {q : C1} (hq : okP q) : av6 q ≤ 3 * (q.1.length + q.2.length) := by
 have h1 := aq0 hq.1
 have h2 := aq0 hq.2
 unfold av6; omega
def V0 (b : List b6) (p q : C1) : Prop := shP p q ∧ okP q ∧ Y8 p q ∧ ∀ r, shP p r → okP r → Y8 p r → r8 true 5 r 0 b = r → Y8 q r
theorem ac9 {b : List b6} {p : C1} (h : okP p) : V0 b p p := ⟨shP.refl _, h, Y8.refl _, fun _ _ _ h _ => h⟩
theorem Y9 {b : List b6} {p q : C1} {f : Bool} (h : V0 b p q) : V0 b p (r8 f 5 q 0 b) :=
 ⟨h.1.trans ac2, a76 rfl h.2.1, h.2.2.1.trans ap5, fun r h1 h2 h3 h4 => by
  have h5 := h.2.2.2 r h1 h2 h3 h4
  have := Z2 (fun q t => V5 f 5 0 q t) (fun q t => V5 true 5 0 q t) (fun q r t hs hl => aB6 (b := f) (b' := true) (fun _ => rfl) 5 0 0 q r t (M9.refl _) hs hl) b q r (h.1.symm.trans h1) h5
  rw [show b.foldl (fun q t => upS true 5 q 0 t) r = r from h4] at this
  exact this⟩
theorem aK8 {b : List b6} {p q r : C1} (hq : V0 b p q) (hr : V0 b p r) (fq : r8 true 5 q 0 b = q) (fr : r8 true 5 r 0 b = r) : q = r :=
 (hq.2.2.2 r hr.1 hr.2.1 hr.2.2.1 fr).anti (hr.2.2.2 q hq.1 hq.2.1 hq.2.2.1 fq) (hq.1.symm.trans hr.1) hq.2.1 hr.2.1
def av8 (b : List b6) : Nat → C1 → C1
 | 0, q => q
 | n + 1, q => av8 b n (r8 true 5 q 0 b)
def ai6 (p : b8) : C1 := av8 p.body 64 (p.vars, p.arrays)
theorem aK9 {b : List b6} {p : C1} : ∀ (n : Nat) (q : C1), V0 b p q → V0 b p (av8 b n q)
 | 0, _, h => h
 | n + 1, q, h => aK9 n _ (Y9 h)
theorem aL0 {b : List b6} : ∀ (n : Nat) {q : C1}, r8 true 5 q 0 b = q → av8 b n q = q
 | 0, _, _ => rfl
 | n + 1, q, h => by rw [av8, h]; exact aL0 n h
theorem aL1 {b : List b6} {p : C1} : ∀ (n : Nat) (q : C1), V0 b p q → r8 true 5 (av8 b n q) 0 b = av8 b n q ∨ av6 q + n ≤ av6 (av8 b n q)
 | 0, _, _ => .inr (bM4 _)
 | n + 1, q, h => by
  rw [av8]
  by_cases e : r8 true 5 q 0 b = q
  ·left
   rw [e, aL0 n e, e]
  ·have h1 := aX1 ac2 h.2.1 (a76 rfl h.2.1) ap5 e
   rcases aL1 n _ (Y9 (f := true) h) with h2 | h2
   ·exact .inl h2
   ·right; omega
theorem aE5 {p : b8} (h : e5 p = true) : okP (p.vars, p.arrays) := by
 have := aR4 h
 simp only [bc6, bL3] at this
 exact this
theorem as8 {p : b8} (h : e5 p = true) : V0 p.body (p.vars, p.arrays) (ai6 p) := aK9 64 _ (ac9 (aE5 h))
theorem bd8 {p : b8} (h : e5 p = true) (hl : p.vars.length + p.arrays.length ≤ 14) : r8 true 5 (ai6 p) 0 p.body = ai6 p := by
 rcases aL1 (b := p.body) 64 (p.vars, p.arrays) (ac9 (aE5 h)) with h1 | h1
 ·exact h1
 ·have h2 := as8 h
  have h3 := aH5 h2.2.1
  have h4 := h2.1
  have h5 : av8 p.body 64 (p.vars, p.arrays) = ai6 p := rfl
  rw [h5] at h1
  rw [h4.1, h4.2] at h3
  simp only at h3
  omega
theorem aZ7 {p : b8} {q : C1} (h : e5 p = true) (hl : p.vars.length + p.arrays.length ≤ 14) (hq : V0 p.body (p.vars, p.arrays) q) (hf : r8 true 5 q 0 p.body = q) : ai6 p = q :=
 aK8 (as8 h) hq (bd8 h hl) hf
def cdF (F : b6 → Int) : List b6 → Int
 | [] => 0
 | s :: r => if F s = 0 then cdF F r else F s
def cdS (vs ars : List Int) (strict : Bool) : Nat → Int → b6 → Int
 | 0, _, _ => 0
 | d + 1, pc, s => if M8 ⟨vs, ars, []⟩ s pc strict = 0 then
   (if cdF (cdS vs ars strict d (X1 ⟨vs, ars, []⟩ s pc)) s.body = 0 then cdF (cdS vs ars strict d (X1 ⟨vs, ars, []⟩ s pc)) s.els else cdF (cdS vs ars strict d (X1 ⟨vs, ars, []⟩ s pc)) s.body)
  else M8 ⟨vs, ars, []⟩ s pc strict
theorem aT3 {F : b6 → Int} {G : Nat → b6 → Int × Nat} (h : ∀ c s, (G c s).1 = F s) : ∀ (ss : List b6) (c : Nat), (w7 G c ss).1 = cdF F ss
 | [], _ => rfl
 | s :: r, c => by
  rw [w7, cdF, h]
  split
  ·exact aT3 h r _
  ·exact h c s
theorem bf6 (p : b8) (strict : Bool) : ∀ (d : Nat) (pc : Int) (c : Nat) (s : b6), (stC p strict d pc c s).1 = cdS p.vars p.arrays strict d pc s
 | 0, _, _, _ => rfl
 | d + 1, pc, c, s => by
  have e1 : M8 p s pc strict = M8 ⟨p.vars, p.arrays, []⟩ s pc strict := rfl
  have e2 : X1 p s pc = X1 ⟨p.vars, p.arrays, []⟩ s pc := rfl
  have h1 := fun ss c => aT3 (bf6 p strict d (X1 p s pc)) ss c
  rw [stC, cdS, ← e1, ← e2]
  split
  ·rw [h1]
   split
   ·rw [h1]
   ·rw [h1]
  ·rfl
theorem bw3 (p : b8) (strict : Bool) (d : Nat) (pc : Int) (c : Nat) (ss : List b6) : (l7 p strict d pc c ss).1 = cdF (cdS p.vars p.arrays strict d pc) ss := aT3 (bf6 p strict d pc) ss c
theorem aM5 {F : b6 → Int} : ∀ {ss : List b6}, cdF F ss = 0 ↔ ∀ s ∈ ss, F s = 0
 | [] => by simp [cdF]
 | s :: r => by
  rw [cdF]
  by_cases h : F s = 0
  ·rw [if_pos h, aM5]
   simp [h]
  ·rw [if_neg h]
   simp [h]
theorem bm2 (p : b8) (strict : Bool) : (H9 p strict).1 = if e5 p = true then cdF (cdS p.vars p.arrays strict 5 0) p.body else 5 := by
 unfold H9
 rw [← bw3 p strict 5 0 0]
 split
 ·split
  ·rename_i h; exact h.symm
  ·rfl
 ·rfl
theorem bm1 (p : b8) (strict : Bool) : (H9 p strict).1 = 0 ↔ e5 p = true ∧ ∀ s ∈ p.body, cdS p.vars p.arrays strict 5 0 s = 0 := by
 rw [bm2]
 split
 ·rename_i h; rw [aM5]; exact ⟨fun h1 => ⟨h, h1⟩, fun h1 => h1.2⟩
 ·rename_i h; exact ⟨fun h1 => absurd h1 (by decide), fun h1 => absurd h1.1 h⟩
section
variable {vs ars : List Int} {l : Int} {s : b6} {pc pd : Int}
end
theorem ay6 {p : b8} (h : e5 p = true) : p.vars.all c5 = true ∧ p.arrays.all c5 = true ∧ 1 ≤ p.vars.length ∧ p.body.all (c8 p.vars.length p.arrays.length 5) = true := by
 unfold e5 w4 at h
 simp only [bL3, decide_eq_true_eq] at h
 exact ⟨h.1.1.1.1.1.1, h.1.1.1.1.1.2, h.1.1.1.1.2, h.1.2⟩
abbrev nnE : b7 := ⟨0, 0, []⟩
abbrev cnE (n : Int) : b7 := ⟨1, n, []⟩
abbrev vrE (v : Int) : b7 := ⟨2, v, []⟩
abbrev rdE (a : Int) (i : b7) : b7 := ⟨3, a, [i]⟩
abbrev U8 (i : b7) (k : Int) : b7 := ⟨9, 0, [⟨7, 0, [i, cnE 3]⟩, cnE k]⟩
abbrev seE (a b c : b7) : b7 := ⟨11, 0, [a, b, c]⟩
abbrev I9 (v : Int) (e : b7) : b6 := ⟨1, v, nnE, e, 0, [], []⟩
def s9 (m : Int) (e f : b7) : b7 := if m < 0 then e else seE (vrE m) e f
def rdL (v a : Int) (i : b7) : Nat → List b6
 | 0 => [I9 v (rdE a (cnE 0))]
 | k + 1 => rdL v a i k ++ [I9 v (seE (U8 i ((k : Int) + 1)) (rdE a (cnE ((k : Int) + 1))) (vrE v))]
def stL (v t : Int) (i : b7) (m : Int) : Nat → List b6
 | 0 => []
 | k + 1 => stL v t i m k ++ [⟨2, t, cnE (k : Int), seE (s9 m (U8 i (k : Int)) (cnE 0)) (vrE v) (rdE t (cnE (k : Int))), 0, [], []⟩]
abbrev T8 : Type := List Int × List b6
mutual
def b9 (ars : List Int) (pc : Int) : b7 → T8 → T8 × b7
 | ⟨k, v, ks⟩, s =>
  if k = 3 ∧ O5 (c6 (n5 ars pc ks s).1.1 ars 5 (ks.getD 0 bL2)) = true then
   (((n5 ars pc ks s).1.1 ++ [f8 (c6 (n5 ars pc ks s).1.1 ars 5 ⟨k, v, ks⟩) pc], (n5 ars pc ks s).1.2 ++ rdL ((n5 ars pc ks s).1.1.length : Int) v (ks.getD 0 bL2) 3), vrE ((n5 ars pc ks s).1.1.length : Int))
  else ((n5 ars pc ks s).1, ⟨k, v, (n5 ars pc ks s).2⟩)
def n5 (ars : List Int) (pc : Int) : List b7 → T8 → T8 × List b7
 | [], s => (s, [])
 | e :: t, s => ((n5 ars pc t (b9 ars pc e s).1).1, (b9 ars pc e s).2 :: (n5 ars pc t (b9 ars pc e s).1).2)
end
theorem as4 (ars : List Int) (pc : Int) (e : b7) (s : T8) : b9 ars pc e s =
  if e.kind = 3 ∧ O5 (c6 (n5 ars pc e.kids s).1.1 ars 5 (e.kids.getD 0 bL2)) = true then
   (((n5 ars pc e.kids s).1.1 ++ [f8 (c6 (n5 ars pc e.kids s).1.1 ars 5 e) pc], (n5 ars pc e.kids s).1.2 ++ rdL ((n5 ars pc e.kids s).1.1.length : Int) e.value (e.kids.getD 0 bL2) 3), vrE ((n5 ars pc e.kids s).1.1.length : Int))
  else ((n5 ars pc e.kids s).1, ⟨e.kind, e.value, (n5 ars pc e.kids s).2⟩) := by
 cases e; rw [b9]; rfl
theorem af5 (ars : List Int) (pc : Int) : ∀ (a b : List b7) (s : T8), n5 ars pc (a ++ b) s = ((n5 ars pc b (n5 ars pc a s).1).1, (n5 ars pc a s).2 ++ (n5 ars pc b (n5 ars pc a s).1).2)
 | [], b, s => by simp [n5]
 | e :: t, b, s => by
  simp only [List.cons_append, n5]
  rw [af5 ars pc t b]
theorem ac8 {ars : List Int} {pc : Int} {ks : List b7} {k : Nat} {s : T8} (hk : k < ks.length) : n5 ars pc (ks.take (k + 1)) s = ((b9 ars pc (ks.getD k bL2) (n5 ars pc (ks.take k) s).1).1, (n5 ars pc (ks.take k) s).2 ++ [(b9 ars pc (ks.getD k bL2) (n5 ars pc (ks.take k) s).1).2]) := by
 rw [j9 _ _ hk, af5, i9 hk]
 simp [n5]
abbrev ifM (x : T8 × b7) (m l : Int) : T8 := (x.1.1 ++ [l] ++ [l], x.1.2 ++ [I9 (x.1.1.length : Int) (s9 m x.2 (cnE 0))] ++ [I9 ((x.1.1 ++ [l]).length : Int) (s9 m ⟨9, 0, [vrE (x.1.1.length : Int), cnE 0]⟩ (cnE 0))])
mutual
def y6 (ars : List Int) : b6 → Int → Int → T8 → T8
 | ⟨k, t, i, v, c, b, e⟩, m, pc, s =>
  if k = 4 then ((i5 ars b m pc (s.1, [])).1, s.2 ++ [⟨4, 0, nnE, nnE, c, (i5 ars b m pc (s.1, [])).2, []⟩])
  else if k = 3 then
   (if O5 (c6 s.1 ars 5 v) = true then
    i5 ars e (((b9 ars pc v s).1.1 ++ [f8 pc (c6 s.1 ars 5 v)]).length : Int) (f8 pc (c6 s.1 ars 5 v)) (i5 ars b ((b9 ars pc v s).1.1.length : Int) (f8 pc (c6 s.1 ars 5 v)) (ifM (b9 ars pc v s) m (f8 pc (c6 s.1 ars 5 v))))
   else ((i5 ars e m (f8 pc (c6 s.1 ars 5 v)) ((i5 ars b m (f8 pc (c6 s.1 ars 5 v)) ((b9 ars pc v s).1.1, [])).1, [])).1,
    (b9 ars pc v s).1.2 ++ [⟨3, 0, nnE, (b9 ars pc v s).2, 0, (i5 ars b m (f8 pc (c6 s.1 ars 5 v)) ((b9 ars pc v s).1.1, [])).2, (i5 ars e m (f8 pc (c6 s.1 ars 5 v)) ((i5 ars b m (f8 pc (c6 s.1 ars 5 v)) ((b9 ars pc v s).1.1, [])).1, [])).2⟩]))
  else if k = 5 then ((b9 ars pc v s).1.1, (b9 ars pc v s).1.2 ++ [⟨5, t, nnE, (b9 ars pc v s).2, 0, [], []⟩])
  else if k = 1 then ((b9 ars pc v s).1.1, (b9 ars pc v s).1.2 ++ [I9 t (s9 m (b9 ars pc v s).2 (vrE t))])
  else if O5 (c6 (b9 ars pc v s).1.1 ars 5 i) = true then
   ((b9 ars pc v s).1.1 ++ [f8 (c6 (b9 ars pc v s).1.1 ars 5 (b9 ars pc v s).2) pc], (b9 ars pc v s).1.2 ++ [I9 ((b9 ars pc v s).1.1.length : Int) (b9 ars pc v s).2] ++ stL ((b9 ars pc v s).1.1.length : Int) t i m 4)
  else ((b9 ars pc v s).1.1, (b9 ars pc v s).1.2 ++ [⟨2, t, i, s9 m (b9 ars pc v s).2 (rdE t i), 0, [], []⟩])
def i5 (ars : List Int) : List b6 → Int → Int → T8 → T8
 | [], _, _, s => s
 | x :: r, m, pc, s => i5 ars r m pc (y6 ars x m pc s)
end
theorem aK3 (ars : List Int) (a b : List b6) (m pc : Int) (s : T8) : i5 ars (a ++ b) m pc s = i5 ars b m pc (i5 ars a m pc s) := by
 induction a generalizing s with
 | nil => rfl
 | cons x r ih => simp only [List.cons_append, i5]; exact ih _
theorem a36 {ars : List Int} {ss : List b6} {k : Nat} {m pc : Int} {s : T8} (hk : k < ss.length) : i5 ars (ss.take (k + 1)) m pc s = y6 ars (ss.getD k bL2) m pc (i5 ars (ss.take k) m pc s) := by
 rw [j9 _ _ hk, aK3, i9 hk]
 simp [i5]
section
variable {ars : List Int} {s : b6} {m pc : Int} {x : T8}
theorem ln4 (k : s.kind = 4) : y6 ars s m pc x = ((i5 ars s.body m pc (x.1, [])).1, x.2 ++ [⟨4, 0, nnE, nnE, s.count, (i5 ars s.body m pc (x.1, [])).2, []⟩]) := by
 obtain ⟨kd, tg, ix, vl, ct, bd, el⟩ := s
 have k : kd = 4 := k
 rw [y6, if_pos k]; rfl
theorem bC2 (k : s.kind = 3) (h : O5 (c6 x.1 ars 5 s.value) = true) : y6 ars s m pc x = i5 ars s.els (((b9 ars pc s.value x).1.1 ++ [f8 pc (c6 x.1 ars 5 s.value)]).length : Int) (f8 pc (c6 x.1 ars 5 s.value)) (i5 ars s.body ((b9 ars pc s.value x).1.1.length : Int) (f8 pc (c6 x.1 ars 5 s.value)) (ifM (b9 ars pc s.value x) m (f8 pc (c6 x.1 ars 5 s.value)))) := by
 obtain ⟨kd, tg, ix, vl, ct, bd, el⟩ := s
 have k : kd = 3 := k
 have h : O5 (c6 x.1 ars 5 vl) = true := h
 rw [y6, if_neg (by omega), if_pos k, if_pos h]; rfl
theorem bC3 (k : s.kind = 3) (h : O5 (c6 x.1 ars 5 s.value) = false) : y6 ars s m pc x = ((i5 ars s.els m (f8 pc (c6 x.1 ars 5 s.value)) ((i5 ars s.body m (f8 pc (c6 x.1 ars 5 s.value)) ((b9 ars pc s.value x).1.1, [])).1, [])).1,
  (b9 ars pc s.value x).1.2 ++ [⟨3, 0, nnE, (b9 ars pc s.value x).2, 0, (i5 ars s.body m (f8 pc (c6 x.1 ars 5 s.value)) ((b9 ars pc s.value x).1.1, [])).2, (i5 ars s.els m (f8 pc (c6 x.1 ars 5 s.value)) ((i5 ars s.body m (f8 pc (c6 x.1 ars 5 s.value)) ((b9 ars pc s.value x).1.1, [])).1, [])).2⟩]) := by
 obtain ⟨kd, tg, ix, vl, ct, bd, el⟩ := s
 have k : kd = 3 := k
 have h : O5 (c6 x.1 ars 5 vl) = false := h
 rw [y6, if_neg (by omega), if_pos k, if_neg (by rw [h]; decide)]; rfl
theorem ln5 (k : s.kind = 5) : y6 ars s m pc x = ((b9 ars pc s.value x).1.1, (b9 ars pc s.value x).1.2 ++ [⟨5, s.target, nnE, (b9 ars pc s.value x).2, 0, [], []⟩]) := by
 obtain ⟨kd, tg, ix, vl, ct, bd, el⟩ := s
 have k : kd = 5 := k
 rw [y6, if_neg (by omega), if_neg (by omega), if_pos k]; rfl
theorem ln1 (k : s.kind = 1) : y6 ars s m pc x = ((b9 ars pc s.value x).1.1, (b9 ars pc s.value x).1.2 ++ [I9 s.target (s9 m (b9 ars pc s.value x).2 (vrE s.target))]) := by
 obtain ⟨kd, tg, ix, vl, ct, bd, el⟩ := s
 have k : kd = 1 := k
 rw [y6, if_neg (by omega), if_neg (by omega), if_neg (by omega), if_pos k]; rfl
theorem bC4 (k : s.kind = 2) (h : O5 (c6 (b9 ars pc s.value x).1.1 ars 5 s.index) = true) : y6 ars s m pc x = ((b9 ars pc s.value x).1.1 ++ [f8 (c6 (b9 ars pc s.value x).1.1 ars 5 (b9 ars pc s.value x).2) pc], (b9 ars pc s.value x).1.2 ++ [I9 ((b9 ars pc s.value x).1.1.length : Int) (b9 ars pc s.value x).2] ++ stL ((b9 ars pc s.value x).1.1.length : Int) s.target s.index m 4) := by
 obtain ⟨kd, tg, ix, vl, ct, bd, el⟩ := s
 have k : kd = 2 := k
 have h : O5 (c6 (b9 ars pc vl x).1.1 ars 5 ix) = true := h
 rw [y6, if_neg (by omega), if_neg (by omega), if_neg (by omega), if_neg (by omega), if_pos h]; rfl
theorem bC5 (k : s.kind = 2) (h : O5 (c6 (b9 ars pc s.value x).1.1 ars 5 s.index) = false) : y6 ars s m pc x = ((b9 ars pc s.value x).1.1, (b9 ars pc s.value x).1.2 ++ [⟨2, s.target, s.index, s9 m (b9 ars pc s.value x).2 (rdE s.target s.index), 0, [], []⟩]) := by
 obtain ⟨kd, tg, ix, vl, ct, bd, el⟩ := s
 have k : kd = 2 := k
 have h : O5 (c6 (b9 ars pc vl x).1.1 ars 5 ix) = false := h
 rw [y6, if_neg (by omega), if_neg (by omega), if_neg (by omega), if_neg (by omega), if_neg (by rw [h]; decide)]; rfl
end
theorem v6 {nv nw na : Nat} (h : nv ≤ nw) : ∀ (d : Nat) (e : b7), c3 nv na d e = true → c3 nw na d e = true
 | 0, _, hs => by simp [c3] at hs
 | d + 1, e, hs => by
  simp only [c3, bL3, bL7] at hs ⊢
  refine ⟨⟨?_, fun x hx => v6 h d x (hs.1.2 x hx)⟩, hs.2⟩
  have h1 := hs.1.1
  simp only [s4, bL3, decide_eq_true_eq] at h1 ⊢
  refine ⟨h1.1, Int.lt_of_lt_of_le h1.2 ?_⟩
  unfold y5
  (repeat' split) <;> omega
theorem aq4 {nv na : Nat} : ∀ (d : Nat) (e : b7), c3 nv na d e = true → c3 nv na (d + 1) e = true
 | 0, _, hs => by simp [c3] at hs
 | d + 1, e, hs => by
  rw [c3] at hs ⊢
  simp only [bL3, bL7] at hs ⊢
  exact ⟨⟨hs.1.1, fun x hx => aq4 d x (hs.1.2 x hx)⟩, hs.2⟩
theorem aI0 {nv na c d : Nat} {e : b7} (h : c ≤ d) (hs : c3 nv na c e = true) : c3 nv na d e = true := by
 induction d with
 | zero => rwa [show c = 0 by omega] at hs
 | succ d ih =>
  rcases bO5 c (d + 1) with hl | hl
  ·exact aq4 d e (ih (by omega))
  ·rwa [show c = d + 1 by omega] at hs
theorem av2 {ars : List Int} {pc : Int} {nv na d : Nat} {e : b7} {s : T8} (ha : atomB e = true) (hs : c3 nv na d e = true) : b9 ars pc e s = (s, e) ∧ e.kids = [] := by
 obtain ⟨k, v, ks⟩ := e
 cases d with
 | zero => simp [c3] at hs
 | succ d =>
  have hk : k = 1 ∨ k = 2 := by
   have h := ha
   simp only [atomB, Bool.or_eq_true, decide_eq_true_eq] at h
   exact h
  have hn : ks = [] := by
   simp only [c3, s4, bL3, decide_eq_true_eq] at hs
   have h1 := hs.1.1.1.1
   have h2 : i8 k = 0 := by unfold i8; rw [if_pos hk]
   have h3 : (ks.length : Int) = 0 := h1.trans h2
   exact bN7 (by omega)
  subst hn
  refine ⟨?_, rfl⟩
  rw [b9, if_neg (by omega)]
  rfl
theorem aJ2 {nv na d : Nat} {e : b7} (k : e.kind = 3) (hs : c3 nv na (d + 1) e = true) : ∃ a, e.kids = [a] ∧ atomB a = true ∧ c3 nv na d a = true ∧ a.kids = [] := by
 obtain ⟨kd, v, ks⟩ := e
 have k : kd = 3 := k
 subst k
 simp only [c3, s4, bL3, decide_eq_true_eq] at hs
 have h1 : (ks.length : Int) = 1 := hs.1.1.1.1
 match ks, h1, hs with
 | [a], _, hs =>
  have h2 : atomB a = true := by
   have h := hs.2
   unfold H6 at h
   have h : (decide ((3 : Int) ≠ 3) || atomB a) = true := h
   simpa using h
  have h3 : c3 nv na d a = true := bL7.1 hs.1.2 a (bO0.2 rfl)
  exact ⟨a, rfl, h2, h3, (av2 (ars := []) (pc := 0) (s := ([], [])) h2 h3).2⟩
theorem aJ1 {ars : List Int} {pc : Int} {nv na d : Nat} {e : b7} {s : T8} (k : e.kind = 3) (hs : c3 nv na (d + 1) e = true) : n5 ars pc e.kids s = (s, e.kids) := by
 obtain ⟨a, h1, h2, h3, -⟩ := aJ2 k hs
 rw [h1]
 have := av2 (ars := ars) (pc := pc) (s := s) h2 h3
 simp only [n5, this.1]
structure Grw (nv na d : Nat) (sz : Nat) (s : T8) (r : T8) : Prop where
 lo : s.1.length ≤ r.1.length
 hi : r.1.length ≤ s.1.length + sz
 st : c9 r.2 ≤ c9 s.2 + 40 * sz
 len : s.2.length ≤ r.2.length
theorem ba1 (v a : Int) (i : b7) (hi : i.kids = []) : ∀ n : Nat, c9 (rdL v a i n) = 2 + 9 * n
 | 0 => rfl
 | n + 1 => by
  have h0 : r9 i = 0 := by cases i; simp only [b7.kids] at hi; subst hi; rfl
  rw [rdL, p6, ba1 v a i hi n]
  simp [c9, A7, r9, j1, h0]; omega
theorem aD0 (v a : Int) (i : b7) : ∀ n : Nat, (rdL v a i n).length = n + 1
 | 0 => rfl
 | n + 1 => by rw [rdL, bM3, aD0 v a i n]; rfl
theorem aX2 (v t : Int) (i : b7) (m : Int) : ∀ n : Nat, (stL v t i m n).length = n
 | 0 => rfl
 | n + 1 => by rw [stL, bM3, aX2 v t i m n]; rfl
theorem S8 (m : Int) (e f : b7) : r9 (s9 m e f) ≤ 3 + r9 e + r9 f := by
 unfold s9; split
 ·omega
 ·simp [r9, j1]; omega
theorem a84 (v t : Int) (i : b7) (m : Int) (hi : i.kids = []) : ∀ n : Nat, c9 (stL v t i m n) ≤ 20 * n
 | 0 => bM4 _
 | n + 1 => by
  have h0 : r9 i = 0 := by cases i; simp only [b7.kids] at hi; subst hi; rfl
  have h1 := a84 v t i m hi n
  have h2 := S8 m (U8 i (n : Int)) (cnE 0)
  have h3 : r9 (U8 i (n : Int)) = 4 := by simp [r9, j1, h0]
  have h4 : r9 (cnE 0) = 0 := rfl
  rw [stL, p6]
  simp only [c9, A7, r9, j1]
  omega
theorem a17 {nv na d : Nat} {v : Nat} (h : v < nv) : c3 nv na (d + 1) (vrE (v : Int)) = true := by
 simp [c3, s4, H6, i8, y5, b7.kids, b7.kind, b7.value, h]
theorem aY8 {ars : List Int} {pc : Int} {na d : Nat} (hg : ∀ (e : b7) (s : T8), c3 s.1.length na d e = true → Grw s.1.length na d (1 + r9 e) s (b9 ars pc e s).1 ∧ c3 (b9 ars pc e s).1.1.length na d (b9 ars pc e s).2 = true ∧ r9 (b9 ars pc e s).2 ≤ r9 e) :
  ∀ (ks : List b7) (s : T8), (∀ x ∈ ks, c3 s.1.length na d x = true) → Grw s.1.length na d (j1 ks) s (n5 ars pc ks s).1 ∧ (∀ x ∈ (n5 ars pc ks s).2, c3 (n5 ars pc ks s).1.1.length na d x = true) ∧ j1 (n5 ars pc ks s).2 ≤ j1 ks ∧ (n5 ars pc ks s).2.length = ks.length := by
 intro ks
 induction ks with
 | nil => intro s _; exact ⟨⟨bM4 _, bM4 _, bM4 _, bM4 _⟩, fun x hx => (by cases hx), bM4 _, rfl⟩
 | cons x r ih =>
  intro s h
  obtain ⟨g1, g2, g3⟩ := hg x s (h x bM7)
  obtain ⟨k1, k2, k3, k4⟩ := ih (b9 ars pc x s).1 fun y hy => v6 g1.lo d y (h y (bN4 _ hy))
  simp only [n5, j1]
  refine ⟨⟨bN5 g1.lo k1.lo, ?_, ?_, bN5 g1.len k1.len⟩, ?_, ?_, ?_⟩
  ·have := g1.hi; have := k1.hi; omega
  ·have := g1.st; have := k1.st; omega
  ·intro y hy
   rcases bO6.1 hy with rfl | hy
   ·exact v6 k1.lo d _ g2
   ·exact k2 y hy
  ·omega
  ·simp [k4]
theorem Y7 (ars : List Int) (pc : Int) (na : Nat) : ∀ (d : Nat) (e : b7) (s : T8), c3 s.1.length na d e = true →
  Grw s.1.length na d (1 + r9 e) s (b9 ars pc e s).1 ∧ c3 (b9 ars pc e s).1.1.length na d (b9 ars pc e s).2 = true ∧ r9 (b9 ars pc e s).2 ≤ r9 e
 | 0, _, _, hs => by simp [c3] at hs
 | d + 1, e, s, hs => by
  have key := aY8 (ars := ars) (pc := pc) (na := na) (d := d) fun e s h => Y7 ars pc na d e s h
  have hs0 := hs
  rw [c3] at hs
  simp only [bL3, bL7] at hs
  obtain ⟨g1, g2, g3, g4⟩ := key e.kids s hs.1.2
  rw [as4]
  split
  ·rename_i h
   obtain ⟨a, h1, h2, h3, h4⟩ := aJ2 h.1 hs0
   have hz : r9 e = 1 := by
    rw [t2, h1]
    have : r9 a = 0 := by rw [t2, h4]; rfl
    simp [j1, this]
   have hr := aJ1 (ars := ars) (pc := pc) (s := s) h.1 hs0
   have e0 : e.kids.getD 0 bL2 = a := by rw [h1]; rfl
   rw [hr, e0]
   refine ⟨⟨?_, ?_, ?_, ?_⟩, ?_, ?_⟩
   ·simp
   ·simp
   ·simp only [p6, ba1 _ _ a h4]; omega
   ·simp
   ·have : c3 (s.1.length + 1) na (d + 1) (vrE (s.1.length : Int)) = true := a17 (by omega)
    simpa using this
   ·exact bO9 _
  ·rename_i h
   refine ⟨⟨g1.lo, ?_, ?_, g1.len⟩, ?_, ?_⟩
   ·have := g1.hi; rw [t2]; show (n5 ars pc e.kids s).1.1.length ≤ _; omega
   ·have := g1.st; rw [t2]; show c9 (n5 ars pc e.kids s).1.2 ≤ _; omega
   ·rw [c3]
    simp only [bL3, bL7]
    refine ⟨⟨?_, g2⟩, ?_⟩
    ·have h1 := hs.1.1
     simp only [s4, bL3, decide_eq_true_eq] at h1 ⊢
     refine ⟨⟨?_, h1.1.2⟩, Int.lt_of_lt_of_le h1.2 ?_⟩
     ·show (((n5 ars pc e.kids s).2.length : Nat) : Int) = i8 e.kind
      rw [g4]; exact h1.1.1
     ·show y5 s.1.length na e.kind ≤ y5 (n5 ars pc e.kids s).1.1.length na e.kind
      have := g1.lo
      unfold y5
      (repeat' split) <;> omega
    ·by_cases k : e.kind = 3
     ·rw [aJ1 (ars := ars) (pc := pc) (s := s) k hs0]
      show H6 ⟨e.kind, e.value, e.kids⟩ = true
      rw [b7.eta]; exact hs.2
     ·unfold H6; rw [Bool.or_eq_true]; exact .inl (decide_eq_true k)
   ·rw [t2 e]; exact g3
mutual
def AV.den (t : Bool) (n : Nat) : AV → AV
 | .v x => .v x
 | .ptr a b => .ptr a b
 | .ea a b c d => .ea a b c d
 | .ref i => if !t && natEq i n then .v (.slice none 0 0) else .ref i
 | .agg l => .agg (AV.denL t n l)
 | .tup l => .tup (AV.denL t n l)
 | .fn f l => .fn f (AV.denL t n l)
 | .bm f l => .bm f (AV.denL t n l)
 | .tref i => if t && natEq i n then .v (.slice none 0 0) else .tref i
def AV.denL (t : Bool) (n : Nat) : List AV → List AV
 | [] => []
 | x :: r => x.den t n :: AV.denL t n r
end
def It.den (t : Bool) (n : Nat) : It → It
 | .box cs => .box (AV.denL t n cs)
 | x => x
mutual
theorem AV.val_den {ρ : Nat → Value} {t : Bool} {n : Nat} {z : Value} (hz : if t then v8 z = .slice none 0 0 else z = .slice none 0 0) : ∀ (x : AV), (∀ i ∈ (x.den t n).ids, i < n) → x.val (fun j => if j = n then z else ρ j) = (x.den t n).val ρ ∧ ∀ i ∈ x.ids, i < n + 1
 | .v _, _ => ⟨rfl, fun i hi => by simp [AV.ids] at hi⟩
 | .ptr a b, h => by
  have ha : a < n := h a (by simp [AV.den, AV.ids])
  refine ⟨?_, fun i hi => by simp [AV.ids] at hi; omega⟩
  simp only [AV.den, AV.val]
  rw [if_neg (by omega)]
 | .ea a b c d, h => by
  have ha : a < n := h a (by simp [AV.den, AV.ids])
  refine ⟨?_, fun i hi => by simp [AV.ids] at hi; omega⟩
  simp only [AV.den, AV.val]
  rw [if_neg (by omega)]
 | .ref a, h => by
  by_cases e : t = false ∧ a = n
  ·obtain ⟨rfl, rfl⟩ := e
   refine ⟨?_, fun i hi => by simp [AV.ids] at hi; omega⟩
   simp only [Bool.false_eq_true, if_false] at hz
   simp [AV.den, AV.val, natEq, hz]
  ·have hd : (AV.ref a).den t n = .ref a := by
    simp only [AV.den]
    rw [if_neg]
    simp [natEq]; intro h1 h2; exact e ⟨h1, h2⟩
   rw [hd] at h ⊢
   have ha : a < n := h a (by simp [AV.ids])
   refine ⟨?_, fun i hi => by simp [AV.ids] at hi; omega⟩
   simp only [AV.val]
   rw [if_neg (by omega)]
 | .tref a, h => by
  by_cases e : t = true ∧ a = n
  ·obtain ⟨rfl, rfl⟩ := e
   refine ⟨?_, fun i hi => by simp [AV.ids] at hi; omega⟩
   simp only [if_true] at hz
   simp [AV.den, AV.val, natEq, hz]
  ·have hd : (AV.tref a).den t n = .tref a := by
    simp only [AV.den]
    rw [if_neg]
    simp [natEq]; intro h1 h2; exact e ⟨h1, h2⟩
   rw [hd] at h ⊢
   have ha : a < n := h a (by simp [AV.ids])
   refine ⟨?_, fun i hi => by simp [AV.ids] at hi; omega⟩
   simp only [AV.val]
   rw [if_neg (by omega)]
 | .agg l, h => by
  obtain ⟨h1, h2⟩ := AV.vals_den hz l (by simpa [AV.den, AV.ids] using h)
  exact ⟨by simp only [AV.den, AV.val]; rw [h1], by simpa [AV.ids] using h2⟩
 | .tup l, h => by
  obtain ⟨h1, h2⟩ := AV.vals_den hz l (by simpa [AV.den, AV.ids] using h)
  exact ⟨by simp only [AV.den, AV.val]; rw [h1], by simpa [AV.ids] using h2⟩
 | .fn f l, h => by
  obtain ⟨h1, h2⟩ := AV.vals_den hz l (by simpa [AV.den, AV.ids] using h)
  exact ⟨by simp only [AV.den, AV.val]; rw [h1], by simpa [AV.ids] using h2⟩
 | .bm f l, h => by
  obtain ⟨h1, h2⟩ := AV.vals_den hz l (by simpa [AV.den, AV.ids] using h)
  exact ⟨by simp only [AV.den, AV.val]; rw [h1], by simpa [AV.ids] using h2⟩
theorem AV.vals_den {ρ : Nat → Value} {t : Bool} {n : Nat} {z : Value} (hz : if t then v8 z = .slice none 0 0 else z = .slice none 0 0) : ∀ (l : List AV), (∀ i ∈ AV.idsL (AV.denL t n l), i < n) → AV.vals (fun j => if j = n then z else ρ j) l = AV.vals ρ (AV.denL t n l) ∧ ∀ i ∈ AV.idsL l, i < n + 1
 | [], _ => ⟨rfl, fun i hi => by simp [AV.idsL] at hi⟩
 | x :: r, h => by
  obtain ⟨h1, h2⟩ := AV.val_den hz x fun i hi => h i (by simp only [AV.denL, AV.idsL, bN1]; exact .inl hi)
  obtain ⟨h3, h4⟩ := AV.vals_den hz r fun i hi => h i (by simp only [AV.denL, AV.idsL, bN1]; exact .inr hi)
  refine ⟨by simp only [AV.denL, AV.vals]; rw [h1, h3], fun i hi => ?_⟩
  simp only [AV.idsL, bN1] at hi
  rcases hi with hi | hi
  ·exact h2 i hi
  ·exact h4 i hi
end
theorem as1 {m : Bool} {n : Nat} {t : Nat} {x : AV} : ∀ {tm : List (Nat × AV)}, r6 tm t = some x → r6 (tm.map fun p => (p.1, p.2.den m n)) t = some (x.den m n)
 | [], h => by cases h
 | (k, y) :: r, h => by
  simp only [r6, bO4] at h ⊢
  split at h
  ·rename_i e; cases h; rw [if_pos e]
  ·rename_i e; rw [if_neg e]; exact as1 h
section
variable {P : Program} {ι : Type} {φ ψ : Nat → Prop} {w0 w : World} {F : ι → Rs} {ρ ρ0 : Nat → Value} {N m n : Nat} {S : List It} {tm : List (Nat × AV)} {a : Act}
theorem m8.nilW (G : m8 φ ψ w0 F N m ρ0 ρ S tm a w) (n : Nat) (hn : S.length = n) (b : Bool) (x : It) (z : Value) (hz : if b then v8 z = .slice none 0 0 else z = .slice none 0 0) (hids : x.ids = []) (hb : ∀ g, ¬ (x.res (fun j => if j = n then z else ρ j) n).blk g)
  (hx : ∀ φ', (x.res (fun j => if j = n then z else ρ j) n).holds w φ') (S1 : List It) (tm1 : List (Nat × AV)) (hS : S = S1.map (It.den b n)) (ht : tm = tm1.map fun p => (p.1, p.2.den b n)) :
  ∃ ρ', m8 φ ψ w0 F N m ρ0 ρ' (S1 ++ [x]) tm1 a w := by
 have hl : S1.length = n := by rw [← hn, hS, List.length_map]
 have hat : ∀ j (hj : j < n), j6 S j = (S1[j]'(by omega)).den b n := fun j hj => by
  rw [W9 (show j < S.length by omega)]
  have h1 := congrArg (·[j]?) hS
  simp only [List.getElem?_map, bL5 (show j < S.length by omega), bL5 (show j < S1.length by omega), Option.map_some, Option.some.injEq] at h1
  exact h1
 have hnew : ∀ j (hj : j < n), j6 (S1 ++ [x]) j = S1[j]'(by omega) := fun j hj => by
  simp [j6, bL4, bN2 (show j < S1.length by omega), bL5 (show j < S1.length by omega)]
 have hlast : j6 (S1 ++ [x]) n = x := by
  simp [j6, bL4, ← hl]
 have hout : ∀ j, n < j → j6 (S1 ++ [x]) j = .none := fun j hj => o0 (by simp; omega)
 have hbx : ∀ j (hj : j < n), ((S1[j]'(by omega)).res (fun j => if j = n then z else ρ j) j = (j6 S j).res ρ j) ∧ ∀ i ∈ (S1[j]'(by omega)).ids, i < n + 1 := fun j hj => by
  rw [hat j hj]
  have hb := (G.bd j).1
  rw [hat j hj, hn] at hb
  generalize S1[j]'(by omega) = x at *
  cases x with
  | box cs =>
   obtain ⟨h1, h2⟩ := AV.vals_den (ρ := ρ) (n := n) hz cs hb
   refine ⟨?_, h2⟩
   simp only [It.res, It.den]
   rw [h1, if_neg (show ¬ j = n by omega)]
  | none => exact ⟨rfl, fun i hi => by cases hi⟩
  | dead => exact ⟨rfl, fun i hi => by cases hi⟩
  | dat d' => exact ⟨by simp only [It.res, It.den]; rw [if_neg (show ¬ j = n by omega)], fun i hi => by cases hi⟩
  | row e' d' => exact ⟨by simp only [It.res, It.den]; rw [if_neg (show ¬ j = n by omega)], fun i hi => by cases hi⟩
  | tree d' => exact ⟨by simp only [It.res, It.den]; rw [if_neg (show ¬ j = n by omega)], fun i hi => by cases hi⟩
  | kept e' d' => exact ⟨by cases e' <;> (simp only [It.res, It.den]; rw [if_neg (show ¬ j = n by omega)]), fun i hi => by cases hi⟩
  | hole k q ls =>
   have hk : k < n := hb k (by simp [It.den, It.ids])
   exact ⟨by simp only [It.res, It.den]; rw [if_neg (show ¬ j = n by omega), if_neg (show ¬ k = n by omega)], fun i hi => by simp [It.ids] at hi; omega⟩
 have hw : ∀ t x, r6 tm1 t = some x → x.val (fun j => if j = n then z else ρ j) = (x.den b n).val ρ ∧ ∀ i ∈ x.ids, i < n + 1 := fun t x hx => by
  refine AV.val_den hz x fun i hi => ?_
  have h1 : r6 tm t = some (x.den b n) := by rw [ht]; exact as1 hx
  have := G.tmi t _ h1 i hi
  omega
 refine ⟨fun j => if j = n then z else ρ j, ?_⟩
 refine ⟨G.size, G.defs, fun t x hx => ?_, fun t x hx i hi => ?_, fun j => ⟨fun i hi => ?_, fun hj => o0 hj⟩, ?_, ?_, fun i hi => ?_⟩
 ·have h1 : r6 tm t = some (x.den b n) := by rw [ht]; exact as1 hx
  rw [(hw t x hx).1]; exact G.tmv t _ h1
 ·have := (hw t x hx).2 i hi
  simp; omega
 ·rcases Nat.lt_trichotomy j n with h | h | h
  ·rw [hnew j h] at hi
   have := (hbx j h).2 i hi
   simp; omega
  ·subst h; rw [hlast, hids] at hi; cases hi
  ·rw [hout j h] at hi; cases hi
 ·refine f7.put G.mem (.inr n) (fun k hk => ?_) (t7.refl _ _) ?_ ?_
  ·cases k with
   | inl i => rfl
   | inr j =>
    simp only [j0]
    rcases Nat.lt_trichotomy j n with h | h | h
    ·rw [hnew j h]; exact (hbx j h).1
    ·exact absurd (by rw [h]) hk
    ·rw [hout j h, o0 (show S.length ≤ j by omega)]; rfl
  ·simp only [j0, hlast]; exact hx _
  ·intro g hg
   simp only [j0, hlast] at hg
   exact absurd hg (hb g)
 ·have := G.le; simp; omega
 ·show (if i = n then _ else ρ i) = ρ0 i
  have := G.le
  rw [if_neg (by omega)]; exact G.old i hi
theorem m8.nil (G : m8 φ ψ w0 F N m ρ0 ρ S tm a w) (n : Nat) (e : TypeId) (d : D) (k : Nat) (S1 : List It) (tm1 : List (Nat × AV)) (hn : S.length = n := by kernel_rfl) (hd : D.nil k = some d := by kernel_rfl) (hS : S = S1.map (It.den false n) := by kernel_rfl) (ht : tm = tm1.map (fun p => (p.1, p.2.den false n)) := by kernel_rfl) :
  ∃ ρ', m8 φ ψ w0 F N m ρ0 ρ' (S1 ++ [.row e d]) tm1 a w := by
 have hz := D.nil_len hd
 refine G.nilW n hn false (.row e d) (.slice none 0 0) (by simp) rfl (fun g hg => ?_) (fun φ' => ?_) S1 tm1 hS ht
 ·simp only [It.res, if_true] at hg
  cases hg
 ·simp only [It.res, if_true]
  refine ⟨fun xs => RW.nice d xs, [], ?_, RW.nil hz _⟩
  rw [hz]; exact World.ownsRow_nil _ _ _ _
theorem m8.nilT (G : m8 φ ψ w0 F N m ρ0 ρ S tm a w) (n : Nat) (d : D) (S1 : List It) (tm1 : List (Nat × AV)) (hn : S.length = n := by kernel_rfl) (hd : ((aa7 d).isSome && natEq d.len 0) = true := by kernel_rfl) (hS : S = S1.map (It.den true n) := by kernel_rfl) (ht : tm = tm1.map (fun p => (p.1, p.2.den true n)) := by kernel_rfl) :
  ∃ ρ', m8 φ ψ w0 F N m ρ0 ρ' (S1 ++ [.tree d]) tm1 a w := by
 simp only [bL3, natEq, beq_iff_eq] at hd
 obtain ⟨e, he⟩ := bP0.1 hd.1
 obtain ⟨z, h1, h2⟩ := au1 (.slice none 0 0) (fun _ => False) 0 fun b h => h.elim
 refine G.nilW n hn true (.tree d) z (by simp [h1]) rfl (fun g hg => ?_) (fun φ' => ?_) S1 tm1 hS ht
 ·simp only [It.res, if_true] at hg
  exact ((h2 g).1 hg).elim
 ·simp only [It.res, if_true]
  rw [h1]
  refine ⟨fun _ _ h hs => h.same hs, ⟨e, [], fun _ => False, he, ?_, (fun g hg => by cases hg), (fun b hb => hb.elim), ?_⟩, fun b hb => ((h2 b).1 hb).elim⟩
  ·rw [hd.2]; exact World.ownsRow_nil _ _ _ _
  ·have h0 := hd.2
   cases d <;> simp only [aa7] at he <;> first | cases he | skip
   all_goals (simp only [D.len] at h0; rw [bN7 h0]; rfl)
end
inductive Ln where
 | no
 | row (e : TypeId)
 | tree
def o6 (M : List Ln) (i : Nat) : Ln := M.getD i .no
def Ln.isT : Ln → Bool
 | .tree => true
 | _ => false
mutual
def AV.tr (M : List Ln) : AV → AV
 | .v x => .v x
 | .ptr a b => .ptr a b
 | .ea a b c d => .ea a b c d
 | .ref i => if (o6 M i).isT then .tref i else .ref i
 | .agg l => .agg (AV.trL M l)
 | .tup l => .tup (AV.trL M l)
 | .fn f l => .fn f (AV.trL M l)
 | .bm f l => .bm f (AV.trL M l)
 | .tref i => .tref i
def AV.trL (M : List Ln) : List AV → List AV
 | [] => []
 | x :: r => x.tr M :: AV.trL M r
end
mutual
def AV.trOk (M : List Ln) : AV → Bool
 | .v _ => true
 | .ptr a _ => !(o6 M a).isT
 | .ea a _ _ _ => !(o6 M a).isT
 | .ref _ => true
 | .agg l => AV.trOkL M l
 | .tup l => AV.trOkL M l
 | .fn _ l => AV.trOkL M l
 | .bm _ l => AV.trOkL M l
 | .tref i => !(o6 M i).isT
def AV.trOkL (M : List Ln) : List AV → Bool
 | [] => true
 | x :: r => x.trOk M && AV.trOkL M r
end
mutual
theorem AV.val_tr {ρ ρ' : Nat → Value} {M : List Ln} (h : ∀ i, ρ' i = if (o6 M i).isT then v8 (ρ i) else ρ i) : ∀ (x : AV), x.trOk M = true → (x.tr M).val ρ = x.val ρ'
 | .v _, _ => rfl
 | .ptr a _, hx => by
  simp only [AV.trOk, bL9] at hx
  simp only [AV.tr, AV.val]; rw [h a, hx]; rfl
 | .ea a _ _ _, hx => by
  simp only [AV.trOk, bL9] at hx
  simp only [AV.tr, AV.val]; rw [h a, hx]; rfl
 | .ref i, _ => by
  simp only [AV.tr]
  cases hm : (o6 M i).isT
  ·simp only [Bool.false_eq_true, if_false, AV.val]; rw [h i, hm]; rfl
  ·simp only [if_true, AV.val]; rw [h i, hm]; rfl
 | .agg l, hx => by simp only [AV.tr, AV.val]; rw [AV.vals_tr h l (by simpa [AV.trOk] using hx)]
 | .tup l, hx => by simp only [AV.tr, AV.val]; rw [AV.vals_tr h l (by simpa [AV.trOk] using hx)]
 | .fn _ l, hx => by simp only [AV.tr, AV.val]; rw [AV.vals_tr h l (by simpa [AV.trOk] using hx)]
 | .bm _ l, hx => by simp only [AV.tr, AV.val]; rw [AV.vals_tr h l (by simpa [AV.trOk] using hx)]
 | .tref i, hx => by
  simp only [AV.trOk, bL9] at hx
  simp only [AV.tr, AV.val]; rw [h i, hx]; rfl
theorem AV.vals_tr {ρ ρ' : Nat → Value} {M : List Ln} (h : ∀ i, ρ' i = if (o6 M i).isT then v8 (ρ i) else ρ i) : ∀ (l : List AV), AV.trOkL M l = true → AV.vals ρ (AV.trL M l) = AV.vals ρ' l
 | [], _ => rfl
 | x :: r, hx => by
  simp only [AV.trOkL, bL3] at hx
  simp only [AV.trL, AV.vals]; rw [AV.val_tr h x hx.1, AV.vals_tr h r hx.2]
end
def s0 (M : List Ln) : Ln → It → It
 | .row e, .dat d => .row e d
 | .tree, .dat d => .tree d
 | .no, .box cs => .box (AV.trL M cs)
 | _, x => x
def J5 (M : List Ln) (S : List It) : List It := (bM9 S.length).map fun i => s0 M (o6 M i) (j6 S i)
theorem L7 (M : List Ln) (S : List It) (i : Nat) : j6 (J5 M S) i = s0 M (o6 M i) (j6 S i) := by
 unfold J5
 rcases bO5 i S.length with h | h
 ·conv => lhs; rw [j6, bL4, List.getElem?_map, List.getElem?_range h]
  rfl
 ·rw [o0 (by simpa using h), o0 h]
  cases o6 M i <;> rfl
def aL5 : D → Bool
 | .rows _ => false
 | .brows _ => false
 | .exprs _ => false
 | .stmts _ => false
 | _ => true
theorem a00 {w w' : World} {φ φ' : Nat → Prop} {d : D} {xs : List Value} (hd : aL5 d = true) (h : RW w φ d xs) : RW w' φ' d xs := by
 intro i hi j x hx
 obtain ⟨u, h1, h2⟩ := h i hi j x hx
 refine ⟨u, h1, ?_⟩
 have : ∃ y, x = .v y := by
  have hm := bN3 hx
  cases d <;> simp only [aL5, Bool.false_eq_true] at hd <;> simp [D.elem, aS5, ad4] at hm
  ·exact ⟨_, hm⟩
  ·exact ⟨_, hm⟩
  ·exact ⟨_, hm⟩
  ·exact ⟨_, hm⟩
  ·rcases hm with h | h | h | h | h <;> exact ⟨_, h⟩
  ·rcases hm with h | h <;> exact ⟨_, h⟩
 obtain ⟨y, rfl⟩ := this
 exact h2
def aE2 (M : List Ln) (l : Ln) (p x : It) : Bool :=
 match l with
 | .no => match x with
  | .dat _ => (match p with | .dat _ => true | _ => false)
  | .row _ d => aL5 d
  | .box cs => AV.trOkL M cs
  | .kept _ _ => false
  | .hole _ _ _ => false
  | _ => true
 | .row _ => (match p, x with | .dat d, .dat _ => aL5 d | _, _ => false)
 | .tree => (match p, x with | .dat d, .dat _ => (aa7 d).isSome | _, _ => false)
def ba4 (M : List Ln) (l : Ln) (p : It) : Bool :=
 match l, p with
 | .no, .box cs => AV.trOkL M cs
 | .no, .hole _ _ _ => false
 | _, _ => true
def bc3 (M : List Ln) (c : d8) : Bool :=
 decide (M.length ≤ c.pre.length) && decide (c.pre.length ≤ c.post.length) && AV.trOkL M c.args && c.res.trOk M && (bM9 c.post.length).all (fun i => aE2 M (o6 M i) (j6 c.pre i) (j6 c.post i)) && (bM9 c.pre.length).all fun i => ba4 M (o6 M i) (j6 c.pre i)
def Rs.snap (w : World) (r : Rs) : Rs := .own r.blk fun w' => ∀ b, r.blk b → b < w.heap.size → w'.heap[b]? = w.heap[b]?
theorem Rs.snap_holds {w : World} {φ φ' : Nat → Prop} {r : Rs} (h : r.holds w φ) : (r.snap w).holds w φ' := by
 refine ⟨fun w1 w2 h1 h2 b hb hlt => ?_, fun b _ _ => rfl, fun b hb => Rs.lt h hb⟩
 have h3 := h1 b hb hlt
 rw [h2 b hb, h3]
 have : (w1.heap[b]?).isSome = true := by rw [h3, Array.getElem?_eq_getElem hlt]; rfl
 obtain ⟨o, ho⟩ := bP0.1 this
 exact (Array.getElem?_eq_some_iff.1 ho).1
theorem aF2 : ∀ {P X : List It} {i : Nat} {d e : D}, ai9 P X = ai8 P X → j6 P i = .dat d → j6 X i = .dat e → d = e
 | P, X, i, d, e, h, h1, h2 => by
  have hp : P[i]? = some (.dat d) := by
   rcases bO5 i P.length with hl | hl
   ·rw [W9 hl] at h1; rw [bL5 hl, h1]
   ·rw [o0 hl] at h1; cases h1
  have hx : X[i]? = some (.dat e) := by
   rcases bO5 i X.length with hl | hl
   ·rw [W9 hl] at h2; rw [bL5 hl, h2]
   ·rw [o0 hl] at h2; cases h2
  exact bw1 h hp hx
theorem d8.lend0 {P : Program} {c : d8} (hc : c.ok P) (M : List Ln) (hb : bc3 M c = true) (he : ai9 c.pre c.post = ai8 c.pre c.post) : d8.ok P ⟨c.f, AV.trL M c.args, J5 M c.pre, J5 M c.post, c.res.tr M⟩ := by
 simp only [bc3, bL3, decide_eq_true_eq] at hb
 obtain ⟨⟨⟨⟨⟨hM, hle⟩, hargs⟩, hres⟩, hpost⟩, hpre⟩ := hb
 have hno : ∀ i, c.pre.length ≤ i → o6 M i = .no := fun i hi => by
  unfold o6; rw [bL4, bM8 (by omega)]; rfl
 have hpo : ∀ i, aE2 M (o6 M i) (j6 c.pre i) (j6 c.post i) = true := fun i => by
  rcases bO5 i c.post.length with h | h
  ·exact bL7.1 hpost i (List.mem_range.2 h)
  ·rw [hno i (by omega), o0 h]; rfl
 have hpr : ∀ i, ba4 M (o6 M i) (j6 c.pre i) = true := fun i => by
  rcases bO5 i c.pre.length with h | h
  ·exact bL7.1 hpre i (List.mem_range.2 h)
  ·rw [hno i h, o0 h]; rfl
 intro ι φ ψ w0 w F ρ MM
 let ρ1 : Nat → Value := fun i => if (o6 M i).isT then v8 (ρ i) else ρ i
 have hρ1 : ∀ i, ρ1 i = if (o6 M i).isT then v8 (ρ i) else ρ i := fun _ => rfl
 let F1 : ι → Rs := fun i => (F i).snap w
 have hLi : ∀ i, j0 F ρ (j6 (J5 M c.pre)) (.inl i) = F i := fun _ => rfl
 have hLj : ∀ j, j0 F ρ (j6 (J5 M c.pre)) (.inr j) = (s0 M (o6 M j) (j6 c.pre j)).res ρ j := fun j => by simp only [j0]; rw [L7]
 generalize hL : j0 F ρ (j6 (J5 M c.pre)) = L at MM hLi hLj
 have h1j : ∀ j, o6 M j = .no → (j6 c.pre j).res ρ1 j = L (.inr j) := fun j hl => by
  rw [hLj, hl]
  have hp := hpr j
  have e : ρ1 j = ρ j := by rw [hρ1, hl]; rfl
  cases hx : j6 c.pre j with
  | none => rfl
  | dead => rfl
  | dat d => simp only [s0, It.res]; rw [e]
  | row e' d => simp only [s0, It.res]; rw [e]
  | tree d => simp only [s0, It.res]; rw [e]
  | kept e' d => cases e' <;> (simp only [s0, It.res]; rw [e])
  | hole k i ls => rw [hl, hx] at hp; cases hp
  | box cs =>
   rw [hl, hx] at hp
   simp only [ba4] at hp
   simp only [s0, It.res]
   rw [e, AV.vals_tr hρ1 cs hp]
 have hlent : ∀ j, o6 M j ≠ .no → (∃ d, j6 c.pre j = .dat d ∧ j6 c.post j = .dat d ∧ ((∃ e, o6 M j = .row e ∧ aL5 d = true) ∨ o6 M j = .tree)) := fun j hj => by
  have h := hpo j
  cases hl : o6 M j with
  | no => exact absurd hl hj
  | row e =>
   rw [hl] at h
   simp only [aE2] at h
   split at h
   ·rename_i d d' h1 h2
    exact ⟨d, h1, by rw [h2, ← aF2 he h1 h2], .inl ⟨e, rfl, h⟩⟩
   ·cases h
  | tree =>
   rw [hl] at h
   simp only [aE2] at h
   split at h
   ·rename_i d d' h1 h2
    exact ⟨d, h1, by rw [h2, ← aF2 he h1 h2], .inr rfl⟩
   ·cases h
 have hsub : ∀ k b, (j0 F1 ρ1 (j6 c.pre) k).blk b → (L k).blk b ∧ ∀ j, k = .inr j → o6 M j = .no := fun k b hb => by
  cases k with
  | inl i => rw [hLi]; exact ⟨hb, fun j h => by cases h⟩
  | inr j =>
   by_cases hl : o6 M j = .no
   ·simp only [j0] at hb
    rw [h1j j hl] at hb
    exact ⟨hb, fun j' h => by cases h; exact hl⟩
   ·obtain ⟨d, h1, _⟩ := hlent j hl
    simp only [j0, h1, It.res] at hb
    exact hb.elim
 have hfr1 : ∀ b, R2 φ L b → R2 φ (j0 F1 ρ1 (j6 c.pre)) b := fun b hb => ⟨hb.1, fun k hk => hb.2 k (hsub k b hk).1⟩
 let ψ1 : Nat → Prop := fun b => ∀ k, ¬ (j0 F1 ρ1 (j6 c.pre) k).blk b
 have M1 : f7 φ ψ1 w w (j0 F1 ρ1 (j6 c.pre)) := by
  refine ⟨t7.refl _ _, fun b hb => MM.fresh b (bN5 MM.size hb), fun k => ?_, fun k k' b hkk h1 h2 => MM.dis k k' b hkk (hsub k b h1).1 (hsub k' b h2).1, fun k b h1 => .inr fun h => h k h1, fun k b h1 => MM.ph k b (hsub k b h1).1⟩
  cases k with
  | inl i => exact Rs.snap_holds (show (F i).holds w _ from by rw [← hLi i]; exact MM.holds (.inl i))
  | inr j =>
   by_cases hl : o6 M j = .no
   ·simp only [j0]
    rw [h1j j hl]
    exact Rs.keep (MM.holds (.inr j)) (X6.mono fun b _ hf => hfr1 b hf) fun _ _ => rfl
   ·obtain ⟨d, h1, h2, h3⟩ := hlent j hl
    have hh := MM.holds (.inr j)
    have hown : ∀ b, (L (.inr j)).blk b → R2 φ (j0 F1 ρ1 (j6 c.pre)) b := fun b hb => ⟨MM.ph _ _ hb, fun k hk => by
     obtain ⟨q1, q2⟩ := hsub k b hk
     by_cases e : k = .inr j
     ·exact hl (q2 j e)
     ·exact MM.dis k (.inr j) b e q1 hb⟩
    simp only [j0, h1, It.res]
    refine ⟨RD.nice _ _, ?_⟩
    rcases h3 with ⟨e, h3, hflat⟩ | h3
    ·rw [hLj, h3, h1] at hh
     simp only [s0, It.res] at hh
     obtain ⟨_, xs, o1, o2⟩ := hh
     have e1 : ρ1 j = ρ j := by rw [hρ1, h3]; rfl
     rw [e1]
     refine RD.make (t8 o1 fun g hg => hown g ?_) (a00 hflat o2)
     rw [hLj, h3, h1]; exact hg
    ·rw [hLj, h3, h1] at hh
     simp only [s0, It.res] at hh
     have e1 : ρ1 j = v8 (ρ j) := by rw [hρ1, h3]; rfl
     rw [e1]
     refine v9.read hh.2.1 fun b hb => hown b ?_
     rw [hLj, h3, h1]; exact hb
 simp only
 rw [AV.vals_tr hρ1 c.args hargs]
 refine (hc ι φ ψ1 w w F1 ρ1 M1).mono ?_
 rintro x w' ⟨ρ2, g1, g2, M2⟩
 have hplen : (J5 M c.pre).length = c.pre.length := by simp [J5]
 let ρ' : Nat → Value := fun j => if j < c.pre.length then ρ j else ρ2 j
 have hρ' : ∀ j, ρ2 j = if (o6 M j).isT then v8 (ρ' j) else ρ' j := fun j => by
  show _ = if (o6 M j).isT then v8 (if j < c.pre.length then ρ j else ρ2 j) else (if j < c.pre.length then ρ j else ρ2 j)
  rcases bO5 j c.pre.length with h | h
  ·rw [if_pos h, g1 j h]
  ·rw [hno j h]
   exact (if_neg (Nat.not_lt.2 h)).symm
 have hρo : ∀ j, o6 M j ≠ .no → ρ' j = ρ j := fun j hj => by
  rcases bO5 j c.pre.length with h | h
  ·exact if_pos h
  ·exact absurd (hno j h) hj
 refine ⟨ρ', fun i hi => if_pos (by rw [hplen] at hi; exact hi), by rw [AV.val_tr hρ' c.res hres]; exact g2, ?_⟩
 have hL'j : ∀ j, j0 F ρ' (j6 (J5 M c.post)) (.inr j) = (s0 M (o6 M j) (j6 c.post j)).res ρ' j := fun j => by simp only [j0]; rw [L7]
 have hL'i : ∀ i, j0 F ρ' (j6 (J5 M c.post)) (.inl i) = F i := fun _ => rfl
 generalize hL' : j0 F ρ' (j6 (J5 M c.post)) = L' at hL'j hL'i
 have hL2j : ∀ j, o6 M j = .no → L' (.inr j) = j0 F1 ρ2 (j6 c.post) (.inr j) := fun j hl => by
  rw [hL'j, hl]
  have hp := hpo j
  have e : ρ2 j = ρ' j := by rw [hρ', hl]; rfl
  simp only [j0]
  cases hx : j6 c.post j with
  | none => rfl
  | dead => rfl
  | dat d => simp only [s0, It.res]; rw [e]
  | row e' d => simp only [s0, It.res]; rw [e]
  | tree d => simp only [s0, It.res]; rw [e]
  | kept e' d => cases e' <;> (simp only [s0, It.res]; rw [e])
  | hole k i ls => rw [hl, hx] at hp; cases hp
  | box cs =>
   rw [hl, hx] at hp
   simp only [aE2] at hp
   simp only [s0, It.res]
   rw [e, AV.vals_tr hρ' cs hp]
 have hlj : ∀ j, o6 M j ≠ .no → L' (.inr j) = L (.inr j) := fun j hl => by
  obtain ⟨d, h1, h2, h3⟩ := hlent j hl
  rw [hL'j, hLj, h1, h2]
  rcases h3 with ⟨e, h3, _⟩ | h3
  ·rw [h3]; simp only [s0, It.res]; rw [hρo j hl]
  ·rw [h3]; simp only [s0, It.res]; rw [hρo j hl]
 have hin : ∀ b, b < w.heap.size → ¬ ψ1 b → ∃ k, (L k).blk b ∧ ∀ j, k = .inr j → o6 M j = .no := fun b _ hn => by
  obtain ⟨k, hk⟩ := Classical.not_forall.1 hn
  exact ⟨k, hsub k b (Classical.not_not.1 hk)⟩
 have hnew : ∀ k b, (∀ j, k = .inr j → o6 M j = .no) → (j0 F1 ρ2 (j6 c.post) k).blk b → b < w.heap.size → ∃ k', (L k').blk b ∧ ∀ j, k' = .inr j → o6 M j = .no := fun k b _ hb hlt => by
  rcases M2.ge k b hb with h | h
  ·omega
  ·exact hin b hlt h
 have hback : ∀ k b, (L' k).blk b → b < w.heap.size → ∃ k', (L k').blk b := fun k b hb hlt => by
  cases k with
  | inl i => rw [hL'i] at hb; exact ⟨.inl i, by rw [hLi]; exact hb⟩
  | inr j =>
   by_cases hl : o6 M j = .no
   ·rw [hL2j j hl] at hb
    obtain ⟨k', h1, _⟩ := hnew (.inr j) b (fun j' h => by cases h; exact hl) hb hlt
    exact ⟨k', h1⟩
   ·rw [hlj j hl] at hb; exact ⟨_, hb⟩
 have hsame : ∀ b, b < w.heap.size → ψ1 b → w'.heap[b]? = w.heap[b]? := fun b h1 h2 => M2.kept.block b h1 h2
 have hagr : X6 (R2 φ L) (R2 φ L') w w' := ⟨M2.kept.size, fun b hb hf => ⟨⟨hf.1, fun k hk => let ⟨k', h1⟩ := hback k b hk hb; hf.2 k' h1⟩, hsame b hb fun k hk => (hfr1 b hf).2 k hk⟩⟩
 have hlsame : ∀ j, o6 M j ≠ .no → ∀ b, (L (.inr j)).blk b → w'.heap[b]? = w.heap[b]? := fun j hl b hb => hsame b (MM.lt hb) fun k hk => by
  obtain ⟨q1, q2⟩ := hsub k b hk
  by_cases e : k = .inr j
  ·exact hl (q2 j e)
  ·exact MM.dis k (.inr j) b e q1 hb
 have hcross : ∀ j k b, o6 M j ≠ .no → (∀ j, k = .inr j → o6 M j = .no) → (L (.inr j)).blk b → ¬ (j0 F1 ρ2 (j6 c.post) k).blk b := fun j k b hl hk h1 h2 => by
  obtain ⟨k', h3, h4⟩ := hnew k b hk h2 (MM.lt h1)
  exact MM.dis k' (.inr j) b (fun e => hl (h4 j e)) h3 h1
 refine ⟨⟨M2.kept.os.trans MM.kept.os, M2.kept.tape.trans MM.kept.tape, M2.kept.output.trans MM.kept.output, bN5 MM.size M2.kept.size, fun b hb hp => (hsame b (Nat.lt_of_lt_of_le hb MM.size) fun k hk => ?_).trans (MM.kept.block b hb hp)⟩, MM.fresh, fun k => ?_, fun k k' b hkk h1 h2 => ?_, fun k b h1 => ?_, fun k b h1 => ?_⟩
 ·rcases MM.ge k b (hsub k b hk).1 with h | h
  ·omega
  ·exact h hp
 ·cases k with
  | inl i =>
   rw [hL'i, ← hLi i]
   refine Rs.keep (MM.holds (.inl i)) hagr fun b hb => ?_
   have := (M2.holds (.inl i)).2.1 b (by rw [← hLi i]; exact hb) (MM.lt hb)
   exact this
  | inr j =>
   by_cases hl : o6 M j = .no
   ·have hh := M2.holds (.inr j)
    rw [← hL2j j hl] at hh
    have hp := hpo j
    rw [hl] at hp
    cases hx : j6 c.post j with
    | none => rw [hL'j, hl, hx]; exact Rs.none_holds _ _
    | dead => rw [hL'j, hl, hx]; exact Rs.none_holds _ _
    | box cs => rw [hL'j, hl, hx] at hh ⊢; exact hh
    | tree d => rw [hL'j, hl, hx] at hh ⊢; exact hh
    | kept e' d => rw [hx] at hp; exact absurd hp (by simp [aE2])
    | hole k i ls => rw [hx] at hp; exact absurd hp (by simp [aE2])
    | row e d =>
     rw [hx] at hp
     simp only [aE2] at hp
     rw [hL'j, hl, hx] at hh ⊢
     simp only [s0, It.res] at hh ⊢
     obtain ⟨_, xs, o1, o2⟩ := hh
     exact ⟨fun xs => RW.nice d xs, xs, o1, a00 hp o2⟩
    | dat d =>
     rw [hx] at hp
     simp only [aE2] at hp
     split at hp
     ·rename_i d' hpx
      have hd : d' = d := aF2 he hpx hx
      subst hd
      have e : L' (.inr j) = L (.inr j) := by
       rw [hL'j, hLj, hl, hx, hpx]
       simp only [s0, It.res]
       have : j < c.pre.length := by
        rcases bO5 j c.pre.length with h | h
        ·exact h
        ·rw [o0 h] at hpx; cases hpx
       rw [show ρ' j = ρ j from if_pos this]
      rw [e]
      refine Rs.keep (MM.holds (.inr j)) hagr fun b hb => ?_
      rw [hLj, hl, hpx] at hb
      exact hb.elim
     ·cases hp
   ·rw [hlj j hl]
    exact Rs.keep (MM.holds (.inr j)) hagr fun b hb => hlsame j hl b hb
 ·have key : ∀ k, (∃ j, k = .inr j ∧ o6 M j ≠ .no ∧ (L' k) = L k) ∨ ((∀ j, k = .inr j → o6 M j = .no) ∧ ∀ b, (L' k).blk b → (j0 F1 ρ2 (j6 c.post) k).blk b) := fun k => by
   cases k with
   | inl i => exact .inr ⟨(fun j h => by cases h), fun b hb => by rw [hL'i] at hb; exact hb⟩
   | inr j =>
    by_cases hl : o6 M j = .no
    ·exact .inr ⟨fun j' h => by cases h; exact hl, fun b hb => by rw [hL2j j hl] at hb; exact hb⟩
    ·exact .inl ⟨j, rfl, hl, hlj j hl⟩
  rcases key k with ⟨j, rfl, k1, k2⟩ | ⟨k1, k2⟩ <;> rcases key k' with ⟨j', rfl, k3, k4⟩ | ⟨k3, k4⟩
  ·rw [k2] at h1; rw [k4] at h2; exact MM.dis _ _ b hkk h1 h2
  ·rw [k2] at h1; exact hcross j k' b k1 k3 h1 (k4 b h2)
  ·rw [k4] at h2; exact hcross j' k b k3 k1 h2 (k2 b h1)
  ·exact M2.dis k k' b hkk (k2 b h1) (k4 b h2)
 ·cases k with
  | inl i => rw [hL'i, ← hLi i] at h1; exact MM.ge _ b h1
  | inr j =>
   by_cases hl : o6 M j = .no
   ·rw [hL2j j hl] at h1
    rcases bO5 b w.heap.size with hlt | hge
    ·obtain ⟨k', h2, _⟩ := hnew (.inr j) b (fun j' h => by cases h; exact hl) h1 hlt
     exact MM.ge k' b h2
    ·exact .inl (bN5 MM.size hge)
   ·rw [hlj j hl] at h1; exact MM.ge _ b h1
 ·cases k with
  | inl i => rw [hL'i, ← hLi i] at h1; exact MM.ph _ b h1
  | inr j =>
   by_cases hl : o6 M j = .no
   ·rw [hL2j j hl] at h1; exact M2.ph _ b h1
   ·rw [hlj j hl] at h1; exact MM.ph _ b h1
def bd1 (M : List Ln) : Ln → It → It
 | .row e, .dat d => .kept (some e) d
 | .tree, .dat d => .kept none d
 | .no, .box cs => .box (AV.trL M cs)
 | _, x => x
def bd0 (M : List Ln) (S : List It) : List It := (bM9 S.length).map fun i => bd1 M (o6 M i) (j6 S i)
theorem bb9 (M : List Ln) (S : List It) (i : Nat) : j6 (bd0 M S) i = bd1 M (o6 M i) (j6 S i) := by
 unfold bd0
 rcases bO5 i S.length with h | h
 ·conv => lhs; rw [j6, bL4, List.getElem?_map, List.getElem?_range h]
  rfl
 ·rw [o0 (by simpa using h), o0 h]
  cases o6 M i <;> rfl
theorem d8.lend {P : Program} {c : d8} (hc : c.ok P) (M : List Ln) (hb : bc3 M c = true := by kernel_rfl) (he : ai9 c.pre c.post = ai8 c.pre c.post := by kernel_rfl) : d8.ok P ⟨c.f, AV.trL M c.args, J5 M c.pre, bd0 M c.post, c.res.tr M⟩ :=
 d8.okPost (d8.lend0 hc M hb he) _ fun ρ i => by
  simp only
  rw [bb9, L7]
  cases o6 M i <;> cases j6 c.post i <;> rfl
section
variable {P : Program} {ι κ : Type} {φ ψ : Nat → Prop} {w0 w : World} {F : ι → Rs} {ρ ρ0 : Nat → Value} {N m n : Nat} {S : List It} {tm : List (Nat × AV)} {a : Act}
theorem f7.release {L L' : κ → Rs} (M : f7 φ ψ w0 w L) (h : ∀ k, L' k = L k ∨ ((∀ b, ¬ (L' k).blk b) ∧ ∀ φ', (∀ b, R2 φ L b → φ' b) → (∀ b, (L k).blk b → φ' b) → (L' k).holds w φ')) : f7 φ ψ w0 w L' := by
 have old : ∀ k b, (L' k).blk b → (L k).blk b := fun k b hb => by
  rcases h k with e | ⟨h1, _⟩
  ·rw [e] at hb; exact hb
  ·exact (h1 b hb).elim
 have hfr : ∀ b, R2 φ L b → R2 φ L' b := fun b hb => ⟨hb.1, fun k hk => hb.2 k (old k b hk)⟩
 refine ⟨M.kept, M.fresh, fun k => ?_, fun i j g hij h1 h2 => M.dis i j g hij (old i g h1) (old j g h2), fun i b hb => M.ge i b (old i b hb), fun i b hb => M.ph i b (old i b hb)⟩
 rcases h k with e | ⟨h1, h2⟩
 ·rw [e]; exact Rs.keep (M.holds k) (X6.mono fun b _ hf => hfr b hf) fun _ _ => rfl
 ·refine h2 _ hfr fun b hb => ⟨M.ph k b hb, fun j hj => ?_⟩
  by_cases e : j = k
  ·subst e; exact h1 b hj
  ·exact M.dis j k b e (old j b hj) hb
mutual
theorem AV.ids_tr (M : List Ln) : ∀ (x : AV), (x.tr M).ids = x.ids
 | .v _ => rfl
 | .ptr _ _ => rfl
 | .ea _ _ _ _ => rfl
 | .ref i => by simp only [AV.tr]; split <;> rfl
 | .agg l => by simp only [AV.tr, AV.ids]; exact AV.idsL_tr M l
 | .tup l => by simp only [AV.tr, AV.ids]; exact AV.idsL_tr M l
 | .fn _ l => by simp only [AV.tr, AV.ids]; exact AV.idsL_tr M l
 | .bm _ l => by simp only [AV.tr, AV.ids]; exact AV.idsL_tr M l
 | .tref _ => rfl
theorem AV.idsL_tr (M : List Ln) : ∀ (l : List AV), AV.idsL (AV.trL M l) = AV.idsL l
 | [] => rfl
 | x :: r => by simp only [AV.trL, AV.idsL]; rw [AV.ids_tr M x, AV.idsL_tr M r]
end
theorem aE0 {M : List Ln} {t : Nat} {x : AV} : ∀ {tm : List (Nat × AV)}, r6 tm t = some x → r6 (tm.map fun p => (p.1, p.2.tr M)) t = some (x.tr M) ∧ ∃ p ∈ tm, p.2 = x
 | [], h => by cases h
 | (k, y) :: r, h => by
  simp only [r6, bO4] at h ⊢
  split at h
  ·cases h; rename_i hk; rw [if_pos hk]; exact ⟨rfl, _, bM7, rfl⟩
  ·rename_i hk; rw [if_neg hk]
   obtain ⟨h1, p, h2, h3⟩ := aE0 h
   exact ⟨h1, p, bN4 _ h2, h3⟩
def bD8 (M : List Ln) (m : Nat) (S1 : List It) (tm1 : List (Nat × AV)) : Bool :=
 decide (M.length ≤ S1.length) && (bM9 S1.length).all (fun i => match o6 M i, j6 S1 i with
  | .no, .box cs => AV.trOkL M cs
  | .no, .hole _ _ _ => false
  | .no, _ => true
  | .row _, .dat _ => true
  | .tree, .dat _ => decide (m ≤ i)
  | _, _ => false) && tm1.all fun p => p.2.trOk M
theorem It.ids_lend (M : List Ln) (l : Ln) (x : It) : x.ids = [] ∨ (s0 M l x).ids = x.ids := by
 cases x with
 | box cs => cases l <;> first | exact .inr rfl | exact .inr (AV.idsL_tr M cs)
 | hole k i ls => cases l <;> exact .inr rfl
 | _ => exact .inl rfl
theorem m8.frz (G : m8 φ ψ w0 F N m ρ0 ρ S tm a w) (M : List Ln) (S1 : List It) (tm1 : List (Nat × AV)) (hb : bD8 M m S1 tm1 = true := by kernel_rfl) (hS : S = J5 M S1 := by kernel_rfl) (ht : tm = tm1.map (fun p => (p.1, p.2.tr M)) := by kernel_rfl) :
  ∃ ρ', m8 φ ψ w0 F N m ρ0 ρ' S1 tm1 a w := by
 subst hS
 subst ht
 simp only [bD8, bL3, decide_eq_true_eq] at hb
 obtain ⟨⟨hM, hall⟩, htm⟩ := hb
 have hlen : (J5 M S1).length = S1.length := by simp [J5]
 have hno : ∀ i, S1.length ≤ i → o6 M i = .no := fun i hi => by
  unfold o6; rw [bL4, bM8 (by omega)]; rfl
 have hat := fun i (hi : i < S1.length) => bL7.1 hall i (List.mem_range.2 hi)
 let ρ1 : Nat → Value := fun i => if (o6 M i).isT then v8 (ρ i) else ρ i
 have hρ1 : ∀ i, ρ1 i = if (o6 M i).isT then v8 (ρ i) else ρ i := fun _ => rfl
 have hρn : ∀ i, (o6 M i).isT = false → ρ1 i = ρ i := fun i h => by rw [hρ1, h]; rfl
 refine ⟨ρ1, G.size, G.defs, fun t x hx => ?_, fun t x hx i hi => ?_, fun j => ⟨fun i hi => ?_, fun hj => o0 hj⟩, ?_, ?_, fun i hi => ?_⟩
 ·obtain ⟨h1, p, h2, h3⟩ := aE0 (M := M) hx
  rw [G.tmv t _ h1, AV.val_tr hρ1 x (by rw [← h3]; exact bL7.1 htm p h2)]
 ·obtain ⟨h1, _⟩ := aE0 (M := M) hx
  have := G.tmi t _ h1 i (by rw [AV.ids_tr]; exact hi)
  rw [hlen] at this; exact this
 ·have h1 := (G.bd j).1 i
  rw [L7, hlen] at h1
  rcases It.ids_lend M (o6 M j) (j6 S1 j) with h | h
  ·rw [h] at hi; cases hi
  ·exact h1 (by rw [h]; exact hi)
 ·refine G.mem.release fun k => ?_
  cases k with
  | inl i => exact .inl rfl
  | inr j =>
   simp only [j0]
   rw [L7]
   rcases bO5 j S1.length with hj | hj
   case inr => rw [hno j hj, o0 hj]; exact .inl rfl
   have h1 := hat j hj
   cases hl : o6 M j with
   | no =>
    have e : ρ1 j = ρ j := hρn j (by rw [hl]; rfl)
    rw [hl] at h1
    left
    cases hx : j6 S1 j with
    | box cs =>
     rw [hx] at h1
     simp only [s0, It.res]
     rw [e, AV.vals_tr hρ1 cs h1]
    | none => rfl
    | dead => rfl
    | dat d => simp only [s0, It.res]; rw [e]
    | row e' d => simp only [s0, It.res]; rw [e]
    | tree d => simp only [s0, It.res]; rw [e]
    | kept e' d => cases e' <;> (simp only [s0, It.res]; rw [e])
    | hole k i ls => rw [hx] at h1; cases h1
   | row e' =>
    have e : ρ1 j = ρ j := hρn j (by rw [hl]; rfl)
    rw [hl] at h1
    cases hx : j6 S1 j <;> rw [hx] at h1 <;> first | cases h1 | skip
    rename_i d
    refine .inr ⟨fun b hb => hb, fun φ' hf hown => ⟨RD.nice _ _, ?_⟩⟩
    have hh := G.mem.holds (.inr j)
    simp only [j0] at hh
    rw [L7, hl, hx] at hh
    simp only [s0, It.res] at hh
    obtain ⟨_, xs, o1, o2⟩ := hh
    rw [e]
    exact RD.make (t8 o1 fun g hg => hown g hg) (RW.nice _ _ _ _ _ _ (X6.mono fun b _ hb => hf b hb) o2)
   | tree =>
    have e : ρ1 j = v8 (ρ j) := by rw [hρ1, hl]; rfl
    rw [hl] at h1
    cases hx : j6 S1 j <;> rw [hx] at h1 <;> first | cases h1 | skip
    rename_i d
    refine .inr ⟨fun b hb => hb, fun φ' hf hown => ⟨RD.nice _ _, ?_⟩⟩
    have hh := G.mem.holds (.inr j)
    simp only [j0] at hh
    rw [L7, hl, hx] at hh
    simp only [s0, It.res] at hh
    rw [e]
    exact v9.read hh.2.1 fun b hb => hown b hb
 ·have := G.le; rw [hlen] at this; exact this
 ·have hm := G.le
  rw [hlen] at hm
  have : (o6 M i).isT = false := by
   cases hl : o6 M i with
   | no => rfl
   | row _ => rfl
   | tree =>
    have h1 := hat i (by omega)
    rw [hl] at h1
    cases hx : j6 S1 i <;> rw [hx] at h1 <;> simp at h1
    omega
  show ρ1 i = ρ0 i
  rw [hρn i this]; exact G.old i hi
end
section
variable {P : Program} {ι κ : Type} {φ ψ : Nat → Prop} {w0 w w' : World} {F : ι → Rs} {ρ ρ0 : Nat → Value}
end
abbrev oP (p : b8) : List It := [.row 3 (.ints p.vars), .row 3 (.ints p.arrays), .tree (.stmts p.body)]
abbrev oA (r : Nat) : AV := .agg [.ref r, .ref (r + 1), .tref (r + 2)]
theorem by6 {l : List b7} {k : Nat} (hk : k < l.length) : l.take k ++ [⟨(l.getD k bL2).kind, (l.getD k bL2).value, (l.getD k bL2).kids⟩] = l.take (k + 1) := by
 rw [b7.eta, j9 _ _ hk, i9 hk]
theorem by5 {l : List b6} {k : Nat} (hk : k < l.length) : l.take k ++ [⟨(l.getD k bL2).kind, (l.getD k bL2).target, ⟨(l.getD k bL2).index.kind, (l.getD k bL2).index.value, (l.getD k bL2).index.kids⟩, ⟨(l.getD k bL2).value.kind, (l.getD k bL2).value.value, (l.getD k bL2).value.kids⟩, (l.getD k bL2).count, (l.getD k bL2).body, (l.getD k bL2).els⟩] = l.take (k + 1) := by
 rw [b7.eta, b7.eta, b6.eta, j9 _ _ hk, i9 hk]
theorem aW6 {α : Type} {l : List α} {k : Nat} (h1 : k ≤ l.length) (h2 : ¬ (k : Int) < l.length) : l.take k = l := by rw [bM5 (by omega)]
theorem bc4 {α : Type} {l : List α} {k n : Nat} (h1 : k ≤ l.length) (h : l.length ≤ n) : (l.take k).length ≤ n := by rw [List.length_take]; omega
theorem bc9 {e : b7} (h : r9 e ≤ 1048576) : e.kids.length ≤ 1048576 := by
 have h1 := ap9 e.kids
 have h2 : r9 e = j1 e.kids := by cases e; rfl
 omega
theorem a58 {l : List b6} (h : c9 l ≤ 1048576) : l.length ≤ 1048576 := bN5 (D0 l) h
theorem a37 {α : Type} {l : List α} {x : α} {k : Nat} (h1 : k ≤ l.length) (h : l.length ≤ 1048576) : (l.take k).length + [x].length ≤ 1048577 := by
 have := bc4 (k := k) h1 h
 simp only [bM2, bN8]; omega
theorem bE1 {a b : Nat} (ha : a ≤ 1048577) (hb : Nat.ble b 1000 = true) : a * b ≤ 140737488355328 := by
 have h1 := Nat.le_of_ble_eq_true hb
 have h2 := Nat.mul_le_mul ha h1
 omega
theorem at4 {l : List b7} {k : Nat} (h : (k : Int) < l.length) : l.getD k bL2 ∈ l := by rw [i9 (by omega)]; exact bN6 (by omega)
theorem af8 {l : List b6} {k : Nat} (h : (k : Int) < l.length) : l.getD k bL2 ∈ l := by rw [i9 (by omega)]; exact bN6 (by omega)
abbrev cpC (e : b7) : d8 := ⟨228, [eA e 0], eS e, eS e ++ [.tree (.exprs e.kids)], .agg [iA e.kind, iA e.value, .tref 1]⟩
abbrev aG2 (e : b7) (r0 : List It) : List It := dE e.kids :: .box (eL e 0) :: .box [iA 0, iA 0, .v (.slice none 0 0)] :: r0
theorem a93 (e : b7) (hb : r9 e ≤ 1048576) (ih : ∀ (x : b7), x ∈ e.kids → d8.ok Try.prog (cpC x)) : d8.ok Try.prog (cpC e) := by
 refine x6 29 Try.func228 [dE e.kids] [(0, eA e 0)] fun G => ?_; have hl := bc9 hb; refine wp_seq (e6 G c4 [0, 1, 9] (aG2 e []) [(1, .ptr 1 0), (2, .ptr 2 0)] fun G => b5 (wp_seq (e6 G c4 [0, 1, 2, 43] (aG2 e [.box [iA e.kind, iA e.value, .v (.slice none 0 0)]]) [(1, .ptr 1 0), (2, .ptr 2 0), (3, .ptr 3 0)] fun G => b5 (wp_seq (wp_seq (B7 G c4 [(1, .ptr 1 0), (2, .ptr 2 0), (3, .ptr 3 0), (4, iA 0)] fun G => b5 (wp_block ?_))))))); obtain ⟨ρ, G⟩ := G.nilT 4 (.exprs []) (aG2 e [.box [iA e.kind, iA e.value, .tref 4]]) [(1, .ptr 1 0), (2, .ptr 2 0), (3, .ptr 3 0), (4, iA 0)]; refine m6 (κ := Nat) (fun k => k ≤ e.kids.length) (fun k => e.kids.length - k) (fun k => [dE e.kids, .box (eL e 0), .box [iA 0, iA 0, .v (.slice none 0 0)], .box [iA e.kind, iA e.value, .tref 4], .tree (.exprs (e.kids.take k))]) (fun k => [(1, .ptr 1 0), (2, .ptr 2 0), (3, .ptr 3 0), (4, iA k)]) 0 (by omega) (m8.at G _ _) ?_; clear G; intro k ρ a w hp G; replace G := m8.at G (aG2 e [.box [iA e.kind, iA e.value, .tref 4], .tree (D.exprs (bL8 k e.kids))]) [(1, .ptr 1 0), (2, .ptr 2 0), (3, .ptr 3 0), (4, iA k)]; refine wp_seq (wp_seq (d9 G c4 [(14, bA (decide ((k : Int) < e.kids.length)))] fun G => b5 (M7 G (fun h0 q0 => ?_) fun h0 q0 => ?_)))
 ·refine wp_exit (l8 (l8 (l5 (b5 (wp_seq (e6 G c4 [0, 2, 4] [dE e.kids, .box [iA e.kind, iA e.value, .tref 2], .tree (D.exprs (bL8 k e.kids))] [(2, .ptr 1 0)] fun G => b5 (wp_ret ?_))))))); exact C4 G [0, 2] (by show _ = mR [0, 2] [dE e.kids, .tree (D.exprs e.kids)]; have e1 : (bL8 k e.kids : List b7) = (e.kids) := (aW6 hp (by assumption)); (first | rw [e1] | simp only [e1]) <;> rfl)
 ·refine wp_skip (b5 (wp_seq (wp_block (E5 G (o9 7 [53] (ih (e.kids.getD k bL2) (at4 (by assumption)))) [0, 1, 0, 4, 0, 28, 60, 124, 252, 511, 1023, 2047] [0, 1, 2, 3, 77] (aG2 e [.box [iA e.kind, iA e.value, .tref 4], .tree (D.exprs (bL8 k e.kids ++ [m7 (e.kids.getD k bL2)]))]) [(1, .ptr 1 0), (2, .ptr 2 0), (3, .ptr 3 0), (4, iA k)] (iX k k e.kids.length (((bL8 k e.kids).length + [m7 (e.kids.getD k bL2)].length ≤ (9223372036854775807 : Nat)) :: ((((bL8 k e.kids).length + [m7 (e.kids.getD k bL2)].length) * (40 : Nat) ≤ (140737488355328 : Nat)) :: []))) (iK (by omega) ⟨(by have := a37 (x := (bL2 : b7)) hp hl; simp only [bM2, bN8] at this ⊢; omega), ⟨(bE1 (a37 hp hl) (by kernel_rfl)), bM6⟩⟩) fun G => j8 (b5 (C8 G c4 [(4, iA ((k : Int) + 1))] [wO ((k : Int) + 1)] (o1 (by omega)) fun G => b5 ?_)))))); exact N5 G (k + 1) (by omega) (by omega) (rg 5) (by have e1 : (bL8 (k + 1) e.kids : List b7) = (bL8 k e.kids ++ [m7 (e.kids.getD k bL2)]) := ((by6 (by omega)).symm); (first | rw [e1] | simp only [e1]) <;> rfl)
theorem aF7 (e : b7) : r9 e ≤ 1048576 → d8.ok Try.prog (cpC e) :=
 b7.ind (P := fun e => r9 e ≤ 1048576 → d8.ok Try.prog (cpC e)) (fun k n ks ih hb => a93 ⟨k, n, ks⟩ hb fun x hx => ih x hx (by
  have h1 := bh7 (show x ∈ ks from hx)
  have h2 : r9 ⟨k, n, ks⟩ = j1 ks := rfl
  omega)) e
abbrev aM2 (l : List b6) : d8 := ⟨213, [.ref 0], [dT l], [dT l, .tree (.stmts l)], .tref 1⟩
theorem a02 {l : List b6} {k : Nat} (hb : c9 l ≤ 1048576) (h : (k : Int) < l.length) : r9 (l.getD k bL2).index ≤ 1048576 ∧ r9 (l.getD k bL2).value ≤ 1048576 ∧ c9 (l.getD k bL2).body ≤ 1048576 ∧ c9 (l.getD k bL2).els ≤ 1048576 := by
 have h1 := N3 (af8 h)
 generalize l.getD k bL2 = s at *
 rcases s with ⟨_, _, i, v, _, b, e⟩
 simp only [A7] at h1
 simp only [b6.index, b6.value, b6.body, b6.els]
 omega
abbrev ao0 (k : Nat) (r0 : List (Nat × AV)) : List (Nat × AV) := (0, .ref 0) :: (2, .v (.slice none 0 0)) :: (3, .tref 1) :: (4, iA (k : Int)) :: r0
theorem aq8 (l : List b6) (hb : c9 l ≤ 1048576) (ih1 : ∀ (s : b6), s ∈ l → d8.ok Try.prog (aM2 s.body)) (ih2 : ∀ (s : b6), s ∈ l → d8.ok Try.prog (aM2 s.els)) : d8.ok Try.prog (aM2 l) := by
  refine x6 38 Try.func213 [dT l] [(0, .ref 0)] fun G => ?_; have hl := a58 hb; refine wp_seq (d9 G c4 [(2, .v (.slice none 0 0))] fun G => b5 (wp_seq (e6 G c4 [0, 1] [dT l, .tree (D.stmts [])] [(0, .ref 0), (2, .v (.slice none 0 0)), (3, .tref 1)] fun G => b5 (wp_seq (wp_seq (B7 G c4 [(0, .ref 0), (2, .v (.slice none 0 0)), (3, .tref 1), (4, iA 0)] fun G => b5 (wp_block ?_))))))); refine m6 (κ := Nat) (fun k => k ≤ l.length) (fun k => l.length - k) (fun k => [dT l, .tree (.stmts (l.take k))]) (fun k => [(0, .ref 0), (2, .v (.slice none 0 0)), (3, .tref 1), (4, iA k)]) 0 (by omega) (m8.at G _ _) ?_; clear G; intro k ρ a w hp G; replace G := m8.at G [dT l, .tree (D.stmts (bL8 k l))] (ao0 k []); refine wp_seq (wp_seq (d9 G c4 [(10, bA (decide ((k : Int) < l.length)))] fun G => b5 (M7 G (fun h0 q0 => ?_) fun h0 q0 => ?_)))
  · refine wp_exit (l8 (l8 (l5 (b5 (wp_seq (d9 G c4 [(2, .tref 1)] fun G => b5 (wp_ret ?_))))))); exact C4 G [0, 1] (by show _ = mR [0, 1] [dT l, .tree (D.stmts l)]; have e1 : (bL8 k l : List b6) = (l) := (aW6 hp (by assumption)); (first | rw [e1] | simp only [e1]) <;> rfl)
  ·
   refine wp_skip (b5 (wp_seq (wp_block (wp_seq (S4 G c4 [0, 1, 26, 27, 28, 29, 34] [dT l, .tree (D.stmts (bL8 k l)), dE (l.getD k bL2).index.kids, dE (l.getD k bL2).value.kids, dT (l.getD k bL2).body, dT (l.getD k bL2).els, .box (sL (l.getD k bL2) 2)] (ao0 k [(5, .ptr 6 0)]) (iX k k l.length []) (iK (by omega) bM6) fun G => b5 (wp_seq (e6 G (o9 2 [2] (aF7 ((l.getD k bL2).index) ((a02 hb (by assumption)).1))) [0, 1, 3, 4, 5, 6, 23] [dT l, .tree (D.stmts (bL8 k l)), dE (l.getD k bL2).value.kids, dT (l.getD k bL2).body, dT (l.getD k bL2).els, .box [iA (l.getD k bL2).kind, iA (l.getD k bL2).target, iA (l.getD k bL2).index.kind, iA (l.getD k bL2).index.value, .tref 6, iA (l.getD k bL2).value.kind, iA (l.getD k bL2).value.value, .ref 2, iA (l.getD k bL2).count, .ref 3, .ref 4], .tree (D.exprs (l.getD k bL2).index.kids)] (ao0 k [(5, .ptr 5 0)]) fun G => b5 (wp_seq (e6 G (o9 2 [2] (aF7 ((l.getD k bL2).value) ((a02 hb (by assumption)).2.1))) [0, 1, 3, 4, 5, 6, 23] [dT l, .tree (D.stmts (bL8 k l)), dT (l.getD k bL2).body, dT (l.getD k bL2).els, .box [iA (l.getD k bL2).kind, iA (l.getD k bL2).target, iA (l.getD k bL2).index.kind, iA (l.getD k bL2).index.value, .tref 5, iA (l.getD k bL2).value.kind, iA (l.getD k bL2).value.value, .tref 6, iA (l.getD k bL2).count, .ref 2, .ref 3], .tree (D.exprs (l.getD k bL2).index.kids), .tree (D.exprs (l.getD k bL2).value.kids)] (ao0 k [(5, .ptr 4 0)]) fun G => b5 (wp_seq (e6 G (o9 2 [2] (ih1 (l.getD k bL2) (af8 (by assumption)))) [0, 1, 3, 4, 5, 6, 23] [dT l, .tree (D.stmts (bL8 k l)), dT (l.getD k bL2).els, .box [iA (l.getD k bL2).kind, iA (l.getD k bL2).target, iA (l.getD k bL2).index.kind, iA (l.getD k bL2).index.value, .tref 4, iA (l.getD k bL2).value.kind, iA (l.getD k bL2).value.value, .tref 5, iA (l.getD k bL2).count, .tref 6, .ref 2], .tree (D.exprs (l.getD k bL2).index.kids), .tree (D.exprs (l.getD k bL2).value.kids), .tree (D.stmts (l.getD k bL2).body)] (ao0 k [(5, .ptr 3 0)]) fun G => b5 (wp_seq (e6 G (o9 2 [2] (ih2 (l.getD k bL2) (af8 (by assumption)))) [0, 1, 3, 4, 5, 6, 23] [dT l, .tree (D.stmts (bL8 k l)), .box [iA (l.getD k bL2).kind, iA (l.getD k bL2).target, iA (l.getD k bL2).index.kind, iA (l.getD k bL2).index.value, .tref 3, iA (l.getD k bL2).value.kind, iA (l.getD k bL2).value.value, .tref 4, iA (l.getD k bL2).count, .tref 5, .tref 6], .tree (D.exprs (l.getD k bL2).index.kids), .tree (D.exprs (l.getD k bL2).value.kids), .tree (D.stmts (l.getD k bL2).body), .tree (D.stmts (l.getD k bL2).els)] (ao0 k [(5, .ptr 2 0)]) fun G => b5 (S4 G c4 [0, 31] [dT l, .tree (D.stmts (bL8 k l ++ [qzS (l.getD k bL2)]))] (ao0 k []) [(bL8 k l).length + [qzS (l.getD k bL2)].length ≤ (9223372036854775807 : Nat), ((bL8 k l).length + [qzS (l.getD k bL2)].length) * (152 : Nat) ≤ (140737488355328 : Nat)] ⟨(by have := a37 (x := (bL2 : b6)) hp hl; simp only [bM2, bN8] at this ⊢; omega), (bE1 (a37 hp hl) (by kernel_rfl)), bM6⟩ fun G => ?_))))))))))))))
   refine j8 (b5 (C8 G c4 [(4, iA ((k : Int) + 1))] [wO ((k : Int) + 1)] (o1 (by omega)) fun G => b5 ?_)); exact N5 G (k + 1) (by omega) (by omega) [0, 1] (by have e1 : (bL8 (k + 1) l : List b6) = (bL8 k l ++ [qzS (l.getD k bL2)]) := ((by5 (by omega)).symm); (first | rw [e1] | simp only [e1]) <;> rfl)
theorem bm8 (l : List b6) : c9 l ≤ 1048576 → d8.ok Try.prog (aM2 l) := fun hb => aq8 l hb
 (fun s hs => (c_copyS2 s).1 (bN5 (Nat.le_of_lt (N3 hs)) hb)) fun s hs => (c_copyS2 s).2 (bN5 (Nat.le_of_lt (N3 hs)) hb)
where
 c_copyS2 (s : b6) : (A7 s ≤ 1048576 → d8.ok Try.prog (aM2 s.body)) ∧ (A7 s ≤ 1048576 → d8.ok Try.prog (aM2 s.els)) :=
  b6.ind (P := fun s => (A7 s ≤ 1048576 → d8.ok Try.prog (aM2 s.body)) ∧ (A7 s ≤ 1048576 → d8.ok Try.prog (aM2 s.els))) (fun k t i v c b e h1 h2 => by
   have hz : A7 ⟨k, t, i, v, c, b, e⟩ = r9 i + r9 v + c9 b + c9 e := rfl
   constructor
   ·intro hb
    refine aq8 b (by omega) (fun s hs => (h1 s hs).1 ?_) fun s hs => (h1 s hs).2 ?_
    ·have := N3 hs; omega
    ·have := N3 hs; omega
   ·intro hb
    refine aq8 e (by omega) (fun s hs => (h2 s hs).1 ?_) fun s hs => (h2 s hs).2 ?_
    ·have := N3 hs; omega
    ·have := N3 hs; omega) s
theorem bg0 (p : b8) (hb : p.size ≤ 1048576) : d8.ok Try.prog ⟨169, [pA 0], pS p, pS p ++ oP p, oA 3⟩ := by
 refine x6 15 Try.func169 [dI p.vars, dI p.arrays, dT p.body] [(0, pA 0)] fun G => ?_
 have hb1 : p.vars.length ≤ 1048576 ∧ p.arrays.length ≤ 1048576 ∧ c9 p.body ≤ 1048576 := by unfold b8.size at hb; omega
 refine wp_seq (e6 G c4 [0, 1, 2, 3, 11] [dI p.vars, dI p.arrays, dT p.body, .box (pL 0), .box [.v (.slice none 0 0), .v (.slice none 0 0), .v (.slice none 0 0)]] [(1, .ptr 3 0), (2, .ptr 4 0)] fun G => b5 (wp_seq (E5 G (o9 10 [2] (bm8 p.body (by omega))) [0, 0, 2, 7, 0, 0, 32, 127, 0, 256, 1023, 2047, 4095] [0, 1, 2, 4, 29, 61, 85] [dI p.vars, dI p.arrays, dT p.body, .box [.ref 4, .ref 5, .tref 6], .row 3 (D.ints ([] ++ p.vars)), .row 3 (D.ints ([] ++ p.arrays)), .tree (D.stmts p.body)] [(2, .ptr 3 0)] (aP ((0 : Nat) + p.vars.length) 8 (aP ((0 : Nat) + p.arrays.length) 8 [])) (aK (by omega) (aK (by omega) bM6)) fun G => b5 (wp_ret ?_)))); exact C4 G [0, 1, 2, 4, 5, 6]
section
variable {p : b8} {s : b6}
end
section
variable {R : b6 × Int → Int} {c a : Int} {n : Nat} {x : b6 × Int}
end
section
variable {R : b6 × Int → Int} {p : b8} {d : Nat} {cx : Int} {ss : List b6} {c b : Int} {n k : Nat}
end
theorem aX0 {a b : b7} (h : ¬ a = b) : A8 a b = false := by
 cases e : A8 a b
 ·rfl
 ·exact absurd ((B6 a b).1 e) h
section
variable {a b : b7} {k : Nat}
theorem sx1 (h : ¬ a.kind = b.kind) : A8 a b = false := aX0 fun e => h (by rw [e])
theorem sx2 (h : ¬ a.value = b.value) : A8 a b = false := aX0 fun e => h (by rw [e])
theorem sx3 (h : ¬ (a.kids.length : Int) = b.kids.length) : A8 a b = false := aX0 fun e => h (by rw [e])
theorem sx4 (h : A8 (a.kids.getD k bL2) (b.kids.getD k bL2) = false) : A8 a b = false := aX0 fun e => by
 subst e
 rw [(B6 _ _).2 rfl] at h; cases h
theorem Y0 {α : Type} {l m : List α} {k : Nat} {z : α} (h : l.take k = m.take k) (h1 : k < l.length) (h2 : k < m.length) (e : l.getD k z = m.getD k z) : l.take (k + 1) = m.take (k + 1) := by
 rw [j9 _ _ h1, j9 _ _ h2, h, ← i9 (d := z) h1, ← i9 (d := z) h2, e]
theorem ae4 {α : Type} {l m : List α} {k : Nat} (h : l.take k = m.take k) (h1 : l.length ≤ k) (h2 : (l.length : Int) = m.length) : l = m := by
 rw [bM5 h1, bM5 (by omega)] at h
 exact h
theorem sx5 (h1 : a.kind = b.kind) (h2 : a.value = b.value) (h3 : (a.kids.length : Int) = b.kids.length) (h : a.kids.take k = b.kids.take k) (hk : a.kids.length ≤ k) : A8 a b = true := by
 refine (B6 _ _).2 ?_
 rw [← b7.eta a, ← b7.eta b, h1, h2, ae4 h hk h3]
end
abbrev sxC (a b : b7) : d8 := E0 244 [eA a 0, eA b 1] [dE a.kids, dE b.kids] (bA (A8 a b))
theorem bi7 (x y : b7) (ih : ∀ (u : b7), u ∈ x.kids → ∀ (v : b7), d8.ok Try.prog (sxC u v)) : d8.ok Try.prog (sxC x y) := by
  refine x6 46 Try.func244 [dE x.kids, dE y.kids] [(0, eA x 0), (1, eA y 1)] fun G => ?_; have hl : x.kids.length ≤ 9223372036854775807 := G.len 0 (d := .exprs x.kids) (by kernel_rfl); refine wp_seq (e6 G c4 [0, 1, 2, 10] [dE x.kids, dE y.kids, .box (eL x 0), .box (eL y 1)] [(2, .ptr 2 0), (3, .ptr 3 0), (4, bA false)] fun G => b5 (wp_seq (wp_seq ?_))); cases h0 : (x.kind != y.kind)
  ·
   have q0 := bne_eq_false_iff_eq.1 h0; cases h1 : (x.value != y.value)
   ·
    have q1 := bne_eq_false_iff_eq.1 h1; refine d9 G (z6 (fc h0 (fc h1 fz)) (us [(6, 10, 0), (1011, 1011, 0), (13, 19, 1), (1020, 1020, 1)])) [(26, bA ((x.kids.length : Int) != (y.kids.length : Int)))] fun G => b5 (rcN G (fun h2 q2 => ?_) fun h2 q2 => ?_)
    ·
     refine wp_skip (b5 (wp_seq (wp_seq (B7 G c4 [(2, .ptr 2 0), (3, .ptr 3 0), (4, bA false), (5, iA 0)] fun G => b5 (wp_block ?_))))); refine m6 (κ := Nat) (fun k => k ≤ x.kids.length ∧ x.kids.take k = y.kids.take k) (fun k => x.kids.length - k) (fun k => [dE x.kids, dE y.kids, .box (eL x 0), .box (eL y 1)]) (fun k => [(2, .ptr 2 0), (3, .ptr 3 0), (4, bA false), (5, iA k)]) 0 (by simp [h0, h1, h2]) (m8.at G _ _) ?_; clear G; intro k ρ a w hp G; refine wp_seq (wp_seq (d9 G c4 [(31, bA (decide ((k : Int) < x.kids.length)))] fun G => b5 (M7 G (fun h3 q3 => ?_) fun h3 q3 => ?_)))
     · refine wp_exit (l8 (l8 (l5 (b5 (wp_seq (e6 G c4 [0, 1] [dE x.kids, dE y.kids] [(4, bA true)] fun G => b5 (wp_ret ?_))))))); exact n9 true G [0, 1] (sx5 (by omega) (by omega) (by omega) hp.2 (by omega))
     ·
      refine wp_skip (b5 (wp_seq (wp_block (wp_seq (P9 G (o9 10 [36, 76] (ih (x.kids.getD k bL2) (at4 (by omega)) (y.kids.getD k bL2))) [0, 1, 0, 7, 15, 0, 32, 0, 224, 480, 1023, 2047] [(45, .v (.bool !A8 (x.kids.getD k bL2) (y.kids.getD k bL2)))] (iX k k x.kids.length (iX k k y.kids.length [])) (iK (by omega) (iK (by omega) bM6)) fun G => b5 ?_))))); cases h4 : (!A8 (x.kids.getD k bL2) (y.kids.getD k bL2))
      · have q4 : (A8 (x.kids.getD k bL2) (y.kids.getD k bL2)) = true := (Eq.mp (bM1 _) h4); refine rF G _ h4 (wp_skip (j8 (b5 (C8 G c4 [(5, iA ((k : Int) + 1))] [wO ((k : Int) + 1)] (o1 (by omega)) fun G => b5 ?_)))); exact N5 G (k + 1) (⟨by omega, Y0 hp.2 (by omega) (by omega) ((B6 _ _).1 (by with_reducible assumption))⟩) (by omega) (rg 4)
      · have q4 : (A8 (x.kids.getD k bL2) (y.kids.getD k bL2)) = false := (Eq.mp (bL9 _) h4); refine rT G _ h4 (wp_seq (d9 G c4 [] fun G => b5 (wp_ret (r7 (d7 (d7 (r7 (d7 ?_)))))))); exact n9 false G [0, 1] (sx4 (by with_reducible assumption))
    · refine wp_seq (d9 G c4 [] fun G => b5 (wp_ret (d7 ?_))); exact n9 false G [0, 1] (sx3 (by omega))
   · have q1 := bne_iff_ne.1 h1; refine d9 G (z6 (fc h0 (fc h1 fz)) (us [(6, 10, 0), (1011, 1011, 0), (13, 19, 1), (1020, 1020, 1)])) [(26, bA true)] fun G => b5 (rT G true (by kernel_rfl) (wp_seq (d9 G c4 [] fun G => b5 (wp_ret (d7 ?_))))); exact n9 false G [0, 1] (sx2 (by omega))
  · have q0 := bne_iff_ne.1 h0; refine d9 G (z6 (fc h0 (fc (b := true) rfl fz)) (us [(6, 10, 0), (1011, 1011, 0), (13, 19, 1), (1020, 1020, 1)])) [(26, bA true)] fun G => b5 (rT G true (by kernel_rfl) (wp_seq (d9 G c4 [] fun G => b5 (wp_ret (d7 ?_))))); exact n9 false G [0, 1] (sx1 (by omega))
theorem T6 (x : b7) : ∀ (y : b7), d8.ok Try.prog (sxC x y) :=
 b7.ind (P := fun x => ∀ (y : b7), d8.ok Try.prog (sxC x y)) (fun k n ks ih y => bi7 ⟨k, n, ks⟩ y fun u hu => ih u hu) x
theorem I1 (xs ys : List Int) : d8.ok Try.prog (E0 68 [.ref 0, .ref 1] [dI xs, dI ys] (bA (decide (xs = ys)))) := by
  refine x6 26 Try.func68 [dI xs, dI ys] [(0, .ref 0), (1, .ref 1)] fun G => ?_; have hl : xs.length ≤ 9223372036854775807 := G.len 0 (d := .ints xs) (by kernel_rfl); refine wp_seq (B7 G c4 [(0, .ref 0), (1, .ref 1), (4, bA false)] fun G => b5 (wp_seq (wp_seq (d9 G c4 [(10, bA ((xs.length : Int) != (ys.length : Int)))] fun G => b5 (rcN G (fun h0 q0 => ?_) fun h0 q0 => ?_)))))
  ·
   refine wp_skip (b5 (wp_seq (wp_seq (B7 G c4 [(0, .ref 0), (1, .ref 1), (4, bA false), (5, iA 0)] fun G => b5 (wp_block ?_))))); refine m6 (κ := Nat) (fun k => k ≤ xs.length ∧ xs.take k = ys.take k) (fun k => xs.length - k) (fun k => [dI xs, dI ys]) (fun k => [(0, .ref 0), (1, .ref 1), (4, bA false), (5, iA k)]) 0 (by simp [h0]) (m8.at G _ _) ?_; clear G; intro k ρ a w hp G; refine wp_seq (wp_seq (d9 G c4 [(14, bA (decide ((k : Int) < xs.length)))] fun G => b5 (M7 G (fun h1 q1 => ?_) fun h1 q1 => ?_)))
   · refine wp_exit (l8 (l8 (l5 (b5 (wp_seq (d9 G c4 [(4, bA true)] fun G => b5 (wp_ret ?_))))))); exact n9 true G [0, 1] (decide_eq_true (ae4 hp.2 (by omega) (by omega)))
   ·
    refine wp_skip (b5 (wp_seq (wp_block (wp_seq (P9 G c4 [0, 0, 3, 7, 0, 0, 48, 112, 255] [(25, bA (xs.getD k 0 != ys.getD k 0))] (iX k k xs.length (iX k k ys.length [])) (iK (by omega) (iK (by omega) bM6)) fun G => b5 (rcN G (fun h2 q2 => ?_) fun h2 q2 => ?_))))))
    · refine wp_skip (j8 (b5 (C8 G c4 [(5, iA ((k : Int) + 1))] [wO ((k : Int) + 1)] (o1 (by omega)) fun G => b5 ?_))); exact N5 G (k + 1) (⟨by omega, Y0 hp.2 (by omega) (by omega) (by omega)⟩) (by omega) [0, 1]
    · refine wp_seq (d9 G c4 [] fun G => b5 (wp_ret (r7 (d7 (d7 (r7 (d7 ?_))))))); exact n9 false G [0, 1] (by exact decide_eq_false fun e => by subst e; omega)
  · refine wp_seq (d9 G c4 [] fun G => b5 (wp_ret (d7 ?_))); exact n9 false G [0, 1] (by exact decide_eq_false fun e => by subst e; omega)
theorem aq3 {s t : b6} (h : ¬ s = t) : E4 s t = false := by
 cases e : E4 s t
 ·rfl
 ·exact absurd ((W4 s t).1 e) h
theorem bo8 {l m : List b6} (h : ¬ l = m) : o7 l m = false := by
 cases e : o7 l m
 ·rfl
 ·exact absurd ((z9 l m).1 e) h
section
variable {s t : b6} {l m : List b6} {k : Nat}
theorem sr1 (h : ¬ s.kind = t.kind) : E4 s t = false := aq3 fun e => h (by rw [e])
theorem sr2 (h : ¬ s.target = t.target) : E4 s t = false := aq3 fun e => h (by rw [e])
theorem sr3 (h : ¬ s.count = t.count) : E4 s t = false := aq3 fun e => h (by rw [e])
theorem sr4 (h : A8 s.index t.index = false) : E4 s t = false := aq3 fun e => by subst e; rw [(B6 _ _).2 rfl] at h; cases h
theorem sr5 (h : A8 s.value t.value = false) : E4 s t = false := aq3 fun e => by subst e; rw [(B6 _ _).2 rfl] at h; cases h
theorem sr6 (h : o7 s.body t.body = false) : E4 s t = false := aq3 fun e => by subst e; rw [(z9 _ _).2 rfl] at h; cases h
theorem sr7 (h : o7 s.els t.els = false) : E4 s t = false := aq3 fun e => by subst e; rw [(z9 _ _).2 rfl] at h; cases h
theorem sr8 (h1 : s.kind = t.kind) (h2 : s.target = t.target) (h3 : s.count = t.count) (h4 : A8 s.index t.index = true) (h5 : A8 s.value t.value = true) (h6 : o7 s.body t.body = true) : E4 s t = o7 s.els t.els := by
 cases e : o7 s.els t.els
 ·exact sr7 e
 ·refine (W4 _ _).2 ?_
  rw [← b6.eta s, ← b6.eta t, h1, h2, h3, (B6 _ _).1 h4, (B6 _ _).1 h5, (z9 _ _).1 h6, (z9 _ _).1 e]
theorem sb1 (h : ¬ (l.length : Int) = m.length) : o7 l m = false := bo8 fun e => h (by rw [e])
theorem sb2 (h : E4 (l.getD k bL2) (m.getD k bL2) = false) : o7 l m = false := bo8 fun e => by
 subst e
 rw [(W4 _ _).2 rfl] at h; cases h
theorem sb3 (h3 : (l.length : Int) = m.length) (h : l.take k = m.take k) (hk : l.length ≤ k) : o7 l m = true := (z9 _ _).2 (ae4 h hk h3)
end
abbrev sbC (l m : List b6) : d8 := E0 234 [.ref 0, .ref 1] [dT l, dT m] (bA (o7 l m))
abbrev ssC (s t : b6) : d8 := E0 241 [sA s 0, sA t 4] (sS s ++ sS t) (bA (E4 s t))
abbrev ad7 (s : b6) (t : b6) (r0 : List It) : List It := dE s.index.kids :: dE s.value.kids :: dT s.body :: dT s.els :: dE t.index.kids :: dE t.value.kids :: dT t.body :: dT t.els :: r0
theorem bi8 (s t : b6) (ih1 : ∀ (m : List b6), d8.ok Try.prog (sbC s.body m)) (ih2 : ∀ (m : List b6), d8.ok Try.prog (sbC s.els m)) : d8.ok Try.prog (ssC s t) := by
  refine x6 52 Try.func241 (ad7 s t []) [(0, sA s 0), (1, sA t 4)] fun G => ?_; refine wp_seq (e6 G c4 [0, 1, 2, 3, 4, 5, 6, 7, 8, 16] (ad7 s t [.box (sL s 0), .box (sL t 4)]) [(2, .ptr 8 0), (3, .ptr 9 0), (4, bA false)] fun G => b5 (wp_seq ?_)); cases h0 : (s.kind == t.kind)
  · have q0 := ne_of_beq_false h0; refine e6 G (z6 (fc h0 (fc (b := false) rfl fz)) (us [(6, 10, 0), (1011, 1011, 0), (13, 17, 1), (1018, 1018, 1), (20, 24, 1), (1025, 1025, 1), (27, 31, 1), (1032, 1032, 1), (34, 38, 1), (1039, 1039, 1), (41, 45, 1), (1046, 1046, 1)])) (rg 8) (ad7 s t []) [(4, bA false)] fun G => b5 (wp_ret ?_); exact n9 false G (rg 8) (sr1 (by omega))
  ·
   have q0 := eq_of_beq h0; cases h1 : (s.target == t.target)
   · have q1 := ne_of_beq_false h1; refine e6 G (z6 (fc h0 (fc h1 (fc (b := false) rfl fz))) (us [(6, 10, 0), (1011, 1011, 0), (13, 17, 1), (1018, 1018, 1), (20, 24, 2), (1025, 1025, 2), (27, 31, 2), (1032, 1032, 2), (34, 38, 2), (1039, 1039, 2), (41, 45, 2), (1046, 1046, 2)])) (rg 8) (ad7 s t []) [(4, bA false)] fun G => b5 (wp_ret ?_); exact n9 false G (rg 8) (sr2 (by omega))
   ·
    have q1 := eq_of_beq h1; cases h2 : (s.count == t.count)
    · have q2 := ne_of_beq_false h2; refine e6 G (z6 (fc h0 (fc h1 (fc h2 (fc (b := false) rfl fz)))) (us [(6, 10, 0), (1011, 1011, 0), (13, 17, 1), (1018, 1018, 1), (20, 24, 2), (1025, 1025, 2), (27, 31, 3), (1032, 1032, 3), (34, 38, 3), (1039, 1039, 3), (41, 45, 3), (1046, 1046, 3)])) (rg 8) (ad7 s t []) [(4, bA false)] fun G => b5 (wp_ret ?_); exact n9 false G (rg 8) (sr3 (by omega))
    ·
     have q2 := eq_of_beq h2; cases h3 : (A8 s.index t.index)
     · refine e6 G (m0 (f6 24 [0, 4] (T6 s.index t.index) l9) (fc h0 (fc h1 (fc h2 (fc h3 (fc (b := false) rfl fz))))) (us [(6, 10, 0), (1011, 1011, 0), (13, 17, 1), (1018, 1018, 1), (20, 24, 2), (1025, 1025, 2), (27, 31, 3), (1032, 1032, 3), (34, 38, 4), (1039, 1039, 4), (41, 45, 4), (1046, 1046, 4)])) (rg 8) (ad7 s t []) [(4, bA false)] fun G => b5 (wp_ret ?_); exact n9 false G (rg 8) (sr4 (by with_reducible assumption))
     ·
      cases h4 : (A8 s.value t.value)
      · refine e6 G (m0 (f6 24 [0, 4] (T6 s.index t.index) (f6 31 [1, 5] (T6 s.value t.value) l9)) (fc h0 (fc h1 (fc h2 (fc h3 (fc h4 (fc (b := false) rfl fz)))))) (us [(6, 10, 0), (1011, 1011, 0), (13, 17, 1), (1018, 1018, 1), (20, 24, 2), (1025, 1025, 2), (27, 31, 3), (1032, 1032, 3), (34, 38, 4), (1039, 1039, 4), (41, 45, 5), (1046, 1046, 5)])) (rg 8) (ad7 s t []) [(4, bA false)] fun G => b5 (wp_ret ?_); exact n9 false G (rg 8) (sr5 (by with_reducible assumption))
      ·
       cases h5 : (o7 s.body t.body)
       · refine e6 G (m0 (f6 24 [0, 4] (T6 s.index t.index) (f6 31 [1, 5] (T6 s.value t.value) (f6 38 [2, 6] (ih1 t.body) l9))) (fc h0 (fc h1 (fc h2 (fc h3 (fc h4 (fc h5 fz)))))) (us [(6, 10, 0), (1011, 1011, 0), (13, 17, 1), (1018, 1018, 1), (20, 24, 2), (1025, 1025, 2), (27, 31, 3), (1032, 1032, 3), (34, 38, 4), (1039, 1039, 4), (41, 45, 5), (1046, 1046, 5)])) (rg 8) (ad7 s t []) [(4, bA false)] fun G => b5 (wp_ret ?_); exact n9 false G (rg 8) (sr6 (by with_reducible assumption))
       · refine e6 G (m0 (f6 24 [0, 4] (T6 s.index t.index) (f6 31 [1, 5] (T6 s.value t.value) (f6 38 [2, 6] (ih1 t.body) (f6 45 [3, 7] (ih2 t.els) l9)))) (fc h0 (fc h1 (fc h2 (fc h3 (fc h4 (fc h5 fz)))))) (us [(6, 10, 0), (1011, 1011, 0), (13, 17, 1), (1018, 1018, 1), (20, 24, 2), (1025, 1025, 2), (27, 31, 3), (1032, 1032, 3), (34, 38, 4), (1039, 1039, 4), (41, 45, 5), (1046, 1046, 5)])) (rg 8) (ad7 s t []) [(4, bA (o7 s.els t.els))] fun G => b5 (wp_ret ?_); exact n9 (o7 s.els t.els) G (rg 8) (sr8 (by omega) (by omega) (by omega) (by with_reducible assumption) (by with_reducible assumption) (by with_reducible assumption))
theorem aC6 (l m : List b6) (ih : ∀ (s : b6), s ∈ l → ∀ (t : b6), d8.ok Try.prog (ssC s t)) : d8.ok Try.prog (sbC l m) := by
  refine x6 27 Try.func234 [dT l, dT m] [(0, .ref 0), (1, .ref 1)] fun G => ?_; have hl : l.length ≤ 9223372036854775807 := G.len 0 (d := .stmts l) (by kernel_rfl); refine wp_seq (B7 G c4 [(0, .ref 0), (1, .ref 1), (4, bA false)] fun G => b5 (wp_seq (wp_seq (d9 G c4 [(10, bA ((l.length : Int) != (m.length : Int)))] fun G => b5 (rcN G (fun h0 q0 => ?_) fun h0 q0 => ?_)))))
  ·
   refine wp_skip (b5 (wp_seq (wp_seq (B7 G c4 [(0, .ref 0), (1, .ref 1), (4, bA false), (5, iA 0)] fun G => b5 (wp_block ?_))))); refine m6 (κ := Nat) (fun k => k ≤ l.length ∧ l.take k = m.take k) (fun k => l.length - k) (fun k => [dT l, dT m]) (fun k => [(0, .ref 0), (1, .ref 1), (4, bA false), (5, iA k)]) 0 (by simp [h0]) (m8.at G _ _) ?_; clear G; intro k ρ a w hp G; refine wp_seq (wp_seq (d9 G c4 [(14, bA (decide ((k : Int) < l.length)))] fun G => b5 (M7 G (fun h1 q1 => ?_) fun h1 q1 => ?_)))
   · refine wp_exit (l8 (l8 (l5 (b5 (wp_seq (d9 G c4 [(4, bA true)] fun G => b5 (wp_ret ?_))))))); exact n9 true G [0, 1] (sb3 (by omega) hp.2 (by omega))
   ·
    refine wp_skip (b5 (wp_seq (wp_block (wp_seq (P9 G (o9 8 [26, 27, 28, 29, 58, 59, 60, 61] (ih (l.getD k bL2) (af8 (by omega)) (m.getD k bL2))) [0, 0, 3, 7, 0, 0, 48, 112, 255, 511] [(26, .v (.bool !E4 (l.getD k bL2) (m.getD k bL2)))] (iX k k l.length (iX k k m.length [])) (iK (by omega) (iK (by omega) bM6)) fun G => b5 ?_))))); cases h2 : (!E4 (l.getD k bL2) (m.getD k bL2))
    · have q2 : (E4 (l.getD k bL2) (m.getD k bL2)) = true := (Eq.mp (bM1 _) h2); refine rF G _ h2 (wp_skip (j8 (b5 (C8 G c4 [(5, iA ((k : Int) + 1))] [wO ((k : Int) + 1)] (o1 (by omega)) fun G => b5 ?_)))); exact N5 G (k + 1) (⟨by omega, Y0 hp.2 (by omega) (by omega) ((W4 _ _).1 (by with_reducible assumption))⟩) (by omega) [0, 1]
    · have q2 : (E4 (l.getD k bL2) (m.getD k bL2)) = false := (Eq.mp (bL9 _) h2); refine rT G _ h2 (wp_seq (d9 G c4 [] fun G => b5 (wp_ret (r7 (d7 (d7 (r7 (d7 ?_)))))))); exact n9 false G [0, 1] (sb2 (by with_reducible assumption))
  · refine wp_seq (d9 G c4 [] fun G => b5 (wp_ret (d7 ?_))); exact n9 false G [0, 1] (sb1 (by omega))
theorem bs0 (s : b6) : ∀ (t : b6), d8.ok Try.prog (ssC s t) :=
 b6.ind (P := fun s => ∀ (t : b6), d8.ok Try.prog (ssC s t)) (fun k t i v c b e h1 h2 u => bi8 ⟨k, t, i, v, c, b, e⟩ u (fun m => aC6 b m fun s hs => h1 s hs) fun m => aC6 e m fun s hs => h2 s hs) s
theorem bm6 (l m : List b6) : d8.ok Try.prog (sbC l m) := aC6 l m fun s _ => bs0 s
theorem aw2 (xs xt : List Int) (l : List b6) (ys yt : List Int) (m : List b6) : d8.ok Try.prog (E0 207 [pA 0, pA 3] [dI xs, dI xt, dT l, dI ys, dI yt, dT m] (bA (decide (xs = ys) && (decide (xt = yt) && o7 l m)))) := by
  refine x6 24 Try.func207 [dI xs, dI xt, dT l, dI ys, dI yt, dT m] [(0, pA 0), (1, pA 3)] fun G => ?_; refine wp_seq (e6 G c4 [0, 1, 2, 3, 4, 5, 6, 14] [dI xs, dI xt, dT l, dI ys, dI yt, dT m, .box (pL 0), .box (pL 3)] [(2, .ptr 6 0), (3, .ptr 7 0), (4, bA false)] fun G => b5 (wp_seq ?_)); cases h0 : (decide (xs = ys))
  · have q0 := O0 h0; refine e6 G (m0 (f6 4 [0, 3] (I1 xs ys) l9) (fc h0 (fc (b := false) rfl fz)) (us [(6, 10, 0), (1011, 1011, 0), (13, 17, 1), (1018, 1018, 1)])) (rg 6) [dI xs, dI xt, dT l, dI ys, dI yt, dT m] [(4, bA false)] fun G => b5 (wp_ret ?_); exact C4 G (rg 6)
  ·
   have q0 := N9 h0; cases h1 : (decide (xt = yt))
   · have q1 := O0 h1; refine e6 G (m0 (f6 4 [0, 3] (I1 xs ys) (f6 10 [1, 4] (I1 xt yt) l9)) (fc h0 (fc h1 fz)) (us [(6, 10, 0), (1011, 1011, 0), (13, 17, 1), (1018, 1018, 1)])) (rg 6) [dI xs, dI xt, dT l, dI ys, dI yt, dT m] [(4, bA false)] fun G => b5 (wp_ret ?_); exact C4 G (rg 6)
   · have q1 := N9 h1; refine e6 G (m0 (f6 4 [0, 3] (I1 xs ys) (f6 10 [1, 4] (I1 xt yt) (f6 17 [2, 5] (bm6 l m) l9))) (fc h0 (fc h1 fz)) (us [(6, 10, 0), (1011, 1011, 0), (13, 17, 1), (1018, 1018, 1)])) (rg 6) [dI xs, dI xt, dT l, dI ys, dI yt, dT m] [(4, bA (o7 l m))] fun G => b5 (wp_ret ?_); exact C4 G (rg 6)
section
variable {p : b8} {l k : Int} (h : e5 p = true) (hl : c5 l = true)
include h hl
end
section
variable {p : b8} {l : Int}
end
theorem M4 (vs ars : List Int) (b : List b6) (e : b7) (he : c3 vs.length ars.length 5 e = true) : d8.ok Try.prog (E0 89 [pA 0, eA e 3] ([dI vs, dI ars, dT b] ++ eS e) (iA (c6 vs ars 5 e))) := C2 ⟨vs, ars, b⟩ e he
theorem Q6 (vs ars : List Int) (b : List b6) (hb : vs.length + ars.length + c9 b ≤ 1048576) : d8.ok Try.prog ⟨169, [pA 0], [dI vs, dI ars, dT b], [dI vs, dI ars, dT b, .row 3 (.ints vs), .row 3 (.ints ars), .tree (.stmts b)], oA 3⟩ := bg0 ⟨vs, ars, b⟩ hb
theorem aF8 (vs ars : List Int) (b : List b6) (hb : c9 b ≤ 1048576) : d8.ok Try.prog (E0 185 [pA 0] [dI vs, dI ars, dT b] (.tup [iA (H9 ⟨vs, ars, b⟩ false).1, iA (H9 ⟨vs, ars, b⟩ false).2])) := O1 ⟨vs, ars, b⟩ hb
section
variable {vs ars : List Int} {cx : Int} {s : b6} {d : Nat} {b : Bool}
theorem on1 (k : s.kind = 1) : A5 (vs, ars) s cx = (vs.set s.target.toNat (f8 (f8 (vs.getD s.target.toNat 0) (c6 vs ars 5 s.value)) cx), ars) := if_pos k
theorem on2 (k : s.kind = 2) : A5 (vs, ars) s cx = (vs, ars.set s.target.toNat (f8 (f8 (f8 (ars.getD s.target.toNat 0) (c6 vs ars 5 s.value)) (c6 vs ars 5 s.index)) cx)) := by unfold A5; rw [if_neg (by omega), if_pos k]
theorem on0 {q : C1} (k1 : ¬ s.kind = 1) (k2 : ¬ s.kind = 2) : A5 q s cx = q := by unfold A5; rw [if_neg k1, if_neg k2]
theorem up1 {q : C1} (h1 : s.body = []) (h2 : s.els = []) : upS b (d + 1) q cx s = A5 q s cx := by rw [V6, h1, h2]; rfl
theorem up3 {q : C1} (k : s.kind = 3) : upS true (d + 1) q cx s = r8 true d (r8 true d q (f8 cx (c6 q.1 q.2 5 s.value)) s.body) (f8 cx (c6 (r8 true d q (f8 cx (c6 q.1 q.2 5 s.value)) s.body).1 (r8 true d q (f8 cx (c6 q.1 q.2 5 s.value)) s.body).2 5 s.value)) s.els := by
 rw [V6, on0 (by omega) (by omega)]
 unfold U6
 simp only [if_pos k, if_true]
theorem up4 {q : C1} (k : s.kind = 4) (h2 : s.els = []) : upS b (d + 1) q cx s = r8 b d q cx s.body := by
 rw [V6, on0 (by omega) (by omega), h2]
 unfold U6
 simp only [if_neg (show ¬ s.kind = 3 by omega)]
 rfl
theorem V7 {q : C1} {ss : List b6} {k : Nat} (hk : k < ss.length) : r8 b d q cx (ss.take (k + 1)) = upS b d (r8 b d q cx (ss.take k)) cx (ss.getD k bL2) := by
 unfold r8
 rw [j9 _ _ hk, List.foldl_append, i9 hk]; rfl
theorem am4 {nv na d k : Nat} {ss : List b6} (hs : ss.all (c8 nv na (d + 1)) = true) (hk : k < ss.length) (k3 : ¬ (ss.getD k bL2).kind = 3) : (ss.getD k bL2).els = [] ∧ (¬ (ss.getD k bL2).kind = 4 → (ss.getD k bL2).body = []) := by
 have h0 := bL7.1 hs _ (bN6 hk)
 rw [← i9 (d := bL2) hk] at h0
 rw [c8, bL3] at h0
 have h1 := h0.1
 unfold j4 at h1
 by_cases k4 : (ss.getD k bL2).kind = 4
 ·rw [if_pos (.inr k4), if_pos k4] at h1
  simp only [bL3, decide_eq_true_eq] at h1
  exact ⟨bN7 h1.2.1.1.1.1, fun h => absurd k4 h⟩
 ·rw [if_neg (by omega)] at h1
  simp only [bL3, decide_eq_true_eq] at h1
  exact ⟨bN7 h1.1.1.2, fun _ => bN7 h1.1.1.1⟩
section
variable {nv na d k : Nat} {ss : List b6} {q : C1} {cx : Int}
theorem rn1 (hs : ss.all (c8 nv na (d + 1)) = true) (hk : k < ss.length) (k1 : (ss.getD k bL2).kind = 1) : r8 true (d + 1) q cx (ss.take (k + 1)) = ((r8 true (d + 1) q cx (ss.take k)).1.set (ss.getD k bL2).target.toNat (f8 (f8 ((r8 true (d + 1) q cx (ss.take k)).1.getD (ss.getD k bL2).target.toNat 0) (c6 (r8 true (d + 1) q cx (ss.take k)).1 (r8 true (d + 1) q cx (ss.take k)).2 5 (ss.getD k bL2).value)) cx), (r8 true (d + 1) q cx (ss.take k)).2) := by
 have h1 := am4 hs hk (by omega)
 rw [V7 hk, up1 (h1.2 (by omega)) h1.1]
 exact on1 k1
theorem rn2 (hs : ss.all (c8 nv na (d + 1)) = true) (hk : k < ss.length) (k2 : (ss.getD k bL2).kind = 2) : r8 true (d + 1) q cx (ss.take (k + 1)) = ((r8 true (d + 1) q cx (ss.take k)).1, (r8 true (d + 1) q cx (ss.take k)).2.set (ss.getD k bL2).target.toNat (f8 (f8 (f8 ((r8 true (d + 1) q cx (ss.take k)).2.getD (ss.getD k bL2).target.toNat 0) (c6 (r8 true (d + 1) q cx (ss.take k)).1 (r8 true (d + 1) q cx (ss.take k)).2 5 (ss.getD k bL2).value)) (c6 (r8 true (d + 1) q cx (ss.take k)).1 (r8 true (d + 1) q cx (ss.take k)).2 5 (ss.getD k bL2).index)) cx)) := by
 have h1 := am4 hs hk (by omega)
 rw [V7 hk, up1 (h1.2 (by omega)) h1.1]
 exact on2 k2
theorem rn3 (hk : k < ss.length) (k3 : (ss.getD k bL2).kind = 3) : r8 true (d + 1) q cx (ss.take (k + 1)) = r8 true d (r8 true d (r8 true (d + 1) q cx (ss.take k)) (f8 cx (c6 (r8 true (d + 1) q cx (ss.take k)).1 (r8 true (d + 1) q cx (ss.take k)).2 5 (ss.getD k bL2).value)) (ss.getD k bL2).body) (f8 cx (c6 (r8 true d (r8 true (d + 1) q cx (ss.take k)) (f8 cx (c6 (r8 true (d + 1) q cx (ss.take k)).1 (r8 true (d + 1) q cx (ss.take k)).2 5 (ss.getD k bL2).value)) (ss.getD k bL2).body).1 (r8 true d (r8 true (d + 1) q cx (ss.take k)) (f8 cx (c6 (r8 true (d + 1) q cx (ss.take k)).1 (r8 true (d + 1) q cx (ss.take k)).2 5 (ss.getD k bL2).value)) (ss.getD k bL2).body).2 5 (ss.getD k bL2).value)) (ss.getD k bL2).els := by
 rw [V7 hk, up3 k3]
theorem rn4 (hs : ss.all (c8 nv na (d + 1)) = true) (hk : k < ss.length) (k4 : (ss.getD k bL2).kind = 4) : r8 true (d + 1) q cx (ss.take (k + 1)) = r8 true d (r8 true (d + 1) q cx (ss.take k)) cx (ss.getD k bL2).body := by
 rw [V7 hk, up4 k4 (am4 hs hk (by omega)).1]
theorem rn0 (hs : ss.all (c8 nv na (d + 1)) = true) (hk : k < ss.length) (k1 : ¬ (ss.getD k bL2).kind = 1) (k2 : ¬ (ss.getD k bL2).kind = 2) (k3 : ¬ (ss.getD k bL2).kind = 3) (k4 : ¬ (ss.getD k bL2).kind = 4) : r8 true (d + 1) q cx (ss.take (k + 1)) = r8 true (d + 1) q cx (ss.take k) := by
 have h1 := am4 hs hk k3
 rw [V7 hk, up1 (h1.2 k4) h1.1, on0 k1 k2]
theorem a99 (hk : ss.length ≤ k) : r8 true (d + 1) q cx ss = r8 true (d + 1) q cx (ss.take k) := by rw [bM5 hk]
theorem aC1 {q r : C1} {s : b6} (h : shP q r) (hv : q.1.length = nv) (ha : q.2.length = na) (hh : s6 nv na s = true) (k : ¬ s.kind = 4) : c3 r.1.length r.2.length 5 s.value = true := by rw [h.1, h.2, hv, ha]; exact p8 hh k
theorem br7 {q r : C1} {s : b6} (h : shP q r) (hv : q.1.length = nv) (ha : q.2.length = na) (hh : s6 nv na s = true) (k : s.kind = 2) : c3 r.1.length r.2.length 5 s.index = true := by rw [h.1, h.2, hv, ha]; exact at2 hh k
end
end
abbrev raC (vs ars : List Int) (d : Nat) (bd ss : List b6) (cx : Int) : d8 := ⟨206, [pA 0, .ref 3, iA cx], [.row 3 (.ints vs), .row 3 (.ints ars), dT bd, dT ss], [.row 3 (.ints (r8 true d (vs, ars) cx ss).1), .row 3 (.ints (r8 true d (vs, ars) cx ss).2), dT bd, dT ss], .tup []⟩
abbrev V2 (d : Nat) (ss : List b6) (vs : List Int) (ars : List Int) (cx : Int) (k : Nat) := r8 true d (r8 true (d + 1) (vs, ars) cx (bL8 k ss)) (f8 cx (c6 (r8 true (d + 1) (vs, ars) cx (bL8 k ss)).fst (r8 true (d + 1) (vs, ars) cx (bL8 k ss)).snd 5 (ss.getD k bL2).value)) (ss.getD k bL2).body
abbrev l6 (d : Nat) (ss : List b6) (vs : List Int) (ars : List Int) (cx : Int) (k : Nat) := r8 true (d + 1) (vs, ars) cx (bL8 k ss)
abbrev aV6 (d : Nat) (ss : List b6) (vs : List Int) (ars : List Int) (cx : Int) (k : Nat) := r8 true d (V2 d ss vs ars cx k) (f8 cx (c6 (V2 d ss vs ars cx k).fst (V2 d ss vs ars cx k).snd 5 (ss.getD k bL2).value)) (ss.getD k bL2).els
abbrev an9 (cx : Int) (k : Nat) (r0 : List (Nat × AV)) : List (Nat × AV) := (1, .ref 3) :: (2, iA cx) :: (3, .ptr 4 0) :: (6, iA (k : Int)) :: r0
theorem ay1 (nv na d : Nat) (bd ss : List b6) (ih : ∀ (vs ars : List Int) (tt : List b6) (cx : Int), 0 < ss.length → vs.length = nv → ars.length = na → tt.all (c8 nv na d) = true → d8.ok Try.prog (raC vs ars d bd tt cx))
    (vs ars : List Int) (cx : Int) (hv : vs.length = nv) (ha : ars.length = na) (hs : ss.all (c8 nv na (d + 1)) = true) : d8.ok Try.prog (raC vs ars (d + 1) bd ss cx) := by
  refine x6 94 Try.func206 [.row 3 (D.ints vs), .row 3 (D.ints ars), dT bd, dT ss] [(0, pA 0), (1, .ref 3), (2, iA cx)] fun G => ?_; have hlen : ss.length ≤ 9223372036854775807 := G.len 3 (d := .stmts ss) (by kernel_rfl); refine wp_seq (e6 G c4 (rg 5) [.row 3 (D.ints vs), .row 3 (D.ints ars), dT bd, dT ss, .box (pL 0)] [(1, .ref 3), (2, iA cx), (3, .ptr 4 0)] fun G => b5 (wp_seq (B7 G c4 [(1, .ref 3), (2, iA cx), (3, .ptr 4 0), (6, iA 0)] fun G => b5 (wp_block ?_)))); refine m6 (κ := Nat) (fun k => k ≤ ss.length) (fun k => ss.length - k) (fun k => [.row 3 (.ints (r8 true (d + 1) (vs, ars) cx (ss.take k)).1), .row 3 (.ints (r8 true (d + 1) (vs, ars) cx (ss.take k)).2), dT bd, dT ss, .box (pL 0)]) (fun k => [(1, .ref 3), (2, iA cx), (3, .ptr 4 0), (6, iA k)]) 0 (by omega) (m8.at G _ _) ?_; clear G; intro k ρ a w hp G; replace G := m8.at G [.row 3 (D.ints (l6 d ss vs ars cx k).fst), .row 3 (D.ints (l6 d ss vs ars cx k).snd), dT bd, dT ss, .box (pL 0)] (an9 cx k []); have hsh : shP (vs, ars) (r8 true (d + 1) (vs, ars) cx (ss.take k)) := ac2; refine wp_seq (wp_seq (d9 G c4 [(11, bA (decide ((k : Int) < ss.length)))] fun G => b5 (M7 G (fun h0 q0 => ?_) fun h0 q0 => ?_)))
  · refine wp_exit (l8 (l8 (l5 ?_))); exact bH0 G (rg 4) (by show _ = mR (rg 4) [.row 3 (D.ints (r8 true (d + 1) (vs, ars) cx ss).fst), .row 3 (D.ints (r8 true (d + 1) (vs, ars) cx ss).snd), dT bd, dT ss]; have e1 : ((r8 true (d + 1) (vs, ars) cx ss).fst : List Int) = ((l6 d ss vs ars cx k).fst) := (congrArg Prod.fst (a99 (by omega))); have e2 : ((r8 true (d + 1) (vs, ars) cx ss).snd : List Int) = ((l6 d ss vs ars cx k).snd) := (congrArg Prod.snd (a99 (by omega))); (first | rw [e1, e2] | simp only [e1, e2]) <;> rfl)
  ·
   refine wp_skip (b5 (wp_seq (wp_block (wp_seq (S4 G c4 [0, 1, 2, 3, 4, 29, 30, 31, 32, 37] [.row 3 (D.ints (l6 d ss vs ars cx k).fst), .row 3 (D.ints (l6 d ss vs ars cx k).snd), dT bd, dT ss, .box (pL 0), dE (ss.getD k bL2).index.kids, dE (ss.getD k bL2).value.kids, dT (ss.getD k bL2).body, dT (ss.getD k bL2).els, .box (sL (ss.getD k bL2) 5)] (an9 cx k [(7, .ptr 9 0)]) (iX k k ss.length []) (iK (by omega) bM6) fun G => b5 (wp_seq (d9 G c4 [(19, iA (ss.getD k bL2).kind)] fun G => b5 (wp_block (wp_seq (d9 G c4 [(20, bA ((ss.getD k bL2).kind == 1))] fun G => b5 (I7 G (fun h1 q1 => ?_) fun h1 q1 => ?_)))))))))))
   ·
    refine wp_seq (d9 G c4 [(40, bA ((ss.getD k bL2).kind == 2))] fun G => b5 (I7 G (fun h2 q2 => ?_) fun h2 q2 => ?_))
    ·
     refine wp_seq (d9 G c4 [(65, bA ((ss.getD k bL2).kind == 3))] fun G => b5 (I7 G (fun h3 q3 => ?_) fun h3 q3 => ?_))
     ·
      refine wp_seq (d9 G c4 [(87, bA ((ss.getD k bL2).kind == 4))] fun G => b5 (I7 G (fun h4 q4 => ?_) fun h4 q4 => ?_))
      · refine wp_skip (j8 (j8 (b5 (S4 G c4 (rg 5) [.row 3 (D.ints (l6 d ss vs ars cx k).fst), .row 3 (D.ints (l6 d ss vs ars cx k).snd), dT bd, dT ss, .box (pL 0)] [(1, .ref 3), (2, iA cx), (3, .ptr 4 0), (6, iA ((k : Int) + 1))] [wO ((k : Int) + 1)] (o1 (by omega)) fun G => b5 ?_)))); exact N5 G (k + 1) (by omega) (by omega) (rg 5) (by have e1 : ((r8 true (d + 1) (vs, ars) cx (bL8 (k + 1) ss)).fst : List Int) = ((l6 d ss vs ars cx k).fst) := (congrArg Prod.fst (rn0 hs (by omega) (by omega) (by omega) (by omega) (by omega))); have e2 : ((r8 true (d + 1) (vs, ars) cx (bL8 (k + 1) ss)).snd : List Int) = ((l6 d ss vs ars cx k).snd) := (congrArg Prod.snd (rn0 hs (by omega) (by omega) (by omega) (by omega) (by omega))); (first | rw [e1, e2] | simp only [e1, e2]) <;> rfl)
      · refine e6 G (o9 4 [0, 1, 2, 7] (ih ((l6 d ss vs ars cx k).fst) ((l6 d ss vs ars cx k).snd) ((ss.getD k bL2).body) cx (by omega) (hsh.1.trans hv) (hsh.2.trans ha) ((F8 hs (by omega)).2.1))) (rg 5) [.row 3 (D.ints (r8 true d (l6 d ss vs ars cx k) cx (ss.getD k bL2).body).fst), .row 3 (D.ints (r8 true d (l6 d ss vs ars cx k) cx (ss.getD k bL2).body).snd), dT bd, dT ss, .box (pL 0)] (an9 cx k []) fun G => j8 (j8 (b5 (C8 G c4 [(6, iA ((k : Int) + 1))] [wO ((k : Int) + 1)] (o1 (by omega)) fun G => b5 ?_))); exact N5 G (k + 1) (by omega) (by omega) (rg 5) (by have e1 : ((r8 true (d + 1) (vs, ars) cx (bL8 (k + 1) ss)).fst : List Int) = ((r8 true d (l6 d ss vs ars cx k) cx (ss.getD k bL2).body).fst) := (congrArg Prod.fst (rn4 hs (by omega) (by omega))); have e2 : ((r8 true (d + 1) (vs, ars) cx (bL8 (k + 1) ss)).snd : List Int) = ((r8 true d (l6 d ss vs ars cx k) cx (ss.getD k bL2).body).snd) := (congrArg Prod.snd (rn4 hs (by omega) (by omega))); (first | rw [e1, e2] | simp only [e1, e2]) <;> rfl)
     · refine wp_seq (C6 G (m0 (f6 7 [0, 1, 2, 6] (d8.lend (M4 ((l6 d ss vs ars cx k).fst) ((l6 d ss vs ars cx k).snd) bd ((ss.getD k bL2).value) (aC1 hsh hv ha (F8 hs (by omega)).1 (by omega))) [.row 3, .row 3]) (f6 9 [0, 1, 2, 7] (ih ((l6 d ss vs ars cx k).fst) ((l6 d ss vs ars cx k).snd) ((ss.getD k bL2).body) (f8 cx (c6 (l6 d ss vs ars cx k).fst (l6 d ss vs ars cx k).snd 5 (ss.getD k bL2).value)) (by omega) (hsh.1.trans hv) (hsh.2.trans ha) ((F8 hs (by omega)).2.1)) l9)) fz []) [0, 0, 2, 0, 0, 0, 32, 112, 248, 511] (rg 10) [.row 3 (D.ints (V2 d ss vs ars cx k).fst), .row 3 (D.ints (V2 d ss vs ars cx k).snd), dT bd, dT ss, .box (pL 0), dE (ss.getD k bL2).index.kids, dE (ss.getD k bL2).value.kids, dT (ss.getD k bL2).body, dT (ss.getD k bL2).els, .box (sL (ss.getD k bL2) 5)] (an9 cx k [(7, .ptr 9 0)]) fun G => b5 (C6 G (m0 (f6 7 [0, 1, 2, 6] (d8.lend (M4 ((V2 d ss vs ars cx k).fst) ((V2 d ss vs ars cx k).snd) bd ((ss.getD k bL2).value) (aC1 (hsh.trans ac2) hv ha (F8 hs (by omega)).1 (by omega))) [.row 3, .row 3]) (f6 9 [0, 1, 2, 8] (ih ((V2 d ss vs ars cx k).fst) ((V2 d ss vs ars cx k).snd) ((ss.getD k bL2).els) (f8 cx (c6 (V2 d ss vs ars cx k).fst (V2 d ss vs ars cx k).snd 5 (ss.getD k bL2).value)) (by omega) ((hsh.trans ac2).1.trans hv) ((hsh.trans ac2).2.trans ha) ((F8 hs (by omega)).2.2)) l9)) fz []) [0, 0, 2, 0, 0, 0, 32, 112, 248, 511] (rg 5) [.row 3 (D.ints (aV6 d ss vs ars cx k).fst), .row 3 (D.ints (aV6 d ss vs ars cx k).snd), dT bd, dT ss, .box (pL 0)] (an9 cx k []) fun G => j8 (j8 (b5 (C8 G c4 [(6, iA ((k : Int) + 1))] [wO ((k : Int) + 1)] (o1 (by omega)) fun G => b5 ?_))))); exact N5 G (k + 1) (by omega) (by omega) (rg 5) (by have e1 : ((r8 true (d + 1) (vs, ars) cx (bL8 (k + 1) ss)).fst : List Int) = ((aV6 d ss vs ars cx k).fst) := (congrArg Prod.fst (rn3 (by omega) (by omega))); have e2 : ((r8 true (d + 1) (vs, ars) cx (bL8 (k + 1) ss)).snd : List Int) = ((aV6 d ss vs ars cx k).snd) := (congrArg Prod.snd (rn3 (by omega) (by omega))); (first | rw [e1, e2] | simp only [e1, e2]) <;> rfl)
    · refine E5 G (m0 (f6 13 [0, 1, 2, 6] (d8.lend (M4 ((l6 d ss vs ars cx k).fst) ((l6 d ss vs ars cx k).snd) bd ((ss.getD k bL2).value) (aC1 hsh hv ha (F8 hs (by omega)).1 (by omega))) [.row 3, .row 3]) (f6 18 [0, 1, 2, 5] (d8.lend (M4 ((l6 d ss vs ars cx k).fst) ((l6 d ss vs ars cx k).snd) bd ((ss.getD k bL2).index) (br7 hsh hv ha (F8 hs (by omega)).1 (by omega))) [.row 3, .row 3]) l9)) fz []) [0, 1, 0, 4, 0, 16, 0, 64, 240, 496, 0, 0, 2048, 7168, 16368, 0, 0, 65536, 244736, 524272, 0, 2097136, 4194303, 8388607] (rg 5) [.row 3 (D.ints (l6 d ss vs ars cx k).fst), .row 3 (D.ints ((l6 d ss vs ars cx k).snd.set (ss.getD k bL2).target.toNat (f8 (f8 (f8 ((l6 d ss vs ars cx k).snd.getD (ss.getD k bL2).target.toNat 0) (c6 (l6 d ss vs ars cx k).fst (l6 d ss vs ars cx k).snd 5 (ss.getD k bL2).value)) (c6 (l6 d ss vs ars cx k).fst (l6 d ss vs ars cx k).snd 5 (ss.getD k bL2).index)) cx))), dT bd, dT ss, .box (pL 0)] (an9 cx k []) (iX ((ss.getD k bL2).target) ((ss.getD k bL2).target.toNat) ((r8 true (d + (1 : Nat)) (vs, ars) cx (bL8 k ss)).snd.length) (iX ((ss.getD k bL2).target) ((ss.getD k bL2).target.toNat) ((r8 true (d + (1 : Nat)) (vs, ars) cx (bL8 k ss)).snd.length) [])) (iK (by have h9 := at3 (F8 (k := k) hs (by omega)).1 (by omega); have h8 := hsh.2.trans ha; omega) (iK (by have h9 := at3 (F8 (k := k) hs (by omega)).1 (by omega); have h8 := hsh.2.trans ha; omega) bM6)) fun G => j8 (j8 (b5 (C8 G c4 [(6, iA ((k : Int) + 1))] [wO ((k : Int) + 1)] (o1 (by omega)) fun G => b5 ?_))); exact N5 G (k + 1) (by omega) (by omega) (rg 5) (by have e2 : ((r8 true (d + 1) (vs, ars) cx (bL8 (k + 1) ss)).snd : List Int) = ((l6 d ss vs ars cx k).snd.set (ss.getD k bL2).target.toNat (f8 (f8 (f8 ((l6 d ss vs ars cx k).snd.getD (ss.getD k bL2).target.toNat 0) (c6 (l6 d ss vs ars cx k).fst (l6 d ss vs ars cx k).snd 5 (ss.getD k bL2).value)) (c6 (l6 d ss vs ars cx k).fst (l6 d ss vs ars cx k).snd 5 (ss.getD k bL2).index)) cx)) := (congrArg Prod.snd (rn2 hs (by omega) (by omega))); have h9 := rn2 (q := (vs, ars)) (cx := cx) hs (show k < _ by omega) (by omega); rw [e2, h9] <;> rfl)
   · refine E5 G (o9 13 [0, 1, 2, 6] (d8.lend (M4 ((l6 d ss vs ars cx k).fst) ((l6 d ss vs ars cx k).snd) bd ((ss.getD k bL2).value) (aC1 hsh hv ha (F8 hs (by omega)).1 (by omega))) [.row 3, .row 3])) [0, 1, 0, 4, 0, 16, 0, 64, 240, 496, 0, 0, 2048, 7168, 16368, 0, 65520, 131071, 262143] (rg 5) [.row 3 (D.ints ((l6 d ss vs ars cx k).fst.set (ss.getD k bL2).target.toNat (f8 (f8 ((l6 d ss vs ars cx k).fst.getD (ss.getD k bL2).target.toNat 0) (c6 (l6 d ss vs ars cx k).fst (l6 d ss vs ars cx k).snd 5 (ss.getD k bL2).value)) cx))), .row 3 (D.ints (l6 d ss vs ars cx k).snd), dT bd, dT ss, .box (pL 0)] (an9 cx k []) (iX ((ss.getD k bL2).target) ((ss.getD k bL2).target.toNat) ((r8 true (d + (1 : Nat)) (vs, ars) cx (bL8 k ss)).fst.length) (iX ((ss.getD k bL2).target) ((ss.getD k bL2).target.toNat) ((r8 true (d + (1 : Nat)) (vs, ars) cx (bL8 k ss)).fst.length) [])) (iK (by have h9 := at1 (F8 (k := k) hs (by omega)).1 (by omega); have h8 := hsh.1.trans hv; omega) (iK (by have h9 := at1 (F8 (k := k) hs (by omega)).1 (by omega); have h8 := hsh.1.trans hv; omega) bM6)) fun G => j8 (j8 (b5 (C8 G c4 [(6, iA ((k : Int) + 1))] [wO ((k : Int) + 1)] (o1 (by omega)) fun G => b5 ?_))); exact N5 G (k + 1) (by omega) (by omega) (rg 5) (by have e1 : ((r8 true (d + 1) (vs, ars) cx (bL8 (k + 1) ss)).fst : List Int) = ((l6 d ss vs ars cx k).fst.set (ss.getD k bL2).target.toNat (f8 (f8 ((l6 d ss vs ars cx k).fst.getD (ss.getD k bL2).target.toNat 0) (c6 (l6 d ss vs ars cx k).fst (l6 d ss vs ars cx k).snd 5 (ss.getD k bL2).value)) cx)) := (congrArg Prod.fst (rn1 hs (by omega) (by omega))); have h9 := rn1 (q := (vs, ars)) (cx := cx) hs (show k < _ by omega) (by omega); rw [e1, h9] <;> rfl)
theorem aT6 (nv na : Nat) (bd : List b6) : ∀ (d : Nat) (vs ars : List Int) (ss : List b6) (cx : Int), vs.length = nv → ars.length = na → ss.all (c8 nv na d) = true → d8.ok Try.prog (raC vs ars d bd ss cx) := by
 intro d
 induction d with
 | zero =>
  intro vs ars ss cx hv ha hs
  have h0 : ss = [] := by
   cases ss with
   | nil => rfl
   | cons a r => simp [c8] at hs
  subst h0
  exact ay1 nv na 0 bd [] (fun _ _ _ _ h => absurd h (by simp)) vs ars cx hv ha rfl
 | succ d ih => intro vs ars ss cx hv ha hs; exact ay1 nv na d bd ss (fun vs ars tt cx _ h1 h2 h3 => ih vs ars tt cx h1 h2 h3) vs ars cx hv ha hs
theorem aT5 (vs ars : List Int) (b : List b6) (hs : b.all (c8 vs.length ars.length 5) = true) : d8.ok Try.prog ⟨206, [pA 0, .ref 2, iA 0], [.row 3 (.ints vs), .row 3 (.ints ars), dT b], [.row 3 (.ints (r8 true 5 (vs, ars) 0 b).1), .row 3 (.ints (r8 true 5 (vs, ars) 0 b).2), dT b], .tup []⟩ :=
 d8.dup (S := [.row 3 (.ints vs), .row 3 (.ints ars), dT b]) (S' := [.row 3 (.ints (r8 true 5 (vs, ars) 0 b).1), .row 3 (.ints (r8 true 5 (vs, ars) 0 b).2), dT b]) (d := .stmts b) (i := 2) (aT6 _ _ b 5 vs ars b 0 rfl rfl hs) rfl rfl rfl (fun ρ h => by simp only [AV.vals, AV.val]; rw [show ρ 3 = ρ 2 from h]) rfl
def okI (p : b8) : Bool := e5 p && decide ((H9 ⟨(ai6 p).1, (ai6 p).2, p.body⟩ false).1 = 0)
def U7 (p : b8) : b8 := if okI p = true then ⟨(ai6 p).1, (ai6 p).2, p.body⟩ else ⟨[], [], []⟩
theorem ar0 {p : b8} (h : e5 p = true) : p.vars.length + p.arrays.length ≤ 14 := by
 unfold e5 w4 at h
 simp only [bL3, decide_eq_true_eq] at h
 omega
section
variable {p : b8} {q : C1} {b : List b6} {X : C1}
theorem P8 (h : (decide (X.1 = q.1) && (decide (X.2 = q.2) && o7 b b)) = true) : X = q := by
 simp only [bL3, decide_eq_true_eq] at h
 exact Prod.ext h.1 h.2.1
theorem aQ6 (h : (decide (X.1 = q.1) && (decide (X.2 = q.2) && o7 b b)) = false) : ¬ X = q := fun e => by
 subst e
 rw [(z9 b b).2 rfl] at h
 simp at h
theorem bd7 {f : Bool} (hp : e5 p = true) (h : V0 p.body (p.vars, p.arrays) q) (hne : ¬ r8 f 5 q 0 p.body = q) : 100 - av6 (r8 f 5 q 0 p.body) < 100 - av6 q := by
 have h1 := Y9 (f := f) h
 have h2 := aX1 ac2 h.2.1 h1.2.1 ap5 hne
 have h3 := aH5 h1.2.1
 have h4 := ar0 hp
 rw [h1.1.1, h1.1.2] at h3
 simp only at h3
 omega
theorem bk9 (hb : p.size ≤ 1048576) (h : V0 p.body (p.vars, p.arrays) q) : q.1.length + q.2.length + c9 p.body ≤ 1048576 := by
 have h1 := h.1.1
 have h2 := h.1.2
 unfold b8.size at hb
 simp only at h1 h2
 omega
theorem a38 (hp : e5 p = true) (h : V0 p.body (p.vars, p.arrays) q) : p.body.all (c8 q.1.length q.2.length 5) = true := by
 rw [h.1.1, h.1.2]; exact (ai2 hp).1
theorem bb3 (h : e5 p = false) : okI p = false := by unfold okI; rw [h]; rfl
theorem bb4 (hp : e5 p = true) (h : V0 p.body (p.vars, p.arrays) q) (hf : r8 true 5 q 0 p.body = q) : okI p = decide ((H9 ⟨q.1, q.2, p.body⟩ false).1 = 0) := by
 unfold okI; rw [hp, aZ7 hp (ar0 hp) h hf]; rfl
theorem aZ6 (h : okI p = false) : U7 p = ⟨[], [], []⟩ := by unfold U7; rw [h]; rfl
theorem bl1 (hp : e5 p = true) (h : V0 p.body (p.vars, p.arrays) q) (hf : r8 true 5 q 0 p.body = q) (hk : okI p = true) : U7 p = ⟨q.1, q.2, p.body⟩ := by unfold U7; rw [hk, aZ7 hp (ar0 hp) h hf]; rfl
theorem bB1 (hp : e5 p = true) (h : V0 p.body (p.vars, p.arrays) q) (hf : r8 true 5 q 0 p.body = q) (hc : (H9 ⟨q.1, q.2, p.body⟩ false).1 = 0) : okI p = true := by rw [bb4 hp h hf]; exact decide_eq_true hc
theorem bB2 (hp : e5 p = true) (h : V0 p.body (p.vars, p.arrays) q) (hf : r8 true 5 q 0 p.body = q) (hc : ¬ (H9 ⟨q.1, q.2, p.body⟩ false).1 = 0) : okI p = false := by rw [bb4 hp h hf]; exact decide_eq_false hc
end
abbrev aw9 (p : b8) : List It := [dI p.vars, dI p.arrays, dT p.body, .row 3 (D.ints (U7 p).vars), .row 3 (D.ints (U7 p).arrays), .tree (D.stmts (U7 p).body)]
abbrev aj9 : It := .box [.v (.slice none 0 0), .v (.slice none 0 0), .v (.slice none 0 0)]
abbrev ao6 : It := .box [.ref 4, .ref 5, .tref 6]
abbrev ad6 (p : b8) (q : C1) (r0 : List It) : List It := .row 3 (D.ints q.fst) :: .row 3 (D.ints q.snd) :: .tree (D.stmts p.body) :: r0
abbrev V1 (r0 : List (Nat × AV)) : List (Nat × AV) := (2, .ptr 3 0) :: (3, bA false) :: (4, .ptr 7 0) :: r0
abbrev J0 (p : b8) (r0 : List It) : List It := dI p.vars :: dI p.arrays :: dT p.body :: r0
theorem aw3 (p : b8) (hb : p.size ≤ 1048576) : d8.ok Try.prog ⟨162, [pA 0], pS p, pS p ++ oP (U7 p), .tup [oA 3, bA (okI p)]⟩ := by
  refine x6 33 Try.func162 (J0 p []) [(0, pA 0)] fun G => ?_
  have hb1 : p.vars.length ≤ 1048576 ∧ p.arrays.length ≤ 1048576 ∧ c9 p.body ≤ 1048576 := by unfold b8.size at hb; omega
  refine wp_seq (e6 G c4 [0, 1, 2, 3, 11] (J0 p [.box (pL 0), aj9]) [(1, .ptr 3 0), (2, .ptr 4 0), (3, bA false)] fun G => b5 (wp_seq (wp_seq (d9 G (o9 1 [0, 1, 2] (l0 p (by omega))) [(10, .v (.bool !e5 p))] fun G => b5 ?_)))); cases h0 : (!e5 p)
  ·
   have q0 : (e5 p) = true := (Eq.mp (bM1 _) h0); refine rF G _ h0 (wp_skip (b5 (wp_seq (e6 G (o9 1 [0, 1, 2] (Q6 p.vars p.arrays p.body (by assumption))) [0, 1, 2, 4, 13, 14, 15, 21] (J0 p [aj9, .row 3 (D.ints p.vars), .row 3 (D.ints p.arrays), .tree (D.stmts p.body), ao6]) (V1 []) fun G => b5 (wp_seq (wp_block ?_)))))); refine m6 (κ := C1) (fun q => V0 p.body (p.vars, p.arrays) q) (fun q => 100 - av6 q) (fun q => (J0 p [aj9, .row 3 (.ints q.1), .row 3 (.ints q.2), .tree (D.stmts p.body), ao6])) (fun q => (V1 [])) ((p.vars, p.arrays)) (ac9 (aE5 (by with_reducible assumption))) (m8.at G _ _) ?_; clear G; intro q ρ a w hp G; replace G := m8.at G (J0 p (aj9 :: (ad6 p q [ao6]))) (V1 []); refine wp_block (wp_seq (e6 G (o9 1 [4, 5, 6] (d8.lend (Q6 q.fst q.snd p.body (bk9 hb (by with_reducible assumption))) [.row 3, .row 3, .tree])) [0, 1, 2, 3, 4, 5, 6, 7, 16, 17, 18, 24] (J0 p (aj9 :: (ad6 p q (ao6 :: (ad6 p q [.box [.ref 8, .ref 9, .tref 10]]))))) (V1 [(5, .ptr 11 0)]) fun G => b5 (wp_seq (e6 G (o9 3 [8, 9, 10] (d8.lend (aT5 q.fst q.snd p.body (a38 (by with_reducible assumption) (by with_reducible assumption))) [.no, .no, .tree])) (rg 12) (J0 p (aj9 :: (ad6 p q [ao6, .row 3 (D.ints (r8 true 5 q 0 p.body).fst), .row 3 (D.ints (r8 true 5 q 0 p.body).snd), .tree (D.stmts p.body), .box [.ref 8, .ref 9, .tref 10]]))) (V1 [(5, .ptr 11 0)]) fun G => b5 (wp_seq (wp_seq (B7 G (o9 2 [8, 9, 10, 4, 5, 6] (d8.lend (aw2 ((r8 true 5 q 0 p.body).fst) ((r8 true 5 q 0 p.body).snd) p.body q.fst q.snd p.body) [.row 3, .row 3, .tree, .row 3, .row 3, .tree])) (V1 [(5, .ptr 11 0), (22, bA (decide ((r8 true 5 q 0 p.body).fst = q.fst) && (decide ((r8 true 5 q 0 p.body).snd = q.snd) && o7 p.body p.body)))]) fun G => b5 ?_))))))); cases h1 : (decide ((r8 true (5 : Nat) q (0 : Int) p.body).fst = q.fst) && (decide ((r8 true (5 : Nat) q (0 : Int) p.body).snd = q.snd) && o7 p.body p.body))
   · have q1 : (¬ ((r8 true 5 q 0 p.body).fst = q.fst)) ∨ ((¬ ((r8 true 5 q 0 p.body).snd = q.snd)) ∨ ((o7 p.body p.body) = false)) := Or.imp (fun hq => of_decide_eq_false hq) (fun hq => Or.imp (fun hq => of_decide_eq_false hq) (fun hq => (hq)) (bN9.1 hq)) (bN9.1 h1); refine rF G _ h1 (wp_skip (b5 (e6 G c4 [0, 1, 2, 3, 7, 8, 9, 10] (J0 p [aj9, .box [.ref 5, .ref 6, .tref 7], .row 3 (D.ints (r8 true 5 q 0 p.body).fst), .row 3 (D.ints (r8 true 5 q 0 p.body).snd), .tree (D.stmts p.body)]) [(2, .ptr 3 0), (3, bA false), (4, .ptr 4 0)] fun G => j8 (b5 ?_)))); exact N5 G (r8 true 5 q 0 p.body) (Y9 (by with_reducible assumption)) (bd7 (by with_reducible assumption) (by with_reducible assumption) (aQ6 (by with_reducible assumption))) [0, 1, 2, 3, 5, 6, 7, 4]
   ·
    have q1 : ((r8 true 5 q 0 p.body).fst = q.fst) ∧ (((r8 true 5 q 0 p.body).snd = q.snd) ∧ ((o7 p.body p.body) = true)) := And.imp (fun hq => of_decide_eq_true hq) (fun hq => And.imp (fun hq => of_decide_eq_true hq) (fun hq => (hq)) (bO2.1 hq)) (bO2.1 h1); refine rT G _ h1 (wp_exit (l8 ?_)); refine bn2 (by kernel_rfl) ?_; refine l8 (l5 (b5 (wp_seq (e6 G (o9 1 [4, 5, 6] (d8.lend (aF8 q.fst q.snd p.body (by omega)) [.row 3, .row 3, .tree])) (rg 8) (J0 p (aj9 :: (ad6 p q [ao6]))) (V1 [(6, iA (H9 (b8.mk q.fst q.snd p.body) false).fst)]) fun G => b5 (wp_seq (wp_seq (d9 G c4 [(30, bA ((H9 (b8.mk q.fst q.snd p.body) false).fst != 0))] fun G => b5 (rcN G (fun h2 q2 => ?_) fun h2 q2 => ?_))))))))
    · refine wp_skip (b5 (wp_seq (e6 G c4 (rg 7) (J0 p (ao6 :: (ad6 p q []))) [(2, .ptr 3 0), (3, bA true)] fun G => b5 (wp_ret ?_)))); exact U5 (.tup [.agg [.ref 4, .ref 5, .tref 6], bA true]) G [0, 1, 2, 4, 5, 6] (by have e1 : (okI p : Bool) = (true) := (bB1 (by with_reducible assumption) (by with_reducible assumption) (P8 (by with_reducible assumption)) (by with_reducible assumption)); (first | rw [e1] | simp only [e1]) <;> rfl) (by show _ = mR [0, 1, 2, 4, 5, 6] (aw9 p); unfold aw9; rw [bl1 (by with_reducible assumption) (by with_reducible assumption) (P8 (by with_reducible assumption)) (bB1 (by with_reducible assumption) (by with_reducible assumption) (P8 (by with_reducible assumption)) (by with_reducible assumption))] <;> rfl)
    · refine wp_seq (B7 G c4 (V1 []) fun G => b5 (wp_ret (d7 ?_))); obtain ⟨ρ, G⟩ := G.nil 8 3 (.ints []) 1 (J0 p (.box [.ref 8, .v (.slice none 0 0), .v (.slice none 0 0)] :: (ad6 p q [.box [.ref 4, .ref 5, .tref 6]]))) (V1 []); obtain ⟨ρ, G⟩ := G.nil 9 3 (.ints []) 1 (J0 p (.box [.ref 8, .ref 9, .v (.slice none 0 0)] :: (ad6 p q [.box [.ref 4, .ref 5, .tref 6], .row 3 (D.ints [])]))) (V1 []); obtain ⟨ρ, G⟩ := G.nilT 10 (.stmts []) (J0 p (.box [.ref 8, .ref 9, .tref 10] :: (ad6 p q [.box [.ref 4, .ref 5, .tref 6], .row 3 (D.ints []), .row 3 (D.ints [])]))) (V1 []); exact U5 (.tup [.agg [.ref 8, .ref 9, .tref 10], bA false]) G [0, 1, 2, 8, 9, 10] (by have e1 : (okI p : Bool) = (false) := (bB2 (by with_reducible assumption) (by with_reducible assumption) (P8 (by with_reducible assumption)) (by with_reducible assumption)); (first | rw [e1] | simp only [e1]) <;> rfl) (by show _ = mR [0, 1, 2, 8, 9, 10] (aw9 p); unfold aw9; rw [aZ6 (bB2 (by with_reducible assumption) (by with_reducible assumption) (P8 (by with_reducible assumption)) (by with_reducible assumption))] <;> rfl)
  · have q0 : (e5 p) = false := (Eq.mp (bL9 _) h0); refine rT G _ h0 (wp_seq (B7 G c4 [(1, .ptr 3 0), (2, .ptr 4 0), (3, bA false)] fun G => b5 (wp_ret (d7 ?_)))); obtain ⟨ρ, G⟩ := G.nil 5 3 (.ints []) 1 (J0 p [.box (pL 0), .box [.ref 5, .v (.slice none 0 0), .v (.slice none 0 0)]]) [(1, .ptr 3 0), (2, .ptr 4 0), (3, bA false)]; obtain ⟨ρ, G⟩ := G.nil 6 3 (.ints []) 1 (J0 p [.box (pL 0), .box [.ref 5, .ref 6, .v (.slice none 0 0)], .row 3 (D.ints [])]) [(1, .ptr 3 0), (2, .ptr 4 0), (3, bA false)]; obtain ⟨ρ, G⟩ := G.nilT 7 (.stmts []) (J0 p [.box (pL 0), .box [.ref 5, .ref 6, .tref 7], .row 3 (D.ints []), .row 3 (D.ints [])]) [(1, .ptr 3 0), (2, .ptr 4 0), (3, bA false)]; exact U5 (.tup [.agg [.ref 5, .ref 6, .tref 7], bA false]) G [0, 1, 2, 5, 6, 7] (by have e1 : (okI p : Bool) = (false) := (bb3 (by with_reducible assumption)); (first | rw [e1] | simp only [e1]) <;> rfl) (by show _ = mR [0, 1, 2, 5, 6, 7] (aw9 p); unfold aw9; rw [aZ6 (bb3 (by with_reducible assumption))] <;> rfl)
def K7 (p q : b8) : Bool := e5 p && (e5 q && (decide (p.vars.length ≤ q.vars.length) && (decide (p.vars = q.vars.take p.vars.length) && decide (p.arrays = q.arrays))))
theorem R9 {nv nw na : Nat} (h : nv ≤ nw) {e : b7} (hr : f5 nv na e = true) : f5 nw na e = true := by
 unfold f5 at hr ⊢
 rw [bL3] at hr ⊢
 exact ⟨v6 h 5 e hr.1, hr.2⟩
theorem ax7 {nv nw na : Nat} (h : nv ≤ nw) : ∀ (d : Nat) (s : b6), c8 nv na d s = true → c8 nw na d s = true
 | 0, _, hs => by simp [c8] at hs
 | d + 1, s, hs => by
  have key : ∀ l : List b6, l.all (c8 nv na d) = true → l.all (c8 nw na d) = true := fun l hl => bL7.2 fun x hx => ax7 h d x (bL7.1 hl x hx)
  rw [c8, bL3] at hs ⊢
  refine ⟨hs.1, ?_⟩
  have h2 := hs.2
  by_cases k1 : s.kind = 1 ∨ s.kind = 5
  ·rw [if_pos k1] at h2 ⊢
   simp only [bL3, decide_eq_true_eq] at h2 ⊢
   exact ⟨⟨h2.1.1, by omega⟩, R9 h h2.2⟩
  rw [if_neg k1] at h2 ⊢
  by_cases k2 : s.kind = 2
  ·rw [if_pos k2] at h2 ⊢
   simp only [bL3, decide_eq_true_eq] at h2 ⊢
   exact ⟨⟨⟨h2.1.1.1, R9 h h2.1.1.2⟩, h2.1.2⟩, R9 h h2.2⟩
  rw [if_neg k2] at h2 ⊢
  by_cases k3 : s.kind = 3
  ·rw [if_pos k3] at h2 ⊢
   simp only [bL3] at h2 ⊢
   exact ⟨⟨R9 h h2.1.1, key _ h2.1.2⟩, key _ h2.2⟩
  rw [if_neg k3] at h2 ⊢
  by_cases k4 : s.kind = 4
  ·rw [if_pos k4] at h2 ⊢; exact key _ h2
  ·rw [if_neg k4] at h2; cases h2
abbrev mrP (q : b8) (n : Int) : b8 := ⟨q.vars ++ [n], q.arrays, q.body⟩
theorem bk2 {q : b8} {n : Int} (hq : e5 q = true) (hl : q.vars.length < 12) (h0 : 0 ≤ n) (h4 : n < 4) : e5 (mrP q n) = true := by
 unfold e5 at hq ⊢
 simp only [bL3, decide_eq_true_eq] at hq ⊢
 refine ⟨⟨?_, ?_⟩, hq.2⟩
 ·have h := hq.1.1
  unfold w4 at h ⊢
  simp only [bL3, decide_eq_true_eq, List.all_append, bM3, List.all_cons, List.all_nil, bM2, bN8] at h ⊢
  have hn : c5 n = true := by unfold c5; simp; omega
  exact ⟨⟨⟨⟨⟨h.1.1.1.1, hn, bM6⟩, h.1.1.1.2⟩, by omega⟩, by omega⟩, h.2⟩
 ·have h := hq.1.2
  unfold P0 at h ⊢
  exact bL7.2 fun x hx => ax7 (by simp) 5 x (bL7.1 h x hx)
theorem aE9 {p q : b8} {n : Int} (h : K7 p q = true) (hl : q.vars.length < 12) (h0 : 0 ≤ n) (h4 : n < 4) : K7 q (mrP q n) = true ∧ K7 p (mrP q n) = true ∧ K7 (mrP q n) p = false := by
 unfold K7 at h
 simp only [bL3, decide_eq_true_eq] at h
 obtain ⟨h1, h2, h3, h5, h6⟩ := h
 have hm := bk2 h2 hl h0 h4
 refine ⟨?_, ?_, ?_⟩
 ·unfold K7
  simp only [bL3, decide_eq_true_eq]
  exact ⟨h2, hm, by simp, by simp, bM6⟩
 ·unfold K7
  simp only [bL3, decide_eq_true_eq]
  exact ⟨h1, hm, by simp; omega, by rw [List.take_append_of_le_length h3]; exact h5, h6⟩
 ·unfold K7
  rw [decide_eq_false (p := (mrP q n).vars.length ≤ p.vars.length) (by simp; omega)]
  simp
def pkX (b : List UInt8) (k : Int) : Int := ((b.getD (k.tmod b.length).toNat 0).toNat : Int) * 131 + ((b.getD ((k * 7 + 3).tmod b.length).toNat 0).toNat : Int) * 1117 + k * 29 + k.tdiv b.length * 53
def pk (b : List UInt8) (k n : Int) : Int :=
 if n < 1 ∨ b.length = 0 then 0 else if k < b.length then ((b.getD k.toNat 0).toNat : Int).tmod n else (aP2 (pkX b k) ((pkX b k).tdiv 64)).tmod n
def nm (b : List UInt8) (k : Int) (l : List Int) : Int := l.getD (pk b k l.length).toNat 0
theorem bh1 {x y : Int} (hx : 0 ≤ x) (hx2 : x < 9223372036854775808) (hy : 0 ≤ y) (hy2 : y < 9223372036854775808) : 0 ≤ aP2 x y := by
 obtain ⟨a, rfl⟩ := Int.eq_ofNat_of_zero_le hx
 obtain ⟨c, rfl⟩ := Int.eq_ofNat_of_zero_le hy
 have ha : a < 2 ^ 63 := by omega
 have hc : c < 2 ^ 63 := by omega
 have h : (BitVec.ofInt (IntKind.bits .i64) (a : Int) ^^^ BitVec.ofInt (IntKind.bits .i64) (c : Int)).toNat < 2 ^ 63 := by
  rw [BitVec.toNat_xor]
  refine Nat.xor_lt_two_pow ?_ ?_
  ·simp only [BitVec.ofInt_natCast, BitVec.toNat_ofNat, IntKind.bits]; omega
  ·simp only [BitVec.ofInt_natCast, BitVec.toNat_ofNat, IntKind.bits]; omega
 unfold aP2
 generalize (BitVec.ofInt (IntKind.bits .i64) (a : Int) ^^^ BitVec.ofInt (IntKind.bits .i64) (c : Int)).toNat = z at h ⊢
 rw [w64 (by omega) (by omega)]
 omega
theorem aH3 (x : UInt8) : ((x.toNat : Nat) : Int) ≤ 255 := by have := x.toNat_lt; omega
theorem aH4 {k n : Int} (hk : 0 ≤ k) (hn : 1 ≤ n) : 0 ≤ k.tdiv n ∧ k.tdiv n ≤ k := by
 refine ⟨Int.tdiv_nonneg hk (by omega), ?_⟩
 rw [Int.tdiv_eq_ediv_of_nonneg hk]
 exact Int.ediv_le_self _ hk
theorem aJ6 {b : List UInt8} {k : Int} (hk : 0 ≤ k) (hk2 : k ≤ 1000000000) (hb : b.length ≠ 0) : 0 ≤ pkX b k ∧ pkX b k ≤ 100000000000 := by
 unfold pkX
 have h1 := aH3 (b.getD (k.tmod b.length).toNat 0)
 have h2 := aH3 (b.getD ((k * 7 + 3).tmod b.length).toNat 0)
 have h3 := aH4 (n := b.length) hk (by omega)
 omega
theorem aP5 {x n : Int} (hx : 0 ≤ x) (hn : 1 ≤ n) : 0 ≤ x.tmod n ∧ x.tmod n < n := ⟨Int.tmod_nonneg _ hx, Int.tmod_lt_of_pos _ (by omega)⟩
theorem bo9 {b : List UInt8} {k : Int} (hk : 0 ≤ k) (hk2 : k ≤ 1000000000) (hb : b.length ≠ 0) : 0 ≤ (pkX b k).tdiv 64 ∧ (pkX b k).tdiv 64 ≤ 100000000000 := by
 have h := aJ6 hk hk2 hb
 have h2 := aH4 (n := 64) h.1 (by omega)
 omega
theorem bI3 (b : List UInt8) {k n : Int} (hk : 0 ≤ k) (hk2 : k ≤ 1000000000) (hn : 1 ≤ n) : 0 ≤ pk b k n ∧ pk b k n < n := by
 unfold pk
 split
 ·omega
 ·split
  ·exact aP5 (by omega) hn
  ·have h := aJ6 hk hk2 (show b.length ≠ 0 by omega)
   have h2 := bo9 hk hk2 (show b.length ≠ 0 by omega)
   exact aP5 (bh1 h.1 (by omega) h2.1 (by omega)) hn
theorem aY5 (b : List UInt8) {k : Int} (hk : 0 ≤ k) (hk2 : k ≤ 1000000000) {l : List Int} (hl : l ≠ []) : 0 ≤ pk b k l.length ∧ pk b k l.length < l.length ∧ (pk b k l.length).toNat < l.length := by
 have h0 : 0 < l.length := List.length_pos_iff.2 hl
 have h := bI3 b (n := l.length) hk hk2 (by omega)
 omega
theorem aD6 (b : List UInt8) {k : Int} (hk : 0 ≤ k) (hk2 : k ≤ 1000000000) {l : List Int} (hl : l ≠ []) : nm b k l ∈ l := by
 unfold nm
 rw [i9 (aY5 b hk hk2 hl).2.2]
 exact bN6 _
abbrev l1L : List Int := [-1] ++ ([4] ++ ([9223372036854775807] ++ ([-9223372036854775808] ++ [])))
def l1D (b : List UInt8) (k : Int) : Int := if pk b k 12 = 0 then nm b (k + 1) l1L else pk b (k + 1) 4
def y8 {α : Type} (f : Int → α × Int) : Nat → Int → List α × Int
 | 0, k => ([], k)
 | n + 1, k => ((y8 f n k).1 ++ [(f (y8 f n k).2).1], (f (y8 f n k).2).2)
theorem aF1 {α : Type} (f : Int → α × Int) (n : Nat) (k : Int) : (y8 f n k).1.length = n := by
 induction n with
 | zero => rfl
 | succ n ih => simp [y8, ih]
theorem be9 {α : Type} {f : Int → α × Int} {c : Int} (hc : 0 ≤ c) {m : Nat} : ∀ (n : Nat) (k : Int), n ≤ m → (∀ j, k ≤ j → j ≤ k + m * c → j ≤ (f j).2 ∧ (f j).2 ≤ j + c) → k ≤ (y8 f n k).2 ∧ (y8 f n k).2 ≤ k + n * c := by
 intro n
 induction n with
 | zero => intro k _ _; simp [y8]
 | succ n ih =>
  intro k hm h
  have h1 := ih k (by omega) h
  have e : ((n + 1 : Nat) : Int) * c = n * c + c := by rw [Int.natCast_add, Int.add_mul]; simp
  have h3 : ((n + 1 : Nat) : Int) * c ≤ m * c := bP1 (by omega) hc
  have h2 := h (y8 f n k).2 h1.1 (by omega)
  simp only [y8]
  rw [e]
  omega
theorem bl8 {α : Type} {f : Int → α × Int} {Q : α → Prop} (h : ∀ j, Q (f j).1) (n : Nat) (k : Int) : ∀ x ∈ (y8 f n k).1, Q x := by
 induction n with
 | zero => intro x hx; cases hx
 | succ n ih =>
  intro x hx
  simp only [y8, bN1, bO0] at hx
  rcases hx with hx | rfl
  ·exact ih x hx
  ·exact h _
abbrev atL : List Int := [1] ++ ([0] ++ ([2] ++ ([3] ++ ([255] ++ ([7] ++ ([128] ++ []))))))
def j3 (b : List UInt8) (nv : Int) (k : Int) : b7 := if pk b k 3 = 0 then ⟨1, nm b (k + 1) atL, []⟩ else ⟨2, pk b (k + 1) nv, []⟩
abbrev D9 : List Int := [4] ++ ([10] ++ ([8] ++ ([9] ++ ([3] ++ ([6] ++ ([7] ++ ([5] ++ ([11] ++ []))))))))
def C7 (b : List UInt8) (nv na : Int) : Nat → Int → b7 × Int
 | 0, k => (j3 b nv k, k + 2)
 | d + 1, k => if d = 0 then (j3 b nv k, k + 2) else if pk b k 4 = 0 then (j3 b nv (k + 1), k + 3)
  else if nm b (k + 1) D9 = 3 then (if na = 0 then (j3 b nv (k + 2), k + 4) else (⟨3, pk b (k + 2) na, [j3 b nv (k + 3)]⟩, k + 5))
  else (⟨nm b (k + 1) D9, 0, (y8 (C7 b nv na d) (i8 (nm b (k + 1) D9)).toNat (k + 2)).1⟩, (y8 (C7 b nv na d) (i8 (nm b (k + 1) D9)).toNat (k + 2)).2)
def cE : Nat → Int
 | 0 => 2
 | d + 1 => 5 + 3 * cE d
theorem au8 (d : Nat) : 2 ≤ cE d := by
 induction d with
 | zero => exact Int.le_refl _
 | succ d ih => simp only [cE]; omega
theorem ar3 (k : Int) : (i8 k).toNat ≤ 3 := by unfold i8; (repeat' split) <;> decide
theorem aL9 (b : List UInt8) (nv na : Int) : ∀ (d : Nat) (k : Int), k ≤ (C7 b nv na d k).2 ∧ (C7 b nv na d k).2 ≤ k + cE d
 | 0, k => by simp only [C7, cE]; omega
 | d + 1, k => by
  have hc := au8 d
  rw [C7]
  simp only [cE]
  split
  ·simp only; omega
  ·split
   ·simp only; omega
   ·split
    ·split <;> (simp only; omega)
    ·have h3 := ar3 (nm b (k + 1) D9)
     have h := be9 (f := C7 b nv na d) (c := cE d) (m := 3) (by omega) (i8 (nm b (k + 1) D9)).toNat (k + 2) h3 fun j _ _ => aL9 b nv na d j
     have h4 : ((i8 (nm b (k + 1) D9)).toNat : Int) * cE d ≤ 3 * cE d := bP1 (by omega) (by omega)
     simp only
     omega
theorem aW8 {c : Nat} : ∀ {l : List b7}, (∀ x ∈ l, r9 x ≤ c) → j1 l ≤ l.length * (1 + c)
 | [], _ => bO9 _
 | e :: r, h => by
  have h1 := h e (bM7 ..)
  have h2 := aW8 (l := r) fun x hx => h x (bN4 _ hx)
  simp only [j1, bM2]
  rw [Nat.add_mul]
  omega
theorem bf0 (b : List UInt8) (nv na : Int) : ∀ (d : Nat) (k : Int), (r9 (C7 b nv na d k).1 : Int) ≤ cE d
 | 0, k => by
  simp only [C7, cE, j3]
  split <;> simp [r9, j1]
 | d + 1, k => by
  have hc := au8 d
  have ha : ∀ j, r9 (j3 b nv j) = 0 := fun j => by unfold j3; split <;> rfl
  rw [C7]
  simp only [cE]
  split
  ·simp only [ha]; omega
  ·split
   ·simp only [ha]; omega
   ·split
    ·split
     ·simp only [ha]; omega
     ·simp only [r9, j1, ha]; omega
    ·have h3 := ar3 (nm b (k + 1) D9)
     have h1 := bl8 (f := C7 b nv na d) (Q := fun x => r9 x ≤ (cE d).toNat) (fun j => by have := bf0 b nv na d j; omega) (i8 (nm b (k + 1) D9)).toNat (k + 2)
     have h2 := aW8 h1
     rw [aF1] at h2
     simp only [r9]
     have h4 := bO7 (1 + (cE d).toNat) h3
     omega
abbrev dpL : List Int := [2] ++ ([3] ++ ([2] ++ ([1] ++ ([4] ++ []))))
def m9 (b : List UInt8) (nv na : Nat) (k : Int) : b7 × Int :=
 if f5 nv na (C7 b nv na (nm b k dpL).toNat (k + 1)).1 = true then C7 b nv na (nm b k dpL).toNat (k + 1)
 else (j3 b nv (C7 b nv na (nm b k dpL).toNat (k + 1)).2, (C7 b nv na (nm b k dpL).toNat (k + 1)).2 + 2)
theorem cE4 {d : Nat} (h : d ≤ 4) : cE d ≤ 364 := by
 match d, h with
 | 0, _ => decide
 | 1, _ => decide
 | 2, _ => decide
 | 3, _ => decide
 | 4, _ => decide
theorem dp4 (b : List UInt8) {k : Int} (hk : 0 ≤ k) (hk2 : k ≤ 1000000000) : 1 ≤ nm b k dpL ∧ nm b k dpL ≤ 4 ∧ (nm b k dpL).toNat ≤ 4 := by
 have h := aD6 b hk hk2 (l := dpL) (by simp)
 simp only [bN1, bO6, List.not_mem_nil, or_false] at h
 omega
theorem bv9 (b : List UInt8) {k : Int} (hk : 0 ≤ k) (hk2 : k ≤ 1000000000) : nm b k dpL = ((nm b k dpL).toNat : Int) := by have := dp4 b hk hk2; omega
theorem aX3 (b : List UInt8) (nv na : Nat) {k : Int} (hk : 0 ≤ k) (hk2 : k ≤ 1000000000) : k ≤ (m9 b nv na k).2 ∧ (m9 b nv na k).2 ≤ k + 367 := by
 have h := aL9 b nv na (nm b k dpL).toNat (k + 1)
 have h2 := cE4 (dp4 b hk hk2).2.2
 unfold m9
 split
 ·omega
 ·simp only; omega
theorem aN8 (b : List UInt8) (nv j : Int) : r9 (j3 b nv j) = 0 := by unfold j3; split <;> rfl
theorem aQ3 (b : List UInt8) (nv na : Nat) {k : Int} (hk : 0 ≤ k) (hk2 : k ≤ 1000000000) : r9 (m9 b nv na k).1 ≤ 364 := by
 have h := bf0 b nv na (nm b k dpL).toNat (k + 1)
 have h2 := cE4 (dp4 b hk hk2).2.2
 unfold m9
 split
 ·omega
 ·rw [aN8]; omega
abbrev noE : b7 := ⟨0, 0, []⟩
abbrev C0 : List Int := [1] ++ ([1] ++ ([2] ++ ([3] ++ ([4] ++ ([1] ++ ([3] ++ ([5] ++ [])))))))
abbrev ibL : List Int := [1] ++ ([2] ++ ([1] ++ ([0] ++ [])))
abbrev ieL : List Int := [0] ++ ([1] ++ ([0] ++ ([2] ++ [])))
abbrev rcL : List Int := [2] ++ ([1] ++ ([3] ++ []))
abbrev rbL : List Int := [1] ++ ([2] ++ ([1] ++ []))
def dfS (b : List UInt8) (nv na : Nat) (kd k : Int) : b6 × Int := (⟨if kd = 5 then 5 else 1, pk b k nv, noE, (m9 b nv na (k + 1)).1, 0, [], []⟩, (m9 b nv na (k + 1)).2)
def soS (b : List UInt8) (nv na : Nat) (k : Int) : b6 × Int := (⟨2, pk b k na, j3 b nv (k + 1), (m9 b nv na (k + 1 + 2)).1, 0, [], []⟩, (m9 b nv na (k + 1 + 2)).2)
def mnD (b : List UInt8) (f : Int → b6 × Int) (l : List Int) (k : Int) : List b6 × Int := y8 f (nm b k l).toNat (k + 1)
def ifS (b : List UInt8) (nv na : Nat) (f : Int → b6 × Int) (k : Int) : b6 × Int :=
 (⟨3, 0, noE, (m9 b nv na k).1, 0, (mnD b f ibL (m9 b nv na k).2).1, (mnD b f ieL (mnD b f ibL (m9 b nv na k).2).2).1⟩, (mnD b f ieL (mnD b f ibL (m9 b nv na k).2).2).2)
def rpS (b : List UInt8) (f : Int → b6 × Int) (k : Int) : b6 × Int := (⟨4, 0, noE, noE, nm b k rcL, (mnD b f rbL (k + 1)).1, []⟩, (mnD b f rbL (k + 1)).2)
def t3 (b : List UInt8) (nv na : Nat) : Nat → Int → b6 × Int
 | 0, k => if nm b k C0 = 2 ∧ na ≠ 0 then soS b nv na (k + 1) else dfS b nv na (nm b k C0) (k + 1)
 | d + 1, k => if nm b k C0 = 2 ∧ na ≠ 0 then soS b nv na (k + 1) else if nm b k C0 = 3 ∧ d ≠ 0 then ifS b nv na (t3 b nv na d) (k + 1) else if nm b k C0 = 4 ∧ d ≠ 0 then rpS b (t3 b nv na d) (k + 1)
  else dfS b nv na (nm b k C0) (k + 1)
def cS : Nat → Int
 | 0 => 402
 | d + 1 => 402 + 4 * cS d
theorem al4 (d : Nat) : 402 ≤ cS d := by
 induction d with
 | zero => exact Int.le_refl _
 | succ d ih => simp only [cS]; omega
section
variable (b : List UInt8) (nv na : Nat) {k : Int}
theorem bp9 (kd : Int) (hk : 0 ≤ k) (hk2 : k + 400 ≤ 1000000000) : k ≤ (dfS b nv na kd k).2 ∧ (dfS b nv na kd k).2 ≤ k + 368 := by
 have h := aX3 b nv na (k := k + 1) (by omega) (by omega)
 simp only [dfS]; omega
theorem bo4 (hk : 0 ≤ k) (hk2 : k + 400 ≤ 1000000000) : k ≤ (soS b nv na k).2 ∧ (soS b nv na k).2 ≤ k + 370 := by
 have h := aX3 b nv na (k := k + 1 + 2) (by omega) (by omega)
 simp only [soS]; omega
theorem nm2 {l : List Int} (hl : l ≠ []) (h : ∀ x ∈ l, 0 ≤ x ∧ x ≤ 2) (hk : 0 ≤ k) (hk2 : k ≤ 1000000000) : (nm b k l).toNat ≤ 2 ∧ nm b k l = ((nm b k l).toNat : Int) := by
 have := h _ (aD6 b hk hk2 hl); omega
theorem bb6 {f : Int → b6 × Int} {c : Int} {l : List Int} (hl : l ≠ []) (h : ∀ x ∈ l, 0 ≤ x ∧ x ≤ 2) (hc : 0 ≤ c) (hk : 0 ≤ k) (hk2 : k + 1 + 2 * c ≤ 1000000000) (hf : ∀ j, 0 ≤ j → j + c ≤ 1000000000 → j ≤ (f j).2 ∧ (f j).2 ≤ j + c) : k ≤ (mnD b f l k).2 ∧ (mnD b f l k).2 ≤ k + 1 + 2 * c := by
 have h2 := (nm2 b hl h hk (by omega)).1
 have h3 : ∀ m : Nat, m ≤ 2 → k + 1 ≤ (y8 f m (k + 1)).2 ∧ (y8 f m (k + 1)).2 ≤ k + 1 + m * c := by
  intro m
  induction m with
  | zero => intro _; simp [y8]
  | succ m ih =>
   intro hm
   have h4 := ih (by omega)
   have h6 : (m : Int) * c ≤ 1 * c := bP1 (by omega) hc
   have h5 := hf (y8 f m (k + 1)).2 (by omega) (by omega)
   have e : ((m + 1 : Nat) : Int) * c = m * c + c := by rw [Int.natCast_add, Int.add_mul]; simp
   simp only [y8]
   rw [e]
   omega
 have h4 := h3 _ h2
 have h6 : ((nm b k l).toNat : Int) * c ≤ 2 * c := bP1 (by omega) hc
 unfold mnD
 omega
theorem aS8 : ∀ x : Int, x ∈ ibL → 0 ≤ x ∧ x ≤ 2 := by intro x hx; simp only [bN1, bO6, List.not_mem_nil, or_false] at hx; omega
theorem aS6 : ∀ x : Int, x ∈ ieL → 0 ≤ x ∧ x ≤ 2 := by intro x hx; simp only [bN1, bO6, List.not_mem_nil, or_false] at hx; omega
theorem aR1 : ∀ x : Int, x ∈ rbL → 0 ≤ x ∧ x ≤ 2 := by intro x hx; simp only [bN1, bO6, List.not_mem_nil, or_false] at hx; omega
theorem bp6 {f : Int → b6 × Int} {c : Int} (hc : 0 ≤ c) (hk : 0 ≤ k) (hk2 : k + 380 + 4 * c ≤ 1000000000) (hf : ∀ j, 0 ≤ j → j + c ≤ 1000000000 → j ≤ (f j).2 ∧ (f j).2 ≤ j + c) : k ≤ (m9 b nv na k).2 ∧ (m9 b nv na k).2 ≤ k + 367 ∧ (m9 b nv na k).2 ≤ (mnD b f ibL (m9 b nv na k).2).2 ∧ (mnD b f ibL (m9 b nv na k).2).2 ≤ k + 370 + 2 * c ∧ k ≤ (ifS b nv na f k).2 ∧ (ifS b nv na f k).2 ≤ k + 380 + 4 * c := by
 have h1 := aX3 b nv na (k := k) (by omega) (by omega)
 have h2 := bb6 b (k := (m9 b nv na k).2) (f := f) (c := c) (l := ibL) (by simp) aS8 hc (by omega) (by omega) hf
 have h3 := bb6 b (k := (mnD b f ibL (m9 b nv na k).2).2) (f := f) (c := c) (l := ieL) (by simp) aS6 hc (by omega) (by omega) hf
 simp only [ifS]
 omega
theorem bA4 {f : Int → b6 × Int} {c : Int} (hc : 0 ≤ c) (hk : 0 ≤ k) (hk2 : k + 10 + 2 * c ≤ 1000000000) (hf : ∀ j, 0 ≤ j → j + c ≤ 1000000000 → j ≤ (f j).2 ∧ (f j).2 ≤ j + c) : k ≤ (rpS b f k).2 ∧ (rpS b f k).2 ≤ k + 10 + 2 * c := by
 have h2 := bb6 b (k := k + 1) (f := f) (c := c) (l := rbL) (by simp) aR1 hc (by omega) (by omega) hf
 simp only [rpS]; omega
theorem aH8 : ∀ (d : Nat) (k : Int), 0 ≤ k → k + cS d ≤ 1000000000 → k ≤ (t3 b nv na d k).2 ∧ (t3 b nv na d k).2 ≤ k + cS d
 | 0, k, hk, hk2 => by
  rw [t3]
  simp only [cS] at hk2 ⊢
  have h1 := bo4 b nv na (k := k + 1) (by omega) (by omega)
  have h2 := bp9 b nv na (k := k + 1) (nm b k C0) (by omega) (by omega)
  split <;> omega
 | d + 1, k, hk, hk2 => by
  rw [t3]
  simp only [cS] at hk2 ⊢
  have hc := al4 d
  have ih := aH8 d
  have h1 := bo4 b nv na (k := k + 1) (by omega) (by omega)
  have h2 := bp9 b nv na (k := k + 1) (nm b k C0) (by omega) (by omega)
  have h3 := bp6 b nv na (k := k + 1) (f := t3 b nv na d) (c := cS d) (by omega) (by omega) (by omega) ih
  have h4 := bA4 b (k := k + 1) (f := t3 b nv na d) (c := cS d) (by omega) (by omega) (by omega) ih
  (repeat' split) <;> omega
theorem aS0 : r9 noE = 0 := rfl
theorem bf1 (kd : Int) (hk : 0 ≤ k) (hk2 : k + 400 ≤ 1000000000) : A7 (dfS b nv na kd k).1 ≤ 364 := by
 have h := aQ3 b nv na (k := k + 1) (by omega) (by omega)
 simp only [dfS, A7, c9, aS0]; omega
theorem a85 (hk : 0 ≤ k) (hk2 : k + 400 ≤ 1000000000) : A7 (soS b nv na k).1 ≤ 364 := by
 have h := aQ3 b nv na (k := k + 1 + 2) (by omega) (by omega)
 simp only [soS, A7, c9, aN8]; omega
def Drw (f : Int → b6 × Int) (c : Int) : Prop := ∀ j, 0 ≤ j → j + c ≤ 1000000000 → j ≤ (f j).2 ∧ (f j).2 ≤ j + c ∧ (A7 (f j).1 : Int) ≤ c
theorem aF0 {f : Int → b6 × Int} {c : Int} (hc : 0 ≤ c) (hf : Drw f c) : ∀ (m : Nat) (k : Int), 0 ≤ k → k + m * c ≤ 1000000000 → k ≤ (y8 f m k).2 ∧ (y8 f m k).2 ≤ k + m * c ∧ (c9 (y8 f m k).1 : Int) ≤ m * (1 + c) := by
 intro m
 induction m with
 | zero => intro k _ _; simp [y8, c9]
 | succ m ih =>
  intro k hk hk2
  have e : ((m + 1 : Nat) : Int) * c = m * c + c := by rw [Int.natCast_add, Int.add_mul]; simp
  have e2 : ((m + 1 : Nat) : Int) * (1 + c) = m * (1 + c) + (1 + c) := by rw [Int.natCast_add, Int.add_mul]; simp
  rw [e] at hk2
  have h4 := ih k hk (by omega)
  have h5 := hf (y8 f m k).2 (by omega) (by omega)
  have h6 : c9 ((y8 f m k).1 ++ [(f (y8 f m k).2).1]) = c9 (y8 f m k).1 + (1 + A7 (f (y8 f m k).2).1) := by
   generalize (y8 f m k).1 = l
   induction l with
   | nil => simp [c9]
   | cons a r ih => simp only [List.cons_append, c9]; omega
  simp only [y8]
  rw [e, e2, h6]
  omega
theorem aS2 {f : Int → b6 × Int} {c : Int} {l : List Int} (hl : l ≠ []) (h : ∀ x ∈ l, 0 ≤ x ∧ x ≤ 2) (hc : 0 ≤ c) (hk : 0 ≤ k) (hk2 : k + 1 + 2 * c ≤ 1000000000) (hf : Drw f c) : (c9 (mnD b f l k).1 : Int) ≤ 2 * (1 + c) := by
 have h2 := (nm2 b hl h hk (by omega)).1
 have h6 : ((nm b k l).toNat : Int) * c ≤ 2 * c := bP1 (by omega) hc
 have h7 : ((nm b k l).toNat : Int) * (1 + c) ≤ 2 * (1 + c) := bP1 (by omega) (by omega)
 have h3 := (aF0 hc hf (nm b k l).toNat (k + 1) (by omega) (by omega)).2.2
 unfold mnD
 omega
theorem aQ1 : ∀ (d : Nat) (k : Int), 0 ≤ k → k + cS d ≤ 1000000000 → (A7 (t3 b nv na d k).1 : Int) ≤ cS d
 | 0, k, hk, hk2 => by
  rw [t3]
  simp only [cS] at hk2 ⊢
  have h1 := a85 b nv na (k := k + 1) (by omega) (by omega)
  have h2 := bf1 b nv na (k := k + 1) (nm b k C0) (by omega) (by omega)
  split <;> omega
 | d + 1, k, hk, hk2 => by
  rw [t3]
  simp only [cS] at hk2 ⊢
  have hc := al4 d
  have ih := aH8 b nv na d
  have hf : Drw (t3 b nv na d) (cS d) := fun j h1 h2 => ⟨(ih j h1 h2).1, (ih j h1 h2).2, aQ1 d j h1 h2⟩
  have h1 := a85 b nv na (k := k + 1) (by omega) (by omega)
  have h2 := bf1 b nv na (k := k + 1) (nm b k C0) (by omega) (by omega)
  have h3 := bp6 b nv na (k := k + 1) (f := t3 b nv na d) (c := cS d) (by omega) (by omega) (by omega) ih
  have h4 := aQ3 b nv na (k := k + 1) (by omega) (by omega)
  have h5 := aS2 b (k := (m9 b nv na (k + 1)).2) (l := ibL) (by simp) aS8 (by omega) (by omega) (by omega) hf
  have h6 := aS2 b (k := (mnD b (t3 b nv na d) ibL (m9 b nv na (k + 1)).2).2) (l := ieL) (by simp) aS6 (by omega) (by omega) (by omega) hf
  have h7 := aS2 b (k := k + 1 + 1) (l := rbL) (by simp) aR1 (by omega) (by omega) (by omega) hf
  split
  ·omega
  ·split
   ·simp only [ifS, A7, aS0]; omega
   ·split
    ·simp only [rpS, A7, aS0, c9]; omega
    ·omega
theorem bE3 (d : Nat) : Drw (t3 b nv na d) (cS d) := fun j h1 h2 => ⟨(aH8 b nv na d j h1 h2).1, (aH8 b nv na d j h1 h2).2, aQ1 b nv na d j h1 h2⟩
theorem bq3 {d m i : Nat} {B : Int} (hB : (m : Int) * cS d ≤ B) (hi : i ≤ m) (hk : 0 ≤ k) (hk2 : k + B ≤ 1000000000) : k ≤ (y8 (t3 b nv na d) i k).2 ∧ (y8 (t3 b nv na d) i k).2 ≤ k + B := by
 have hc := al4 d
 have h6 : (i : Int) * cS d ≤ m * cS d := bP1 (by omega) (by omega)
 have h := aF0 (by omega) (bE3 b nv na d) i k hk (by omega)
 omega
theorem bF3 {d m i : Nat} {B : Int} (hB : (m : Int) * cS d ≤ B) (hi : i < m) (hk : 0 ≤ k) (hk2 : k + B ≤ 1000000000) : (y8 (t3 b nv na d) i k).2 + cS d ≤ k + B := by
 have hc := al4 d
 have h6 : ((i + 1 : Nat) : Int) * cS d ≤ m * cS d := bP1 (by omega) (by omega)
 have e : ((i + 1 : Nat) : Int) * cS d = i * cS d + cS d := by rw [Int.natCast_add, Int.add_mul]; simp
 have h := aF0 (by omega) (bE3 b nv na d) i k hk (by omega)
 omega
theorem bB7 {m : Int} {c : Int} (h0 : 0 ≤ m) (hm : m ≤ 2) (hc : 0 ≤ c) : (m.toNat : Int) * c ≤ 2 * c := bP1 (by omega) hc
theorem bJ0 {m : Int} {c : Int} (h0 : 0 ≤ m) (hm : m ≤ 4) (hc : 0 ≤ c) : (m.toNat : Int) * c ≤ 4 * c := bP1 (by omega) hc
end
theorem ay3 (b : List UInt8) {k : Int} {l : List Int} {m : Int} (hl : l ≠ []) (h : ∀ x ∈ l, 0 ≤ x ∧ x ≤ m) (hk : 0 ≤ k) (hk2 : k ≤ 1000000000) : 0 ≤ nm b k l ∧ nm b k l ≤ m := h _ (aD6 b hk hk2 hl)
abbrev U0 : List Int := [3] ++ ([4] ++ ([2] ++ ([5] ++ [])))
abbrev viL : List Int := [0] ++ ([1] ++ ([0] ++ ([1] ++ ([2] ++ ([3] ++ [])))))
abbrev R3 : List Int := [1] ++ ([2] ++ ([0] ++ ([1] ++ [])))
abbrev aiL : List Int := [0] ++ ([1] ++ ([0] ++ ([1] ++ ([3] ++ []))))
abbrev nbL : List Int := [2] ++ ([3] ++ ([1] ++ ([4] ++ [])))
def nsD (b : List UInt8) (l : List Int) (n : Nat) (k : Int) : List Int := (bM9 n).map fun (i : Nat) => nm b (k + (i : Int)) l
theorem Y5 (b : List UInt8) (l : List Int) (n : Nat) (k : Int) : (nsD b l n k).length = n := by simp [nsD]
theorem bb5 (b : List UInt8) (l : List Int) (n : Nat) (k : Int) : nsD b l (n + 1) k = nsD b l n k ++ [nm b (k + (n : Int)) l] := by
 unfold nsD; rw [List.range_succ, List.map_append]; rfl
def A0 (b : List UInt8) (k : Int) : Int := k + 1 + nm b k U0
def kp2 (b : List UInt8) (k : Int) : Int := A0 b k + 1 + nm b (A0 b k) R3
def X8 (b : List UInt8) (k : Int) : List Int := nsD b viL (nm b k U0).toNat (k + 1)
def asD (b : List UInt8) (k : Int) : List Int := nsD b aiL (nm b (A0 b k) R3).toNat (A0 b k + 1)
def Q9 (b : List UInt8) (k : Int) : List b6 × Int := y8 (t3 b (X8 b k).length (asD b k).length 3) (nm b (kp2 b k) nbL).toNat (kp2 b k + 1)
def rwD (b : List UInt8) (k : Int) : b8 := ⟨X8 b k, asD b k, (Q9 b k).1⟩
def fbP : b8 := ⟨[0, 1], [], [⟨1, 1, noE, ⟨2, 0, []⟩, 0, [], []⟩]⟩
def pgD (b : List UInt8) (k : Int) : b8 := if e5 (rwD b k) = true then rwD b k else fbP
section
variable (b : List UInt8) {k : Int}
theorem bt4 (hk : 0 ≤ k) (hk2 : k ≤ 1000000000) : 0 ≤ nm b k U0 ∧ nm b k U0 ≤ 5 := ay3 b (by simp) (by simp) hk hk2
theorem bB6 (hk : 0 ≤ k) (hk2 : k ≤ 1000000000) : 0 ≤ nm b k nbL ∧ nm b k nbL ≤ 4 := ay3 b (by simp) (by simp) hk hk2
theorem bt7 (hk : 0 ≤ k) (hk2 : k ≤ 1000000000) : 0 ≤ nm b k R3 ∧ nm b k R3 ≤ 2 := ay3 b (by simp) (by simp) hk hk2
theorem bc7 (hk : 0 ≤ k) (hk2 : k ≤ 10000000) : k + 1 ≤ A0 b k ∧ A0 b k ≤ k + 6 := by
 have := bt4 b hk (by omega); unfold A0; omega
theorem aZ4 (hk : 0 ≤ k) (hk2 : k ≤ 10000000) : k + 2 ≤ kp2 b k ∧ kp2 b k ≤ k + 9 := by
 have h1 := bc7 b hk hk2
 have := bt7 b (k := A0 b k) (by omega) (by omega); unfold kp2; omega
theorem cS3 : cS 3 = 34170 ∧ cS 2 = 8442 := by decide
theorem bK9 (nv na : Nat) : Drw (t3 b nv na 3) 34170 := fun j h1 h2 => by
 have e := cS3.1
 have h3 := aH8 b nv na 3 j h1 (by omega)
 have h4 := aQ1 b nv na 3 j h1 (by omega)
 omega
theorem a12 (hk : 0 ≤ k) (hk2 : k ≤ 10000000) : kp2 b k ≤ (Q9 b k).2 ∧ (Q9 b k).2 ≤ k + 150000 ∧ c9 (Q9 b k).1 ≤ 150000 := by
 have h1 := aZ4 b hk hk2
 have h2 := bB6 b (k := kp2 b k) (by omega) (by omega)
 have h3 := aF0 (f := t3 b (X8 b k).length (asD b k).length 3) (by omega) (bK9 b _ _) (nm b (kp2 b k) nbL).toNat (kp2 b k + 1) (by omega) (by omega)
 unfold Q9
 omega
theorem a73 (hk : 0 ≤ k) (hk2 : k ≤ 10000000) : (X8 b k).length ≤ 5 := by
 have := bt4 b hk (by omega); unfold X8; rw [Y5]; omega
theorem bg6 (hk : 0 ≤ k) (hk2 : k ≤ 10000000) : (asD b k).length ≤ 2 := by
 have h1 := bc7 b hk hk2
 have := bt7 b (k := A0 b k) (by omega) (by omega); unfold asD; rw [Y5]; omega
theorem ba5 (hk : 0 ≤ k) (hk2 : k ≤ 10000000) : (pgD b k).size ≤ 160000 := by
 have h1 := a12 b hk hk2
 have h2 := a73 b hk hk2
 have h3 := bg6 b hk hk2
 unfold pgD; split
 ·show (X8 b k).length + (asD b k).length + c9 (Q9 b k).1 ≤ 160000
  omega
 ·decide
end
abbrev m2L : List Int := [0] ++ ([6] ++ ([1] ++ ([5] ++ ([2] ++ []))))
abbrev m3L : List Int := [-1] ++ ([12] ++ ([1] ++ ([9223372036854775807] ++ [])))
abbrev m4L : List Int := [-1] ++ ([256] ++ ([12] ++ ([1] ++ [])))
abbrev m5L : List Int := [1] ++ ([4] ++ ([-1] ++ ([2] ++ [])))
def kdS (s : b6) (x : Int) : b6 := ⟨x, s.target, s.index, s.value, s.count, s.body, s.els⟩
def tgS (s : b6) (x : Int) : b6 := ⟨s.kind, x, s.index, s.value, s.count, s.body, s.els⟩
def vvS (s : b6) (x : Int) : b6 := ⟨s.kind, s.target, s.index, ⟨s.value.kind, x, s.value.kids⟩, s.count, s.body, s.els⟩
def ctS (s : b6) (x : Int) : b6 := ⟨s.kind, s.target, s.index, s.value, x, s.body, s.els⟩
def O7 (b : List UInt8) (p : b8) (k : Int) : b8 × Int :=
 if pk b k 60 = 0 then (if 0 < p.vars.length then (⟨p.vars.set 0 (l1D b (k + 1)), p.arrays, p.body⟩, k + 1 + 2) else (p, k + 1))
 else if pk b k 60 = 1 then (⟨p.vars ++ bN0 (13 - p.vars.length) 1, p.arrays, p.body⟩, k + 1)
 else if pk b k 60 = 2 then (if 0 < p.body.length then (⟨p.vars, p.arrays, p.body.set 0 (kdS (p.body.getD 0 bL2) (nm b (k + 1) m2L))⟩, k + 1 + 1) else (p, k + 1))
 else if pk b k 60 = 3 then (if 0 < p.body.length then (⟨p.vars, p.arrays, p.body.set ((p.body.length : Int) - 1).toNat (tgS (p.body.getD ((p.body.length : Int) - 1).toNat bL2) (nm b (k + 1) m3L))⟩, k + 1 + 1) else (p, k + 1))
 else if pk b k 60 = 4 then (if 0 < p.body.length then (⟨p.vars, p.arrays, p.body.set 0 (vvS (p.body.getD 0 bL2) (nm b (k + 1) m4L))⟩, k + 1 + 1) else (p, k + 1))
 else if pk b k 60 = 5 then (if 0 < p.body.length then (⟨p.vars, p.arrays, p.body.set 0 (ctS (p.body.getD 0 bL2) (nm b (k + 1) m5L))⟩, k + 1 + 1) else (p, k + 1))
 else if pk b k 60 = 6 then (⟨[], [], []⟩, k + 1)
 else (p, k + 1)
theorem a77 {l : List b6} {i : Nat} {s : b6} (h : A7 s ≤ A7 (l.getD i bL2)) : c9 (l.set i s) ≤ c9 l := by
 induction l generalizing i with
 | nil => simp [c9]
 | cons a r ih =>
  cases i with
  | zero => simp only [List.set_cons_zero, c9]; simp at h; omega
  | succ i =>
   simp only [List.set_cons_succ, c9]
   have := ih (i := i) (by simpa using h)
   omega
theorem bu2 (s : b6) (x : Int) : A7 (kdS s x) = A7 s := by cases s; rfl
theorem br2 (s : b6) (x : Int) : A7 (tgS s x) = A7 s := by cases s; rfl
theorem br1 (s : b6) (x : Int) : A7 (vvS s x) = A7 s := by obtain ⟨_, _, _, ⟨_, _, _⟩, _, _, _⟩ := s; rfl
theorem bw2 (s : b6) (x : Int) : A7 (ctS s x) = A7 s := by cases s; rfl
theorem aD7 (b : List UInt8) (p : b8) (k : Int) : (O7 b p k).1.size ≤ p.size + 13 ∧ k ≤ (O7 b p k).2 ∧ (O7 b p k).2 ≤ k + 3 := by
 have hs : ∀ i s, A7 s = A7 (p.body.getD i bL2) → c9 (p.body.set i s) ≤ c9 p.body := fun i s h => a77 (by omega)
 have h2 := hs 0 _ (bu2 (p.body.getD 0 bL2) (nm b (k + 1) m2L))
 have h3 := hs ((p.body.length : Int) - 1).toNat _ (br2 (p.body.getD ((p.body.length : Int) - 1).toNat bL2) (nm b (k + 1) m3L))
 have h4 := hs 0 _ (br1 (p.body.getD 0 bL2) (nm b (k + 1) m4L))
 have h5 := hs 0 _ (bw2 (p.body.getD 0 bL2) (nm b (k + 1) m5L))
 unfold O7
 simp only [b8.size]
 (repeat' split) <;> (simp only [List.length_set, bM3, List.length_replicate, bN8, c9]; omega)
def I5 (b : List UInt8) (k : Int) : b8 := if pk b (Q9 b k).2 4 = 0 then pgD b k else if okI (pgD b k) = true then U7 (pgD b k) else pgD b k
theorem bl0 {p : b8} : (U7 p).size ≤ p.size := by
 unfold U7
 split
 ·have h := (as8 (p := p) (by rename_i h; unfold okI at h; simp at h; exact h.1)).1
  show (ai6 p).1.length + (ai6 p).2.length + c9 p.body ≤ _
  unfold b8.size
  have h1 : (ai6 p).1.length = p.vars.length := h.1
  have h2 : (ai6 p).2.length = p.arrays.length := h.2
  omega
 ·simp [b8.size, c9]
theorem aP4 (b : List UInt8) {k : Int} (hk : 0 ≤ k) (hk2 : k ≤ 10000000) : (I5 b k).size ≤ 160000 := by
 have h1 := ba5 b hk hk2
 have h2 := bl0 (p := pgD b k)
 unfold I5
 (repeat' split) <;> omega
def F4 (c : List UInt8) : List UInt8 := c.take 2000
structure GrS (sz : Nat) (x r : T8) : Prop where
 lo : x.1.length ≤ r.1.length
 hi : r.1.length ≤ x.1.length + 4 * sz
 st : c9 r.2 ≤ c9 x.2 + 130 * sz
 len : x.2.length ≤ r.2.length
theorem GrS.refl (x : T8) (n : Nat) : GrS n x x := ⟨bM4 _, by omega, by omega, bM4 _⟩
theorem as9 {nv na : Nat} {s : b6} (h : s6 nv na s = true) (k : s.kind = 2) : s.index.kids = [] ∧ atomB s.index = true ∧ c3 nv na 5 s.index = true := by
 rw [B9 k] at h
 simp only [bL3] at h
 have hs := W5 h.2.1
 exact ⟨(av2 (ars := []) (pc := 0) (s := ([], [])) h.2.2.1 hs).2, h.2.2.1, hs⟩
theorem an0 {e : b7} (h : e.kids = []) : r9 e = 0 := by rw [t2, h]; rfl
theorem aE3 {ars : List Int} {na nv d : Nat} (ih : ∀ (s : b6) (m pc : Int) (x : T8), c8 nv na d s = true → nv ≤ x.1.length → GrS (1 + A7 s) x (y6 ars s m pc x)) :
  ∀ (ss : List b6) (m pc : Int) (x : T8), ss.all (c8 nv na d) = true → nv ≤ x.1.length → GrS (c9 ss) x (i5 ars ss m pc x)
 | [], _, _, x, _, _ => GrS.refl x _
 | s :: r, m, pc, x, h, hx => by
  simp only [List.all_cons, bL3] at h
  have h1 := ih s m pc x h.1 hx
  have h2 := aE3 ih r m pc (y6 ars s m pc x) h.2 (bN5 hx h1.lo)
  rw [i5, c9]
  exact ⟨bN5 h1.lo h2.lo, by have := h1.hi; have := h2.hi; omega, by have := h1.st; have := h2.st; omega, bN5 h1.len h2.len⟩
theorem aY9 (ars : List Int) (na nv : Nat) : ∀ (d : Nat) (s : b6) (m pc : Int) (x : T8), c8 nv na d s = true → nv ≤ x.1.length → GrS (1 + A7 s) x (y6 ars s m pc x)
 | 0, _, _, _, _, h, _ => by simp [c8] at h
 | d + 1, s, m, pc, x, h, hx => by
  have blk := fun (ss : List b6) (m pc : Int) (x : T8) => aE3 (ars := ars) (na := na) (nv := nv) (d := d) (fun s m pc x => aY9 ars na nv d s m pc x) ss m pc x
  rw [G3, bL3, bL3] at h
  obtain ⟨hh, hb, he⟩ := h
  have hsz : A7 s = r9 s.index + r9 s.value + c9 s.body + c9 s.els := by cases s; rfl
  by_cases k4 : s.kind = 4
  ·rw [ln4 k4]
   have h1 := blk s.body m pc (x.1, []) hb hx
   have a := h1.lo; have b := h1.hi; have c := h1.st
   simp only [c9] at a b c
   have e0 : r9 nnE = 0 := rfl
   refine ⟨a, ?_, ?_, ?_⟩
   ·simp only; omega
   ·simp only [p6, c9, A7, e0]; omega
   ·simp
  have hv : c3 x.1.length na 5 s.value = true := v6 hx 5 _ (p8 hh k4)
  obtain ⟨g1, g2, g3⟩ := Y7 ars pc na 5 s.value x hv
  have a0 := g1.lo; have b0 := g1.hi; have c0 := g1.st; have d0 := g1.len
  have e0 : r9 nnE = 0 := rfl
  have e1 : r9 (cnE 0) = 0 := rfl
  by_cases k3 : s.kind = 3
  ·cases hs : O5 (c6 x.1 ars 5 s.value)
   ·rw [bC3 k3 hs]
    have h1 := blk s.body m (f8 pc (c6 x.1 ars 5 s.value)) ((b9 ars pc s.value x).1.1, []) hb (bN5 hx a0)
    have h2 := blk s.els m (f8 pc (c6 x.1 ars 5 s.value)) ((i5 ars s.body m (f8 pc (c6 x.1 ars 5 s.value)) ((b9 ars pc s.value x).1.1, [])).1, []) he (bN5 hx (bN5 a0 h1.lo))
    have a := h1.lo; have b := h1.hi; have c := h1.st
    have a2 := h2.lo; have b2 := h2.hi; have c2 := h2.st
    simp only [c9] at a b c a2 b2 c2
    refine ⟨?_, ?_, ?_, ?_⟩
    ·simp only; omega
    ·simp only; omega
    ·simp only [p6, c9, A7, e0]; omega
    ·simp; omega
   ·rw [bC2 k3 hs]
    generalize hl : f8 pc (c6 x.1 ars 5 s.value) = l
    generalize hy : ifM (b9 ars pc s.value x) m l = y
    have y1 : y.1.length = (b9 ars pc s.value x).1.1.length + 2 := by rw [← hy]; simp
    have y2 : c9 y.2 ≤ c9 (b9 ars pc s.value x).1.2 + 20 + r9 (b9 ars pc s.value x).2 := by
     have m1 := S8 m (b9 ars pc s.value x).2 (cnE 0)
     have m2 := S8 m ⟨9, 0, [vrE ((b9 ars pc s.value x).1.1.length : Int), cnE 0]⟩ (cnE 0)
     have m3 : r9 ⟨9, 0, [vrE ((b9 ars pc s.value x).1.1.length : Int), cnE 0]⟩ = 2 := rfl
     rw [← hy]
     simp only [ifM, p6, c9, A7, e0]; omega
    have y3 : (b9 ars pc s.value x).1.2.length ≤ y.2.length := by rw [← hy]; simp
    have h1 := blk s.body ((b9 ars pc s.value x).1.1.length : Int) l y hb (by omega)
    have h2 := blk s.els (((b9 ars pc s.value x).1.1 ++ [l]).length : Int) l (i5 ars s.body ((b9 ars pc s.value x).1.1.length : Int) l y) he (by have := h1.lo; omega)
    have a := h1.lo; have b := h1.hi; have c := h1.st; have d1 := h1.len
    have a2 := h2.lo; have b2 := h2.hi; have c2 := h2.st; have d2 := h2.len
    exact ⟨by omega, by omega, by omega, by omega⟩
  by_cases k5 : s.kind = 5
  ·rw [ln5 k5]
   refine ⟨a0, ?_, ?_, ?_⟩
   ·simp only; omega
   ·simp only [p6, c9, A7, e0]; omega
   ·simp; omega
  by_cases k1 : s.kind = 1
  ·rw [ln1 k1]
   have m1 := S8 m (b9 ars pc s.value x).2 (vrE s.target)
   have m2 : r9 (vrE s.target) = 0 := rfl
   refine ⟨a0, ?_, ?_, ?_⟩
   ·simp only; omega
   ·simp only [p6, c9, A7, e0]; omega
   ·simp; omega
  by_cases k2 : s.kind = 2
  ·obtain ⟨q1, -, -⟩ := as9 hh k2
   cases hs : O5 (c6 (b9 ars pc s.value x).1.1 ars 5 s.index)
   ·rw [bC5 k2 hs]
    have m1 := S8 m (b9 ars pc s.value x).2 (rdE s.target s.index)
    have m2 : r9 (rdE s.target s.index) = 1 := by simp [r9, j1, an0 q1]
    have m3 := an0 q1
    refine ⟨a0, ?_, ?_, ?_⟩
    ·simp only; omega
    ·simp only [p6, c9, A7]; omega
    ·simp; omega
   ·rw [bC4 k2 hs]
    have m1 := a84 ((b9 ars pc s.value x).1.1.length : Int) s.target s.index m q1 4
    refine ⟨?_, ?_, ?_, ?_⟩
    ·simp; omega
    ·simp; omega
    ·simp only [p6, c9, A7, e0]; omega
    ·simp; omega
  ·rw [az3 ⟨k1, k2, k3, k4, k5⟩] at hh; cases hh
theorem aE4 (ars : List Int) {na nv d : Nat} (ss : List b6) (m pc : Int) (x : T8) (h : ss.all (c8 nv na d) = true) (hx : nv ≤ x.1.length) : GrS (c9 ss) x (i5 ars ss m pc x) := aE3 (aY9 ars na nv d) ss m pc x h hx
theorem af0 {nv na : Nat} {e : b7} (h : f5 nv na e = true) : r9 e ≤ 14 := by
 unfold f5 at h; simp only [bL3, decide_eq_true_eq] at h; omega
theorem am8 {e : b7} (h : noneB e = true) : r9 e = 0 := by
 unfold noneB at h; simp only [bL3, decide_eq_true_eq] at h
 exact an0 (bN7 h.2)
theorem aW9 {nv na d : Nat} (ih : ∀ s : b6, c8 nv na d s = true → 1 + A7 s ≤ 29 * nS s) : ∀ ss : List b6, ss.all (c8 nv na d) = true → c9 ss ≤ 29 * K5 ss
 | [], _ => bM4 _
 | s :: r, h => by
  simp only [List.all_cons, bL3] at h
  have h1 := ih s h.1
  have h2 := aW9 ih r h.2
  rw [c9, K5]; omega
theorem a78 {nv na : Nat} : ∀ (d : Nat) (s : b6), c8 nv na d s = true → 1 + A7 s ≤ 29 * nS s
 | 0, _, h => by simp [c8] at h
 | d + 1, s, h => by
  rw [G3, bL3, bL3] at h
  obtain ⟨hh, hb, he⟩ := h
  have h1 := aW9 (fun s => a78 d s) s.body hb
  have h2 := aW9 (fun s => a78 d s) s.els he
  have hsz : A7 s = r9 s.index + r9 s.value + c9 s.body + c9 s.els := by cases s; rfl
  have hn := ai5 s
  have key : r9 s.index + r9 s.value ≤ 28 := by
   by_cases k4 : s.kind = 4
   ·rw [L9 k4] at hh; simp only [bL3] at hh
    have := am8 hh.2.1; have := am8 hh.2.2; omega
   by_cases k3 : s.kind = 3
   ·rw [N8 k3] at hh; simp only [bL3] at hh
    have := am8 hh.2.1; have := af0 hh.2.2; omega
   by_cases k15 : s.kind = 1 ∨ s.kind = 5
   ·rw [s7 k15] at hh; simp only [bL3] at hh
    have := am8 hh.2.1; have := af0 hh.2.2; omega
   by_cases k2 : s.kind = 2
   ·rw [B9 k2] at hh; simp only [bL3] at hh
    have := af0 hh.2.1; have := af0 hh.2.2.2; omega
   ·rw [az3 (by omega)] at hh; cases hh
  omega
def as3 (p : b8) : T8 := i5 p.arrays p.body (-1) 0 (p.vars, [])
def a35 (p : b8) : b8 := ⟨(as3 p).1, p.arrays, (as3 p).2⟩
theorem ae2 {p : b8} (h : e5 p = true) : p.vars.length ≤ 12 ∧ p.arrays.length ≤ 2 ∧ c9 p.body ≤ 1740 := by
 unfold e5 w4 P0 at h
 simp only [bL3, decide_eq_true_eq] at h
 have := aW9 (a78 5) p.body h.1.2
 omega
theorem aZ0 {p : b8} (h : e5 p = true) : p.vars.length ≤ (as3 p).1.length ∧ (as3 p).1.length ≤ 7000 ∧ c9 (as3 p).2 ≤ 230000 := by
 have hz := ae2 h
 have hb : p.body.all (c8 p.vars.length p.arrays.length 5) = true := (ay6 h).2.2.2
 have g := aE4 p.arrays p.body (-1) 0 (p.vars, []) hb (bM4 _)
 have a := g.lo; have b := g.hi; have c := g.st
 simp only [c9] at a b c
 unfold as3
 omega
theorem bk7 {p : b8} (h : e5 p = true) : (a35 p).size ≤ 240000 := by
 have h1 := aZ0 h
 have h2 := ae2 h
 show (as3 p).1.length + p.arrays.length + c9 (as3 p).2 ≤ _
 omega
def okL (p : b8) : Bool := decide ((H9 p false).1 = 0) && e5 (a35 p)
def R4 (p : b8) : b8 := if okL p = true then a35 p else ⟨[], [], []⟩
theorem T2 {p : b8} (h : (H9 p false).1 = 0) : e5 p = true := ((bm1 p false).1 h).1
theorem bB3 {p : b8} (h : ¬ (H9 p false).1 = 0) : okL p = false := by unfold okL; rw [decide_eq_false h, Bool.false_and]
theorem bp1 {p : b8} (h : e5 (a35 p) = false) : okL p = false := by unfold okL; rw [h, Bool.and_false]
theorem bp0 {p : b8} (h : (H9 p false).1 = 0) (h2 : e5 (a35 p) = true) : okL p = true := by unfold okL; rw [decide_eq_true h, h2]; rfl
theorem bc1 {p : b8} (h : okL p = false) : R4 p = ⟨[], [], []⟩ := by unfold R4; rw [h]; rfl
theorem bp2 {p : b8} (h : okL p = true) : R4 p = a35 p := by unfold R4; rw [h]; rfl
theorem bt8 (p : b8) : (R4 p).size ≤ 240000 := by
 cases h : okL p
 ·rw [bc1 h]; simp [b8.size, c9]
 ·rw [bp2 h]
  unfold okL at h
  simp only [bL3, decide_eq_true_eq] at h
  exact bk7 (T2 h.1)
section
variable {P : Program} {ι κ : Type} {φ ψ : Nat → Prop} {w0 w : World} {F : ι → Rs} {ρ ρ0 : Nat → Value} {N m n : Nat} {S : List It} {tm : List (Nat × AV)} {a : Act}
def ay8 (n : Nat) : List Ln := bN0 n .no ++ [.tree]
theorem aJ9 (n i : Nat) : o6 (ay8 n) i = if i = n then .tree else .no := by
 unfold o6 ay8
 rw [bL4]
 rcases Nat.lt_trichotomy i n with h | h | h
 ·rw [bN2 (by simpa using h), if_neg (by omega)]
  simp [List.getElem?_replicate, h]
 ·subst h; simp
 ·rw [bM8 (by simp; omega), if_neg (by omega)]; rfl
theorem d8.datPost {f : FuncId} {args : List AV} {S0 S : List It} {d : D} {res : AV} (hc : d8.ok P ⟨f, args, S0, S ++ [.tree d], res⟩) (res1 : AV) (hr : res = res1.tr (ay8 S.length) := by kernel_rfl) (hk : (decide (S0.length ≤ S.length) && (res1.trOk (ay8 S.length) && S.all fun x => x.ids.isEmpty)) = true := by kernel_rfl) : d8.ok P ⟨f, args, S0, S ++ [.dat d], res1⟩ := by
 simp only [bL3, decide_eq_true_eq] at hk
 obtain ⟨hl0, hk⟩ := hk
 subst hr
 intro ι φ ψ w0 w F ρ M
 refine (hc ι φ ψ w0 w F ρ M).mono ?_
 rintro x w' ⟨ρ', h1, rfl, M2⟩
 let ρ1 : Nat → Value := fun i => if (o6 (ay8 S.length) i).isT then v8 (ρ' i) else ρ' i
 have hρ1 : ∀ i, ρ1 i = if (o6 (ay8 S.length) i).isT then v8 (ρ' i) else ρ' i := fun _ => rfl
 have hne : ∀ i, i ≠ S.length → ρ1 i = ρ' i := fun i hi => by rw [hρ1, aJ9, if_neg hi]; rfl
 have heq : ρ1 S.length = v8 (ρ' S.length) := by rw [hρ1, aJ9, if_pos rfl]; rfl
 refine ⟨ρ1, fun i hi => by rw [hne i (by simp only at hi; omega)]; exact h1 i hi, by rw [AV.val_tr hρ1 res1 hk.1], ?_⟩
 refine M2.release fun k => ?_
 cases k with
 | inl i => exact .inl rfl
 | inr j =>
  simp only [j0]
  rcases Nat.lt_trichotomy j S.length with hj | hj | hj
  ·have e1 : j6 (S ++ [.dat d]) j = j6 S j := by simp [j6, bL4, bN2 hj]
   have e2 : j6 (S ++ [.tree d]) j = j6 S j := by simp [j6, bL4, bN2 hj]
   rw [e1, e2]
   left
   have h2 : (j6 S j).ids = [] := by
    have h3 := bL7.1 hk.2 _ (bN6 hj)
    rw [W9 hj]
    simpa using h3
   exact It.res_congr _ (fun i hi => by rw [h2] at hi; cases hi) (.inr (.inr (hne j (by omega))))
  ·subst hj
   have e1 : j6 (S ++ [.dat d]) S.length = .dat d := by simp [j6, bL4]
   have e2 : j6 (S ++ [.tree d]) S.length = .tree d := by simp [j6, bL4]
   rw [e1, e2]
   refine .inr ⟨fun b hb => hb, fun φ' hf hown => ⟨RD.nice _ _, ?_⟩⟩
   have hh := M2.holds (.inr S.length)
   simp only [j0] at hh
   rw [e2] at hh
   rw [heq]
   exact v9.read hh.2.1 fun b hb => hown b (by rw [show (It.tree d).res ρ' S.length = Rs.own (t6 (ρ' S.length)) _ from rfl]; exact hb)
  ·rw [o0 (by simp; omega), o0 (by simp; omega)]; exact .inl rfl
theorem It.res_ren' {σ : Nat → Nat} {i j : Nat} {ρ : Nat → Value} (x : It) (h : σ i = j) : (x.ren σ).res ρ j = x.res (fun i => ρ (σ i)) i := by
 subst h; exact It.res_ren x
def mv (i n j : Nat) : Nat := if natEq j i then n else j
theorem as0 {f : AV → AV} {t : Nat} {y : AV} : ∀ {tm : List (Nat × AV)}, r6 (tm.map fun p => (p.1, f p.2)) t = some y → ∃ x, r6 tm t = some x ∧ y = f x
 | [], h => by cases h
 | (k, z) :: r, h => by
  simp only [r6, bO4] at h ⊢
  split at h
  ·rename_i hk; cases h; exact ⟨z, by rw [if_pos hk], rfl⟩
  ·rename_i hk
   obtain ⟨x, h1, h2⟩ := as0 h
   exact ⟨x, by rw [if_neg hk]; exact h1, h2⟩
theorem bu6 {i n : Nat} {x : AV} : ∀ j ∈ (x.ren (mv i n)).ids, (∃ k ∈ x.ids, mv i n k = j) := by
 have key : (∀ x : AV, ∀ j ∈ (x.ren (mv i n)).ids, ∃ k ∈ x.ids, mv i n k = j) ∧ (∀ l : List AV, ∀ j ∈ AV.idsL (AV.renL (mv i n) l), ∃ k ∈ AV.idsL l, mv i n k = j) := by
  have hL : ∀ (l : List AV), (∀ x ∈ l, ∀ j ∈ (x.ren (mv i n)).ids, ∃ k ∈ x.ids, mv i n k = j) → ∀ j ∈ AV.idsL (AV.renL (mv i n) l), ∃ k ∈ AV.idsL l, mv i n k = j := by
   intro l
   induction l with
   | nil => intro _ j hj; cases hj
   | cons y r ih =>
    intro h j hj
    simp only [AV.renL, AV.idsL, bN1] at hj ⊢
    rcases hj with hj | hj
    ·obtain ⟨k, h1, h2⟩ := h y bM7 j hj
     exact ⟨k, .inl h1, h2⟩
    ·obtain ⟨k, h1, h2⟩ := ih (fun x hx => h x (bN4 _ hx)) j hj
     exact ⟨k, .inr h1, h2⟩
  have hx : ∀ x : AV, ∀ j ∈ (x.ren (mv i n)).ids, ∃ k ∈ x.ids, mv i n k = j := fun x => goX hL x
  exact ⟨hx, fun l => hL l fun x _ => hx x⟩
 exact key.1 x
where
 goX {i n : Nat} (hL : ∀ (l : List AV), (∀ x ∈ l, ∀ j ∈ (x.ren (mv i n)).ids, ∃ k ∈ x.ids, mv i n k = j) → ∀ j ∈ AV.idsL (AV.renL (mv i n) l), ∃ k ∈ AV.idsL l, mv i n k = j) : ∀ x : AV, ∀ j ∈ (x.ren (mv i n)).ids, ∃ k ∈ x.ids, mv i n k = j
  | .v _, j, hj => by cases hj
  | .ptr a b, j, hj => ⟨a, bO0.2 rfl, (bO0.1 hj).symm⟩
  | .ea a b c d, j, hj => ⟨a, bO0.2 rfl, (bO0.1 hj).symm⟩
  | .ref a, j, hj => ⟨a, bO0.2 rfl, (bO0.1 hj).symm⟩
  | .tref a, j, hj => ⟨a, bO0.2 rfl, (bO0.1 hj).symm⟩
  | .agg l, j, hj => hL l (fun x _ => goX hL x) j hj
  | .tup l, j, hj => hL l (fun x _ => goX hL x) j hj
  | .fn _ l, j, hj => hL l (fun x _ => goX hL x) j hj
  | .bm _ l, j, hj => hL l (fun x _ => goX hL x) j hj
theorem m8.shift (G : m8 φ ψ w0 F N m ρ0 ρ S tm a w) (i n : Nat) (S1 : List It) (tm1 : List (Nat × AV)) (hn : (natEq S.length n && decide (i < n)) = true := by kernel_rfl) (hS : S1 = (S.map (It.ren (mv i n))).set i .dead ++ [(j6 S i).ren (mv i n)] := by kernel_rfl) (ht : tm1 = tm.map (fun p => (p.1, p.2.ren (mv i n))) := by kernel_rfl) :
  ∃ ρ', m8 φ ψ w0 F N m ρ0 ρ' S1 tm1 a w := by
 subst hS
 subst ht
 simp only [bL3, natEq, beq_iff_eq, decide_eq_true_eq] at hn
 obtain ⟨hn, hin⟩ := hn
 have hlen : ((S.map (It.ren (mv i n))).set i .dead ++ [(j6 S i).ren (mv i n)]).length = n + 1 := by simp [hn]
 have hat : ∀ j, j6 ((S.map (It.ren (mv i n))).set i .dead ++ [(j6 S i).ren (mv i n)]) j = if j = n then (j6 S i).ren (mv i n) else if j = i then .dead else (j6 S j).ren (mv i n) := fun j => by
  by_cases e : j = n
  ·subst e
   rw [if_pos rfl]
   simp only [j6, bL4]
   rw [bP2 (by simp [hn])]
   simp [hn]
  ·rw [if_neg e]
   by_cases e2 : j = i
   ·subst e2
    rw [if_pos rfl]
    simp only [j6, bL4]
    rw [bN2 (by simp; omega)]
    simp [show j < S.length by omega]
   ·rw [if_neg e2]
    simp only [j6, bL4]
    rcases bO5 j n with h | h
    ·rw [bN2 (by simp; omega), List.getElem?_set_ne (fun h => e2 h.symm), List.getElem?_map, bL5 (by omega)]
     rfl
    ·rw [bM8 (by simp; omega), bM8 (by omega)]; rfl
 have hbd : ∀ x : AV, (∀ j ∈ x.ids, j < n) → ∀ j ∈ (x.ren (mv i n)).ids, j < n + 1 := fun x h j hj => by
  obtain ⟨k, h1, h2⟩ := bu6 j hj
  have := h k h1
  rw [← h2]; unfold mv
  split <;> omega
 let ρ1 : Nat → Value := fun j => if j = n then ρ i else ρ j
 have hmv : ∀ j, j < n → ρ1 (mv i n j) = ρ j := fun j hj => by
  show (if mv i n j = n then ρ i else ρ (mv i n j)) = ρ j
  by_cases e : j = i
  ·subst e; simp [mv, natEq]
  ·have h : mv i n j = j := by simp [mv, natEq, e]
   rw [h, if_neg (by omega)]
 have hval : ∀ x : AV, (∀ j ∈ x.ids, j < n) → (x.ren (mv i n)).val ρ1 = x.val ρ := fun x h => by
  rw [AV.val_ren]
  exact AV.val_congr x fun j hj => hmv j (h j hj)
 have hids : ∀ j, ∀ q ∈ (j6 S j).ids, q < n := fun j q hq => by have := (G.bd j).1 q hq; omega
 have hitem : ∀ j, ∀ q ∈ ((j6 S j).ren (mv i n)).ids, q < n + 1 := fun j q hq => by
  cases hx : j6 S j with
  | box cs =>
   rw [hx] at hq
   have h1 := hids j
   rw [hx] at h1
   exact hbd (.agg cs) h1 q hq
  | hole k d ls =>
   rw [hx] at hq
   have h1 := hids j
   rw [hx] at h1
   exact hbd (.ref k) h1 q hq
  | _ => rw [hx] at hq; cases hq
 refine ⟨ρ1, G.size, G.defs, fun t y hy => ?_, fun t y hy j hj => ?_, fun j => ⟨fun q hq => ?_, fun hj => o0 hj⟩, ?_, ?_, fun j hj => ?_⟩
 ·obtain ⟨x, h1, rfl⟩ := as0 hy
  rw [G.tmv t x h1, hval x fun j hj => by have := G.tmi t x h1 j hj; omega]
 ·obtain ⟨x, h1, rfl⟩ := as0 hy
  rw [hlen]
  exact hbd x (fun j hj => by have := G.tmi t x h1 j hj; omega) j hj
 ·rw [hlen]
  rw [hat] at hq
  split at hq
  ·exact hitem i q hq
  ·split at hq
   ·cases hq
   ·exact hitem j q hq
 ·refine G.mem.map (fun k : ι ⊕ Nat => (match k with | .inl q => some (.inl q) | .inr j => if j = n then some (.inr i) else if j = i then none else some (.inr j) : Option (ι ⊕ Nat))) ?_ ?_
  ·intro k k' x h1 h2
   match k, k' with
   | .inl q, .inl q' => simp at h1 h2; rw [← h1] at h2; simpa using h2.symm
   | .inl q, .inr j => simp at h1; subst h1; simp at h2; split at h2 <;> simp at h2
   | .inr j, .inl q => simp at h2; subst h2; simp at h1; split at h1 <;> simp at h1
   | .inr j, .inr j' =>
    simp only at h1 h2
    by_cases e1 : j = n <;> by_cases e2 : j' = n
    ·rw [e1, e2]
    ·rw [if_pos e1] at h1
     rw [if_neg e2] at h2
     by_cases e3 : j' = i
     ·rw [if_pos e3] at h2; cases h2
     ·rw [if_neg e3] at h2
      simp at h1 h2
      rw [← h1] at h2
      exact absurd (Sum.inr.inj h2) e3
    ·rw [if_pos e2] at h2
     rw [if_neg e1] at h1
     by_cases e3 : j = i
     ·rw [if_pos e3] at h1; cases h1
     ·rw [if_neg e3] at h1
      simp at h1 h2
      rw [← h2] at h1
      exact absurd (Sum.inr.inj h1) e3
    ·rw [if_neg e1] at h1
     rw [if_neg e2] at h2
     by_cases e3 : j = i
     ·rw [if_pos e3] at h1; cases h1
     ·by_cases e4 : j' = i
      ·rw [if_pos e4] at h2; cases h2
      ·rw [if_neg e3] at h1
       rw [if_neg e4] at h2
       simp at h1 h2
       rw [← h1] at h2
       rw [Sum.inr.inj h2]
  ·intro k
   match k with
   | .inl q => exact .inl ⟨_, rfl, rfl⟩
   | .inr j =>
    by_cases e : j = n
    ·refine .inl ⟨.inr i, by simp [e], ?_⟩
     simp only [j0]
     rw [hat, if_pos e]
     subst e
     have h1 : mv i j i = j := by simp [mv, natEq]
     rw [It.res_ren' (j6 S i) h1]
     exact It.res_congr _ (fun q hq => hmv q (hids i q hq)) (.inr (.inr (hmv i hin)))
    ·by_cases e2 : j = i
     ·refine .inr ?_
      simp only [j0]
      rw [hat, if_neg e, if_pos e2]
      rfl
     ·refine .inl ⟨.inr j, by simp [e, e2], ?_⟩
      simp only [j0]
      rw [hat, if_neg e, if_neg e2]
      rcases bO5 j n with hj | hj
      ·have h1 : mv i n j = j := by simp [mv, natEq, e2]
       rw [It.res_ren' (j6 S j) h1]
       exact It.res_congr _ (fun q hq => hmv q (hids j q hq)) (.inr (.inr (hmv j hj)))
      ·rw [o0 (by omega)]; rfl
 ·have := G.le; rw [hlen]; omega
 ·have := G.le
  show (if j = n then ρ i else ρ j) = ρ0 j
  rw [if_neg (by omega)]; exact G.old j hj
end
theorem aW7 (ks : List b7) (k : Nat) : j1 (ks.take k) ≤ j1 ks ∧ (k < ks.length → j1 (ks.take k) + 1 + r9 (ks.getD k bL2) ≤ j1 ks) ∧ (ks.take k).length ≤ j1 (ks.take k) := by
 refine ⟨?_, fun h => ?_, ap9 _⟩
 ·have := D7 (ks.take k) (ks.drop k)
  rw [List.take_append_drop] at this
  omega
 ·have h1 := D7 (ks.take (k + 1)) (ks.drop (k + 1))
  rw [List.take_append_drop, j9 _ _ h, D7, ← i9 (d := bL2) h] at h1
  simp only [j1] at h1
  omega
section
variable {e : b7} {l : List P2} {fr : List Int} {n reg : Int} {k : Nat}
end
theorem at8 {nv na d k : Nat} {ss : List b6} (hs : ss.all (c8 nv na (d + 1)) = true) (hk : k < ss.length) : s6 nv na (ss.getD k bL2) = true ∧ (ss.getD k bL2).body.all (c8 nv na d) = true ∧ (ss.getD k bL2).els.all (c8 nv na d) = true := by
 have h := bL7.1 hs _ (bN6 hk)
 rw [G3, bL3, bL3] at h
 rw [i9 hk]; exact h
section
variable {l : List P2} {fr : List Int} {at0 d : Int} {s : b6}
end
section
variable {ss : List b6} {k : Nat} {d : Int} {l : List P2} {fr : List Int} {at0 : Int}
end
theorem bw8 (b : List UInt8) {j : Int} (hj : 0 ≤ j) (hj2 : j ≤ 10000000) : j + 2 ≤ (Q9 b j).2 ∧ (Q9 b j).2 ≤ j + 150000 := by
 have h1 := a12 b hj hj2
 have h2 := aZ4 b hj hj2
 omega
def E8 (b : List UInt8) : Nat → Int → b8 × Int
 | 0, j => (I5 b j, (Q9 b j).2 + 1)
 | n + 1, j => if (H9 (I5 b j) false).1 = 0 ∧ 0 < (I5 b j).body.length then (I5 b j, (Q9 b j).2 + 1) else E8 b n ((Q9 b j).2 + 1)
theorem bv1 (b : List UInt8) : ∀ (n : Nat) (j : Int), n ≤ 3 → 0 ≤ j → j + n * 150001 ≤ 10000000 → j ≤ (E8 b n j).2 ∧ (E8 b n j).2 ≤ j + (n + 1) * 150001 ∧ (E8 b n j).1.size ≤ 160000
 | 0, j, _, hj, hj2 => by
  have h := bw8 b hj (by omega)
  have h2 := aP4 b hj (by omega)
  refine ⟨?_, ?_, h2⟩ <;> (show _ ≤ _; simp only [E8]; omega)
 | n + 1, j, hn, hj, hj2 => by
  have h := bw8 b hj (by omega)
  have h2 := aP4 b hj (by omega)
  have ih := bv1 b n ((Q9 b j).2 + 1) (by omega) (by omega) (by omega)
  rw [E8]
  split
  ·exact ⟨by show j ≤ (Q9 b j).2 + 1; omega, by show (Q9 b j).2 + 1 ≤ _; omega, h2⟩
  ·exact ⟨by omega, by omega, ih.2.2⟩
def D6 (b : List UInt8) (j : Int) : Nat → Int
 | 0 => j
 | i + 1 => (Q9 b (D6 b j i)).2 + 1
theorem bE0 (b : List UInt8) {j : Int} (hj : 0 ≤ j) (hj2 : j ≤ 9000000) : ∀ i : Nat, i ≤ 3 → j ≤ D6 b j i ∧ D6 b j i ≤ j + i * 150001
 | 0, _ => ⟨Int.le_refl _, by simp [D6]⟩
 | i + 1, hi => by
  have ih := bE0 b hj hj2 i (by omega)
  have h := bw8 b (j := D6 b j i) (by omega) (by omega)
  rw [D6]
  omega
theorem bE2 {b : List UInt8} {j : Int} {i : Nat} (hi : i < 3) (h : E8 b 3 j = E8 b (3 - i) (D6 b j i)) (hn : ¬ ((H9 (I5 b (D6 b j i)) false).1 = 0 ∧ 0 < (I5 b (D6 b j i)).body.length)) : E8 b 3 j = E8 b (3 - (i + 1)) (D6 b j (i + 1)) := by
 rw [h, show 3 - i = (3 - (i + 1)) + 1 by omega, E8, if_neg hn]; rfl
theorem bu9 {b : List UInt8} {j : Int} {i : Nat} (hi : i < 3) (h : E8 b 3 j = E8 b (3 - i) (D6 b j i)) (hn : (H9 (I5 b (D6 b j i)) false).1 = 0 ∧ 0 < (I5 b (D6 b j i)).body.length) : E8 b 3 j = (I5 b (D6 b j i), (Q9 b (D6 b j i)).2 + 1) := by
 rw [h, show 3 - i = (3 - (i + 1)) + 1 by omega, E8, if_pos hn]
theorem bl3 {b : List UInt8} {j : Int} {i : Nat} (hi : 3 ≤ i) (hi2 : i ≤ 3) (h : E8 b 3 j = E8 b (3 - i) (D6 b j i)) : E8 b 3 j = (I5 b (D6 b j i), (Q9 b (D6 b j i)).2 + 1) := by
 rw [h, show 3 - i = 0 by omega, E8]
abbrev m2D (b : List UInt8) (p : b8) (k : Int) : b8 × Int := O7 b (O7 b p k).1 (O7 b p k).2
def L3 (b : List UInt8) (j : Int) : b8 × b8 × Int :=
 if okL (E8 b 3 j).1 = true then
  if pk b (E8 b 3 j).2 8 = 0 then ((E8 b 3 j).1, m2D b (E8 b 3 j).1 ((E8 b 3 j).2 + 1)) else ((E8 b 3 j).1, R4 (E8 b 3 j).1, (E8 b 3 j).2 + 1)
 else ((E8 b 3 j).1, m2D b (E8 b 3 j).1 (E8 b 3 j).2)
theorem bC1 (b : List UInt8) (p : b8) (k : Int) : (m2D b p k).1.size ≤ p.size + 26 ∧ k ≤ (m2D b p k).2 ∧ (m2D b p k).2 ≤ k + 6 := by
 have h1 := aD7 b p k
 have h2 := aD7 b (O7 b p k).1 (O7 b p k).2
 unfold m2D
 omega
theorem bA6 (b : List UInt8) {j : Int} (h0 : 0 ≤ j) (h1 : j ≤ 1000000) : (L3 b j).1.size ≤ 160000 ∧ (L3 b j).2.1.size ≤ 240000 ∧ j ≤ (L3 b j).2.2 ∧ (L3 b j).2.2 ≤ j + 700000 := by
 have hf := bv1 b 3 j (bM4 _) h0 (by omega)
 have hm := bC1 b (E8 b 3 j).1 ((E8 b 3 j).2 + 1)
 have hn := bC1 b (E8 b 3 j).1 (E8 b 3 j).2
 have hl := bt8 (E8 b 3 j).1
 unfold L3
 split
 ·split
  ·dsimp only; omega
  ·dsimp only; omega
 ·dsimp only; omega
theorem bI7 {b : List UInt8} {j n : Int} (h : n < 1) : pk b j n = 0 := by unfold pk; rw [if_pos (.inl h)]
theorem bI6 {b : List UInt8} {j n : Int} (h : (b.length : Int) = 0) : pk b j n = 0 := by unfold pk; rw [if_pos (.inr (by omega))]
theorem bI5 {b : List UInt8} {j n : Int} (h : ¬ n < 1) (h1 : ¬ (b.length : Int) = 0) (h2 : j + 1 - 1 < b.length) : pk b j n = ((b.getD (j + 1 - 1).toNat 0).toNat : Int).tmod n := by
 unfold pk; rw [if_neg (by omega), if_pos (by omega), Int.add_sub_cancel]
theorem bI4 {b : List UInt8} {j n : Int} (h : ¬ n < 1) (h1 : ¬ (b.length : Int) = 0) (h2 : ¬ j + 1 - 1 < b.length) : pk b j n = (aP2 (pkX b (j + 1 - 1)) ((pkX b (j + 1 - 1)).tdiv 64)).tmod n := by
 unfold pk; rw [if_neg (by omega), if_neg (by omega), Int.add_sub_cancel]
theorem a34 {x : Int} {n : Nat} (hx : 0 ≤ x) (hn : ¬ (n : Int) = 0) : 0 ≤ x.tmod n ∧ x.tmod n < n ∧ (x.tmod n).toNat < n := by
 have := aP5 (x := x) (n := n) hx (by omega); omega
theorem z4 (b : List UInt8) (j n : Int) (r0 : 0 ≤ j) (r1 : j ≤ 1000000000) : d8.ok Try.prog ⟨65, [.ptr 0 0, iA n], [.box [.ref 1, iA j], dY b], [.box [.ref 1, iA (j + 1)], dY b], iA (pk b j n)⟩ := by
  refine x6 99 Try.func65 [.box [.ref 1, iA j], dY b] [(0, .ptr 0 0), (1, iA n)] fun G => ?_; have hu1 := aH3 (b.getD ((j + 1 - 1).tmod b.length).toNat 0); have hu2 := aH3 (b.getD (((j + 1 - 1) * 7 + 3).tmod b.length).toNat 0); refine wp_seq (d9 G c4 [(4, iA 0)] fun G => b5 (wp_seq (S4 G c4 [0, 1] [.box [.ref 1, iA (j + 1)], dY b] [(0, .ptr 0 0), (1, iA n), (4, iA 0)] [wO (j + 1)] (o1 (by omega)) fun G => b5 (wp_seq (wp_seq ?_))))); cases h0 : (decide (n < 1))
  ·
   have q0 := O0 h0; refine d9 G (z6 (fc h0 fz) (us [(3, 8, 0), (1009, 1009, 0)])) [(24, bA ((b.length : Int) == 0))] fun G => b5 (I7 G (fun h1 q1 => ?_) fun h1 q1 => ?_)
   ·
    refine wp_skip (b5 (wp_seq (C8 G c4 [(5, iA (j + 1 - 1))] [wO (j + 1 - 1)] (o1 (by omega)) fun G => b5 (wp_seq (wp_seq (d9 G c4 [(36, bA (decide (j + 1 - 1 < (b.length : Int))))] fun G => b5 (M7 G (fun h2 q2 => ?_) fun h2 q2 => ?_)))))))
    ·
     refine wp_skip (b5 (wp_seq (P9 G c4 [0, 1, 3, 7, 0, 0, 32, 96, 224, 480, 1008, 2047, 4095, 8191, 16383, 0, 32768, 98304, 229376, 0, 524288, 1572864, 0, 4194304, 12582912, 29360128, 62914560, 133693440, 268402688, 536838144, 1073709056, 2147450880, 4294967295, 0, 8589934592, 34359738367, 0, 0, 137438953472, 412316860416, 962072674304, 2061584302080, 4329327034368, 8727373545472, 17592186044415, 35184372088831] [(6, iA (((b.getD ((j + 1 - 1).tmod (b.length : Int)).toNat 0).toNat : Int) * 131 + ((b.getD (((j + 1 - 1) * 7 + 3).tmod (b.length : Int)).toNat 0).toNat : Int) * 1117 + (j + 1 - 1) * 29 + (j + 1 - 1).tdiv (b.length : Int) * 53))] [(b.length : Int) ≠ 0, (0 : Int) ≤ (j + 1 - 1).tmod (b.length : Int), (j + 1 - 1).tmod (b.length : Int) < b.length, ((j + 1 - 1).tmod (b.length : Int)).toNat < b.length, IntKind.i64.wrap ((b.getD ((j + 1 - 1).tmod (b.length : Int)).toNat (0 : UInt8)).toNat : Int) = ((b.getD ((j + 1 - 1).tmod (b.length : Int)).toNat (0 : UInt8)).toNat : Int), wO (((b.getD ((j + 1 - 1).tmod (b.length : Int)).toNat (0 : UInt8)).toNat : Int) * 131), wO ((j + 1 - 1) * 7), wO ((j + 1 - 1) * 7 + 3), (b.length : Int) ≠ 0, (0 : Int) ≤ ((j + 1 - 1) * 7 + 3).tmod (b.length : Int), ((j + 1 - 1) * 7 + 3).tmod (b.length : Int) < b.length, (((j + 1 - 1) * 7 + 3).tmod (b.length : Int)).toNat < b.length, IntKind.i64.wrap ((b.getD (((j + 1 - 1) * 7 + 3).tmod (b.length : Int)).toNat (0 : UInt8)).toNat : Int) = ((b.getD (((j + 1 - 1) * 7 + 3).tmod (b.length : Int)).toNat (0 : UInt8)).toNat : Int), wO (((b.getD (((j + 1 - 1) * 7 + 3).tmod (b.length : Int)).toNat (0 : UInt8)).toNat : Int) * 1117), wO (((b.getD ((j + 1 - 1).tmod (b.length : Int)).toNat (0 : UInt8)).toNat : Int) * 131 + ((b.getD (((j + 1 - 1) * 7 + 3).tmod (b.length : Int)).toNat (0 : UInt8)).toNat : Int) * 1117), wO ((j + 1 - 1) * 29), wO (((b.getD ((j + 1 - 1).tmod (b.length : Int)).toNat (0 : UInt8)).toNat : Int) * 131 + ((b.getD (((j + 1 - 1) * 7 + 3).tmod (b.length : Int)).toNat (0 : UInt8)).toNat : Int) * 1117 + (j + 1 - 1) * 29), (b.length : Int) ≠ 0, wO ((j + 1 - 1).tdiv (b.length : Int)), wO ((j + 1 - 1).tdiv (b.length : Int) * 53), wO (((b.getD ((j + 1 - 1).tmod (b.length : Int)).toNat (0 : UInt8)).toNat : Int) * 131 + ((b.getD (((j + 1 - 1) * 7 + 3).tmod (b.length : Int)).toNat (0 : UInt8)).toNat : Int) * 1117 + (j + 1 - 1) * 29 + (j + 1 - 1).tdiv (b.length : Int) * 53)] ⟨(by assumption), ((a34 (by omega) (by omega)).1), ((a34 (by omega) (by omega)).2.1), ((a34 (by omega) (by omega)).2.2), (w64 (by omega) (by omega)), (oW (by omega)), (oW (by omega)), (oW (by omega)), (by assumption), ((a34 (by omega) (by omega)).1), ((a34 (by omega) (by omega)).2.1), ((a34 (by omega) (by omega)).2.2), (w64 (by omega) (by omega)), (oW (by omega)), (oW (by omega)), (oW (by omega)), (oW (by omega)), (by assumption), (by have := aJ6 (b := b) (k := j + 1 - 1) (by omega) (by omega) (by omega); exact w64 (by unfold pkX at this; omega) (by unfold pkX at this; omega)), (by have := aJ6 (b := b) (k := j + 1 - 1) (by omega) (by omega) (by omega); exact w64 (by unfold pkX at this; omega) (by unfold pkX at this; omega)), (by have := aJ6 (b := b) (k := j + 1 - 1) (by omega) (by omega) (by omega); exact w64 (by unfold pkX at this; omega) (by unfold pkX at this; omega)), bM6⟩ fun G => ?_)))
     refine b5 (wp_seq (C8 G c4 [(6, iA (aP2 (((b.getD ((j + 1 - 1).tmod (b.length : Int)).toNat 0).toNat : Int) * 131 + ((b.getD (((j + 1 - 1) * 7 + 3).tmod (b.length : Int)).toNat 0).toNat : Int) * 1117 + (j + 1 - 1) * 29 + (j + 1 - 1).tdiv (b.length : Int) * 53) ((((b.getD ((j + 1 - 1).tmod (b.length : Int)).toNat 0).toNat : Int) * 131 + ((b.getD (((j + 1 - 1) * 7 + 3).tmod (b.length : Int)).toNat 0).toNat : Int) * 1117 + (j + 1 - 1) * 29 + (j + 1 - 1).tdiv (b.length : Int) * 53).tdiv 64)))] [(64 : Int) ≠ 0, wO ((((b.getD ((j + 1 - 1).tmod (b.length : Int)).toNat (0 : UInt8)).toNat : Int) * 131 + ((b.getD (((j + 1 - 1) * 7 + 3).tmod (b.length : Int)).toNat (0 : UInt8)).toNat : Int) * 1117 + (j + 1 - 1) * 29 + (j + 1 - 1).tdiv (b.length : Int) * 53).tdiv (64 : Int))] ⟨(by omega), (by have := bo9 (b := b) (k := j + 1 - 1) (by omega) (by omega) (by omega); exact w64 (by unfold pkX at this; omega) (by unfold pkX at this; omega)), bM6⟩ fun G => b5 (wp_seq (C8 G c4 [(4, iA ((aP2 (((b.getD ((j + 1 - 1).tmod (b.length : Int)).toNat 0).toNat : Int) * 131 + ((b.getD (((j + 1 - 1) * 7 + 3).tmod (b.length : Int)).toNat 0).toNat : Int) * 1117 + (j + 1 - 1) * 29 + (j + 1 - 1).tdiv (b.length : Int) * 53) ((((b.getD ((j + 1 - 1).tmod (b.length : Int)).toNat 0).toNat : Int) * 131 + ((b.getD (((j + 1 - 1) * 7 + 3).tmod (b.length : Int)).toNat 0).toNat : Int) * 1117 + (j + 1 - 1) * 29 + (j + 1 - 1).tdiv (b.length : Int) * 53).tdiv 64)).tmod n))] [n ≠ 0] ⟨(by omega), bM6⟩ fun G => b5 (wp_ret ?_))))); exact L2 ((aP2 (((b.getD ((j + 1 - 1).tmod (b.length : Int)).toNat 0).toNat : Int) * 131 + ((b.getD (((j + 1 - 1) * 7 + 3).tmod (b.length : Int)).toNat 0).toNat : Int) * 1117 + (j + 1 - 1) * 29 + (j + 1 - 1).tdiv (b.length : Int) * 53) ((((b.getD ((j + 1 - 1).tmod (b.length : Int)).toNat 0).toNat : Int) * 131 + ((b.getD (((j + 1 - 1) * 7 + 3).tmod (b.length : Int)).toNat 0).toNat : Int) * 1117 + (j + 1 - 1) * 29 + (j + 1 - 1).tdiv (b.length : Int) * 53).tdiv 64)).tmod n) G [0, 1] (bI4 (by omega) (by omega) (by omega))
    · refine wp_seq (C8 G c4 [(4, iA (((b.getD (j + 1 - 1).toNat 0).toNat : Int).tmod n))] (iX (j + 1 - 1) ((j + 1 - 1).toNat) b.length ((IntKind.i64.wrap ((b.getD (j + 1 - 1).toNat (0 : UInt8)).toNat : Int) = ((b.getD (j + 1 - 1).toNat (0 : UInt8)).toNat : Int)) :: ((n ≠ 0) :: []))) (iK (by omega) ⟨(by have := aH3 (b.getD (j + 1 - 1).toNat 0); exact w64 (by omega) (by omega)), ⟨(by omega), bM6⟩⟩) fun G => b5 (wp_ret (d7 ?_))); exact L2 (((b.getD (j + 1 - 1).toNat 0).toNat : Int).tmod n) G [0, 1] (bI5 (by omega) (by omega) (by omega))
   · refine wp_seq (d9 G c4 [] fun G => b5 (wp_ret (d7 ?_))); exact L2 0 G [0, 1] (bI6 (by omega))
  · have q0 := N9 h0; refine d9 G (z6 (fc h0 fz) (us [(3, 8, 0), (1009, 1009, 0)])) [(24, bA true)] fun G => b5 (rT G true (by kernel_rfl) (wp_seq (d9 G c4 [] fun G => b5 (wp_ret (d7 ?_))))); exact L2 0 G [0, 1] (bI7 (by omega))
theorem F7 (b : List UInt8) (j : Int) (l : List Int) (hl : l ≠ []) (r0 : 0 ≤ j) (r1 : j ≤ 1000000000) : d8.ok Try.prog ⟨97, [.ptr 0 0, .ref 2], [.box [.ref 1, iA j], dY b, dI l], [.box [.ref 1, iA (j + 1)], dY b, dI l], iA (nm b j l)⟩ := by
 refine x6 12 Try.func97 [.box [.ref 1, iA j], dY b, dI l] [(0, .ptr 0 0), (1, .ref 2)] fun G => ?_; refine wp_seq (d9 G c4 [(4, iA 0)] fun G => b5 (wp_seq (S4 G (o9 4 [0, 1] (z4 b j ((l.length : Int)) (by assumption) (by assumption))) [0, 1, 2] [.box [.ref 1, iA (j + 1)], dY b, dI l] [(4, iA (l.getD (pk b j (l.length : Int)).toNat 0))] [(0 : Int) ≤ pk b j (l.length : Int), pk b j (l.length : Int) < l.length, (pk b j (l.length : Int)).toNat < l.length] ⟨((aY5 b r0 r1 hl).1), ((aY5 b r0 r1 hl).2.1), ((aY5 b r0 r1 hl).2.2), bM6⟩ fun G => b5 (wp_ret ?_)))); exact C4 G [0, 1, 2]
theorem bg1 (b : List UInt8) (j : Int) (r0 : 0 ≤ j) (r1 : j ≤ 900000000) : d8.ok Try.prog ⟨170, [.ptr 0 0], [.box [.ref 1, iA j], dY b], [.box [.ref 1, iA (j + 2)], dY b], iA (l1D b j)⟩ := by
 refine x6 11 Try.func170 [.box [.ref 1, iA j], dY b] [(0, .ptr 0 0)] fun G => ?_; refine wp_seq (d9 G c4 [(2, iA 0)] fun G => b5 (wp_seq (wp_seq (e6 G (o9 1 [0, 1] (z4 b j 12 (by assumption) (by omega))) [0, 1] [.box [.ref 1, iA (j + 1)], dY b] [(0, .ptr 0 0), (2, iA 0), (5, bA (pk b j 12 == 0))] fun G => b5 (I7 G (fun h0 q0 => ?_) fun h0 q0 => ?_)))))
 ·refine wp_skip (b5 (wp_seq (e6 G (o9 1 [0, 1] (z4 b (j + 1) 4 (by omega) (by omega))) [0, 1] [.box [.ref 1, iA (j + 1 + 1)], dY b] [(2, iA (pk b (j + 1) 4))] fun G => b5 (wp_ret ?_)))); exact L2 (pk b (j + 1) 4) G [0, 1] (by unfold l1D; rw [if_neg (by omega)]; done) (by show _ = mR [0, 1] [.box [.ref 1, iA (j + 2)], dY b]; have e1 : (j + 2 : Int) = (j + 1 + 1) := (by omega); (first | rw [e1] | simp only [e1]) <;> rfl)
 ·refine wp_seq (e6 G (o9 2 [0, 1, 10] (d8.lend (F7 b (j + 1) l1L (by simp [h0]) (by omega) (by omega)) [.no, .no, .row 3])) [0, 1] [.box [.ref 1, iA (j + 1 + 1)], dY b] [(0, .ptr 0 0), (2, iA (nm b (j + 1) l1L))] fun G => b5 (wp_ret (d7 ?_))); exact L2 (nm b (j + 1) l1L) G [0, 1] (by unfold l1D; rw [if_pos (by omega)]; done) (by show _ = mR [0, 1] [.box [.ref 1, iA (j + 2)], dY b]; have e1 : (j + 2 : Int) = (j + 1 + 1) := (by omega); (first | rw [e1] | simp only [e1]) <;> rfl)
theorem aU7 (c : List UInt8) (hc : c.length ≤ 2000) : d8.ok Try.prog ⟨63, [.ref 0], [dY c], [dY c, .box [.ref 0, iA 0]], .ptr 1 0⟩ := by
 refine x6 11 Try.func63 [dY c] [(0, .ref 0)] fun G => ?_; refine wp_seq (d9 G c4 [(2, .v (.pointer none))] fun G => b5 (wp_seq (wp_seq (B7 G c4 [(0, .ref 0), (2, .v (.pointer none)), (5, bA (decide ((c.length : Int) > 2000)))] fun G => b5 ?_)))); cases h0 : (decide ((c.length : Int) > 2000))
 ·have q0 := O0 h0; refine rF G _ h0 (wp_skip (b5 (wp_seq (e6 G c4 [0, 17] [dY c, .box [.ref 0, iA 0]] [(2, .ptr 1 0)] fun G => b5 (wp_ret ?_))))); exact C4 G [0, 1]
 ·have q0 := N9 h0; exact False.elim (by omega)
theorem aU6 (c : List UInt8) (hc : 2000 < c.length) : d8.ok Try.prog ⟨63, [.ref 0], [dY c], [dY c, .box [.ref 2, iA 0], dY ((c.take 2000).drop 0)], .ptr 1 0⟩ := by
 refine x6 11 Try.func63 [dY c] [(0, .ref 0)] fun G => ?_; refine wp_seq (d9 G c4 [(2, .v (.pointer none))] fun G => b5 (wp_seq (wp_seq (B7 G c4 [(0, .ref 0), (2, .v (.pointer none)), (5, bA (decide ((c.length : Int) > 2000)))] fun G => b5 ?_)))); cases h0 : (decide ((c.length : Int) > 2000))
 ·have q0 := O0 h0; exact False.elim (by omega)
 ·have q0 := N9 h0; refine rT G _ h0 (S4 G c4 [0, 9] [dY c, dY (List.drop 0 (bL8 (Int.toNat 2000) c))] [(0, .ref 1), (2, .v (.pointer none))] [(0 : Int) ≤ 2000, (2000 : Int) ≤ c.length] ⟨(by omega), (by omega), bM6⟩ fun G => b5 (wp_seq (e6 G c4 [0, 1, 18] [dY c, dY (List.drop 0 (bL8 (Int.toNat 2000) c)), .box [.ref 1, iA 0]] [(2, .ptr 2 0)] fun G => b5 (wp_ret ?_)))); exact C4 G [0, 2, 1]
abbrev dwS (b : List UInt8) (j : Int) (vs ars : List Int) (bd : List b6) : List It := [.box [.ref 1, iA j], dY b, dI vs, dI ars, dT bd]
abbrev exO (e : b7) : List It := [.tree (.exprs e.kids)]
abbrev exA (e : b7) (r : Nat) : AV := .agg [iA e.kind, iA e.value, .tref r]
theorem bF6 {b : List UInt8} {nv j : Int} (h : pk b j 3 = 0) : j3 b nv j = ⟨1, nm b (j + 1) atL, []⟩ := if_pos h
theorem bF5 {b : List UInt8} {nv j : Int} (h : ¬ pk b j 3 = 0) : j3 b nv j = ⟨2, pk b (j + 1) nv, []⟩ := if_neg h
theorem aj4 (b : List UInt8) (j : Int) (vs ars : List Int) (bd : List b6) (r0 : 0 ≤ j) (r1 : j ≤ 900000000) : d8.ok Try.prog ⟨99, [.ptr 0 0, pA 2], dwS b j vs ars bd, dwS b (j + 2) vs ars bd ++ exO (j3 b vs.length j), exA (j3 b vs.length j) 5⟩ := by
 refine x6 18 Try.func99 [.box [.ref 1, iA j], dY b, dI vs, dI ars, dT bd] [(0, .ptr 0 0), (1, pA 2)] fun G => ?_; refine wp_seq (e6 G c4 [0, 1, 2, 3, 4, 5, 13] [.box [.ref 1, iA j], dY b, dI vs, dI ars, dT bd, .box (pL 2), .box [iA 0, iA 0, .v (.slice none 0 0)]] [(0, .ptr 0 0), (3, .ptr 5 0), (4, .ptr 6 0)] fun G => b5 (wp_seq (wp_seq (e6 G (o9 1 [0, 1] (z4 b j 3 (by assumption) (by omega))) (rg 7) [.box [.ref 1, iA (j + 1)], dY b, dI vs, dI ars, dT bd, .box (pL 2), .box [iA 0, iA 0, .v (.slice none 0 0)]] [(0, .ptr 0 0), (3, .ptr 5 0), (4, .ptr 6 0), (7, bA (pk b j 3 == 0))] fun G => b5 (I7 G (fun h0 q0 => ?_) fun h0 q0 => ?_)))))
 ·refine wp_skip (b5 (wp_seq (e6 G (o9 4 [0, 1] (z4 b (j + 1) ((vs.length : Int)) (by omega) (by omega))) [0, 1, 2, 3, 4, 6] [.box [.ref 1, iA (j + 1 + 1)], dY b, dI vs, dI ars, dT bd, .box [iA 2, iA (pk b (j + 1) (vs.length : Int)), .v (.slice none 0 0)]] [(4, .ptr 5 0)] fun G => b5 (wp_ret ?_)))); obtain ⟨ρ, G⟩ := G.nilT 6 (.exprs []) [.box [.ref 1, iA (j + 1 + 1)], dY b, dI vs, dI ars, dT bd, .box [iA 2, iA (pk b (j + 1) (vs.length : Int)), .tref 6]] [(4, .ptr 5 0)]; exact U5 (.agg [iA 2, iA (pk b (j + 1) (vs.length : Int)), .tref 6]) G [0, 1, 2, 3, 4, 6] (by show _ = AV.ren (nth [0, 1, 2, 3, 4, 6]) (.agg [iA (j3 b (vs.length : Int) j).kind, iA (j3 b (vs.length : Int) j).value, .tref 5]); rw [bF5 (by omega)] <;> rfl) (by show _ = mR [0, 1, 2, 3, 4, 6] [.box [.ref 1, iA (j + 2)], dY b, dI vs, dI ars, dT bd, .tree (D.exprs (j3 b (vs.length : Int) j).kids)]; have e1 : (j + 2 : Int) = (j + 1 + 1) := (by omega); rw [e1, bF5 (by omega)] <;> rfl)
 ·refine wp_seq (e6 G (o9 2 [0, 1, 15] (d8.lend (F7 b (j + 1) atL (by simp [h0]) (by omega) (by omega)) [.no, .no, .row 3])) (rg 7) [.box [.ref 1, iA (j + 1 + 1)], dY b, dI vs, dI ars, dT bd, .box (pL 2), .box [iA 1, iA (nm b (j + 1) atL), .v (.slice none 0 0)]] [(0, .ptr 0 0), (3, .ptr 5 0), (4, .ptr 6 0)] fun G => b5 (wp_ret (d7 ?_))); obtain ⟨ρ, G⟩ := G.nilT 7 (.exprs []) [.box [.ref 1, iA (j + 1 + 1)], dY b, dI vs, dI ars, dT bd, .box (pL 2), .box [iA 1, iA (nm b (j + 1) atL), .tref 7]] [(0, .ptr 0 0), (3, .ptr 5 0), (4, .ptr 6 0)]; exact U5 (.agg [iA 1, iA (nm b (j + 1) atL), .tref 7]) G [0, 1, 2, 3, 4, 7] (by show _ = AV.ren (nth [0, 1, 2, 3, 4, 7]) (.agg [iA (j3 b (vs.length : Int) j).kind, iA (j3 b (vs.length : Int) j).value, .tref 5]); rw [bF6 (by omega)] <;> rfl) (by show _ = mR [0, 1, 2, 3, 4, 7] [.box [.ref 1, iA (j + 2)], dY b, dI vs, dI ars, dT bd, .tree (D.exprs (j3 b (vs.length : Int) j).kids)]; have e1 : (j + 2 : Int) = (j + 1 + 1) := (by omega); rw [e1, bF6 (by omega)] <;> rfl)
theorem aU3 (vs ars : List Int) (bd : List b6) (e : b7) : d8.ok Try.prog (E0 100 [pA 0, eA e 3] ([dI vs, dI ars, dT bd] ++ eS e) (bA (f5 vs.length ars.length e))) := A2 ⟨vs, ars, bd⟩ e
abbrev drC (b : List UInt8) (vs ars : List Int) (bd : List b6) (d : Nat) (j n : Int) : d8 := ⟨166, [.ptr 0 0, pA 2, iA n], dwS b j vs ars bd, dwS b (C7 b vs.length ars.length d j).2 vs ars bd ++ exO (C7 b vs.length ars.length d j).1, exA (C7 b vs.length ars.length d j).1 5⟩
section
variable {b : List UInt8} {nv na : Int} {d : Nat} {j : Int}
theorem bE5 (h : d < 2) : C7 b nv na d j = (j3 b nv j, j + 2) := by
 match d, h with
 | 0, _ => rfl
 | 1, _ => simp [C7]
theorem bv8 (h : 0 < d) (h1 : pk b j 4 = 0) : C7 b nv na (d + 1) j = (j3 b nv (j + 1), j + 3) := by rw [C7, if_neg (by omega), if_pos h1]
theorem bl7 (h : 0 < d) (h1 : ¬ pk b j 4 = 0) (h2 : nm b (j + 1) D9 = 3) (h3 : na = 0) : C7 b nv na (d + 1) j = (j3 b nv (j + 2), j + 4) := by rw [C7, if_neg (by omega), if_neg h1, if_pos h2, if_pos h3]
theorem bl6 (h : 0 < d) (h1 : ¬ pk b j 4 = 0) (h2 : nm b (j + 1) D9 = 3) (h3 : ¬ na = 0) : C7 b nv na (d + 1) j = (⟨3, pk b (j + 2) na, [j3 b nv (j + 3)]⟩, j + 5) := by rw [C7, if_neg (by omega), if_neg h1, if_pos h2, if_neg h3]
abbrev drK (b : List UInt8) (nv na : Int) (d : Nat) (j : Int) (k : Nat) : List b7 × Int := y8 (C7 b nv na d) k (j + 2)
theorem bE4 (h : 0 < d) (h1 : ¬ pk b j 4 = 0) (h2 : ¬ nm b (j + 1) D9 = 3) {m : Int} (h3 : 0 ≤ m) (h4 : ¬ m > 0) : C7 b nv na (d + 1) j = (⟨nm b (j + 1) D9, 0, (drK b nv na d j (i8 (nm b (j + 1) D9) - m).toNat).1⟩, (drK b nv na d j (i8 (nm b (j + 1) D9) - m).toNat).2) := by
 have e : m = 0 := by omega
 rw [e, Int.sub_zero, C7, if_neg (by omega), if_neg h1, if_neg h2]
theorem a05 {x m : Int} (h3 : m > 0) (h4 : m ≤ x) : drK b nv na d j (x - (m - 1)).toNat = ((drK b nv na d j (x - m).toNat).1 ++ [(C7 b nv na d (drK b nv na d j (x - m).toNat).2).1], (C7 b nv na d (drK b nv na d j (x - m).toNat).2).2) := by
 rw [show (x - (m - 1)).toNat = (x - m).toNat + 1 by omega]; rfl
theorem bF7 (r0 : 0 ≤ j) (r1 : j ≤ 900000000) : 0 ≤ i8 (nm b (j + 1) D9) ∧ i8 (nm b (j + 1) D9) ≤ 3 := by
 have h := aD6 b (k := j + 1) (l := D9) (by omega) (by omega) (by simp)
 simp only [bN1, bO6, List.not_mem_nil, or_false] at h
 rcases h with h | h | h | h | h | h | h | h | h <;> rw [h] <;> decide
theorem bE8 (r0 : 0 ≤ j) {k : Nat} (hk : k ≤ 3) : j + 2 ≤ (drK b nv na d j k).2 ∧ (drK b nv na d j k).2 ≤ j + 2 + 3 * cE d := by
 have hc := au8 d
 have h := be9 (f := C7 b nv na d) (c := cE d) (m := 3) (by omega) k (j + 2) hk fun i _ _ => aL9 b nv na d i
 have h4 : (k : Int) * cE d ≤ 3 * cE d := bP1 (by omega) (by omega)
 unfold drK; omega
theorem bE7 {x m : Int} (r0 : 0 ≤ j) (h3 : m > 0) (h4 : m ≤ x) (h5 : x ≤ 3) (r1 : j + cE (d + 1) ≤ 800000000) : (drK b nv na d j (x - m).toNat).2 + cE d ≤ 800000000 := by
 have hc := au8 d
 have hce : cE (d + 1) = 5 + 3 * cE d := rfl
 have hm : (x - m).toNat ≤ 2 := by omega
 have h := be9 (f := C7 b nv na d) (c := cE d) (m := 2) (by omega) (x - m).toNat (j + 2) hm fun i _ _ => aL9 b nv na d i
 have h4 : ((x - m).toNat : Int) * cE d ≤ 2 * cE d := bP1 (by omega) (by omega)
 unfold drK; omega
end
theorem aX6 (b : List UInt8) (vs ars : List Int) (bd : List b6) (d : Nat) (hd : d < 2) (j n : Int) (hn : n = d) (r0 : 0 ≤ j) (r1 : j ≤ 900000000) : d8.ok Try.prog (drC b vs ars bd d j n) := by
 refine x6 62 Try.func166 [.box [.ref 1, iA j], dY b, dI vs, dI ars, dT bd] [(0, .ptr 0 0), (1, pA 2), (2, iA n)] fun G => ?_; refine wp_seq (e6 G c4 [0, 1, 2, 3, 4, 5, 13] [.box [.ref 1, iA j], dY b, dI vs, dI ars, dT bd, .box (pL 2), .box [iA 0, iA 0, .v (.slice none 0 0)]] [(0, .ptr 0 0), (2, iA n), (4, .ptr 5 0), (6, .ptr 6 0)] fun G => b5 (wp_seq (wp_seq ?_))); cases h0 : (decide (n < 2))
 ·have q0 := O0 h0; exact False.elim (by omega)
 ·have q0 := N9 h0; refine d9 G (z6 (fc h0 fz) [(3, 0), (4, 0), (5, 0), (1006, 0)]) [(16, bA true)] fun G => b5 (rT G true (by kernel_rfl) (wp_seq (e6 G (o9 2 (rg 5) (aj4 b j vs ars bd (by assumption) (by assumption))) [0, 1, 2, 3, 4, 5, 6, 23] [.box [.ref 1, iA (j + 2)], dY b, dI vs, dI ars, dT bd, .box (pL 2), .box [iA (j3 b (vs.length : Int) j).kind, iA (j3 b (vs.length : Int) j).value, .tref 7], .tree (D.exprs (j3 b (vs.length : Int) j).kids)] [(0, .ptr 0 0), (2, iA n), (4, .ptr 5 0), (6, .ptr 6 0)] fun G => b5 (wp_ret (d7 ?_))))); exact U5 (.agg [iA (j3 b (vs.length : Int) j).kind, iA (j3 b (vs.length : Int) j).value, .tref 7]) G [0, 1, 2, 3, 4, 7] (by show _ = AV.ren (nth [0, 1, 2, 3, 4, 7]) (.agg [iA (C7 b (vs.length : Int) (ars.length : Int) d j).fst.kind, iA (C7 b (vs.length : Int) (ars.length : Int) d j).fst.value, .tref 5]); rw [bE5 hd] <;> rfl) (by show _ = mR [0, 1, 2, 3, 4, 7] [.box [.ref 1, iA (C7 b (vs.length : Int) (ars.length : Int) d j).snd], dY b, dI vs, dI ars, dT bd, .tree (D.exprs (C7 b (vs.length : Int) (ars.length : Int) d j).fst.kids)]; rw [bE5 hd] <;> rfl)
abbrev ap1 (b : List UInt8) (vs : List Int) (ars : List Int) (d : Nat) (j : Int) (k : Int) := drK b (vs.length : Int) (ars.length : Int) d j (i8 (nm b (j + 1) D9) - k).toNat
abbrev ak2 (b : List UInt8) (vs : List Int) (ars : List Int) (d : Nat) (j : Int) : AV := (.agg [iA (C7 b (vs.length : Int) (ars.length : Int) (d + 1) j).fst.kind, iA (C7 b (vs.length : Int) (ars.length : Int) (d + 1) j).fst.value, .tref 5])
abbrev ak1 (b : List UInt8) (vs : List Int) (ars : List Int) (bd : List b6) (d : Nat) (j : Int) : List It := [.box [.ref 1, iA (C7 b (vs.length : Int) (ars.length : Int) (d + 1) j).snd], dY b, dI vs, dI ars, dT bd, .tree (D.exprs (C7 b (vs.length : Int) (ars.length : Int) (d + 1) j).fst.kids)]
abbrev ax3 : It := .box [iA 0, iA 0, .v (.slice none 0 0)]
abbrev T9 (n : Int) (r0 : List (Nat × AV)) : List (Nat × AV) := (0, .ptr 0 0) :: (2, iA n) :: (4, .ptr 5 0) :: (6, .ptr 6 0) :: r0
theorem bi9 (b : List UInt8) (vs ars : List Int) (bd : List b6) (d : Nat) (hd : 0 < d) (hd2 : d ≤ 100) (ih : ∀ (j n : Int), n = d → 0 ≤ j → j + cE d ≤ 800000000 → d8.ok Try.prog (drC b vs ars bd d j n)) (j n : Int) (hn : n = ((d + 1 : Nat) : Int)) (r0 : 0 ≤ j) (r1 : j + cE (d + 1) ≤ 800000000) : d8.ok Try.prog (drC b vs ars bd (d + 1) j n) := by
  refine x6 62 Try.func166 [.box [.ref 1, iA j], dY b, dI vs, dI ars, dT bd] [(0, .ptr 0 0), (1, pA 2), (2, iA n)] fun G => ?_; have hc := au8 d; have hce : cE (d + 1) = 5 + 3 * cE d := rfl; have har := bF7 (b := b) (j := j) r0 (by omega); refine wp_seq (e6 G c4 [0, 1, 2, 3, 4, 5, 13] [.box [.ref 1, iA j], dY b, dI vs, dI ars, dT bd, .box (pL 2), ax3] (T9 n []) fun G => b5 (wp_seq (wp_seq ?_))); cases h0 : (decide (n < 2))
  ·
   have q0 := O0 h0; refine e6 G (m0 (f6 4 [0, 1] (z4 b j 4 (by assumption) (by omega)) l9) (fc h0 fz) [(3, 0), (4, 0), (5, 0), (1006, 0)]) (rg 7) [.box [.ref 1, iA (j + 1)], dY b, dI vs, dI ars, dT bd, .box (pL 2), ax3] (T9 n [(16, bA (pk b j 4 == 0))]) fun G => b5 (I7 G (fun h1 q1 => ?_) fun h1 q1 => ?_)
   ·
    refine wp_skip (b5 (wp_seq (e6 G (o9 2 [0, 1, 15] (d8.lend (F7 b (j + 1) D9 (by simp [h0, h1]) (by omega) (by omega)) [.no, .no, .row 3])) (rg 7) [.box [.ref 1, iA (j + 1 + 1)], dY b, dI vs, dI ars, dT bd, .box (pL 2), ax3] (T9 n [(7, iA (nm b (j + 1) D9))]) fun G => b5 (wp_seq (wp_seq (d9 G c4 [(24, bA (nm b (j + 1) D9 == 3))] fun G => b5 (I7 G (fun h2 q2 => ?_) fun h2 q2 => ?_)))))))
    ·
     refine wp_skip (b5 (wp_seq (e6 G c4 [0, 1, 2, 3, 4, 5, 6, 23] [.box [.ref 1, iA (j + 1 + 1)], dY b, dI vs, dI ars, dT bd, .box (pL 2), ax3, .box [iA (nm b (j + 1) D9), iA 0, .v (.slice none 0 0)]] (T9 n [(7, iA (nm b (j + 1) D9)), (8, .ptr 7 0)]) fun G => b5 (wp_seq (wp_seq (B7 G (o9 1 [] (Z8 (nm b (j + 1) D9))) (T9 n [(8, .ptr 7 0), (9, iA (i8 (nm b (j + 1) D9)))]) fun G => b5 (wp_block ?_))))))); obtain ⟨ρ, G⟩ := G.nilT 8 (.exprs []) [.box [.ref 1, iA (j + 1 + 1)], dY b, dI vs, dI ars, dT bd, .box (pL 2), .box [iA 0, iA 0, .v (.slice none 0 0)], .box [iA (nm b (j + 1) D9), iA 0, .tref 8]] (T9 n [(8, .ptr 7 0), (9, iA (i8 (nm b (j + 1) D9)))]); replace G := G.as [.box [.ref 1, iA (drK b (vs.length : Int) (ars.length : Int) d j (i8 (nm b (j + 1) D9) - i8 (nm b (j + 1) D9)).toNat).snd], dY b, dI vs, dI ars, dT bd, .box (pL 2), .box [iA 0, iA 0, .v (.slice none 0 0)], .box [iA (nm b (j + 1) D9), iA 0, .tref 8], .tree (D.exprs (drK b (vs.length : Int) (ars.length : Int) d j (i8 (nm b (j + 1) D9) - i8 (nm b (j + 1) D9)).toNat).fst)] (T9 n [(8, .ptr 7 0), (9, iA (i8 (nm b (j + 1) D9)))]) (by have e1 : ((drK b (vs.length : Int) (ars.length : Int) d j (i8 (nm b (j + 1) D9) - i8 (nm b (j + 1) D9)).toNat).snd : Int) = (j + 1 + 1) := (by rw [Int.sub_self]; show j + 2 = j + 1 + 1; omega); have e2 : ((drK b (vs.length : Int) (ars.length : Int) d j (i8 (nm b (j + 1) D9) - i8 (nm b (j + 1) D9)).toNat).fst : List b7) = ([]) := (by rw [Int.sub_self]; rfl); (first | rw [e1, e2] | simp only [e1, e2]) <;> rfl) (by kernel_rfl); refine m6 (κ := Int) (fun k => 0 ≤ k ∧ k ≤ i8 (nm b (j + 1) D9)) (fun k => k.toNat) (fun k => [.box [.ref 1, iA (drK b vs.length ars.length d j (i8 (nm b (j + 1) D9) - k).toNat).2], dY b, dI vs, dI ars, dT bd, .box (pL 2), .box [iA 0, iA 0, .v (.slice none 0 0)], .box [iA (nm b (j + 1) D9), iA 0, .tref 8], .tree (.exprs (drK b vs.length ars.length d j (i8 (nm b (j + 1) D9) - k).toNat).1)]) (fun k => [(0, .ptr 0 0), (2, iA n), (4, .ptr 5 0), (6, .ptr 6 0), (8, .ptr 7 0), (9, iA k)]) (i8 (nm b (j + 1) D9)) (by omega) (m8.at G _ _) ?_; clear G; intro k ρ a w hp G; replace G := m8.at G [.box [.ref 1, iA (ap1 b vs ars d j k).snd], dY b, dI vs, dI ars, dT bd, .box (pL 2), ax3, .box [iA (nm b (j + 1) D9), iA 0, .tref 8], .tree (D.exprs (ap1 b vs ars d j k).fst)] (T9 n [(8, .ptr 7 0), (9, iA k)]); have hkb := bE8 (b := b) (nv := vs.length) (na := ars.length) (d := d) (j := j) r0 (k := (i8 (nm b (j + 1) D9) - k).toNat) (by omega); have hkl : (drK b vs.length ars.length d j (i8 (nm b (j + 1) D9) - k).toNat).1.length = (i8 (nm b (j + 1) D9) - k).toNat := aF1 _ _ _; refine wp_seq (wp_seq (d9 G c4 [(48, bA (decide (k > 0)))] fun G => b5 (M7 G (fun h4 q4 => ?_) fun h4 q4 => ?_)))
     · refine wp_exit (l8 (l8 (l5 (b5 (wp_seq (e6 G c4 [0, 1, 2, 3, 4, 6, 8] [.box [.ref 1, iA (ap1 b vs ars d j k).snd], dY b, dI vs, dI ars, dT bd, .box [iA (nm b (j + 1) D9), iA 0, .tref 6], .tree (D.exprs (ap1 b vs ars d j k).fst)] [(6, .ptr 5 0)] fun G => b5 (wp_ret ?_))))))); exact U5 (.agg [iA (nm b (j + 1) D9), iA 0, .tref 6]) G [0, 1, 2, 3, 4, 6] (by show _ = AV.ren (nth [0, 1, 2, 3, 4, 6]) (ak2 b vs ars d j); unfold ak2; rw [bE4 (m := k) hd (by omega) (by omega) (by omega) (by omega)] <;> rfl) (by show _ = mR [0, 1, 2, 3, 4, 6] (ak1 b vs ars bd d j); unfold ak1; rw [bE4 (m := k) hd (by omega) (by omega) (by omega) (by omega)] <;> rfl)
     · refine wp_skip (b5 (wp_seq (wp_block (E5 G (o9 6 (rg 5) (ih ((drK b (vs.length : Int) (ars.length : Int) d j (i8 (nm b (j + 1) D9) - k).toNat).snd) (n - 1) (by omega) (by omega) (bE7 (by omega) (by omega) (by omega) (by omega) r1))) [0, 1, 0, 0, 0, 16, 60, 124, 255, 511, 1023] [0, 1, 2, 3, 4, 5, 6, 7, 73] [.box [.ref 1, iA (C7 b (vs.length : Int) (ars.length : Int) d (ap1 b vs ars d j k).snd).snd], dY b, dI vs, dI ars, dT bd, .box (pL 2), ax3, .box [iA (nm b (j + 1) D9), iA 0, .tref 8], .tree (D.exprs ((ap1 b vs ars d j k).fst ++ [m7 (C7 b (vs.length : Int) (ars.length : Int) d (ap1 b vs ars d j k).snd).fst]))] (T9 n [(8, .ptr 7 0), (9, iA k)]) ((wO (n - 1)) :: (aP ((drK b (vs.length : Int) (ars.length : Int) d j (i8 (nm b (j + 1) D9) - k).toNat).fst.length + 1) 40 [])) ⟨oW (by omega), (aK (by omega) bM6)⟩ fun G => j8 (b5 (C8 G c4 [(9, iA (k - 1))] [wO (k - 1)] (o1 (by omega)) fun G => b5 ?_)))))); exact N5 G (k - 1) (by omega) (by omega) (rg 9) (by have e1 : ((drK b (vs.length : Int) (ars.length : Int) d j (i8 (nm b (j + 1) D9) - (k - 1)).toNat).snd : Int) = ((C7 b (vs.length : Int) (ars.length : Int) d (drK b (vs.length : Int) (ars.length : Int) d j (i8 (nm b (j + 1) D9) - k).toNat).snd).snd) := (by rw [a05 (by omega) (by omega)]; done); have e2 : ((drK b (vs.length : Int) (ars.length : Int) d j (i8 (nm b (j + 1) D9) - (k - 1)).toNat).fst : List b7) = ((drK b (vs.length : Int) (ars.length : Int) d j (i8 (nm b (j + 1) D9) - k).toNat).fst ++ [m7 (C7 b (vs.length : Int) (ars.length : Int) d (drK b (vs.length : Int) (ars.length : Int) d j (i8 (nm b (j + 1) D9) - k).toNat).snd).fst]) := (by rw [a05 (by omega) (by omega)]; (simp only [b7.eta]; done)); (first | rw [e1, e2] | simp only [e1, e2]) <;> rfl)
    ·
     refine wp_seq (wp_seq (d9 G c4 [(28, bA ((ars.length : Int) == 0))] fun G => b5 (I7 G (fun h3 q3 => ?_) fun h3 q3 => ?_)))
     · refine wp_skip (b5 (wp_seq (C6 G (m0 (f6 5 [0, 1] (z4 b (j + 1 + 1) ((ars.length : Int)) (by omega) (by omega)) (f6 8 (rg 5) (aj4 b (j + 1 + 1 + 1) vs ars bd (by omega) (by omega)) l9)) fz []) [0, 0, 0, 4, 12, 30, 0, 0, 254, 510, 1023, 2047] [0, 1, 2, 3, 4, 5, 6, 79] [.box [.ref 1, iA (j + 1 + 1 + 1 + 2)], dY b, dI vs, dI ars, dT bd, .box (pL 2), .box [iA (nm b (j + 1) D9), iA (pk b (j + 1 + 1) (ars.length : Int)), .tref 7], .tree (D.exprs [m7 (j3 b (vs.length : Int) (j + 1 + 1 + 1))])] (T9 n [(7, iA (nm b (j + 1) D9))]) fun G => b5 (wp_ret (d7 ?_))))); exact U5 (.agg [iA (nm b (j + 1) D9), iA (pk b (j + 1 + 1) (ars.length : Int)), .tref 7]) G [0, 1, 2, 3, 4, 7] (by show _ = AV.ren (nth [0, 1, 2, 3, 4, 7]) (ak2 b vs ars d j); unfold ak2; have e1 : ((C7 b (vs.length : Int) (ars.length : Int) (d + 1) j).fst.kind : Int) = (nm b (j + 1) D9) := (by rw [bl6 hd (by omega) (by omega) (by omega)]; (simp only [Int.add_assoc, Int.reduceAdd, b7.eta, b7.kids, b7.kind, b7.value]; omega)); have e2 : ((C7 b (vs.length : Int) (ars.length : Int) (d + 1) j).fst.value : Int) = (pk b (j + 1 + 1) (ars.length : Int)) := (by rw [bl6 hd (by omega) (by omega) (by omega)]; (simp only [Int.add_assoc, Int.reduceAdd, b7.eta, b7.kids, b7.kind, b7.value]; done)); (first | rw [e1, e2] | simp only [e1, e2]) <;> rfl) (by show _ = mR [0, 1, 2, 3, 4, 7] (ak1 b vs ars bd d j); unfold ak1; have e1 : ((C7 b (vs.length : Int) (ars.length : Int) (d + 1) j).snd : Int) = (j + 1 + 1 + 1 + 2) := (by rw [bl6 hd (by omega) (by omega) (by omega)]; (simp only [Int.add_assoc, Int.reduceAdd, b7.eta, b7.kids, b7.kind, b7.value]; done)); have e2 : ((C7 b (vs.length : Int) (ars.length : Int) (d + 1) j).fst.kids : List b7) = ([m7 (j3 b (vs.length : Int) (j + 1 + 1 + 1))]) := (by rw [bl6 hd (by omega) (by omega) (by omega)]; show [_] = _; simp only [Int.add_assoc, Int.reduceAdd, b7.eta]; done); (first | rw [e1, e2] | simp only [e1, e2]) <;> rfl)
     · refine wp_seq (e6 G (o9 2 (rg 5) (aj4 b (j + 1 + 1) vs ars bd (by omega) (by omega))) [0, 1, 2, 3, 4, 5, 6, 23] [.box [.ref 1, iA (j + 1 + 1 + 2)], dY b, dI vs, dI ars, dT bd, .box (pL 2), .box [iA (j3 b (vs.length : Int) (j + 1 + 1)).kind, iA (j3 b (vs.length : Int) (j + 1 + 1)).value, .tref 7], .tree (D.exprs (j3 b (vs.length : Int) (j + 1 + 1)).kids)] (T9 n [(7, iA (nm b (j + 1) D9))]) fun G => b5 (wp_ret (d7 (d7 ?_)))); exact U5 (.agg [iA (j3 b (vs.length : Int) (j + 1 + 1)).kind, iA (j3 b (vs.length : Int) (j + 1 + 1)).value, .tref 7]) G [0, 1, 2, 3, 4, 7] (by show _ = AV.ren (nth [0, 1, 2, 3, 4, 7]) (ak2 b vs ars d j); unfold ak2; have e1 : ((C7 b (vs.length : Int) (ars.length : Int) (d + 1) j).fst.kind : Int) = ((j3 b (vs.length : Int) (j + 1 + 1)).kind) := (by rw [bl7 hd (by omega) (by omega) (by omega)]; (simp only [Int.add_assoc, Int.reduceAdd, b7.eta, b7.kids, b7.kind, b7.value]; done)); have e2 : ((C7 b (vs.length : Int) (ars.length : Int) (d + 1) j).fst.value : Int) = ((j3 b (vs.length : Int) (j + 1 + 1)).value) := (by rw [bl7 hd (by omega) (by omega) (by omega)]; (simp only [Int.add_assoc, Int.reduceAdd, b7.eta, b7.kids, b7.kind, b7.value]; done)); (first | rw [e1, e2] | simp only [e1, e2]) <;> rfl) (by show _ = mR [0, 1, 2, 3, 4, 7] (ak1 b vs ars bd d j); unfold ak1; have e1 : ((C7 b (vs.length : Int) (ars.length : Int) (d + 1) j).snd : Int) = (j + 1 + 1 + 2) := (by rw [bl7 hd (by omega) (by omega) (by omega)]; (simp only [Int.add_assoc, Int.reduceAdd, b7.eta, b7.kids, b7.kind, b7.value]; done)); have e2 : ((C7 b (vs.length : Int) (ars.length : Int) (d + 1) j).fst : b7) = (j3 b (vs.length : Int) (j + 1 + 1)) := (by rw [bl7 hd (by omega) (by omega) (by omega)]; (simp only [Int.add_assoc, Int.reduceAdd, b7.eta, b7.kids, b7.kind, b7.value]; done)); (first | rw [e1, e2] | simp only [e1, e2]) <;> rfl)
   · refine wp_seq (e6 G (o9 2 (rg 5) (aj4 b (j + 1) vs ars bd (by omega) (by omega))) [0, 1, 2, 3, 4, 5, 6, 23] [.box [.ref 1, iA (j + 1 + 2)], dY b, dI vs, dI ars, dT bd, .box (pL 2), .box [iA (j3 b (vs.length : Int) (j + 1)).kind, iA (j3 b (vs.length : Int) (j + 1)).value, .tref 7], .tree (D.exprs (j3 b (vs.length : Int) (j + 1)).kids)] (T9 n []) fun G => b5 (wp_ret (d7 ?_))); exact U5 (.agg [iA (j3 b (vs.length : Int) (j + 1)).kind, iA (j3 b (vs.length : Int) (j + 1)).value, .tref 7]) G [0, 1, 2, 3, 4, 7] (by show _ = AV.ren (nth [0, 1, 2, 3, 4, 7]) (ak2 b vs ars d j); unfold ak2; rw [bv8 hd (by omega)] <;> rfl) (by show _ = mR [0, 1, 2, 3, 4, 7] (ak1 b vs ars bd d j); unfold ak1; have e1 : ((C7 b (vs.length : Int) (ars.length : Int) (d + 1) j).snd : Int) = (j + 1 + 2) := (by rw [bv8 hd (by omega)]; (simp only [Int.add_assoc, Int.reduceAdd, b7.eta, b7.kids, b7.kind, b7.value]; done)); rw [e1, bv8 hd (by omega)] <;> rfl)
  · have q0 := N9 h0; exact False.elim (by omega)
theorem bg2 (b : List UInt8) (vs ars : List Int) (bd : List b6) : ∀ (d : Nat) (j n : Int), d ≤ 100 → n = d → 0 ≤ j → j + cE d ≤ 800000000 → d8.ok Try.prog (drC b vs ars bd d j n)
 | 0, j, n, _, hn, r0, r1 => aX6 b vs ars bd 0 (by omega) j n hn r0 (by have := au8 0; omega)
 | 1, j, n, _, hn, r0, r1 => aX6 b vs ars bd 1 (by omega) j n hn r0 (by have := au8 1; omega)
 | d + 2, j, n, hd, hn, r0, r1 => bi9 b vs ars bd (d + 1) (by omega) (by omega) (fun j n => bg2 b vs ars bd (d + 1) j n (by omega)) j n hn r0 r1
abbrev smC (b : List UInt8) (vs ars : List Int) (bd : List b6) (j : Int) : d8 := ⟨95, [.ptr 0 0, pA 2], dwS b j vs ars bd, dwS b (m9 b vs.length ars.length j).2 vs ars bd ++ exO (m9 b vs.length ars.length j).1, exA (m9 b vs.length ars.length j).1 5⟩
section
variable {b : List UInt8} {nv na : Nat} {j : Int}
theorem bz1 (h : f5 nv na (C7 b nv na (nm b j dpL).toNat (j + 1)).1 = true) : m9 b nv na j = C7 b nv na (nm b j dpL).toNat (j + 1) := if_pos h
theorem bz0 (h : f5 nv na (C7 b nv na (nm b j dpL).toNat (j + 1)).1 = false) : m9 b nv na j = (j3 b nv (C7 b nv na (nm b j dpL).toNat (j + 1)).2, (C7 b nv na (nm b j dpL).toNat (j + 1)).2 + 2) := if_neg (by rw [h]; decide)
theorem bG6 (r0 : 0 ≤ j) (r1 : j ≤ 700000000) : cE (nm b j dpL).toNat ≤ 364 := cE4 (dp4 b r0 (by omega)).2.2
end
abbrev P6 (b : List UInt8) (vs : List Int) (ars : List Int) (j : Int) := C7 b (vs.length : Int) (ars.length : Int) (nm b j dpL).toNat (j + 1)
theorem T5 (b : List UInt8) (vs ars : List Int) (bd : List b6) (j : Int) (r0 : 0 ≤ j) (r1 : j ≤ 700000000) : d8.ok Try.prog (smC b vs ars bd j) := by
 have hdr := fun (i n : Int) => bg2 b vs ars bd (nm b j dpL).toNat i n (bN5 (dp4 b r0 (by omega)).2.2 (by omega))
 refine x6 19 Try.func95 [.box [.ref 1, iA j], dY b, dI vs, dI ars, dT bd] [(0, .ptr 0 0), (1, pA 2)] fun G => ?_; have hd4 := bG6 (b := b) r0 r1; have hdb := aL9 b vs.length ars.length (nm b j dpL).toNat (j + 1); refine wp_seq (e6 G c4 [0, 1, 2, 3, 4, 5, 13] [.box [.ref 1, iA j], dY b, dI vs, dI ars, dT bd, .box (pL 2), .box [iA 0, iA 0, .v (.slice none 0 0)]] [(0, .ptr 0 0), (3, .ptr 5 0), (4, .ptr 6 0)] fun G => b5 (wp_seq (C6 G (m0 (f6 4 [0, 1, 31] (d8.lend (F7 b j dpL (List.cons_ne_nil _ _) (by assumption) (by omega)) [.no, .no, .row 3]) (f6 5 (rg 5) (hdr (j + 1) (nm b j dpL) (bv9 b (by omega) (by omega)) (by omega) (by omega)) l9)) fz []) [0, 0, 0, 0, 12, 31, 0, 127] [0, 1, 2, 3, 4, 5, 6, 47, 55] [.box [.ref 1, iA (P6 b vs ars j).snd], dY b, dI vs, dI ars, dT bd, .box (pL 2), .box [iA 0, iA 0, .v (.slice none 0 0)], .tree (D.exprs (P6 b vs ars j).fst.kids), .box [iA (P6 b vs ars j).fst.kind, iA (P6 b vs ars j).fst.value, .tref 7]] [(0, .ptr 0 0), (3, .ptr 5 0), (4, .ptr 6 0), (5, .ptr 8 0)] fun G => b5 (wp_seq (wp_seq (d9 G (o9 2 [2, 3, 4, 7] (d8.lend (aU3 vs ars bd ((C7 b (vs.length : Int) (ars.length : Int) (nm b j dpL).toNat (j + 1)).fst)) [.no, .no, .no, .tree])) [(14, bA (f5 vs.length ars.length (P6 b vs ars j).fst))] fun G => b5 (rcB (b := f5 vs.length ars.length (C7 b (vs.length : Int) (ars.length : Int) (nm b j dpL).toNat (j + 1)).fst) G (fun h0 => ?_) fun h0 => ?_)))))))
 ·refine wp_skip (b5 (wp_seq (e6 G (o9 2 (rg 5) (aj4 b ((C7 b (vs.length : Int) (ars.length : Int) (nm b j dpL).toNat (j + 1)).snd) vs ars bd (by omega) (by omega))) [0, 1, 2, 3, 4, 6, 25] [.box [.ref 1, iA ((P6 b vs ars j).snd + 2)], dY b, dI vs, dI ars, dT bd, .box [iA (j3 b (vs.length : Int) (P6 b vs ars j).snd).kind, iA (j3 b (vs.length : Int) (P6 b vs ars j).snd).value, .tref 6], .tree (D.exprs (j3 b (vs.length : Int) (P6 b vs ars j).snd).kids)] [(4, .ptr 5 0)] fun G => b5 (wp_ret ?_)))); exact U5 (.agg [iA (j3 b (vs.length : Int) (C7 b (vs.length : Int) (ars.length : Int) (nm b j dpL).toNat (j + 1)).snd).kind, iA (j3 b (vs.length : Int) (C7 b (vs.length : Int) (ars.length : Int) (nm b j dpL).toNat (j + 1)).snd).value, .tref 6]) G [0, 1, 2, 3, 4, 6] (by show _ = AV.ren (nth [0, 1, 2, 3, 4, 6]) (.agg [iA (m9 b vs.length ars.length j).fst.kind, iA (m9 b vs.length ars.length j).fst.value, .tref 5]); rw [bz0 (by with_reducible assumption)] <;> rfl) (by show _ = mR [0, 1, 2, 3, 4, 6] [.box [.ref 1, iA (m9 b vs.length ars.length j).snd], dY b, dI vs, dI ars, dT bd, .tree (D.exprs (m9 b vs.length ars.length j).fst.kids)]; rw [bz0 (by with_reducible assumption)] <;> rfl)
 ·refine wp_seq (e6 G c4 (rg 8) [.box [.ref 1, iA (P6 b vs ars j).snd], dY b, dI vs, dI ars, dT bd, .box (pL 2), .box [iA (P6 b vs ars j).fst.kind, iA (P6 b vs ars j).fst.value, .tref 7], .tree (D.exprs (P6 b vs ars j).fst.kids)] [(0, .ptr 0 0), (3, .ptr 5 0), (4, .ptr 6 0)] fun G => b5 (wp_ret (d7 ?_))); exact U5 (.agg [iA (C7 b (vs.length : Int) (ars.length : Int) (nm b j dpL).toNat (j + 1)).fst.kind, iA (C7 b (vs.length : Int) (ars.length : Int) (nm b j dpL).toNat (j + 1)).fst.value, .tref 7]) G [0, 1, 2, 3, 4, 7] (by show _ = AV.ren (nth [0, 1, 2, 3, 4, 7]) (.agg [iA (m9 b vs.length ars.length j).fst.kind, iA (m9 b vs.length ars.length j).fst.value, .tref 5]); rw [bz1 (by with_reducible assumption)] <;> rfl) (by show _ = mR [0, 1, 2, 3, 4, 7] [.box [.ref 1, iA (m9 b vs.length ars.length j).snd], dY b, dI vs, dI ars, dT bd, .tree (D.exprs (m9 b vs.length ars.length j).fst.kids)]; rw [bz1 (by with_reducible assumption)] <;> rfl)
end Go.Proofs.Ytgmhmijcnlfmfaa
