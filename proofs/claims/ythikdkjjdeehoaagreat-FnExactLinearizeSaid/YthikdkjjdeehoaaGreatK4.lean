/-
  Texts of this claim, part 4: what the functions on the way do, and plain laws. Conditions: as each statement says.
-/
import Derived.WalkSpells
import Derived.Lib.SliceRun
import Derived.Test.YthikdkjjdeehoaaGreatK3
set_option maxRecDepth 100000
set_option maxHeartbeats 16000000
open Bool renaming and_eq_false_iff → bH3, and_eq_true → bE9, and_eq_true_iff → bH4, not_eq_false' → bG2, not_eq_true' → bF9
open Inhabited renaming default → bE8
open List renaming all_eq_true → bG1, eq_nil_of_length_eq_zero → bI1, getD_eq_getElem?_getD → bF4, getElem?_append_left → bG9, getElem?_append_right → bH8, getElem?_eq_getElem → bF1, getElem?_eq_none → bG7, getElem?_eq_some_iff → bG0, getElem_mem → bG5, length_append → bF2, length_cons → bF0, length_nil → bF5, map_cons → bI2, mem_append → bH6, mem_cons → bI7, mem_cons_of_mem → bH2, mem_cons_self → bG8, mem_of_getElem? → bG4, mem_singleton → bH9, range → bG6, replicate → bI4, take → bG3, take_of_length_le → bF8
open Nat renaming le_refl → bF7, le_trans → bH0, lt_of_lt_of_le → bH5, lt_or_ge → bI0, zero_le → bH1
open Option renaming isSome_iff_exists → bI6
open True renaming intro → bF3

namespace Go.Proofs.YthikdkjjdeehoaaGreat
set_option linter.unusedVariables false
set_option linter.unusedSimpArgs false
open Go Go.RowKit
def F7 (F : Nat → b6 → Int × Nat) : Nat → List b6 → Int × Nat
 | c, [] => (0, c)
 | c, s :: r => if (F c s).1 = 0 then F7 F (F c s).2 r else F c s
def L9 (p : b9) (s : b6) (pc : Int) : Int := if s.kind = 3 then m6 pc (m8 p s.value) else pc
def stC (p : b9) (strict : Bool) : Nat → Int → Nat → b6 → Int × Nat
  | 0, _, c, _ => (0, c)
  | d + 1, pc, c, s => if T7 p s pc strict = 0 then
      (if (F7 (stC p strict d (L9 p s pc)) (c + 1) s.body).1 = 0 then F7 (stC p strict d (L9 p s pc)) (F7 (stC p strict d (L9 p s pc)) (c + 1) s.body).2 s.els
       else F7 (stC p strict d (L9 p s pc)) (c + 1) s.body)
    else (T7 p s pc strict, c)
abbrev A3 (p : b9) (strict : Bool) (d : Nat) (pc : Int) (c : Nat) (ss : List b6) : Int × Nat := F7 (stC p strict d pc) c ss
theorem ae7 (F : Nat → b6 → Int × Nat) : ∀ (a b : List b6) (c : Nat), F7 F c (a ++ b) = if (F7 F c a).1 = 0 then F7 F (F7 F c a).2 b else F7 F c a
 | [], b, c => by simp [F7]
 | x :: r, b, c => by
  simp only [List.cons_append, F7]
  by_cases h : (F c x).1 = 0
  ·simp only [h, if_true]; exact ae7 F r b _
  ·simp [h]
theorem Y4 {F : Nat → b6 → Int × Nat} {c k : Nat} {ss : List b6} (h : (F7 F c (ss.take k)).1 = 0) (hk : k < ss.length) : F7 F c (ss.take (k + 1)) = F (F7 F c (ss.take k)).2 (ss.getD k bE8) := by
 rw [p7 _ _ hk, ae7, if_pos h, A5 hk]
 simp only [F7]
 split
 ·rename_i h; exact Prod.ext h.symm rfl
 ·rfl
theorem H9 {F : Nat → b6 → Int × Nat} {c k : Nat} {ss : List b6} (h : (F7 F c (ss.take k)).1 = 0) (hk : k < ss.length) (hf : ¬ (F (F7 F c (ss.take k)).2 (ss.getD k bE8)).1 = 0) : F7 F c ss = F (F7 F c (ss.take k)).2 (ss.getD k bE8) := by
 conv => lhs; rw [← List.take_append_drop (k + 1) ss]
 rw [ae7, Y4 h hk, if_neg hf]
theorem aE4 {F : Nat → b6 → Int × Nat} {c k : Nat} {ss : List b6} (hk : ss.length ≤ k) : F7 F c ss = F7 F c (ss.take k) := by rw [bF8 hk]
theorem ar4 {F : Nat → b6 → Int × Nat} (hF : ∀ c s, (F c s).2 ≤ c + nS s) : ∀ (ss : List b6) (c : Nat), (F7 F c ss).2 ≤ c + P7 ss
 | [], c => by simp [F7]
 | s :: r, c => by
  simp only [F7, P7]
  have h1 := hF c s
  have h2 := ar4 hF r (F c s).2
  split <;> omega
theorem aZ4 {p : b9} {strict : Bool} : ∀ (d : Nat) (pc : Int) (c : Nat) (s : b6), (stC p strict d pc c s).2 ≤ c + nS s
 | 0, _, c, s => by simp [stC]
 | d + 1, pc, c, s => by
  have hs := an2 s
  have h1 := ar4 (aZ4 (p := p) (strict := strict) d (L9 p s pc)) s.body (c + 1)
  have h2 := ar4 (aZ4 (p := p) (strict := strict) d (L9 p s pc)) s.els (F7 (stC p strict d (L9 p s pc)) (c + 1) s.body).2
  rw [stC]
  split
  ·split <;> omega
  ·simp only; omega
theorem a34 {p : b9} {strict : Bool} {d : Nat} {pc : Int} {c : Nat} {ss : List b6} : (A3 p strict d pc c ss).2 ≤ c + P7 ss := ar4 (aZ4 d pc) ss c
theorem af6 {nv na d k : Nat} {ss : List b6} (hs : ss.all (l8 nv na (d + 1)) = true) (hk : k < ss.length) : C2 nv na (ss.getD k bE8) = true ∧ (ss.getD k bE8).body.all (l8 nv na d) = true ∧ (ss.getD k bE8).els.all (l8 nv na d) = true := by
 have h := bG1.1 hs _ (bG5 hk)
 rw [O2, bE9, bE9] at h
 rw [A5 hk]; exact h
theorem aW9 {k : Nat} {ss : List b6} (hk : k < ss.length) : P7 (ss.take k) + (1 + P7 (ss.getD k bE8).body + P7 (ss.getD k bE8).els) ≤ P7 ss := by
 have h1 := ba0 hk
 have h2 := aT2 ss (k + 1)
 rw [an2] at h1
 rw [A5 hk]; omega
section
variable {p : b9} {strict : Bool} {d c : Nat} {pc : Int} {s : b6}
theorem ax7 (h : ¬ T7 p s pc strict = 0) : stC p strict (d + 1) pc c s = (T7 p s pc strict, c) := by rw [stC, if_neg h]
theorem T4 {x : Int} (h : T7 p s pc strict = 0) (hx : L9 p s pc = x) (h2 : ¬ (A3 p strict d x (c + 1) s.body).1 = 0) : stC p strict (d + 1) pc c s = A3 p strict d x (c + 1) s.body := by
 subst hx; rw [stC, if_pos h, if_neg h2]
theorem N7 {x : Int} (h : T7 p s pc strict = 0) (hx : L9 p s pc = x) (h2 : (A3 p strict d x (c + 1) s.body).1 = 0) : stC p strict (d + 1) pc c s = A3 p strict d x (A3 p strict d x (c + 1) s.body).2 s.els := by
 subst hx; rw [stC, if_pos h, if_pos h2]
theorem ab0 (k : s.kind = 3) : L9 p s pc = m6 pc (m8 p s.value) := if_pos k
theorem aa9 (k : ¬ s.kind = 3) : L9 p s pc = pc := if_neg k
end
theorem aF5 {p : b9} {strict : Bool} {d k c : Nat} {pc : Int} {ss : List b6} (hc : c + P7 ss ≤ 4000000) (hk : k < ss.length) : (A3 p strict (d + 1) pc c (ss.take k)).2 + 1 + P7 (ss.getD k bE8).body ≤ 4000000 := by
 have h1 := aW9 (k := k) (ss := ss) hk
 have h2 := a34 (p := p) (strict := strict) (d := d + 1) (pc := pc) (c := c) (ss := ss.take k)
 omega
theorem aJ8 {p : b9} {strict : Bool} {d k c : Nat} {pc x : Int} {ss : List b6} (hc : c + P7 ss ≤ 4000000) (hk : k < ss.length) : (A3 p strict d x ((A3 p strict (d + 1) pc c (ss.take k)).2 + 1) (ss.getD k bE8).body).2 + P7 (ss.getD k bE8).els ≤ 4000000 := by
 have h1 := aW9 (k := k) (ss := ss) hk
 have h2 := a34 (p := p) (strict := strict) (d := d + 1) (pc := pc) (c := c) (ss := ss.take k)
 have h3 := a34 (p := p) (strict := strict) (d := d) (pc := x) (c := (A3 p strict (d + 1) pc c (ss.take k)).2 + 1) (ss := (ss.getD k bE8).body)
 omega
theorem bq5 {p : b9} {strict : Bool} {d k c : Nat} {pc : Int} {ss : List b6} (hc : c + P7 ss ≤ 4000000) (hk : k < ss.length) : IntKind.i64.wrap (((A3 p strict (d + 1) pc c (ss.take k)).2 : Int) + 1) = ((A3 p strict (d + 1) pc c (ss.take k)).2 : Int) + 1 := by
 have h1 := aF5 (p := p) (strict := strict) (d := d) (pc := pc) hc hk
 exact w64 (by omega) (by omega)
abbrev bq4 (p : b9) (d : Nat) (ss : List b6) (pc : Int) (c : Nat) (strict : Bool) : p6 := O8 201 [pA 0, .ref 3, iA pc, iA c, bA strict] (pS p ++ [.dat (.stmts ss)]) (.tup [iA (A3 p strict d pc c ss).1, iA (A3 p strict d pc c ss).2])
theorem a32 (p : b9) (pc : Int) (c : Nat) (strict : Bool) : p6.ok Tryz.prog (bq4 p 0 [] pc c strict) := by
 refine M6 74 Tryz.func201 [dI p.vars, dI p.arrays, dT p.body, dT []] [(0, pA 0), (1, .ref 3), (2, iA pc), (3, iA c), (4, bA strict)] fun G => ?_; refine wp_seq (t2 G l9 (rg 5) [dI p.vars, dI p.arrays, dT p.body, dT [], .box (pL 0)] [(1, .ref 3), (2, iA pc), (3, iA c), (4, bA strict), (5, .ptr 4 0), (10, iA 0), (11, iA 0)] fun G => b7 (wp_seq (wp_seq (S9 G l9 [(1, .ref 3), (2, iA pc), (3, iA c), (4, bA strict), (5, .ptr 4 0), (10, iA 0), (11, iA 0), (12, iA 0)] fun G => b7 (wp_block ?_))))); refine C4 (κ := Nat) (fun k => k = 0) (fun k => 0) (fun k => [dI p.vars, dI p.arrays, dT p.body, dT [], .box (pL 0)]) (fun k => [(1, .ref 3), (2, iA pc), (3, iA c), (4, bA strict), (5, .ptr 4 0), (10, iA 0), (11, iA 0), (12, iA 0)]) 0 (by kernel_rfl) (A6.at G _ _) ?_; clear G; intro k ρ a w hp G; refine wp_seq (wp_seq (s4 G l9 [(19, bA false)] fun G => b7 (rF G false (by kernel_rfl) (wp_exit (C0 (C0 (A9 (b7 (wp_seq (t2 G l9 (rg 4) [dI p.vars, dI p.arrays, dT p.body, dT []] [(10, iA 0), (11, iA c)] fun G => b7 (wp_ret ?_))))))))))); exact W2 G (rg 4)
abbrev aj8 (p : b9) (d : Nat) (strict : Bool) (ss : List b6) (pc : Int) (c : Nat) (k : Nat) := A3 p strict d (m6 pc (m8 p (ss.getD k bE8).value)) ((A3 p strict (d + 1) pc c (bG3 k ss)).snd + 1) (ss.getD k bE8).body
abbrev Z2 (p : b9) (d : Nat) (strict : Bool) (ss : List b6) (pc : Int) (c : Nat) (k : Nat) := A3 p strict d pc ((A3 p strict (d + 1) pc c (bG3 k ss)).snd + 1) (ss.getD k bE8).body
abbrev aQ3 (p : b9) (d : Nat) (strict : Bool) (ss : List b6) (pc : Int) (c : Nat) (k : Nat) := A3 p strict d (m6 pc (m8 p (ss.getD k bE8).value)) (aj8 p d strict ss pc c k).snd (ss.getD k bE8).els
abbrev aH4 (strict : Bool) (k : Nat) (r0 : List (Nat × AV)) : List (Nat × AV) := (4, bA strict) :: (5, .ptr 4 0) :: (10, iA 0) :: (11, iA 0) :: (12, iA (k : Int)) :: r0
abbrev az8 (p : b9) (ss : List b6) (r0 : List It) : List It := dI p.vars :: dI p.arrays :: dT p.body :: dT ss :: .box (pL 0) :: r0
theorem a30 (p : b9) (d : Nat) (strict : Bool) (ih : ∀ (ss : List b6) (pc : Int) (c : Nat), ss.all (l8 p.vars.length p.arrays.length d) = true → c + P7 ss ≤ 4000000 → p6.ok Tryz.prog (bq4 p d ss pc c strict))
    (ss : List b6) (pc : Int) (c : Nat) (hs : ss.all (l8 p.vars.length p.arrays.length (d + 1)) = true) (hc : c + P7 ss ≤ 4000000) : p6.ok Tryz.prog (bq4 p (d + 1) ss pc c strict) := by
  refine M6 74 Tryz.func201 [dI p.vars, dI p.arrays, dT p.body, dT ss] [(0, pA 0), (1, .ref 3), (2, iA pc), (3, iA c), (4, bA strict)] fun G => ?_; have hlen : ss.length ≤ 9223372036854775807 := G.len 3 (d := .stmts ss) (by kernel_rfl); refine wp_seq (t2 G l9 (rg 5) (az8 p ss []) [(1, .ref 3), (2, iA pc), (3, iA c), (4, bA strict), (5, .ptr 4 0), (10, iA 0), (11, iA 0)] fun G => b7 (wp_seq (wp_seq (S9 G l9 [(1, .ref 3), (2, iA pc), (3, iA c), (4, bA strict), (5, .ptr 4 0), (10, iA 0), (11, iA 0), (12, iA 0)] fun G => b7 (wp_block ?_))))); refine C4 (κ := Nat) (fun k => k ≤ ss.length ∧ (A3 p strict (d + 1) pc c (ss.take k)).1 = 0) (fun k => ss.length - k) (fun k => [dI p.vars, dI p.arrays, dT p.body, dT ss, .box (pL 0)]) (fun k => [(1, .ref 3), (2, iA pc), (3, iA (A3 p strict (d + 1) pc c (ss.take k)).2), (4, bA strict), (5, .ptr 4 0), (10, iA 0), (11, iA 0), (12, iA k)]) 0 (⟨bH1 _, rfl⟩) (A6.at G _ _) ?_; clear G; intro k ρ a w hp G; replace G := A6.at G (az8 p ss []) ((1, .ref 3) :: (2, iA pc) :: (3, iA ((A3 p strict (d + 1) pc c (bG3 k ss)).snd : Int)) :: (aH4 strict k [])); refine wp_seq (wp_seq (s4 G l9 [(19, bA (decide ((k : Int) < ss.length)))] fun G => b7 (rcD G (fun h0 q0 => ?_) fun h0 q0 => ?_)))
  · refine wp_exit (C0 (C0 (A9 (b7 (wp_seq (t2 G l9 (rg 4) [dI p.vars, dI p.arrays, dT p.body, dT ss] [(10, iA 0), (11, iA ((A3 p strict (d + 1) pc c (bG3 k ss)).snd : Int))] fun G => b7 (wp_ret ?_))))))); exact rxv (.tup [iA 0, iA ((A3 p strict (d + 1) pc c (bG3 k ss)).snd : Int)]) G (rg 4) (by have e1 : ((A3 p strict (d + 1) pc c ss).fst : Int) = (0) := (by rw [A3, aE4 (k := k) (by omega)]; exact hp.2); have e2 : (((A3 p strict (d + 1) pc c ss).snd : Int) : Int) = (((A3 p strict (d + 1) pc c (bG3 k ss)).snd : Int)) := (by rw [A3, aE4 (k := k) (by omega)]); (first | rw [e1, e2] | simp only [e1, e2]) <;> rfl)
  ·
   refine wp_skip (b7 (wp_seq (wp_block (wp_seq (rA1 G l9 [0, 1, 2, 3, 4, 29, 30, 31, 32, 37] (az8 p ss [dE (ss.getD k bE8).index.kids, dE (ss.getD k bE8).value.kids, dT (ss.getD k bE8).body, dT (ss.getD k bE8).els, .box (sL (ss.getD k bE8) 5)]) ((1, .ref 3) :: (2, iA pc) :: (3, iA ((A3 p strict (d + 1) pc c (bG3 k ss)).snd : Int)) :: (aH4 strict k [(13, .ptr 9 0)])) (iX k k ss.length []) (iK (by have hp := hp; omega) bF3) fun G => b7 (wp_seq (s4 G (G7 4 [0, 1, 2, 5, 6, 7, 8] (bq1 p (ss.getD k bE8) pc strict ((af6 hs (by omega)).1))) [(14, iA (T7 p (ss.getD k bE8) pc strict))] fun G => b7 (wp_seq (wp_seq (s4 G l9 [(32, bA (T7 p (ss.getD k bE8) pc strict != 0))] fun G => b7 (rcN G (fun h1 q1 => ?_) fun h1 q1 => ?_)))))))))))
   ·
    refine wp_skip (b7 (wp_seq (N8 G l9 [(3, iA (((A3 p strict (d + 1) pc c (bG3 k ss)).snd : Int) + 1))] [wO (((A3 p strict (d + (1 : Nat)) pc c (bG3 k ss)).snd : Int) + 1)] ⟨(bq5 hc (by omega)), bF3⟩ fun G => b7 (wp_seq (s4 G l9 [(15, iA pc)] fun G => b7 (wp_seq (wp_seq (s4 G l9 [(40, bA ((ss.getD k bE8).kind == 3))] fun G => b7 (rcE G (fun h2 q2 => ?_) fun h2 q2 => ?_)))))))))
    ·
     refine wp_skip (b7 (wp_seq (s4 G (G7 6 [0, 1, 2, 7] (ih ((ss.getD k bE8).body) pc ((A3 p strict (d + 1) pc c (bG3 k ss)).snd + 1) ((af6 hs (by omega)).2.1) (aF5 hc (by omega)))) [(3, iA ((Z2 p d strict ss pc c k).snd : Int)), (14, iA (Z2 p d strict ss pc c k).fst)] fun G => b7 (wp_seq (wp_seq (s4 G l9 [(58, bA ((Z2 p d strict ss pc c k).fst == 0))] fun G => b7 (rcE (u := ((A3 p strict d pc ((A3 p strict (d + (1 : Nat)) pc c (bG3 k ss)).snd + (1 : Nat)) (ss.getD k bE8).body).fst)) (v := (0 : Int)) G (fun h3 q3 => ?_) fun h3 q3 => ?_)))))))
     ·
      refine wp_skip (b7 (wp_seq (t2 G l9 (rg 5) (az8 p ss []) ((1, .ref 3) :: (2, iA pc) :: (3, iA ((Z2 p d strict ss pc c k).snd : Int)) :: (aH4 strict k [(14, iA (Z2 p d strict ss pc c k).fst), (70, bA ((Z2 p d strict ss pc c k).fst != 0))])) fun G => b7 ?_))); cases h4 : ((A3 p strict d pc ((A3 p strict (d + (1 : Nat)) pc c (bG3 k ss)).snd + (1 : Nat)) (ss.getD k bE8).body).fst != 0)
      · have q4 := bne_eq_false_iff_eq.1 h4; exact False.elim (by omega)
      · have q4 := bne_iff_ne.1 h4; refine rT G _ h4 (wp_seq (s4 G l9 [(10, iA (Z2 p d strict ss pc c k).fst), (11, iA ((Z2 p d strict ss pc c k).snd : Int))] fun G => b7 (wp_ret (R0 (t9 (t9 (R0 (t9 ?_)))))))); exact rxv (.tup [iA (A3 p strict d pc ((A3 p strict (d + 1) pc c (bG3 k ss)).snd + 1) (ss.getD k bE8).body).fst, iA ((A3 p strict d pc ((A3 p strict (d + 1) pc c (bG3 k ss)).snd + 1) (ss.getD k bE8).body).snd : Int)]) G (rg 4) (by have e1 : ((A3 p strict (d + 1) pc c ss).fst : Int) = ((A3 p strict d pc ((A3 p strict (d + 1) pc c (bG3 k ss)).snd + 1) (ss.getD k bE8).body).fst) := (by rw [A3, H9 hp.2 (by omega) (by rw [T4 (by with_reducible assumption) (aa9 (by with_reducible assumption)) (by with_reducible assumption)]; with_reducible assumption), T4 (by with_reducible assumption) (aa9 (by with_reducible assumption)) (by with_reducible assumption)]); have e2 : (((A3 p strict (d + 1) pc c ss).snd : Int) : Int) = (((A3 p strict d pc ((A3 p strict (d + 1) pc c (bG3 k ss)).snd + 1) (ss.getD k bE8).body).snd : Int)) := (by rw [A3, H9 hp.2 (by omega) (by rw [T4 (by with_reducible assumption) (aa9 (by with_reducible assumption)) (by with_reducible assumption)]; with_reducible assumption), T4 (by with_reducible assumption) (aa9 (by with_reducible assumption)) (by with_reducible assumption)]); (first | rw [e1, e2] | simp only [e1, e2]) <;> rfl)
     ·
      refine t2 G (G7 6 [0, 1, 2, 8] (ih ((ss.getD k bE8).els) pc ((Z2 p d strict ss pc c k).snd) ((af6 hs (by omega)).2.2) (aJ8 hc (by omega)))) (rg 5) (az8 p ss []) ((1, .ref 3) :: (2, iA pc) :: (3, iA ((A3 p strict d pc (Z2 p d strict ss pc c k).snd (ss.getD k bE8).els).snd : Int)) :: (aH4 strict k [(14, iA (A3 p strict d pc (Z2 p d strict ss pc c k).snd (ss.getD k bE8).els).fst)])) fun G => b7 (wp_seq (s4 G l9 [(70, bA ((A3 p strict d pc (Z2 p d strict ss pc c k).snd (ss.getD k bE8).els).fst != 0))] fun G => b7 (rcN (u := ((A3 p strict d pc (A3 p strict d pc ((A3 p strict (d + (1 : Nat)) pc c (bG3 k ss)).snd + (1 : Nat)) (ss.getD k bE8).body).snd (ss.getD k bE8).els).fst)) (v := (0 : Int)) G (fun h5 q5 => ?_) fun h5 q5 => ?_)))
      · refine wp_skip (B5 (b7 (N8 G l9 [(12, iA ((k : Int) + 1))] [wO ((k : Int) + 1)] (o1 (by omega)) fun G => b7 ?_))); exact rxn G (k + 1) (⟨by omega, by rw [A3, Y4 hp.2 (by omega), N7 (by with_reducible assumption) (aa9 (by with_reducible assumption)) (by with_reducible assumption)]; with_reducible assumption⟩) (by have hp := hp; omega) (rg 5) (ht := by have e1 : (((A3 p strict (d + 1) pc c (bG3 (k + 1) ss)).snd : Int) : Int) = (((A3 p strict d pc (A3 p strict d pc ((A3 p strict (d + 1) pc c (bG3 k ss)).snd + 1) (ss.getD k bE8).body).snd (ss.getD k bE8).els).snd : Int)) := (by rw [A3, Y4 hp.2 (by omega), N7 (by with_reducible assumption) (aa9 (by with_reducible assumption)) (by with_reducible assumption)]); (first | rw [e1] | simp only [e1]) <;> rfl)
      · refine wp_seq (s4 G l9 [(10, iA (A3 p strict d pc (Z2 p d strict ss pc c k).snd (ss.getD k bE8).els).fst), (11, iA ((A3 p strict d pc (Z2 p d strict ss pc c k).snd (ss.getD k bE8).els).snd : Int))] fun G => b7 (wp_ret (R0 (t9 (t9 (R0 (t9 ?_))))))); exact rxv (.tup [iA (A3 p strict d pc (A3 p strict d pc ((A3 p strict (d + 1) pc c (bG3 k ss)).snd + 1) (ss.getD k bE8).body).snd (ss.getD k bE8).els).fst, iA ((A3 p strict d pc (A3 p strict d pc ((A3 p strict (d + 1) pc c (bG3 k ss)).snd + 1) (ss.getD k bE8).body).snd (ss.getD k bE8).els).snd : Int)]) G (rg 4) (by have e1 : ((A3 p strict (d + 1) pc c ss).fst : Int) = ((A3 p strict d pc (A3 p strict d pc ((A3 p strict (d + 1) pc c (bG3 k ss)).snd + 1) (ss.getD k bE8).body).snd (ss.getD k bE8).els).fst) := (by rw [A3, H9 hp.2 (by omega) (by rw [N7 (by with_reducible assumption) (aa9 (by with_reducible assumption)) (by with_reducible assumption)]; with_reducible assumption), N7 (by with_reducible assumption) (aa9 (by with_reducible assumption)) (by with_reducible assumption)]); have e2 : (((A3 p strict (d + 1) pc c ss).snd : Int) : Int) = (((A3 p strict d pc (A3 p strict d pc ((A3 p strict (d + 1) pc c (bG3 k ss)).snd + 1) (ss.getD k bE8).body).snd (ss.getD k bE8).els).snd : Int)) := (by rw [A3, H9 hp.2 (by omega) (by rw [N7 (by with_reducible assumption) (aa9 (by with_reducible assumption)) (by with_reducible assumption)]; with_reducible assumption), N7 (by with_reducible assumption) (aa9 (by with_reducible assumption)) (by with_reducible assumption)]); (first | rw [e1, e2] | simp only [e1, e2]) <;> rfl)
    ·
     refine s4 G (G7 4 [0, 1, 2, 6] (O6 p ((ss.getD k bE8).value) (A4 (af6 hs (by omega)).1 (by omega)))) [(15, iA (m6 pc (m8 p (ss.getD k bE8).value)))] fun G => b7 (wp_seq (s4 G (G7 6 [0, 1, 2, 7] (ih ((ss.getD k bE8).body) (m6 pc (m8 p (ss.getD k bE8).value)) ((A3 p strict (d + 1) pc c (bG3 k ss)).snd + 1) ((af6 hs (by omega)).2.1) (aF5 hc (by omega)))) [(3, iA ((aj8 p d strict ss pc c k).snd : Int)), (14, iA (aj8 p d strict ss pc c k).fst)] fun G => b7 (wp_seq (wp_seq (s4 G l9 [(58, bA ((aj8 p d strict ss pc c k).fst == 0))] fun G => b7 (rcE (u := ((A3 p strict d (m6 pc (m8 p (ss.getD k bE8).value)) ((A3 p strict (d + (1 : Nat)) pc c (bG3 k ss)).snd + (1 : Nat)) (ss.getD k bE8).body).fst)) (v := (0 : Int)) G (fun h6 q6 => ?_) fun h6 q6 => ?_))))))
     ·
      refine wp_skip (b7 (wp_seq (t2 G l9 (rg 5) (az8 p ss []) ((1, .ref 3) :: (2, iA pc) :: (3, iA ((aj8 p d strict ss pc c k).snd : Int)) :: (aH4 strict k [(14, iA (aj8 p d strict ss pc c k).fst), (70, bA ((aj8 p d strict ss pc c k).fst != 0))])) fun G => b7 ?_))); cases h7 : ((A3 p strict d (m6 pc (m8 p (ss.getD k bE8).value)) ((A3 p strict (d + (1 : Nat)) pc c (bG3 k ss)).snd + (1 : Nat)) (ss.getD k bE8).body).fst != 0)
      · have q7 := bne_eq_false_iff_eq.1 h7; exact False.elim (by omega)
      · have q7 := bne_iff_ne.1 h7; refine rT G _ h7 (wp_seq (s4 G l9 [(10, iA (aj8 p d strict ss pc c k).fst), (11, iA ((aj8 p d strict ss pc c k).snd : Int))] fun G => b7 (wp_ret (R0 (t9 (t9 (R0 (t9 ?_)))))))); exact rxv (.tup [iA (A3 p strict d (m6 pc (m8 p (ss.getD k bE8).value)) ((A3 p strict (d + 1) pc c (bG3 k ss)).snd + 1) (ss.getD k bE8).body).fst, iA ((A3 p strict d (m6 pc (m8 p (ss.getD k bE8).value)) ((A3 p strict (d + 1) pc c (bG3 k ss)).snd + 1) (ss.getD k bE8).body).snd : Int)]) G (rg 4) (by have e1 : ((A3 p strict (d + 1) pc c ss).fst : Int) = ((A3 p strict d (m6 pc (m8 p (ss.getD k bE8).value)) ((A3 p strict (d + 1) pc c (bG3 k ss)).snd + 1) (ss.getD k bE8).body).fst) := (by rw [A3, H9 hp.2 (by omega) (by rw [T4 (by with_reducible assumption) (ab0 (by with_reducible assumption)) (by with_reducible assumption)]; with_reducible assumption), T4 (by with_reducible assumption) (ab0 (by with_reducible assumption)) (by with_reducible assumption)]); have e2 : (((A3 p strict (d + 1) pc c ss).snd : Int) : Int) = (((A3 p strict d (m6 pc (m8 p (ss.getD k bE8).value)) ((A3 p strict (d + 1) pc c (bG3 k ss)).snd + 1) (ss.getD k bE8).body).snd : Int)) := (by rw [A3, H9 hp.2 (by omega) (by rw [T4 (by with_reducible assumption) (ab0 (by with_reducible assumption)) (by with_reducible assumption)]; with_reducible assumption), T4 (by with_reducible assumption) (ab0 (by with_reducible assumption)) (by with_reducible assumption)]); (first | rw [e1, e2] | simp only [e1, e2]) <;> rfl)
     ·
      refine t2 G (G7 6 [0, 1, 2, 8] (ih ((ss.getD k bE8).els) (m6 pc (m8 p (ss.getD k bE8).value)) ((aj8 p d strict ss pc c k).snd) ((af6 hs (by omega)).2.2) (aJ8 hc (by omega)))) (rg 5) (az8 p ss []) ((1, .ref 3) :: (2, iA pc) :: (3, iA ((aQ3 p d strict ss pc c k).snd : Int)) :: (aH4 strict k [(14, iA (aQ3 p d strict ss pc c k).fst)])) fun G => b7 (wp_seq (s4 G l9 [(70, bA ((aQ3 p d strict ss pc c k).fst != 0))] fun G => b7 (rcN (u := ((A3 p strict d (m6 pc (m8 p (ss.getD k bE8).value)) (A3 p strict d (m6 pc (m8 p (ss.getD k bE8).value)) ((A3 p strict (d + (1 : Nat)) pc c (bG3 k ss)).snd + (1 : Nat)) (ss.getD k bE8).body).snd (ss.getD k bE8).els).fst)) (v := (0 : Int)) G (fun h8 q8 => ?_) fun h8 q8 => ?_)))
      · refine wp_skip (B5 (b7 (N8 G l9 [(12, iA ((k : Int) + 1))] [wO ((k : Int) + 1)] (o1 (by omega)) fun G => b7 ?_))); exact rxn G (k + 1) (⟨by omega, by rw [A3, Y4 hp.2 (by omega), N7 (by with_reducible assumption) (ab0 (by with_reducible assumption)) (by with_reducible assumption)]; with_reducible assumption⟩) (by have hp := hp; omega) (rg 5) (ht := by have e1 : (((A3 p strict (d + 1) pc c (bG3 (k + 1) ss)).snd : Int) : Int) = (((A3 p strict d (m6 pc (m8 p (ss.getD k bE8).value)) (A3 p strict d (m6 pc (m8 p (ss.getD k bE8).value)) ((A3 p strict (d + 1) pc c (bG3 k ss)).snd + 1) (ss.getD k bE8).body).snd (ss.getD k bE8).els).snd : Int)) := (by rw [A3, Y4 hp.2 (by omega), N7 (by with_reducible assumption) (ab0 (by with_reducible assumption)) (by with_reducible assumption)]); (first | rw [e1] | simp only [e1]) <;> rfl)
      · refine wp_seq (s4 G l9 [(10, iA (aQ3 p d strict ss pc c k).fst), (11, iA ((aQ3 p d strict ss pc c k).snd : Int))] fun G => b7 (wp_ret (R0 (t9 (t9 (R0 (t9 ?_))))))); exact rxv (.tup [iA (A3 p strict d (m6 pc (m8 p (ss.getD k bE8).value)) (A3 p strict d (m6 pc (m8 p (ss.getD k bE8).value)) ((A3 p strict (d + 1) pc c (bG3 k ss)).snd + 1) (ss.getD k bE8).body).snd (ss.getD k bE8).els).fst, iA ((A3 p strict d (m6 pc (m8 p (ss.getD k bE8).value)) (A3 p strict d (m6 pc (m8 p (ss.getD k bE8).value)) ((A3 p strict (d + 1) pc c (bG3 k ss)).snd + 1) (ss.getD k bE8).body).snd (ss.getD k bE8).els).snd : Int)]) G (rg 4) (by have e1 : ((A3 p strict (d + 1) pc c ss).fst : Int) = ((A3 p strict d (m6 pc (m8 p (ss.getD k bE8).value)) (A3 p strict d (m6 pc (m8 p (ss.getD k bE8).value)) ((A3 p strict (d + 1) pc c (bG3 k ss)).snd + 1) (ss.getD k bE8).body).snd (ss.getD k bE8).els).fst) := (by rw [A3, H9 hp.2 (by omega) (by rw [N7 (by with_reducible assumption) (ab0 (by with_reducible assumption)) (by with_reducible assumption)]; with_reducible assumption), N7 (by with_reducible assumption) (ab0 (by with_reducible assumption)) (by with_reducible assumption)]); have e2 : (((A3 p strict (d + 1) pc c ss).snd : Int) : Int) = (((A3 p strict d (m6 pc (m8 p (ss.getD k bE8).value)) (A3 p strict d (m6 pc (m8 p (ss.getD k bE8).value)) ((A3 p strict (d + 1) pc c (bG3 k ss)).snd + 1) (ss.getD k bE8).body).snd (ss.getD k bE8).els).snd : Int)) := (by rw [A3, H9 hp.2 (by omega) (by rw [N7 (by with_reducible assumption) (ab0 (by with_reducible assumption)) (by with_reducible assumption)]; with_reducible assumption), N7 (by with_reducible assumption) (ab0 (by with_reducible assumption)) (by with_reducible assumption)]); (first | rw [e1, e2] | simp only [e1, e2]) <;> rfl)
   · refine wp_seq (s4 G l9 [(10, iA (T7 p (ss.getD k bE8) pc strict)), (11, iA ((A3 p strict (d + 1) pc c (bG3 k ss)).snd : Int))] fun G => b7 (wp_ret (t9 (R0 (t9 (t9 (R0 (t9 ?_)))))))); exact rxv (.tup [iA (T7 p (ss.getD k bE8) pc strict), iA ((A3 p strict (d + 1) pc c (bG3 k ss)).snd : Int)]) G (rg 4) (by have e1 : ((A3 p strict (d + 1) pc c ss).fst : Int) = (T7 p (ss.getD k bE8) pc strict) := (by rw [A3, H9 hp.2 (by omega) (by rw [ax7 (by with_reducible assumption)]; with_reducible assumption), ax7 (by with_reducible assumption)]); have e2 : (((A3 p strict (d + 1) pc c ss).snd : Int) : Int) = (((A3 p strict (d + 1) pc c (bG3 k ss)).snd : Int)) := (by rw [A3, H9 hp.2 (by omega) (by rw [ax7 (by with_reducible assumption)]; with_reducible assumption), ax7 (by with_reducible assumption)]); (first | rw [e1, e2] | simp only [e1, e2]) <;> rfl)
theorem a31 (p : b9) (strict : Bool) : ∀ (d : Nat) (ss : List b6) (pc : Int) (c : Nat), ss.all (l8 p.vars.length p.arrays.length d) = true → c + P7 ss ≤ 4000000 → p6.ok Tryz.prog (bq4 p d ss pc c strict) := by
 intro d
 induction d with
 | zero =>
  intro ss pc c h hc
  cases ss with
  | nil => exact a32 p pc c strict
  | cons s r => simp [l8] at h
 | succ d ih => intro ss pc c h hc; exact a30 p d strict ih ss pc c h hc
theorem ac0 {p : b9} (h : v7 p = true) : p.body.all (l8 p.vars.length p.arrays.length 5) = true ∧ P7 p.body ≤ 60 := by
 simp only [v7, af0, bE9, decide_eq_true_eq] at h
 exact ⟨h.1.2, h.2⟩
theorem bk9 (p : b9) (strict : Bool) (h : v7 p = true) : p6.ok Tryz.prog (O8 201 [pA 0, .ref 2, iA 0, iA 0, bA strict] (pS p) (.tup [iA (A3 p strict 5 0 0 p.body).1, iA (A3 p strict 5 0 0 p.body).2])) :=
 p6.dup (S := pS p) (S' := pS p) (d := .stmts p.body) (i := 2) (a31 p strict 5 p.body 0 0 (ac0 h).1 (by have := (ac0 h).2; omega)) rfl rfl rfl (fun ρ h => by simp only [AV.vals, AV.val]; rw [show ρ 3 = ρ 2 from h]; rfl) rfl
def Q7 (p : b9) (strict : Bool) : Int × Int := if v7 p then (if (A3 p strict 5 0 0 p.body).1 = 0 then (0, -1) else ((A3 p strict 5 0 0 p.body).1, ((A3 p strict 5 0 0 p.body).2 : Int))) else (5, -1)
section
variable {p : b9} {strict : Bool}
theorem a72 (h : v7 p = false) : Q7 p strict = (5, -1) := by rw [Q7, h]; rfl
theorem a74 (h : v7 p = true) (h1 : (A3 p strict 5 0 0 p.body).1 = 0) : Q7 p strict = (0, -1) := by rw [Q7, h, h1]; rfl
theorem bk3 (h : v7 p = true) (h1 : ¬ (A3 p strict 5 0 0 p.body).1 = 0) : Q7 p strict = ((A3 p strict 5 0 0 p.body).1, ((A3 p strict 5 0 0 p.body).2 : Int)) := by rw [Q7, h, if_neg h1]; rfl
end
theorem bb4 (p : b9) (strict : Bool) (hb : l7 p.body ≤ 1048576) : p6.ok Tryz.prog (O8 150 [pA 0, bA strict] (pS p) (.tup [iA (Q7 p strict).1, iA (Q7 p strict).2])) := by
  refine M6 24 Tryz.func150 [dI p.vars, dI p.arrays, dT p.body] [(0, pA 0), (1, bA strict)] fun G => ?_; refine wp_seq (t2 G l9 (rg 4) [dI p.vars, dI p.arrays, dT p.body, .box (pL 0)] [(1, bA strict), (2, .ptr 3 0), (4, iA 0), (5, iA 0)] fun G => b7 (wp_seq (wp_seq (s4 G (G7 1 [0, 1, 2] (ah7 p (by assumption))) [(10, .v (.bool !v7 p))] fun G => b7 ?_)))); cases h0 : (!v7 p)
  ·
   have q0 : (v7 p) = true := (Eq.mp (bG2 _) h0); refine rF G _ h0 (wp_skip (b7 (wp_seq (t2 G (G7 4 [0, 1, 2] (bk9 p strict (by assumption))) [0, 1, 2] [dI p.vars, dI p.arrays, dT p.body] [(4, iA 0), (5, iA 0), (6, iA (A3 p strict 5 0 0 p.body).fst), (7, iA ((A3 p strict 5 0 0 p.body).snd : Int))] fun G => b7 (wp_seq (wp_seq (s4 G l9 [(20, bA ((A3 p strict 5 0 0 p.body).fst == 0))] fun G => b7 (rcE G (fun h1 q1 => ?_) fun h1 q1 => ?_))))))))
   · refine wp_skip (b7 (wp_seq (s4 G l9 [(4, iA (A3 p strict 5 0 0 p.body).fst), (5, iA ((A3 p strict 5 0 0 p.body).snd : Int))] fun G => b7 (wp_ret ?_)))); exact rxv (.tup [iA (A3 p strict 5 0 0 p.body).fst, iA ((A3 p strict 5 0 0 p.body).snd : Int)]) G [0, 1, 2] (by have e1 : ((Q7 p strict).fst : Int) = ((A3 p strict 5 0 0 p.body).fst) := (by rw [bk3 (by assumption) (by assumption)]; done); have e2 : ((Q7 p strict).snd : Int) = (((A3 p strict 5 0 0 p.body).snd : Int)) := (by rw [bk3 (by assumption) (by assumption)]; done); (first | rw [e1, e2] | simp only [e1, e2]) <;> rfl)
   · refine wp_seq (s4 G l9 [(4, iA (A3 p strict 5 0 0 p.body).fst), (5, iA (-1))] fun G => b7 (wp_ret (t9 ?_))); exact rxv (.tup [iA (A3 p strict 5 0 0 p.body).fst, iA (-1)]) G [0, 1, 2] (by have e1 : ((Q7 p strict).fst : Int) = ((A3 p strict 5 0 0 p.body).fst) := ((congrArg Prod.fst (a74 (by assumption) (by assumption))).trans (Eq.symm (by assumption))); have e2 : ((Q7 p strict).snd : Int) = (-1) := (by rw [a74 (by assumption) (by assumption)]; done); (first | rw [e1, e2] | simp only [e1, e2]) <;> rfl)
  · have q0 : (v7 p) = false := (Eq.mp (bF9 _) h0); refine rT G _ h0 (wp_seq (s4 G l9 [(4, iA 5), (5, iA (-1))] fun G => b7 (wp_ret (t9 ?_)))); exact rxv (.tup [iA 5, iA (-1)]) G [0, 1, 2] (by have e1 : ((Q7 p strict).fst : Int) = (5) := (by rw [a72 (by assumption)]; done); have e2 : ((Q7 p strict).snd : Int) = (-1) := (by rw [a72 (by assumption)]; done); (first | rw [e1, e2] | simp only [e1, e2]) <;> rfl)
theorem aW7 (p : b9) (hb : l7 p.body ≤ 1048576) : p6.ok Tryz.prog (O8 77 [pA 0] (pS p) (.tup [iA (Q7 p false).1, iA (Q7 p false).2])) := by
 refine M6 8 Tryz.func77 [dI p.vars, dI p.arrays, dT p.body] [(0, pA 0)] fun G => ?_; refine wp_seq (t2 G l9 (rg 4) [dI p.vars, dI p.arrays, dT p.body, .box (pL 0)] [(1, .ptr 3 0), (2, iA 0), (3, iA 0)] fun G => b7 (wp_seq (t2 G (G7 1 [0, 1, 2] (bb4 p false (by assumption))) [0, 1, 2] [dI p.vars, dI p.arrays, dT p.body] [(2, iA (Q7 p false).fst), (3, iA (Q7 p false).snd)] fun G => b7 (wp_ret ?_)))); exact W2 G [0, 1, 2]
theorem as2 (p : b9) (e : b5) (he : l5 p.vars.length p.arrays.length 5 e = true) : p6.ok Tryz.prog (O8 141 [pA 0, eA e 3] (pS p ++ eS e) (iA (m8 p e))) := bk8 p 5 e he
def ag3 (p : b9) (s : b6) (cx : Int) : Int := if s.kind = 2 then m6 (m6 (m8 p s.value) cx) (m8 p s.index) else m6 (m8 p s.value) cx
def P8 (p : b9) (s : b6) (cx : Int) : Int :=
 if s.kind = 1 then if anI (m6 (m8 p s.value) cx) (p.vars.getD s.target.toNat 0) = 0 then 0 else 1
 else if s.kind = 2 then if anI (m6 (m6 (m8 p s.value) cx) (m8 p s.index)) (p.arrays.getD s.target.toNat 0) = 0 then 0 else 1
 else if s.kind = 5 then if (l6 (m8 p s.value) && decide (m8 p s.value ≤ 1)) = true ∧ cx = 0 then 0 else 2
 else 0
theorem bd9 {p : b9} {s : b6} {cx : Int} (k : ¬ s.kind = 2) : ag3 p s cx = m6 (m8 p s.value) cx := if_neg k
theorem bd8 {p : b9} {s : b6} {cx : Int} (k : s.kind = 2) : ag3 p s cx = m6 (m6 (m8 p s.value) cx) (m8 p s.index) := if_pos k
section
variable {p : b9} {s : b6} {cx : Int}
theorem bE2 (k : s.kind = 1) (h : (!(anI (ag3 p s cx) (p.vars.getD s.target.toNat 0) == 0)) = false) : P8 p s cx = 0 := by
 rw [bd9 (by omega)] at h
 rw [P8, if_pos k, if_pos (by simpa using h)]
theorem bE3 (k : s.kind = 1) (h : (!(anI (ag3 p s cx) (p.vars.getD s.target.toNat 0) == 0)) = true) : P8 p s cx = 1 := by
 rw [bd9 (by omega)] at h
 rw [P8, if_pos k, if_neg (by simpa using h)]
theorem bE0 (k : s.kind = 2) (h : (!(anI (ag3 p s cx) (p.arrays.getD s.target.toNat 0) == 0)) = false) : P8 p s cx = 0 := by
 rw [bd8 k] at h
 rw [P8, if_neg (by omega), if_pos k, if_pos (by simpa using h)]
theorem bE1 (k : s.kind = 2) (h : (!(anI (ag3 p s cx) (p.arrays.getD s.target.toNat 0) == 0)) = true) : P8 p s cx = 1 := by
 rw [bd8 k] at h
 rw [P8, if_neg (by omega), if_pos k, if_neg (by simpa using h)]
theorem bD9 (k : s.kind = 5) (h : (!(l6 (m8 p s.value) && decide (m8 p s.value ≤ 1))) = false) (h2 : cx = 0) : P8 p s cx = 0 := by
 rw [bG2] at h
 rw [P8, if_neg (by omega), if_neg (by omega), if_pos k, if_pos ⟨h, h2⟩]
theorem bB7 (k : s.kind = 5) (h : (!(l6 (m8 p s.value) && decide (m8 p s.value ≤ 1))) = true ∨ ¬ cx = 0) : P8 p s cx = 2 := by
 rw [P8, if_neg (by omega), if_neg (by omega), if_pos k, if_neg]
 rintro ⟨a, b⟩
 rcases h with h | h
 ·rw [a] at h; cases h
 ·exact h b
theorem if0 (k : ¬ s.kind = 1 ∧ ¬ s.kind = 2 ∧ ¬ s.kind = 5) : P8 p s cx = 0 := by rw [P8, if_neg k.1, if_neg k.2.1, if_neg k.2.2]
end
theorem aV8 (p : b9) (s : b6) (cx : Int) (h : C2 p.vars.length p.arrays.length s = true) (h4 : ¬ s.kind = 4) : p6.ok Tryz.prog (O8 139 [pA 0, sA s 3, iA cx] (pS p ++ sS s) (iA (ag3 p s cx))) := by
 refine M6 24 Tryz.func139 [dI p.vars, dI p.arrays, dT p.body, dE s.index.kids, dE s.value.kids, dT s.body, dT s.els] [(0, pA 0), (1, sA s 3), (2, iA cx)] fun G => ?_; refine wp_seq (t2 G l9 [0, 1, 2, 3, 4, 5, 6, 7, 15] [dI p.vars, dI p.arrays, dT p.body, dE s.index.kids, dE s.value.kids, dT s.body, dT s.els, .box (pL 0), .box (sL s 3)] [(2, iA cx), (3, .ptr 7 0), (4, .ptr 8 0), (6, iA 0)] fun G => b7 (wp_seq (s4 G (G7 3 [0, 1, 2, 4] (as2 p s.value (A4 h (by omega)))) [(7, iA (m6 (m8 p s.value) cx))] fun G => b7 (wp_seq (wp_seq (s4 G l9 [(16, bA (s.kind == 2))] fun G => b7 (rcE G (fun h0 q0 => ?_) fun h0 q0 => ?_)))))))
 ·refine wp_skip (b7 (wp_seq (t2 G l9 (rg 7) [dI p.vars, dI p.arrays, dT p.body, dE s.index.kids, dE s.value.kids, dT s.body, dT s.els] [(6, iA (m6 (m8 p s.value) cx))] fun G => b7 (wp_ret ?_)))); exact Y8 (m6 (m8 p s.value) cx) G (rg 7) (bd9 (by assumption))
 ·refine t2 G (G7 4 (rg 4) (as2 p s.index (aE1 h (by assumption)))) (rg 7) [dI p.vars, dI p.arrays, dT p.body, dE s.index.kids, dE s.value.kids, dT s.body, dT s.els] [(6, iA 0), (7, iA (m6 (m6 (m8 p s.value) cx) (m8 p s.index)))] fun G => b7 (wp_seq (s4 G l9 [(6, iA (m6 (m6 (m8 p s.value) cx) (m8 p s.index)))] fun G => b7 (wp_ret ?_))); exact Y8 (m6 (m6 (m8 p s.value) cx) (m8 p s.index)) G (rg 7) (bd8 (by assumption))
abbrev ao3 (p : b9) (s : b6) (r0 : List It) : List It := dI p.vars :: dI p.arrays :: dT p.body :: dE s.index.kids :: dE s.value.kids :: dT s.body :: dT s.els :: r0
theorem bx6 (p : b9) (s : b6) (cx : Int) (h : C2 p.vars.length p.arrays.length s = true) : p6.ok Tryz.prog (O8 67 [pA 0, sA s 3, iA cx] (pS p ++ sS s) (iA (P8 p s cx))) := by
  refine M6 59 Tryz.func67 (ao3 p s []) [(0, pA 0), (1, sA s 3), (2, iA cx)] fun G => ?_; refine wp_seq (t2 G l9 [0, 1, 2, 3, 4, 5, 6, 7, 15] (ao3 p s [.box (pL 0), .box (sL s 3)]) [(2, iA cx), (3, .ptr 7 0), (4, .ptr 8 0), (6, iA 0)] fun G => b7 (wp_seq (wp_block (wp_seq ?_)))); cases h0 : (s.kind == 1)
  ·
   have q0 := ne_of_beq_false h0; refine a02 G (hhF (fc h0 fz) (us [(4, 15, 0), (1016, 1016, 0)])) [0, 1, 3, 7, 15, 15, 15, 127, 15, 271, 15, 1039, 3855, 7951, 16383, 32767, 65535, 131071] [(7, bA false)] fun G => b7 (rF G false (by kernel_rfl) (wp_seq ?_)); cases h1 : (s.kind == 2)
   ·
    have q1 := ne_of_beq_false h1; refine a02 G (hhF (fc h1 fz) (us [(4, 15, 0), (1016, 1016, 0)])) [0, 1, 3, 7, 15, 15, 15, 127, 15, 271, 15, 1039, 3855, 7951, 16383, 32767, 65535, 131071] [(25, bA false)] fun G => b7 (rF G false (by kernel_rfl) (wp_seq ?_)); cases h2 : (s.kind == 5)
    · have q2 := ne_of_beq_false h2; refine t2 G (hhF (fc h2 fz) (us [(4, 10, 0), (13, 13, 0), (1014, 1014, 0)])) (rg 7) (ao3 p s []) [(6, iA 0), (43, bA false)] fun G => b7 (rF G false (by kernel_rfl) (wp_skip (B5 (b7 (wp_seq (s4 G l9 [] fun G => b7 (wp_ret ?_))))))); exact Y8 0 G (rg 7) (if0 (by omega))
    ·
     have q2 := eq_of_beq h2; cases h3 : (!(l6 (m8 p s.value) && decide (m8 p s.value ≤ 1)))
     ·
      have q3 : ((l6 (m8 p s.value)) = true) ∧ (m8 p s.value ≤ 1) := (fun hq => And.imp (fun hq => (hq)) (fun hq => of_decide_eq_true hq) (bH4.1 hq)) (Eq.mp (bG2 _) h3); refine t2 G (D6 (s7 7 [0, 1, 2, 4] (as2 p s.value (A4 h (by omega))) (s7 8 [] (af5 (m8 p s.value)) D5)) (fc h2 (fc h3 fz)) (us [(4, 10, 0), (11, 12, 1), (13, 13, 0), (1013, 1013, 1), (1014, 1014, 0)])) (rg 7) (ao3 p s []) [(6, iA 0), (43, bA (cx != 0))] fun G => b7 (rcN G (fun h4 q4 => ?_) fun h4 q4 => ?_)
      · refine wp_skip (B5 (b7 (wp_seq (s4 G l9 [] fun G => b7 (wp_ret ?_))))); exact Y8 0 G (rg 7) (bD9 (by with_reducible assumption) (by with_reducible assumption) (by with_reducible assumption))
      · refine wp_seq (s4 G l9 [(6, iA 2)] fun G => b7 (wp_ret (R0 (t9 ?_)))); exact Y8 2 G (rg 7) (bB7 (by with_reducible assumption) (.inr (by with_reducible assumption)))
     · have q3 : ((l6 (m8 p s.value)) = false) ∨ (¬ (m8 p s.value ≤ 1)) := (fun hq => Or.imp (fun hq => (hq)) (fun hq => of_decide_eq_false hq) (bH3.1 hq)) (Eq.mp (bF9 _) h3); refine t2 G (D6 (s7 7 [0, 1, 2, 4] (as2 p s.value (A4 h (by omega))) (s7 8 [] (af5 (m8 p s.value)) D5)) (fc h2 (fc h3 fz)) (us [(4, 10, 0), (11, 12, 1), (13, 13, 0), (1013, 1013, 1), (1014, 1014, 0)])) (rg 7) (ao3 p s []) [(6, iA 0), (43, bA true)] fun G => b7 (rT G true (by kernel_rfl) (wp_seq (s4 G l9 [(6, iA 2)] fun G => b7 (wp_ret (R0 (t9 ?_)))))); exact Y8 2 G (rg 7) (bB7 (by with_reducible assumption) (.inl (by with_reducible assumption)))
   ·
    have q1 := eq_of_beq h1; refine a97 G (D6 (s7 7 (rg 7) (aV8 p s cx (by assumption) (by omega)) (s7 14 [] (a78 (ag3 p s cx) (p.arrays.getD s.target.toNat 0)) D5)) (fc h1 fz) (us [(4, 15, 0), (1016, 1016, 0)])) [0, 1, 3, 7, 15, 15, 15, 127, 15, 271, 15, 1039, 3855, 7951, 16383, 32767, 65535, 131071] [(2, iA cx), (3, .ptr 7 0), (4, .ptr 8 0), (6, iA 0), (25, .v (.bool !anI (ag3 p s cx) (p.arrays.getD s.target.toNat 0) == 0))] [(0 : Int) ≤ s.target, s.target < (p.arrays.length : Int), s.target.toNat < p.arrays.length] ⟨((au7 h (by omega)).1), ((au7 h (by omega)).2.1), ((au7 h (by omega)).2.2), bF3⟩ fun G => b7 ?_; cases h5 : (!anI (ag3 p s cx) (p.arrays.getD s.target.toNat (0 : Int)) == 0)
    ·
     have q5 : anI (ag3 p s cx) (p.arrays.getD s.target.toNat 0) = 0 := (fun hq => eq_of_beq hq) (Eq.mp (bG2 _) h5); refine rF G _ h5 (wp_seq ?_); cases h6 : (s.kind == 5)
     · have q6 := ne_of_beq_false h6; refine t2 G (hhF (fc h6 fz) (us [(4, 10, 0), (13, 13, 0), (1014, 1014, 0)])) (rg 7) (ao3 p s []) [(6, iA 0), (43, bA false)] fun G => b7 (rF G false (by kernel_rfl) (wp_skip (B5 (b7 (wp_seq (s4 G l9 [] fun G => b7 (wp_ret ?_))))))); exact Y8 0 G (rg 7) (bE0 (by with_reducible assumption) (by with_reducible assumption))
     · have q6 := eq_of_beq h6; exact False.elim (by omega)
    · have q5 : ¬ (anI (ag3 p s cx) (p.arrays.getD s.target.toNat 0) = 0) := (fun hq => ne_of_beq_false hq) (Eq.mp (bF9 _) h5); refine rT G _ h5 (wp_seq (t2 G l9 (rg 7) (ao3 p s []) [(6, iA 1)] fun G => b7 (wp_ret (R0 (t9 ?_))))); exact Y8 1 G (rg 7) (bE1 (by with_reducible assumption) (by with_reducible assumption))
  ·
   have q0 := eq_of_beq h0; refine a97 G (D6 (s7 7 (rg 7) (aV8 p s cx (by assumption) (by omega)) (s7 14 [] (a78 (ag3 p s cx) (p.vars.getD s.target.toNat 0)) D5)) (fc h0 fz) (us [(4, 15, 0), (1016, 1016, 0)])) [0, 1, 3, 7, 15, 15, 15, 127, 15, 271, 15, 1039, 3855, 7951, 16383, 32767, 65535, 131071] [(2, iA cx), (3, .ptr 7 0), (4, .ptr 8 0), (6, iA 0), (7, .v (.bool !anI (ag3 p s cx) (p.vars.getD s.target.toNat 0) == 0))] [(0 : Int) ≤ s.target, s.target < (p.vars.length : Int), s.target.toNat < p.vars.length] ⟨((au6 h (by omega)).1), ((au6 h (by omega)).2.1), ((au6 h (by omega)).2.2), bF3⟩ fun G => b7 ?_; cases h7 : (!anI (ag3 p s cx) (p.vars.getD s.target.toNat (0 : Int)) == 0)
   ·
    have q7 : anI (ag3 p s cx) (p.vars.getD s.target.toNat 0) = 0 := (fun hq => eq_of_beq hq) (Eq.mp (bG2 _) h7); refine rF G _ h7 (wp_seq ?_); cases h8 : (s.kind == 2)
    ·
     have q8 := ne_of_beq_false h8; refine bz3 G (hhF (fc h8 fz) (us [(4, 15, 0), (1016, 1016, 0)])) [0, 1, 3, 7, 15, 15, 15, 127, 15, 271, 15, 1039, 3855, 7951, 16383, 32767, 65535, 131071] [(2, iA cx), (3, .ptr 7 0), (4, .ptr 8 0), (6, iA 0), (25, bA false)] fun G => b7 (rF G false (by kernel_rfl) (wp_seq ?_)); cases h9 : (s.kind == 5)
     · have q9 := ne_of_beq_false h9; refine t2 G (hhF (fc h9 fz) (us [(4, 10, 0), (13, 13, 0), (1014, 1014, 0)])) (rg 7) (ao3 p s []) [(6, iA 0), (43, bA false)] fun G => b7 (rF G false (by kernel_rfl) (wp_skip (B5 (b7 (wp_seq (s4 G l9 [] fun G => b7 (wp_ret ?_))))))); exact Y8 0 G (rg 7) (bE2 (by with_reducible assumption) (by with_reducible assumption))
     · have q9 := eq_of_beq h9; exact False.elim (by omega)
    · have q8 := eq_of_beq h8; exact False.elim (by omega)
   · have q7 : ¬ (anI (ag3 p s cx) (p.vars.getD s.target.toNat 0) = 0) := (fun hq => ne_of_beq_false hq) (Eq.mp (bF9 _) h7); refine rT G _ h7 (wp_seq (t2 G l9 (rg 7) (ao3 p s []) [(6, iA 1)] fun G => b7 (wp_ret (R0 (t9 ?_))))); exact Y8 1 G (rg 7) (bE3 (by with_reducible assumption) (by with_reducible assumption))
def J4 (p : b9) : Nat → Int → List b6 → List (b6 × Int)
 | 0, _, _ => []
 | d + 1, cx, ss => ss.flatMap fun s => (s, cx) :: (J4 p d (L9 p s cx) s.body ++ J4 p d (L9 p s cx) s.els)
theorem aE7 (p : b9) (d : Nat) (cx : Int) (s : b6) (r : List b6) : J4 p (d + 1) cx (s :: r) = (s, cx) :: (J4 p d (L9 p s cx) s.body ++ J4 p d (L9 p s cx) s.els) ++ J4 p (d + 1) cx r := by
 simp only [J4, List.flatMap_cons]
theorem bp4 (p : b9) (d : Nat) (cx : Int) : J4 p d cx [] = [] := by cases d <;> rfl
theorem a21 (p : b9) (d : Nat) (cx : Int) (a b : List b6) : J4 p d cx (a ++ b) = J4 p d cx a ++ J4 p d cx b := by
 cases d with
 | zero => rfl
 | succ d => simp [J4]
theorem bj7 (p : b9) (d : Nat) (cx : Int) {ss : List b6} {k : Nat} (hk : k < ss.length) :
  J4 p (d + 1) cx (ss.take (k + 1)) = J4 p (d + 1) cx (ss.take k) ++ ((ss.getD k bE8, cx) :: (J4 p d (L9 p (ss.getD k bE8) cx) (ss.getD k bE8).body ++ J4 p d (L9 p (ss.getD k bE8) cx) (ss.getD k bE8).els)) := by
 rw [p7 _ _ hk, a21, A5 hk, aE7, bp4, List.append_nil]
theorem ar9 (p : b9) : ∀ (d : Nat) (cx : Int) (ss : List b6), (J4 p d cx ss).length ≤ P7 ss
 | 0, _, _ => bH1 _
 | d + 1, cx, [] => by simp [J4]
 | d + 1, cx, s :: r => by
  rw [aE7, bF2, bF0, bF2, P7, an2]
  have h1 := ar9 p d (L9 p s cx) s.body
  have h2 := ar9 p d (L9 p s cx) s.els
  have h3 := ar9 p (d + 1) cx r
  omega
def I1 (R : b6 × Int → Int) : Nat → List (b6 × Int) → Int × Nat
 | c, [] => (0, c)
 | c, x :: r => if R x = 0 then I1 R (c + 1) r else (R x, c)
theorem ab1 (R : b6 × Int → Int) : ∀ (a b : List (b6 × Int)) (c : Nat), I1 R c (a ++ b) = if (I1 R c a).1 = 0 then I1 R (I1 R c a).2 b else I1 R c a
 | [], b, c => by simp [I1]
 | x :: r, b, c => by
  simp only [List.cons_append, I1]
  by_cases h : R x = 0
  ·simp only [h, if_true]; exact ab1 R r b _
  ·simp [h]
theorem ar6 {R R' : b6 × Int → Int} : ∀ {l : List (b6 × Int)} {c : Nat}, (∀ x ∈ l, R x = R' x) → I1 R c l = I1 R' c l
 | [], c, _ => rfl
 | x :: r, c, h => by
  simp only [I1]
  rw [h x bG8, ar6 fun y hy => h y (bH2 _ hy)]
theorem bm4 (p : b9) (strict : Bool) (d : Nat) (ih : ∀ (cx : Int) (c : Nat) (ss : List b6), A3 p strict d cx c ss = I1 (fun x => T7 p x.1 x.2 strict) c (J4 p d cx ss)) (cx : Int) (c : Nat) (s : b6) :
  stC p strict (d + 1) cx c s = I1 (fun x => T7 p x.1 x.2 strict) c ((s, cx) :: (J4 p d (L9 p s cx) s.body ++ J4 p d (L9 p s cx) s.els)) := by
 have h1 := ih (L9 p s cx) (c + 1) s.body
 unfold A3 at h1
 rw [stC, I1]
 simp only
 split
 ·rw [ab1, h1]
  split
  ·exact ih _ _ _
  ·rfl
 ·rfl
theorem a80 (p : b9) (strict : Bool) : ∀ (d : Nat) (cx : Int) (c : Nat) (ss : List b6), A3 p strict d cx c ss = I1 (fun x => T7 p x.1 x.2 strict) c (J4 p d cx ss)
 | 0, cx, c, ss => by
  induction ss with
  | nil => rfl
  | cons s r ih => unfold A3 at ih ⊢; rw [F7]; simp only [stC, if_true]; exact ih
 | d + 1, cx, c, ss => by
  induction ss generalizing c with
  | nil => simp [F7, J4, I1]
  | cons s r ih =>
   unfold A3 at ih ⊢
   rw [F7, aE7, ab1, ← bm4 p strict d (a80 p strict d)]
   split
   ·exact ih _
   ·rfl
def m9 (R : b6 × Int → Int) (σ : Int × Int × Nat) (x : b6 × Int) : Int × Int × Nat :=
 if σ.1 = 0 then (R x, if R x = 0 then σ.2.1 else (σ.2.2 : Int), σ.2.2 + 1) else (σ.1, σ.2.1, σ.2.2 + 1)
theorem au3 (R : b6 × Int → Int) : ∀ (l : List (b6 × Int)) (σ : Int × Int × Nat), (l.foldl (m9 R) σ).2.2 = σ.2.2 + l.length
 | [], σ => rfl
 | x :: r, σ => by
  rw [List.foldl_cons, au3 R r, bF0]
  unfold m9
  split <;> simp only <;> omega
theorem aB6 {R : b6 × Int → Int} : ∀ (l : List (b6 × Int)) {σ : Int × Int × Nat}, ¬ σ.1 = 0 → (l.foldl (m9 R) σ).1 = σ.1 ∧ (l.foldl (m9 R) σ).2.1 = σ.2.1
 | [], σ, h => ⟨rfl, rfl⟩
 | x :: r, σ, h => by
  rw [List.foldl_cons]
  have e : m9 R σ x = (σ.1, σ.2.1, σ.2.2 + 1) := by unfold m9; rw [if_neg h]
  rw [e]
  exact aB6 r (σ := (σ.1, σ.2.1, σ.2.2 + 1)) h
theorem aw2 {R : b6 × Int → Int} : ∀ (l : List (b6 × Int)) (n : Nat), ((l.foldl (m9 R) (0, -1, n)).1, (l.foldl (m9 R) (0, -1, n)).2.1) = if (I1 R n l).1 = 0 then ((0 : Int), (-1 : Int)) else ((I1 R n l).1, ((I1 R n l).2 : Int))
 | [], n => rfl
 | x :: r, n => by
  rw [List.foldl_cons, I1]
  by_cases h : R x = 0
  ·have e : m9 R (0, -1, n) x = (0, -1, n + 1) := by unfold m9; simp [h]
   rw [e, if_pos h]; exact aw2 r (n + 1)
  ·have e : m9 R (0, -1, n) x = (R x, (n : Int), n + 1) := by unfold m9; simp [h]
   rw [e, if_neg h, if_neg h]
   obtain ⟨h1, h2⟩ := aB6 (R := R) r (σ := (R x, (n : Int), n + 1)) h
   rw [h1, h2]
theorem aI1 {R : b6 × Int → Int} {p : b9} {d : Nat} {cx : Int} {ss : List b6} {k : Nat} (hk : k < ss.length) (σ : Int × Int × Nat) :
  (J4 p (d + 1) cx (ss.take (k + 1))).foldl (m9 R) σ =
   (J4 p d (L9 p (ss.getD k bE8) cx) (ss.getD k bE8).els).foldl (m9 R) ((J4 p d (L9 p (ss.getD k bE8) cx) (ss.getD k bE8).body).foldl (m9 R) (m9 R ((J4 p (d + 1) cx (ss.take k)).foldl (m9 R) σ) (ss.getD k bE8, cx))) := by
 rw [bj7 p d cx hk, List.foldl_append, List.foldl_cons, List.foldl_append]
theorem bv2 : ∀ x : Fin 4, ∀ y : Fin 4, ∃ z : Fin 4, m6 x.val y.val = (z.val : Int) := by decide +kernel
theorem aS8 {x y : Int} (hx : l6 x = true) (hy : l6 y = true) : l6 (m6 x y) = true := by
 obtain ⟨a, rfl⟩ := W6 hx
 obtain ⟨b, rfl⟩ := W6 hy
 obtain ⟨c, h⟩ := bv2 a b
 rw [h]
 simp [l6]; omega
theorem aS9 : ∀ x : Fin 4, ∀ y : Fin 4, m6 x.val y.val = m6 y.val x.val := by decide +kernel
theorem aN7 : ∀ x : Fin 4, ∀ y : Fin 4, ∀ z : Fin 4, m6 (m6 x.val y.val) z.val = m6 x.val (m6 y.val z.val) := by decide +kernel
theorem or_comm {x y : Int} (hx : l6 x = true) (hy : l6 y = true) : m6 x y = m6 y x := by
 obtain ⟨a, rfl⟩ := W6 hx
 obtain ⟨b, rfl⟩ := W6 hy
 exact aS9 a b
theorem or_assoc {x y z : Int} (hx : l6 x = true) (hy : l6 y = true) (hz : l6 z = true) : m6 (m6 x y) z = m6 x (m6 y z) := by
 obtain ⟨a, rfl⟩ := W6 hx
 obtain ⟨b, rfl⟩ := W6 hy
 obtain ⟨c, rfl⟩ := W6 hz
 exact aN7 a b c
theorem ay2 {l : List Int} (h : l.all l6 = true) (i : Nat) : l6 (l.getD i 0) = true := by
 rcases bI0 i l.length with hi | hi
 ·rw [A5 hi]; exact bG1.1 h _ (bG5 hi)
 ·rw [bF4, bG7 hi]; rfl
theorem a61 {vs ars : List Int} (h1 : vs.all l6 = true) (h2 : ars.all l6 = true) : ∀ (d : Nat) (e : b5), l6 (k8 vs ars d e) = true
 | 0, _ => rfl
 | d + 1, e => by
  rw [k8]
  have key : ∀ (ks : List b5) (a : Int), l6 a = true → l6 (ks.foldl (fun a k => m6 a (k8 vs ars d k)) a) = true := by
   intro ks
   induction ks with
   | nil => intro a ha; exact ha
   | cons x r ih => intro a ha; rw [List.foldl_cons]; exact ih _ (aS8 ha (a61 h1 h2 d x))
  refine key _ _ ?_
  unfold an0
  split
  ·exact ay2 h1 _
  ·split
   ·exact ay2 h2 _
   ·rfl
def aw5 (p : b9) : Bool := p.vars.all l6 && p.arrays.all l6
theorem a05 {p : b9} (h : v7 p = true) : aw5 p = true := by
 unfold v7 J8 at h
 simp only [bE9] at h
 unfold aw5
 rw [h.1.1.1.1.1.1, h.1.1.1.1.1.2]; rfl
theorem aO6 {p : b9} (h : aw5 p = true) (e : b5) : l6 (m8 p e) = true := by
 simp only [aw5, bE9] at h
 exact a61 h.1 h.2 5 e
theorem a64 {p : b9} (h : aw5 p = true) {cx : Int} (hc : l6 cx = true) (s : b6) : l6 (L9 p s cx) = true := by
 unfold L9
 split
 ·exact aS8 hc (aO6 h _)
 ·exact hc
theorem aP0 {p : b9} (hp : aw5 p = true) : ∀ (d : Nat) (cx : Int) (ss : List b6), l6 cx = true → ss.all (l8 p.vars.length p.arrays.length d) = true → ∀ x ∈ J4 p d cx ss, C2 p.vars.length p.arrays.length x.1 = true ∧ l6 x.2 = true ∧ (x.1.kind = 4 → x.1.value.kind = 0 ∧ x.1.value.kids = [])
 | 0, cx, ss, _, _, x, hx => by simp [J4] at hx
 | d + 1, cx, ss, hc, hs, x, hx => by
  rw [J4] at hx
  obtain ⟨s, hss, hx⟩ := List.mem_flatMap.1 hx
  have h0 := bG1.1 hs s hss
  have h1 := h0
  rw [O2, bE9, bE9] at h1
  rw [bI7, bH6] at hx
  rcases hx with rfl | hx | hx
  ·refine ⟨h1.1, hc, fun k4 => ?_⟩
   rw [l8, bE9] at h0
   have h2 := h0.1
   unfold E1 at h2
   rw [if_pos (.inr k4), if_pos k4] at h2
   simp only [bE9, decide_eq_true_eq, noneB] at h2
   exact ⟨h2.2.2.1.1, bI1 h2.2.2.2⟩
  ·exact aP0 hp d _ _ (a64 hp hc s) h1.2.1 x hx
  ·exact aP0 hp d _ _ (a64 hp hc s) h1.2.2 x hx
theorem bo9 {p : b9} (hp : aw5 p = true) {s : b6} {cx : Int} (hc : l6 cx = true) : P8 p s cx = N2 p s cx := by
 have hv := aO6 hp s.value
 have hi := aO6 hp s.index
 simp only [aw5, bE9] at hp
 unfold P8 N2
 by_cases k1 : s.kind = 1
 ·rw [if_pos k1, if_pos k1]
  have hx := aS8 hv hc
  have hy := ay2 hp.1 s.target.toNat
  have := aU6 hx hy
  unfold flB
  rw [hx, hy]
  by_cases h : anI (m6 (m8 p s.value) cx) (p.vars.getD s.target.toNat 0) = 0
  ·rw [if_pos h, if_pos]
   rw [beq_iff_eq.2 h] at this
   rw [← this]; rfl
  ·rw [if_neg h, if_neg]
   rw [beq_eq_false_iff_ne.2 h] at this
   rw [← this]; simp
 rw [if_neg k1, if_neg k1]
 by_cases k2 : s.kind = 2
 ·rw [if_pos k2, if_pos k2]
  have e : m6 (m6 (m8 p s.value) cx) (m8 p s.index) = m6 (m6 (m8 p s.value) (m8 p s.index)) cx := by
   rw [or_assoc hv hc hi, or_comm hc hi, ← or_assoc hv hi hc]
  rw [e]
  have hx := aS8 (aS8 hv hi) hc
  have hy := ay2 hp.2 s.target.toNat
  have := aU6 hx hy
  unfold flB
  rw [hx, hy]
  by_cases h : anI (m6 (m6 (m8 p s.value) (m8 p s.index)) cx) (p.arrays.getD s.target.toNat 0) = 0
  ·rw [if_pos h, if_pos]
   rw [beq_iff_eq.2 h] at this
   rw [← this]; rfl
  ·rw [if_neg h, if_neg]
   rw [beq_eq_false_iff_ne.2 h] at this
   rw [← this]; simp
 rw [if_neg k2, if_neg k2]
 by_cases k5 : s.kind = 5
 ·rw [if_pos k5, if_pos k5]
  by_cases h : (l6 (m8 p s.value) && decide (m8 p s.value ≤ 1)) = true ∧ cx = 0
  ·rw [if_pos h, if_pos]
   rw [h.1, decide_eq_true h.2]; rfl
  ·rw [if_neg h, if_neg]
   rw [bE9, decide_eq_true_eq]; exact h
 ·rw [if_neg k5, if_neg k5]
theorem a73 {p : b9} (h : v7 p = true) : ((J4 p 5 0 p.body).foldl (m9 fun x => P8 p x.1 x.2) (0, -1, 0)).1 = (Q7 p false).1 ∧ ((J4 p 5 0 p.body).foldl (m9 fun x => P8 p x.1 x.2) (0, -1, 0)).2.1 = (Q7 p false).2 := by
 have h1 := aw2 (R := fun x => P8 p x.1 x.2) (J4 p 5 0 p.body) 0
 have hl := a05 h
 have e : I1 (fun x => P8 p x.1 x.2) 0 (J4 p 5 0 p.body) = A3 p false 5 0 0 p.body := by
  rw [a80]
  refine ar6 fun x hx => ?_
  have hm := aP0 hl 5 0 p.body rfl (ac0 h).1 x hx
  rw [bo9 hl hm.2.1]
  unfold T7
  simp only [Bool.false_eq_true, if_false]
  split
  ·rename_i h; exact h
  ·rfl
 rw [e] at h1
 have h2 := Prod.mk.inj h1
 unfold Q7
 rw [if_pos h]
 split
 ·rename_i h3
  rw [if_pos h3] at h1
  exact Prod.mk.inj h1
 ·rename_i h3
  rw [if_neg h3] at h1
  exact Prod.mk.inj h1
abbrev Lab : Type := List Int × List Int
def bv (x : Int) : BitVec 64 := BitVec.ofInt 64 x
def ofb (b : BitVec 64) : Int := IntKind.i64.wrap (b.toNat : Int)
theorem bn2 (x y : Int) : m6 x y = ofb (bv x ||| bv y) := rfl
def leI (x y : Int) : Prop := bv x ||| bv y = bv y
theorem leI.refl (x : Int) : leI x x := BitVec.or_self
theorem leI.trans {x y z : Int} (h : leI x y) (k : leI y z) : leI x z := by
 unfold leI at *
 rw [← k, ← BitVec.or_assoc, h]
def leP (q r : Lab) : Prop := (∀ i, leI (q.1.getD i 0) (r.1.getD i 0)) ∧ ∀ i, leI (q.2.getD i 0) (r.2.getD i 0)
def shP (q r : Lab) : Prop := r.1.length = q.1.length ∧ r.2.length = q.2.length
theorem leP.refl (q : Lab) : leP q q := ⟨fun _ => leI.refl _, fun _ => leI.refl _⟩
theorem leP.trans {q r s : Lab} (h : leP q r) (k : leP r s) : leP q s := ⟨fun i => (h.1 i).trans (k.1 i), fun i => (h.2 i).trans (k.2 i)⟩
theorem shP.refl (q : Lab) : shP q q := ⟨rfl, rfl⟩
theorem shP.trans {q r s : Lab} (h : shP q r) (k : shP r s) : shP q s := ⟨k.1.trans h.1, k.2.trans h.2⟩
theorem shP.symm {q r : Lab} (h : shP q r) : shP r q := ⟨h.1.symm, h.2.symm⟩
section
variable {b : Bool} {d : Nat} {cx : Int} {q r : Lab} {ss : List b6}
end
def cdF (F : b6 → Int) : List b6 → Int
 | [] => 0
 | s :: r => if F s = 0 then cdF F r else F s
def cdS (vs ars : List Int) (strict : Bool) : Nat → Int → b6 → Int
 | 0, _, _ => 0
 | d + 1, pc, s => if T7 ⟨vs, ars, []⟩ s pc strict = 0 then
   (if cdF (cdS vs ars strict d (L9 ⟨vs, ars, []⟩ s pc)) s.body = 0 then cdF (cdS vs ars strict d (L9 ⟨vs, ars, []⟩ s pc)) s.els else cdF (cdS vs ars strict d (L9 ⟨vs, ars, []⟩ s pc)) s.body)
  else T7 ⟨vs, ars, []⟩ s pc strict
theorem a27 {F : b6 → Int} {G : Nat → b6 → Int × Nat} (h : ∀ c s, (G c s).1 = F s) : ∀ (ss : List b6) (c : Nat), (F7 G c ss).1 = cdF F ss
 | [], _ => rfl
 | s :: r, c => by
  rw [F7, cdF, h]
  split
  ·exact a27 h r _
  ·exact h c s
theorem bk4 (p : b9) (strict : Bool) : ∀ (d : Nat) (pc : Int) (c : Nat) (s : b6), (stC p strict d pc c s).1 = cdS p.vars p.arrays strict d pc s
 | 0, _, _, _ => rfl
 | d + 1, pc, c, s => by
  have e1 : T7 p s pc strict = T7 ⟨p.vars, p.arrays, []⟩ s pc strict := rfl
  have e2 : L9 p s pc = L9 ⟨p.vars, p.arrays, []⟩ s pc := rfl
  have h1 := fun ss c => a27 (bk4 p strict d (L9 p s pc)) ss c
  rw [stC, cdS, ← e1, ← e2]
  split
  ·rw [h1]
   split
   ·rw [h1]
   ·rw [h1]
  ·rfl
theorem bx3 (p : b9) (strict : Bool) (d : Nat) (pc : Int) (c : Nat) (ss : List b6) : (A3 p strict d pc c ss).1 = cdF (cdS p.vars p.arrays strict d pc) ss := a27 (bk4 p strict d pc) ss c
theorem aV5 {F : b6 → Int} : ∀ {ss : List b6}, cdF F ss = 0 ↔ ∀ s ∈ ss, F s = 0
 | [] => by simp [cdF]
 | s :: r => by
  rw [cdF]
  by_cases h : F s = 0
  ·rw [if_pos h, aV5]
   simp [h]
  ·rw [if_neg h]
   simp [h]
theorem bp7 (p : b9) (strict : Bool) : (Q7 p strict).1 = if v7 p = true then cdF (cdS p.vars p.arrays strict 5 0) p.body else 5 := by
 unfold Q7
 rw [← bx3 p strict 5 0 0]
 split
 ·split
  ·rename_i h; exact h.symm
  ·rfl
 ·rfl
theorem bp6 (p : b9) (strict : Bool) : (Q7 p strict).1 = 0 ↔ v7 p = true ∧ ∀ s ∈ p.body, cdS p.vars p.arrays strict 5 0 s = 0 := by
 rw [bp7]
 split
 ·rename_i h; rw [aV5]; exact ⟨fun h1 => ⟨h, h1⟩, fun h1 => h1.2⟩
 ·rename_i h; exact ⟨fun h1 => absurd h1 (by decide), fun h1 => absurd h1.1 h⟩
section
variable {vs ars : List Int} {l : Int} {s : b6} {pc pd : Int}
end
theorem au4 {p : b9} (h : v7 p = true) : p.vars.all l6 = true ∧ p.arrays.all l6 = true ∧ 1 ≤ p.vars.length ∧ p.body.all (l8 p.vars.length p.arrays.length 5) = true := by
 unfold v7 J8 at h
 simp only [bE9, decide_eq_true_eq] at h
 exact ⟨h.1.1.1.1.1.1, h.1.1.1.1.1.2, h.1.1.1.1.2, h.1.2⟩
abbrev nnE : b5 := ⟨0, 0, []⟩
abbrev cnE (n : Int) : b5 := ⟨1, n, []⟩
abbrev vrE (v : Int) : b5 := ⟨2, v, []⟩
abbrev rdE (a : Int) (i : b5) : b5 := ⟨3, a, [i]⟩
abbrev R7 (i : b5) (k : Int) : b5 := ⟨9, 0, [⟨7, 0, [i, cnE 3]⟩, cnE k]⟩
abbrev seE (a b c : b5) : b5 := ⟨11, 0, [a, b, c]⟩
abbrev M4 (v : Int) (e : b5) : b6 := ⟨1, v, nnE, e, 0, [], []⟩
def w9 (m : Int) (e f : b5) : b5 := if m < 0 then e else seE (vrE m) e f
def rdL (v a : Int) (i : b5) : Nat → List b6
 | 0 => [M4 v (rdE a (cnE 0))]
 | k + 1 => rdL v a i k ++ [M4 v (seE (R7 i ((k : Int) + 1)) (rdE a (cnE ((k : Int) + 1))) (vrE v))]
def Y7 (v t : Int) (i : b5) (m : Int) : Nat → List b6
 | 0 => []
 | k + 1 => Y7 v t i m k ++ [⟨2, t, cnE (k : Int), seE (w9 m (R7 i (k : Int)) (cnE 0)) (vrE v) (rdE t (cnE (k : Int))), 0, [], []⟩]
abbrev LnS : Type := List Int × List b6
mutual
def b8 (ars : List Int) (pc : Int) : b5 → LnS → LnS × b5
 | ⟨k, v, ks⟩, s =>
  if k = 3 ∧ aa5 (k8 (w5 ars pc ks s).1.1 ars 5 (ks.getD 0 bE8)) = true then
   (((w5 ars pc ks s).1.1 ++ [m6 (k8 (w5 ars pc ks s).1.1 ars 5 ⟨k, v, ks⟩) pc], (w5 ars pc ks s).1.2 ++ rdL ((w5 ars pc ks s).1.1.length : Int) v (ks.getD 0 bE8) 3), vrE ((w5 ars pc ks s).1.1.length : Int))
  else ((w5 ars pc ks s).1, ⟨k, v, (w5 ars pc ks s).2⟩)
def w5 (ars : List Int) (pc : Int) : List b5 → LnS → LnS × List b5
 | [], s => (s, [])
 | e :: t, s => ((w5 ars pc t (b8 ars pc e s).1).1, (b8 ars pc e s).2 :: (w5 ars pc t (b8 ars pc e s).1).2)
end
theorem aD8 (ars : List Int) (pc : Int) (e : b5) (s : LnS) : b8 ars pc e s =
  if e.kind = 3 ∧ aa5 (k8 (w5 ars pc e.kids s).1.1 ars 5 (e.kids.getD 0 bE8)) = true then
   (((w5 ars pc e.kids s).1.1 ++ [m6 (k8 (w5 ars pc e.kids s).1.1 ars 5 e) pc], (w5 ars pc e.kids s).1.2 ++ rdL ((w5 ars pc e.kids s).1.1.length : Int) e.value (e.kids.getD 0 bE8) 3), vrE ((w5 ars pc e.kids s).1.1.length : Int))
  else ((w5 ars pc e.kids s).1, ⟨e.kind, e.value, (w5 ars pc e.kids s).2⟩) := by
 cases e; rw [b8]; rfl
theorem aq6 (ars : List Int) (pc : Int) : ∀ (a b : List b5) (s : LnS), w5 ars pc (a ++ b) s = ((w5 ars pc b (w5 ars pc a s).1).1, (w5 ars pc a s).2 ++ (w5 ars pc b (w5 ars pc a s).1).2)
 | [], b, s => by simp [w5]
 | e :: t, b, s => by
  simp only [List.cons_append, w5]
  rw [aq6 ars pc t b]
theorem an3 {ars : List Int} {pc : Int} {ks : List b5} {k : Nat} {s : LnS} (hk : k < ks.length) : w5 ars pc (ks.take (k + 1)) s = ((b8 ars pc (ks.getD k bE8) (w5 ars pc (ks.take k) s).1).1, (w5 ars pc (ks.take k) s).2 ++ [(b8 ars pc (ks.getD k bE8) (w5 ars pc (ks.take k) s).1).2]) := by
 rw [p7 _ _ hk, aq6, A5 hk]
 simp [w5]
abbrev ifM (x : LnS × b5) (m l : Int) : LnS := (x.1.1 ++ [l] ++ [l], x.1.2 ++ [M4 (x.1.1.length : Int) (w9 m x.2 (cnE 0))] ++ [M4 ((x.1.1 ++ [l]).length : Int) (w9 m ⟨9, 0, [vrE (x.1.1.length : Int), cnE 0]⟩ (cnE 0))])
mutual
def v8 (ars : List Int) : b6 → Int → Int → LnS → LnS
 | ⟨k, t, i, v, c, b, e⟩, m, pc, s =>
  if k = 4 then ((m5 ars b m pc (s.1, [])).1, s.2 ++ [⟨4, 0, nnE, nnE, c, (m5 ars b m pc (s.1, [])).2, []⟩])
  else if k = 3 then
   (if aa5 (k8 s.1 ars 5 v) = true then
    m5 ars e (((b8 ars pc v s).1.1 ++ [m6 pc (k8 s.1 ars 5 v)]).length : Int) (m6 pc (k8 s.1 ars 5 v)) (m5 ars b ((b8 ars pc v s).1.1.length : Int) (m6 pc (k8 s.1 ars 5 v)) (ifM (b8 ars pc v s) m (m6 pc (k8 s.1 ars 5 v))))
   else ((m5 ars e m (m6 pc (k8 s.1 ars 5 v)) ((m5 ars b m (m6 pc (k8 s.1 ars 5 v)) ((b8 ars pc v s).1.1, [])).1, [])).1,
    (b8 ars pc v s).1.2 ++ [⟨3, 0, nnE, (b8 ars pc v s).2, 0, (m5 ars b m (m6 pc (k8 s.1 ars 5 v)) ((b8 ars pc v s).1.1, [])).2, (m5 ars e m (m6 pc (k8 s.1 ars 5 v)) ((m5 ars b m (m6 pc (k8 s.1 ars 5 v)) ((b8 ars pc v s).1.1, [])).1, [])).2⟩]))
  else if k = 5 then ((b8 ars pc v s).1.1, (b8 ars pc v s).1.2 ++ [⟨5, t, nnE, (b8 ars pc v s).2, 0, [], []⟩])
  else if k = 1 then ((b8 ars pc v s).1.1, (b8 ars pc v s).1.2 ++ [M4 t (w9 m (b8 ars pc v s).2 (vrE t))])
  else if aa5 (k8 (b8 ars pc v s).1.1 ars 5 i) = true then
   ((b8 ars pc v s).1.1 ++ [m6 (k8 (b8 ars pc v s).1.1 ars 5 (b8 ars pc v s).2) pc], (b8 ars pc v s).1.2 ++ [M4 ((b8 ars pc v s).1.1.length : Int) (b8 ars pc v s).2] ++ Y7 ((b8 ars pc v s).1.1.length : Int) t i m 4)
  else ((b8 ars pc v s).1.1, (b8 ars pc v s).1.2 ++ [⟨2, t, i, w9 m (b8 ars pc v s).2 (rdE t i), 0, [], []⟩])
def m5 (ars : List Int) : List b6 → Int → Int → LnS → LnS
 | [], _, _, s => s
 | x :: r, m, pc, s => m5 ars r m pc (v8 ars x m pc s)
end
theorem aU0 (ars : List Int) (a b : List b6) (m pc : Int) (s : LnS) : m5 ars (a ++ b) m pc s = m5 ars b m pc (m5 ars a m pc s) := by
 induction a generalizing s with
 | nil => rfl
 | cons x r ih => simp only [List.cons_append, m5]; exact ih _
theorem ba2 {ars : List Int} {ss : List b6} {k : Nat} {m pc : Int} {s : LnS} (hk : k < ss.length) : m5 ars (ss.take (k + 1)) m pc s = v8 ars (ss.getD k bE8) m pc (m5 ars (ss.take k) m pc s) := by
 rw [p7 _ _ hk, aU0, A5 hk]
 simp [m5]
section
variable {ars : List Int} {s : b6} {m pc : Int} {x : LnS}
theorem ln4 (k : s.kind = 4) : v8 ars s m pc x = ((m5 ars s.body m pc (x.1, [])).1, x.2 ++ [⟨4, 0, nnE, nnE, s.count, (m5 ars s.body m pc (x.1, [])).2, []⟩]) := by
 obtain ⟨kd, tg, ix, vl, ct, bd, el⟩ := s
 have k : kd = 4 := k
 rw [v8, if_pos k]; rfl
theorem bz7 (k : s.kind = 3) (h : aa5 (k8 x.1 ars 5 s.value) = true) : v8 ars s m pc x = m5 ars s.els (((b8 ars pc s.value x).1.1 ++ [m6 pc (k8 x.1 ars 5 s.value)]).length : Int) (m6 pc (k8 x.1 ars 5 s.value)) (m5 ars s.body ((b8 ars pc s.value x).1.1.length : Int) (m6 pc (k8 x.1 ars 5 s.value)) (ifM (b8 ars pc s.value x) m (m6 pc (k8 x.1 ars 5 s.value)))) := by
 obtain ⟨kd, tg, ix, vl, ct, bd, el⟩ := s
 have k : kd = 3 := k
 have h : aa5 (k8 x.1 ars 5 vl) = true := h
 rw [v8, if_neg (by omega), if_pos k, if_pos h]; rfl
theorem bz8 (k : s.kind = 3) (h : aa5 (k8 x.1 ars 5 s.value) = false) : v8 ars s m pc x = ((m5 ars s.els m (m6 pc (k8 x.1 ars 5 s.value)) ((m5 ars s.body m (m6 pc (k8 x.1 ars 5 s.value)) ((b8 ars pc s.value x).1.1, [])).1, [])).1,
  (b8 ars pc s.value x).1.2 ++ [⟨3, 0, nnE, (b8 ars pc s.value x).2, 0, (m5 ars s.body m (m6 pc (k8 x.1 ars 5 s.value)) ((b8 ars pc s.value x).1.1, [])).2, (m5 ars s.els m (m6 pc (k8 x.1 ars 5 s.value)) ((m5 ars s.body m (m6 pc (k8 x.1 ars 5 s.value)) ((b8 ars pc s.value x).1.1, [])).1, [])).2⟩]) := by
 obtain ⟨kd, tg, ix, vl, ct, bd, el⟩ := s
 have k : kd = 3 := k
 have h : aa5 (k8 x.1 ars 5 vl) = false := h
 rw [v8, if_neg (by omega), if_pos k, if_neg (by rw [h]; decide)]; rfl
theorem ln5 (k : s.kind = 5) : v8 ars s m pc x = ((b8 ars pc s.value x).1.1, (b8 ars pc s.value x).1.2 ++ [⟨5, s.target, nnE, (b8 ars pc s.value x).2, 0, [], []⟩]) := by
 obtain ⟨kd, tg, ix, vl, ct, bd, el⟩ := s
 have k : kd = 5 := k
 rw [v8, if_neg (by omega), if_neg (by omega), if_pos k]; rfl
theorem ln1 (k : s.kind = 1) : v8 ars s m pc x = ((b8 ars pc s.value x).1.1, (b8 ars pc s.value x).1.2 ++ [M4 s.target (w9 m (b8 ars pc s.value x).2 (vrE s.target))]) := by
 obtain ⟨kd, tg, ix, vl, ct, bd, el⟩ := s
 have k : kd = 1 := k
 rw [v8, if_neg (by omega), if_neg (by omega), if_neg (by omega), if_pos k]; rfl
theorem bw0 (k : s.kind = 2) (h : aa5 (k8 (b8 ars pc s.value x).1.1 ars 5 s.index) = true) : v8 ars s m pc x = ((b8 ars pc s.value x).1.1 ++ [m6 (k8 (b8 ars pc s.value x).1.1 ars 5 (b8 ars pc s.value x).2) pc], (b8 ars pc s.value x).1.2 ++ [M4 ((b8 ars pc s.value x).1.1.length : Int) (b8 ars pc s.value x).2] ++ Y7 ((b8 ars pc s.value x).1.1.length : Int) s.target s.index m 4) := by
 obtain ⟨kd, tg, ix, vl, ct, bd, el⟩ := s
 have k : kd = 2 := k
 have h : aa5 (k8 (b8 ars pc vl x).1.1 ars 5 ix) = true := h
 rw [v8, if_neg (by omega), if_neg (by omega), if_neg (by omega), if_neg (by omega), if_pos h]; rfl
theorem bw1 (k : s.kind = 2) (h : aa5 (k8 (b8 ars pc s.value x).1.1 ars 5 s.index) = false) : v8 ars s m pc x = ((b8 ars pc s.value x).1.1, (b8 ars pc s.value x).1.2 ++ [⟨2, s.target, s.index, w9 m (b8 ars pc s.value x).2 (rdE s.target s.index), 0, [], []⟩]) := by
 obtain ⟨kd, tg, ix, vl, ct, bd, el⟩ := s
 have k : kd = 2 := k
 have h : aa5 (k8 (b8 ars pc vl x).1.1 ars 5 ix) = false := h
 rw [v8, if_neg (by omega), if_neg (by omega), if_neg (by omega), if_neg (by omega), if_neg (by rw [h]; decide)]; rfl
end
theorem E9 {nv nw na : Nat} (h : nv ≤ nw) : ∀ (d : Nat) (e : b5), l5 nv na d e = true → l5 nw na d e = true
 | 0, _, hs => by simp [l5] at hs
 | d + 1, e, hs => by
  simp only [l5, bE9, bG1] at hs ⊢
  refine ⟨⟨?_, fun x hx => E9 h d x (hs.1.2 x hx)⟩, hs.2⟩
  have h1 := hs.1.1
  simp only [D4, bE9, decide_eq_true_eq] at h1 ⊢
  refine ⟨h1.1, Int.lt_of_lt_of_le h1.2 ?_⟩
  unfold L0
  (repeat' split) <;> omega
theorem aB7 {nv na : Nat} : ∀ (d : Nat) (e : b5), l5 nv na d e = true → l5 nv na (d + 1) e = true
 | 0, _, hs => by simp [l5] at hs
 | d + 1, e, hs => by
  rw [l5] at hs ⊢
  simp only [bE9, bG1] at hs ⊢
  exact ⟨⟨hs.1.1, fun x hx => aB7 d x (hs.1.2 x hx)⟩, hs.2⟩
theorem aR3 {nv na c d : Nat} {e : b5} (h : c ≤ d) (hs : l5 nv na c e = true) : l5 nv na d e = true := by
 induction d with
 | zero => rwa [show c = 0 by omega] at hs
 | succ d ih =>
  rcases bI0 c (d + 1) with hl | hl
  ·exact aB7 d e (ih (by omega))
  ·rwa [show c = d + 1 by omega] at hs
theorem aF8 {ars : List Int} {pc : Int} {nv na d : Nat} {e : b5} {s : LnS} (ha : atomB e = true) (hs : l5 nv na d e = true) : b8 ars pc e s = (s, e) ∧ e.kids = [] := by
 obtain ⟨k, v, ks⟩ := e
 cases d with
 | zero => simp [l5] at hs
 | succ d =>
  have hk : k = 1 ∨ k = 2 := by
   have h := ha
   simp only [atomB, Bool.or_eq_true, decide_eq_true_eq] at h
   exact h
  have hn : ks = [] := by
   simp only [l5, D4, bE9, decide_eq_true_eq] at hs
   have h1 := hs.1.1.1.1
   have h2 : I8 k = 0 := by unfold I8; rw [if_pos hk]
   have h3 : (ks.length : Int) = 0 := h1.trans h2
   exact bI1 (by omega)
  subst hn
  refine ⟨?_, rfl⟩
  rw [b8, if_neg (by omega)]
  rfl
theorem aS2 {nv na d : Nat} {e : b5} (k : e.kind = 3) (hs : l5 nv na (d + 1) e = true) : ∃ a, e.kids = [a] ∧ atomB a = true ∧ l5 nv na d a = true ∧ a.kids = [] := by
 obtain ⟨kd, v, ks⟩ := e
 have k : kd = 3 := k
 subst k
 simp only [l5, D4, bE9, decide_eq_true_eq] at hs
 have h1 : (ks.length : Int) = 1 := hs.1.1.1.1
 match ks, h1, hs with
 | [a], _, hs =>
  have h2 : atomB a = true := by
   have h := hs.2
   unfold P5 at h
   have h : (decide ((3 : Int) ≠ 3) || atomB a) = true := h
   simpa using h
  have h3 : l5 nv na d a = true := bG1.1 hs.1.2 a (bH9.2 rfl)
  exact ⟨a, rfl, h2, h3, (aF8 (ars := []) (pc := 0) (s := ([], [])) h2 h3).2⟩
theorem aC3 {ars : List Int} {pc : Int} {nv na d : Nat} {e : b5} {s : LnS} (k : e.kind = 3) (hs : l5 nv na (d + 1) e = true) : w5 ars pc e.kids s = (s, e.kids) := by
 obtain ⟨a, h1, h2, h3, -⟩ := aS2 k hs
 rw [h1]
 have := aF8 (ars := ars) (pc := pc) (s := s) h2 h3
 simp only [w5, this.1]
structure Grw (nv na d : Nat) (sz : Nat) (s : LnS) (r : LnS) : Prop where
 lo : s.1.length ≤ r.1.length
 hi : r.1.length ≤ s.1.length + sz
 st : l7 r.2 ≤ l7 s.2 + 40 * sz
 len : s.2.length ≤ r.2.length
theorem bf7 (v a : Int) (i : b5) (hi : i.kids = []) : ∀ n : Nat, l7 (rdL v a i n) = 2 + 9 * n
 | 0 => rfl
 | n + 1 => by
  have h0 : t8 i = 0 := by cases i; simp only [b5.kids] at hi; subst hi; rfl
  rw [rdL, A8, bf7 v a i hi n]
  simp [l7, K6, t8, n7, h0]; omega
theorem W4 (v a : Int) (i : b5) : ∀ n : Nat, (rdL v a i n).length = n + 1
 | 0 => rfl
 | n + 1 => by rw [rdL, bF2, W4 v a i n]; rfl
theorem D2 (v t : Int) (i : b5) (m : Int) : ∀ n : Nat, (Y7 v t i m n).length = n
 | 0 => rfl
 | n + 1 => by rw [Y7, bF2, D2 v t i m n]; rfl
theorem ad8 (m : Int) (e f : b5) : t8 (w9 m e f) ≤ 3 + t8 e + t8 f := by
 unfold w9; split
 ·omega
 ·simp [t8, n7]; omega
theorem be3 (v t : Int) (i : b5) (m : Int) (hi : i.kids = []) : ∀ n : Nat, l7 (Y7 v t i m n) ≤ 20 * n
 | 0 => bF7 _
 | n + 1 => by
  have h0 : t8 i = 0 := by cases i; simp only [b5.kids] at hi; subst hi; rfl
  have h1 := be3 v t i m hi n
  have h2 := ad8 m (R7 i (n : Int)) (cnE 0)
  have h3 : t8 (R7 i (n : Int)) = 4 := by simp [t8, n7, h0]
  have h4 : t8 (cnE 0) = 0 := rfl
  rw [Y7, A8]
  simp only [l7, K6, t8, n7]
  omega
theorem a84 {nv na d : Nat} {v : Nat} (h : v < nv) : l5 nv na (d + 1) (vrE (v : Int)) = true := by
 simp [l5, D4, P5, I8, L0, b5.kids, b5.kind, b5.value, h]
theorem a57 {ars : List Int} {pc : Int} {na d : Nat} (hg : ∀ (e : b5) (s : LnS), l5 s.1.length na d e = true → Grw s.1.length na d (1 + t8 e) s (b8 ars pc e s).1 ∧ l5 (b8 ars pc e s).1.1.length na d (b8 ars pc e s).2 = true ∧ t8 (b8 ars pc e s).2 ≤ t8 e) :
  ∀ (ks : List b5) (s : LnS), (∀ x ∈ ks, l5 s.1.length na d x = true) → Grw s.1.length na d (n7 ks) s (w5 ars pc ks s).1 ∧ (∀ x ∈ (w5 ars pc ks s).2, l5 (w5 ars pc ks s).1.1.length na d x = true) ∧ n7 (w5 ars pc ks s).2 ≤ n7 ks ∧ (w5 ars pc ks s).2.length = ks.length := by
 intro ks
 induction ks with
 | nil => intro s _; exact ⟨⟨bF7 _, bF7 _, bF7 _, bF7 _⟩, fun x hx => (by cases hx), bF7 _, rfl⟩
 | cons x r ih =>
  intro s h
  obtain ⟨g1, g2, g3⟩ := hg x s (h x bG8)
  obtain ⟨k1, k2, k3, k4⟩ := ih (b8 ars pc x s).1 fun y hy => E9 g1.lo d y (h y (bH2 _ hy))
  simp only [w5, n7]
  refine ⟨⟨bH0 g1.lo k1.lo, ?_, ?_, bH0 g1.len k1.len⟩, ?_, ?_, ?_⟩
  ·have := g1.hi; have := k1.hi; omega
  ·have := g1.st; have := k1.st; omega
  ·intro y hy
   rcases bI7.1 hy with rfl | hy
   ·exact E9 k1.lo d _ g2
   ·exact k2 y hy
  ·omega
  ·simp [k4]
theorem ae2 (ars : List Int) (pc : Int) (na : Nat) : ∀ (d : Nat) (e : b5) (s : LnS), l5 s.1.length na d e = true →
  Grw s.1.length na d (1 + t8 e) s (b8 ars pc e s).1 ∧ l5 (b8 ars pc e s).1.1.length na d (b8 ars pc e s).2 = true ∧ t8 (b8 ars pc e s).2 ≤ t8 e
 | 0, _, _, hs => by simp [l5] at hs
 | d + 1, e, s, hs => by
  have key := a57 (ars := ars) (pc := pc) (na := na) (d := d) fun e s h => ae2 ars pc na d e s h
  have hs0 := hs
  rw [l5] at hs
  simp only [bE9, bG1] at hs
  obtain ⟨g1, g2, g3, g4⟩ := key e.kids s hs.1.2
  rw [aD8]
  split
  ·rename_i h
   obtain ⟨a, h1, h2, h3, h4⟩ := aS2 h.1 hs0
   have hz : t8 e = 1 := by
    rw [E3, h1]
    have : t8 a = 0 := by rw [E3, h4]; rfl
    simp [n7, this]
   have hr := aC3 (ars := ars) (pc := pc) (s := s) h.1 hs0
   have e0 : e.kids.getD 0 bE8 = a := by rw [h1]; rfl
   rw [hr, e0]
   refine ⟨⟨?_, ?_, ?_, ?_⟩, ?_, ?_⟩
   ·simp
   ·simp
   ·simp only [A8, bf7 _ _ a h4]; omega
   ·simp
   ·have : l5 (s.1.length + 1) na (d + 1) (vrE (s.1.length : Int)) = true := a84 (by omega)
    simpa using this
   ·exact bH1 _
  ·rename_i h
   refine ⟨⟨g1.lo, ?_, ?_, g1.len⟩, ?_, ?_⟩
   ·have := g1.hi; rw [E3]; show (w5 ars pc e.kids s).1.1.length ≤ _; omega
   ·have := g1.st; rw [E3]; show l7 (w5 ars pc e.kids s).1.2 ≤ _; omega
   ·rw [l5]
    simp only [bE9, bG1]
    refine ⟨⟨?_, g2⟩, ?_⟩
    ·have h1 := hs.1.1
     simp only [D4, bE9, decide_eq_true_eq] at h1 ⊢
     refine ⟨⟨?_, h1.1.2⟩, Int.lt_of_lt_of_le h1.2 ?_⟩
     ·show (((w5 ars pc e.kids s).2.length : Nat) : Int) = I8 e.kind
      rw [g4]; exact h1.1.1
     ·show L0 s.1.length na e.kind ≤ L0 (w5 ars pc e.kids s).1.1.length na e.kind
      have := g1.lo
      unfold L0
      (repeat' split) <;> omega
    ·by_cases k : e.kind = 3
     ·rw [aC3 (ars := ars) (pc := pc) (s := s) k hs0]
      show P5 ⟨e.kind, e.value, e.kids⟩ = true
      rw [b5.eta]; exact hs.2
     ·unfold P5; rw [Bool.or_eq_true]; exact .inl (decide_eq_true k)
   ·rw [E3 e]; exact g3
mutual
theorem aD7 (ars : List Int) (pc : Int) : ∀ (e : b5) (vs : List Int) (bd : List b6), b8 ars pc e (vs, bd) = (((b8 ars pc e (vs, [])).1.1, bd ++ (b8 ars pc e (vs, [])).1.2), (b8 ars pc e (vs, [])).2)
 | ⟨k, v, ks⟩, vs, bd => by
  rw [b8, b8, ah2 ars pc ks vs bd]
  split
  ·simp
  ·rfl
theorem ah2 (ars : List Int) (pc : Int) : ∀ (ks : List b5) (vs : List Int) (bd : List b6), w5 ars pc ks (vs, bd) = (((w5 ars pc ks (vs, [])).1.1, bd ++ (w5 ars pc ks (vs, [])).1.2), (w5 ars pc ks (vs, [])).2)
 | [], vs, bd => by simp [w5]
 | e :: t, vs, bd => by
  simp only [w5]
  rw [aD7 ars pc e vs bd, ah2 ars pc t (b8 ars pc e (vs, [])).1.1 (bd ++ (b8 ars pc e (vs, [])).1.2)]
  have h : w5 ars pc t (b8 ars pc e (vs, [])).1 = (((w5 ars pc t ((b8 ars pc e (vs, [])).1.1, [])).1.1, (b8 ars pc e (vs, [])).1.2 ++ (w5 ars pc t ((b8 ars pc e (vs, [])).1.1, [])).1.2), (w5 ars pc t ((b8 ars pc e (vs, [])).1.1, [])).2) := ah2 ars pc t (b8 ars pc e (vs, [])).1.1 (b8 ars pc e (vs, [])).1.2
  rw [h]
  simp
end
mutual
theorem a15 (ars : List Int) : ∀ (s : b6) (m pc : Int) (vs : List Int) (bd : List b6), v8 ars s m pc (vs, bd) = ((v8 ars s m pc (vs, [])).1, bd ++ (v8 ars s m pc (vs, [])).2)
 | ⟨k, t, i, v, c, b, e⟩, m, pc, vs, bd => by
  rw [v8, v8, aD7 ars pc v vs bd]
  split
  ·simp
  ·split
   ·split
    ·have h1 := fun m pc vs bd => R6 ars b m pc vs bd
     have h2 := fun m pc vs bd => R6 ars e m pc vs bd
     simp only [ifM]
     rw [h1 _ _ _ (bd ++ (b8 ars pc v (vs, [])).1.2 ++ _ ++ _), h2, h1 _ _ _ ((b8 ars pc v (vs, [])).1.2 ++ _ ++ _), h2 _ _ _ ((b8 ars pc v (vs, [])).1.2 ++ _ ++ _ ++ _)]
     simp
    ·simp
   ·split
    ·simp
    ·split
     ·simp
     ·split <;> simp
theorem R6 (ars : List Int) : ∀ (ss : List b6) (m pc : Int) (vs : List Int) (bd : List b6), m5 ars ss m pc (vs, bd) = ((m5 ars ss m pc (vs, [])).1, bd ++ (m5 ars ss m pc (vs, [])).2)
 | [], _, _, _, _ => by simp [m5]
 | x :: r, m, pc, vs, bd => by
  simp only [m5]
  rw [a15 ars x m pc vs bd, R6 ars r m pc (v8 ars x m pc (vs, [])).1 (bd ++ (v8 ars x m pc (vs, [])).2)]
  have h : m5 ars r m pc (v8 ars x m pc (vs, [])) = ((m5 ars r m pc ((v8 ars x m pc (vs, [])).1, [])).1, (v8 ars x m pc (vs, [])).2 ++ (m5 ars r m pc ((v8 ars x m pc (vs, [])).1, [])).2) := R6 ars r m pc (v8 ars x m pc (vs, [])).1 (v8 ars x m pc (vs, [])).2
  rw [h]
  simp
end
structure GrS (sz : Nat) (x r : LnS) : Prop where
 lo : x.1.length ≤ r.1.length
 hi : r.1.length ≤ x.1.length + 4 * sz
 st : l7 r.2 ≤ l7 x.2 + 130 * sz
 len : x.2.length ≤ r.2.length
theorem GrS.refl (x : LnS) (n : Nat) : GrS n x x := ⟨bF7 _, by omega, by omega, bF7 _⟩
theorem an4 {nv na : Nat} {s : b6} (h : C2 nv na s = true) (k : s.kind = 2) : s.index.kids = [] ∧ atomB s.index = true ∧ l5 nv na 5 s.index = true := by
 rw [L7 k] at h
 simp only [bE9] at h
 have hs := ag8 h.2.1
 exact ⟨(aF8 (ars := []) (pc := 0) (s := ([], [])) h.2.2.1 hs).2, h.2.2.1, hs⟩
theorem ay1 {e : b5} (h : e.kids = []) : t8 e = 0 := by rw [E3, h]; rfl
theorem aO4 {ars : List Int} {na nv d : Nat} (ih : ∀ (s : b6) (m pc : Int) (x : LnS), l8 nv na d s = true → nv ≤ x.1.length → GrS (1 + K6 s) x (v8 ars s m pc x)) :
  ∀ (ss : List b6) (m pc : Int) (x : LnS), ss.all (l8 nv na d) = true → nv ≤ x.1.length → GrS (l7 ss) x (m5 ars ss m pc x)
 | [], _, _, x, _, _ => GrS.refl x _
 | s :: r, m, pc, x, h, hx => by
  simp only [List.all_cons, bE9] at h
  have h1 := ih s m pc x h.1 hx
  have h2 := aO4 ih r m pc (v8 ars s m pc x) h.2 (bH0 hx h1.lo)
  rw [m5, l7]
  exact ⟨bH0 h1.lo h2.lo, by have := h1.hi; have := h2.hi; omega, by have := h1.st; have := h2.st; omega, bH0 h1.len h2.len⟩
theorem a58 (ars : List Int) (na nv : Nat) : ∀ (d : Nat) (s : b6) (m pc : Int) (x : LnS), l8 nv na d s = true → nv ≤ x.1.length → GrS (1 + K6 s) x (v8 ars s m pc x)
 | 0, _, _, _, _, h, _ => by simp [l8] at h
 | d + 1, s, m, pc, x, h, hx => by
  have blk := fun (ss : List b6) (m pc : Int) (x : LnS) => aO4 (ars := ars) (na := na) (nv := nv) (d := d) (fun s m pc x => a58 ars na nv d s m pc x) ss m pc x
  rw [O2, bE9, bE9] at h
  obtain ⟨hh, hb, he⟩ := h
  have hsz : K6 s = t8 s.index + t8 s.value + l7 s.body + l7 s.els := by cases s; rfl
  by_cases k4 : s.kind = 4
  ·rw [ln4 k4]
   have h1 := blk s.body m pc (x.1, []) hb hx
   have a := h1.lo; have b := h1.hi; have c := h1.st
   simp only [l7] at a b c
   have e0 : t8 nnE = 0 := rfl
   refine ⟨a, ?_, ?_, ?_⟩
   ·simp only; omega
   ·simp only [A8, l7, K6, e0]; omega
   ·simp
  have hv : l5 x.1.length na 5 s.value = true := E9 hx 5 _ (A4 hh k4)
  obtain ⟨g1, g2, g3⟩ := ae2 ars pc na 5 s.value x hv
  have a0 := g1.lo; have b0 := g1.hi; have c0 := g1.st; have d0 := g1.len
  have e0 : t8 nnE = 0 := rfl
  have e1 : t8 (cnE 0) = 0 := rfl
  by_cases k3 : s.kind = 3
  ·cases hs : aa5 (k8 x.1 ars 5 s.value)
   ·rw [bz8 k3 hs]
    have h1 := blk s.body m (m6 pc (k8 x.1 ars 5 s.value)) ((b8 ars pc s.value x).1.1, []) hb (bH0 hx a0)
    have h2 := blk s.els m (m6 pc (k8 x.1 ars 5 s.value)) ((m5 ars s.body m (m6 pc (k8 x.1 ars 5 s.value)) ((b8 ars pc s.value x).1.1, [])).1, []) he (bH0 hx (bH0 a0 h1.lo))
    have a := h1.lo; have b := h1.hi; have c := h1.st
    have a2 := h2.lo; have b2 := h2.hi; have c2 := h2.st
    simp only [l7] at a b c a2 b2 c2
    refine ⟨?_, ?_, ?_, ?_⟩
    ·simp only; omega
    ·simp only; omega
    ·simp only [A8, l7, K6, e0]; omega
    ·simp; omega
   ·rw [bz7 k3 hs]
    generalize hl : m6 pc (k8 x.1 ars 5 s.value) = l
    generalize hy : ifM (b8 ars pc s.value x) m l = y
    have y1 : y.1.length = (b8 ars pc s.value x).1.1.length + 2 := by rw [← hy]; simp
    have y2 : l7 y.2 ≤ l7 (b8 ars pc s.value x).1.2 + 20 + t8 (b8 ars pc s.value x).2 := by
     have m1 := ad8 m (b8 ars pc s.value x).2 (cnE 0)
     have m2 := ad8 m ⟨9, 0, [vrE ((b8 ars pc s.value x).1.1.length : Int), cnE 0]⟩ (cnE 0)
     have m3 : t8 ⟨9, 0, [vrE ((b8 ars pc s.value x).1.1.length : Int), cnE 0]⟩ = 2 := rfl
     rw [← hy]
     simp only [ifM, A8, l7, K6, e0]; omega
    have y3 : (b8 ars pc s.value x).1.2.length ≤ y.2.length := by rw [← hy]; simp
    have h1 := blk s.body ((b8 ars pc s.value x).1.1.length : Int) l y hb (by omega)
    have h2 := blk s.els (((b8 ars pc s.value x).1.1 ++ [l]).length : Int) l (m5 ars s.body ((b8 ars pc s.value x).1.1.length : Int) l y) he (by have := h1.lo; omega)
    have a := h1.lo; have b := h1.hi; have c := h1.st; have d1 := h1.len
    have a2 := h2.lo; have b2 := h2.hi; have c2 := h2.st; have d2 := h2.len
    exact ⟨by omega, by omega, by omega, by omega⟩
  by_cases k5 : s.kind = 5
  ·rw [ln5 k5]
   refine ⟨a0, ?_, ?_, ?_⟩
   ·simp only; omega
   ·simp only [A8, l7, K6, e0]; omega
   ·simp; omega
  by_cases k1 : s.kind = 1
  ·rw [ln1 k1]
   have m1 := ad8 m (b8 ars pc s.value x).2 (vrE s.target)
   have m2 : t8 (vrE s.target) = 0 := rfl
   refine ⟨a0, ?_, ?_, ?_⟩
   ·simp only; omega
   ·simp only [A8, l7, K6, e0]; omega
   ·simp; omega
  by_cases k2 : s.kind = 2
  ·obtain ⟨q1, -, -⟩ := an4 hh k2
   cases hs : aa5 (k8 (b8 ars pc s.value x).1.1 ars 5 s.index)
   ·rw [bw1 k2 hs]
    have m1 := ad8 m (b8 ars pc s.value x).2 (rdE s.target s.index)
    have m2 : t8 (rdE s.target s.index) = 1 := by simp [t8, n7, ay1 q1]
    have m3 := ay1 q1
    refine ⟨a0, ?_, ?_, ?_⟩
    ·simp only; omega
    ·simp only [A8, l7, K6]; omega
    ·simp; omega
   ·rw [bw0 k2 hs]
    have m1 := be3 ((b8 ars pc s.value x).1.1.length : Int) s.target s.index m q1 4
    refine ⟨?_, ?_, ?_, ?_⟩
    ·simp; omega
    ·simp; omega
    ·simp only [A8, l7, K6, e0]; omega
    ·simp; omega
  ·rw [aE0 ⟨k1, k2, k3, k4, k5⟩] at hh; cases hh
theorem au5 (ars : List Int) {na nv d : Nat} (ss : List b6) (m pc : Int) (x : LnS) (h : ss.all (l8 nv na d) = true) (hx : nv ≤ x.1.length) : GrS (l7 ss) x (m5 ars ss m pc x) := aO4 (a58 ars na nv d) ss m pc x h hx
theorem ap6 {nv na : Nat} {e : b5} (h : n6 nv na e = true) : t8 e ≤ 14 := by
 unfold n6 at h; simp only [bE9, decide_eq_true_eq] at h; omega
theorem ax9 {e : b5} (h : noneB e = true) : t8 e = 0 := by
 unfold noneB at h; simp only [bE9, decide_eq_true_eq] at h
 exact ay1 (bI1 h.2)
theorem a43 {nv na d : Nat} (ih : ∀ s : b6, l8 nv na d s = true → 1 + K6 s ≤ 29 * nS s) : ∀ ss : List b6, ss.all (l8 nv na d) = true → l7 ss ≤ 29 * P7 ss
 | [], _ => bF7 _
 | s :: r, h => by
  simp only [List.all_cons, bE9] at h
  have h1 := ih s h.1
  have h2 := a43 ih r h.2
  rw [l7, P7]; omega
theorem bd6 {nv na : Nat} : ∀ (d : Nat) (s : b6), l8 nv na d s = true → 1 + K6 s ≤ 29 * nS s
 | 0, _, h => by simp [l8] at h
 | d + 1, s, h => by
  rw [O2, bE9, bE9] at h
  obtain ⟨hh, hb, he⟩ := h
  have h1 := a43 (fun s => bd6 d s) s.body hb
  have h2 := a43 (fun s => bd6 d s) s.els he
  have hsz : K6 s = t8 s.index + t8 s.value + l7 s.body + l7 s.els := by cases s; rfl
  have hn := an2 s
  have key : t8 s.index + t8 s.value ≤ 28 := by
   by_cases k4 : s.kind = 4
   ·rw [Y3 k4] at hh; simp only [bE9] at hh
    have := ax9 hh.2.1; have := ax9 hh.2.2; omega
   by_cases k3 : s.kind = 3
   ·rw [aa0 k3] at hh; simp only [bE9] at hh
    have := ax9 hh.2.1; have := ap6 hh.2.2; omega
   by_cases k15 : s.kind = 1 ∨ s.kind = 5
   ·rw [E6 k15] at hh; simp only [bE9] at hh
    have := ax9 hh.2.1; have := ap6 hh.2.2; omega
   by_cases k2 : s.kind = 2
   ·rw [L7 k2] at hh; simp only [bE9] at hh
    have := ap6 hh.2.1; have := ap6 hh.2.2.2; omega
   ·rw [aE0 (by omega)] at hh; cases hh
  omega
def aq5 (p : b9) : LnS := m5 p.arrays p.body (-1) 0 (p.vars, [])
def ba1 (p : b9) : b9 := ⟨(aq5 p).1, p.arrays, (aq5 p).2⟩
theorem ab4 {p : b9} (h : v7 p = true) : p.vars.length ≤ 12 ∧ p.arrays.length ≤ 2 ∧ l7 p.body ≤ 1740 := by
 unfold v7 J8 af0 at h
 simp only [bE9, decide_eq_true_eq] at h
 have := a43 (bd6 5) p.body h.1.2
 omega
theorem aO5 {p : b9} (h : v7 p = true) : p.vars.length ≤ (aq5 p).1.length ∧ (aq5 p).1.length ≤ 7000 ∧ l7 (aq5 p).2 ≤ 230000 := by
 have hz := ab4 h
 have hb : p.body.all (l8 p.vars.length p.arrays.length 5) = true := (au4 h).2.2.2
 have g := au5 p.arrays p.body (-1) 0 (p.vars, []) hb (bF7 _)
 have a := g.lo; have b := g.hi; have c := g.st
 simp only [l7] at a b c
 unfold aq5
 omega
theorem bo6 {p : b9} (h : v7 p = true) : (ba1 p).size ≤ 240000 := by
 have h1 := aO5 h
 have h2 := ab4 h
 show (aq5 p).1.length + p.arrays.length + l7 (aq5 p).2 ≤ _
 omega
def Y9 (p : b9) : Bool := decide ((Q7 p false).1 = 0) && v7 (ba1 p)
def G8 (p : b9) : b9 := if Y9 p = true then ba1 p else ⟨[], [], []⟩
theorem O4 {p : b9} (h : (Q7 p false).1 = 0) : v7 p = true := ((bp6 p false).1 h).1
theorem bs2 {p : b9} (h : ¬ (Q7 p false).1 = 0) : Y9 p = false := by unfold Y9; rw [decide_eq_false h, Bool.false_and]
theorem bs1 {p : b9} (h : v7 (ba1 p) = false) : Y9 p = false := by unfold Y9; rw [h, Bool.and_false]
theorem bs0 {p : b9} (h : (Q7 p false).1 = 0) (h2 : v7 (ba1 p) = true) : Y9 p = true := by unfold Y9; rw [decide_eq_true h, h2]; rfl
theorem a56 {p : b9} (h : Y9 p = false) : G8 p = ⟨[], [], []⟩ := by unfold G8; rw [h]; rfl
theorem bs5 {p : b9} (h : Y9 p = true) : G8 p = ba1 p := by unfold G8; rw [h]; rfl
theorem a14 (p : b9) : (G8 p).size ≤ 240000 := by
 cases h : Y9 p
 ·rw [a56 h]; simp [b9.size, l7]
 ·rw [bs5 h]
  unfold Y9 at h
  simp only [bE9, decide_eq_true_eq] at h
  exact bo6 (O4 h.1)
mutual
def AV.den (t : Bool) (n : Nat) : AV → AV
 | .v x => .v x
 | .ptr a b => .ptr a b
 | .ea a b c d => .ea a b c d
 | .ref i => if !t && natEq i n then .v (.slice none 0 0) else .ref i
 | .agg l => .agg (AV.denL t n l)
 | .tup l => .tup (AV.denL t n l)
 | .fn f l => .fn f (AV.denL t n l)
 | .bm f l => .bm f (AV.denL t n l)
 | .tref i => if t && natEq i n then .v (.slice none 0 0) else .tref i
def AV.denL (t : Bool) (n : Nat) : List AV → List AV
 | [] => []
 | x :: r => x.den t n :: AV.denL t n r
end
def It.den (t : Bool) (n : Nat) : It → It
 | .box cs => .box (AV.denL t n cs)
 | x => x
mutual
theorem AV.val_den {ρ : Nat → Value} {t : Bool} {n : Nat} {z : Value} (hz : if t then H2 z = .slice none 0 0 else z = .slice none 0 0) : ∀ (x : AV), (∀ i ∈ (x.den t n).ids, i < n) → x.val (fun j => if j = n then z else ρ j) = (x.den t n).val ρ ∧ ∀ i ∈ x.ids, i < n + 1
 | .v _, _ => ⟨rfl, fun i hi => by simp [AV.ids] at hi⟩
 | .ptr a b, h => by
  have ha : a < n := h a (by simp [AV.den, AV.ids])
  refine ⟨?_, fun i hi => by simp [AV.ids] at hi; omega⟩
  simp only [AV.den, AV.val]
  rw [if_neg (by omega)]
 | .ea a b c d, h => by
  have ha : a < n := h a (by simp [AV.den, AV.ids])
  refine ⟨?_, fun i hi => by simp [AV.ids] at hi; omega⟩
  simp only [AV.den, AV.val]
  rw [if_neg (by omega)]
 | .ref a, h => by
  by_cases e : t = false ∧ a = n
  ·obtain ⟨rfl, rfl⟩ := e
   refine ⟨?_, fun i hi => by simp [AV.ids] at hi; omega⟩
   simp only [Bool.false_eq_true, if_false] at hz
   simp [AV.den, AV.val, natEq, hz]
  ·have hd : (AV.ref a).den t n = .ref a := by
    simp only [AV.den]
    rw [if_neg]
    simp [natEq]; intro h1 h2; exact e ⟨h1, h2⟩
   rw [hd] at h ⊢
   have ha : a < n := h a (by simp [AV.ids])
   refine ⟨?_, fun i hi => by simp [AV.ids] at hi; omega⟩
   simp only [AV.val]
   rw [if_neg (by omega)]
 | .tref a, h => by
  by_cases e : t = true ∧ a = n
  ·obtain ⟨rfl, rfl⟩ := e
   refine ⟨?_, fun i hi => by simp [AV.ids] at hi; omega⟩
   simp only [if_true] at hz
   simp [AV.den, AV.val, natEq, hz]
  ·have hd : (AV.tref a).den t n = .tref a := by
    simp only [AV.den]
    rw [if_neg]
    simp [natEq]; intro h1 h2; exact e ⟨h1, h2⟩
   rw [hd] at h ⊢
   have ha : a < n := h a (by simp [AV.ids])
   refine ⟨?_, fun i hi => by simp [AV.ids] at hi; omega⟩
   simp only [AV.val]
   rw [if_neg (by omega)]
 | .agg l, h => by
  obtain ⟨h1, h2⟩ := AV.vals_den hz l (by simpa [AV.den, AV.ids] using h)
  exact ⟨by simp only [AV.den, AV.val]; rw [h1], by simpa [AV.ids] using h2⟩
 | .tup l, h => by
  obtain ⟨h1, h2⟩ := AV.vals_den hz l (by simpa [AV.den, AV.ids] using h)
  exact ⟨by simp only [AV.den, AV.val]; rw [h1], by simpa [AV.ids] using h2⟩
 | .fn f l, h => by
  obtain ⟨h1, h2⟩ := AV.vals_den hz l (by simpa [AV.den, AV.ids] using h)
  exact ⟨by simp only [AV.den, AV.val]; rw [h1], by simpa [AV.ids] using h2⟩
 | .bm f l, h => by
  obtain ⟨h1, h2⟩ := AV.vals_den hz l (by simpa [AV.den, AV.ids] using h)
  exact ⟨by simp only [AV.den, AV.val]; rw [h1], by simpa [AV.ids] using h2⟩
theorem AV.vals_den {ρ : Nat → Value} {t : Bool} {n : Nat} {z : Value} (hz : if t then H2 z = .slice none 0 0 else z = .slice none 0 0) : ∀ (l : List AV), (∀ i ∈ AV.idsL (AV.denL t n l), i < n) → AV.vals (fun j => if j = n then z else ρ j) l = AV.vals ρ (AV.denL t n l) ∧ ∀ i ∈ AV.idsL l, i < n + 1
 | [], _ => ⟨rfl, fun i hi => by simp [AV.idsL] at hi⟩
 | x :: r, h => by
  obtain ⟨h1, h2⟩ := AV.val_den hz x fun i hi => h i (by simp only [AV.denL, AV.idsL, bH6]; exact .inl hi)
  obtain ⟨h3, h4⟩ := AV.vals_den hz r fun i hi => h i (by simp only [AV.denL, AV.idsL, bH6]; exact .inr hi)
  refine ⟨by simp only [AV.denL, AV.vals]; rw [h1, h3], fun i hi => ?_⟩
  simp only [AV.idsL, bH6] at hi
  rcases hi with hi | hi
  ·exact h2 i hi
  ·exact h4 i hi
end
theorem aD5 {m : Bool} {n : Nat} {t : Nat} {x : AV} : ∀ {tm : List (Nat × AV)}, D3 tm t = some x → D3 (tm.map fun p => (p.1, p.2.den m n)) t = some (x.den m n)
 | [], h => by cases h
 | (k, y) :: r, h => by
  simp only [D3, bI2] at h ⊢
  split at h
  ·rename_i e; cases h; rw [if_pos e]
  ·rename_i e; rw [if_neg e]; exact aD5 h
section
variable {P : Program} {ι : Type} {φ ψ : Nat → Prop} {w0 w : World} {F : ι → Rs} {ρ ρ0 : Nat → Value} {N m n : Nat} {S : List It} {tm : List (Nat × AV)} {a : Act}
theorem A6.nilW (G : A6 φ ψ w0 F N m ρ0 ρ S tm a w) (n : Nat) (hn : S.length = n) (b : Bool) (x : It) (z : Value) (hz : if b then H2 z = .slice none 0 0 else z = .slice none 0 0) (hids : x.ids = []) (hb : ∀ g, ¬ (x.res (fun j => if j = n then z else ρ j) n).blk g)
  (hx : ∀ φ', (x.res (fun j => if j = n then z else ρ j) n).holds w φ') (S1 : List It) (tm1 : List (Nat × AV)) (hS : S = S1.map (It.den b n)) (ht : tm = tm1.map fun p => (p.1, p.2.den b n)) :
  ∃ ρ', A6 φ ψ w0 F N m ρ0 ρ' (S1 ++ [x]) tm1 a w := by
 have hl : S1.length = n := by rw [← hn, hS, List.length_map]
 have hat : ∀ j (hj : j < n), t7 S j = (S1[j]'(by omega)).den b n := fun j hj => by
  rw [ae1 (show j < S.length by omega)]
  have h1 := congrArg (·[j]?) hS
  simp only [List.getElem?_map, bF1 (show j < S.length by omega), bF1 (show j < S1.length by omega), Option.map_some, Option.some.injEq] at h1
  exact h1
 have hnew : ∀ j (hj : j < n), t7 (S1 ++ [x]) j = S1[j]'(by omega) := fun j hj => by
  simp [t7, bF4, bG9 (show j < S1.length by omega), bF1 (show j < S1.length by omega)]
 have hlast : t7 (S1 ++ [x]) n = x := by
  simp [t7, bF4, ← hl]
 have hout : ∀ j, n < j → t7 (S1 ++ [x]) j = .none := fun j hj => A0 (by simp; omega)
 have hbx : ∀ j (hj : j < n), ((S1[j]'(by omega)).res (fun j => if j = n then z else ρ j) j = (t7 S j).res ρ j) ∧ ∀ i ∈ (S1[j]'(by omega)).ids, i < n + 1 := fun j hj => by
  rw [hat j hj]
  have hb := (G.bd j).1
  rw [hat j hj, hn] at hb
  generalize S1[j]'(by omega) = x at *
  cases x with
  | box cs =>
   obtain ⟨h1, h2⟩ := AV.vals_den (ρ := ρ) (n := n) hz cs hb
   refine ⟨?_, h2⟩
   simp only [It.res, It.den]
   rw [h1, if_neg (show ¬ j = n by omega)]
  | none => exact ⟨rfl, fun i hi => by cases hi⟩
  | dead => exact ⟨rfl, fun i hi => by cases hi⟩
  | dat d' => exact ⟨by simp only [It.res, It.den]; rw [if_neg (show ¬ j = n by omega)], fun i hi => by cases hi⟩
  | row e' d' => exact ⟨by simp only [It.res, It.den]; rw [if_neg (show ¬ j = n by omega)], fun i hi => by cases hi⟩
  | tree d' => exact ⟨by simp only [It.res, It.den]; rw [if_neg (show ¬ j = n by omega)], fun i hi => by cases hi⟩
  | kept e' d' => exact ⟨by cases e' <;> (simp only [It.res, It.den]; rw [if_neg (show ¬ j = n by omega)]), fun i hi => by cases hi⟩
 have hw : ∀ t x, D3 tm1 t = some x → x.val (fun j => if j = n then z else ρ j) = (x.den b n).val ρ ∧ ∀ i ∈ x.ids, i < n + 1 := fun t x hx => by
  refine AV.val_den hz x fun i hi => ?_
  have h1 : D3 tm t = some (x.den b n) := by rw [ht]; exact aD5 hx
  have := G.tmi t _ h1 i hi
  omega
 refine ⟨fun j => if j = n then z else ρ j, ?_⟩
 refine ⟨G.size, G.defs, fun t x hx => ?_, fun t x hx i hi => ?_, fun j => ⟨fun i hi => ?_, fun hj => A0 hj⟩, ?_, ?_, fun i hi => ?_⟩
 ·have h1 : D3 tm t = some (x.den b n) := by rw [ht]; exact aD5 hx
  rw [(hw t x hx).1]; exact G.tmv t _ h1
 ·have := (hw t x hx).2 i hi
  simp; omega
 ·rcases Nat.lt_trichotomy j n with h | h | h
  ·rw [hnew j h] at hi
   have := (hbx j h).2 i hi
   simp; omega
  ·subst h; rw [hlast, hids] at hi; cases hi
  ·rw [hout j h] at hi; cases hi
 ·refine n9.put G.mem (.inr n) (fun k hk => ?_) (C3.refl _ _) ?_ ?_
  ·cases k with
   | inl i => rfl
   | inr j =>
    simp only [t6]
    rcases Nat.lt_trichotomy j n with h | h | h
    ·rw [hnew j h]; exact (hbx j h).1
    ·exact absurd (by rw [h]) hk
    ·rw [hout j h, A0 (show S.length ≤ j by omega)]; rfl
  ·simp only [t6, hlast]; exact hx _
  ·intro g hg
   simp only [t6, hlast] at hg
   exact absurd hg (hb g)
 ·have := G.le; simp; omega
 ·show (if i = n then _ else ρ i) = ρ0 i
  have := G.le
  rw [if_neg (by omega)]; exact G.old i hi
theorem A6.nil (G : A6 φ ψ w0 F N m ρ0 ρ S tm a w) (n : Nat) (e : TypeId) (d : D) (k : Nat) (S1 : List It) (tm1 : List (Nat × AV)) (hn : S.length = n := by kernel_rfl) (hd : D.nil k = some d := by kernel_rfl) (hS : S = S1.map (It.den false n) := by kernel_rfl) (ht : tm = tm1.map (fun p => (p.1, p.2.den false n)) := by kernel_rfl) :
  ∃ ρ', A6 φ ψ w0 F N m ρ0 ρ' (S1 ++ [.row e d]) tm1 a w := by
 have hz := D.nil_len hd
 refine G.nilW n hn false (.row e d) (.slice none 0 0) (by simp) rfl (fun g hg => ?_) (fun φ' => ?_) S1 tm1 hS ht
 ·simp only [It.res, if_true] at hg
  cases hg
 ·simp only [It.res, if_true]
  refine ⟨fun xs => RW.nice d xs, [], ?_, RW.nil hz _⟩
  rw [hz]; exact World.ownsRow_nil _ _ _ _
theorem A6.nilT (G : A6 φ ψ w0 F N m ρ0 ρ S tm a w) (n : Nat) (d : D) (S1 : List It) (tm1 : List (Nat × AV)) (hn : S.length = n := by kernel_rfl) (hd : ((ak1 d).isSome && natEq d.len 0) = true := by kernel_rfl) (hS : S = S1.map (It.den true n) := by kernel_rfl) (ht : tm = tm1.map (fun p => (p.1, p.2.den true n)) := by kernel_rfl) :
  ∃ ρ', A6 φ ψ w0 F N m ρ0 ρ' (S1 ++ [.tree d]) tm1 a w := by
 simp only [bE9, natEq, beq_iff_eq] at hd
 obtain ⟨e, he⟩ := bI6.1 hd.1
 obtain ⟨z, h1, h2⟩ := ao1 (.slice none 0 0) (fun _ => False) 0 fun b h => h.elim
 refine G.nilW n hn true (.tree d) z (by simp [h1]) rfl (fun g hg => ?_) (fun φ' => ?_) S1 tm1 hS ht
 ·simp only [It.res, if_true] at hg
  exact ((h2 g).1 hg).elim
 ·simp only [It.res, if_true]
  rw [h1]
  refine ⟨fun _ _ h hs => h.same hs, ⟨e, [], fun _ => False, he, ?_, (fun g hg => by cases hg), (fun b hb => hb.elim), ?_⟩, fun b hb => ((h2 b).1 hb).elim⟩
  ·rw [hd.2]; exact World.ownsRow_nil _ _ _ _
  ·have h0 := hd.2
   cases d <;> simp only [ak1] at he <;> first | cases he | skip
   all_goals (simp only [D.len] at h0; rw [bI1 h0]; rfl)
end
inductive Ln where
 | no
 | row (e : TypeId)
 | tree
def C7 (M : List Ln) (i : Nat) : Ln := M.getD i .no
def Ln.isT : Ln → Bool
 | .tree => true
 | _ => false
mutual
def AV.tr (M : List Ln) : AV → AV
 | .v x => .v x
 | .ptr a b => .ptr a b
 | .ea a b c d => .ea a b c d
 | .ref i => if (C7 M i).isT then .tref i else .ref i
 | .agg l => .agg (AV.trL M l)
 | .tup l => .tup (AV.trL M l)
 | .fn f l => .fn f (AV.trL M l)
 | .bm f l => .bm f (AV.trL M l)
 | .tref i => .tref i
def AV.trL (M : List Ln) : List AV → List AV
 | [] => []
 | x :: r => x.tr M :: AV.trL M r
end
mutual
def AV.trOk (M : List Ln) : AV → Bool
 | .v _ => true
 | .ptr a _ => !(C7 M a).isT
 | .ea a _ _ _ => !(C7 M a).isT
 | .ref _ => true
 | .agg l => AV.trOkL M l
 | .tup l => AV.trOkL M l
 | .fn _ l => AV.trOkL M l
 | .bm _ l => AV.trOkL M l
 | .tref i => !(C7 M i).isT
def AV.trOkL (M : List Ln) : List AV → Bool
 | [] => true
 | x :: r => x.trOk M && AV.trOkL M r
end
mutual
theorem AV.val_tr {ρ ρ' : Nat → Value} {M : List Ln} (h : ∀ i, ρ' i = if (C7 M i).isT then H2 (ρ i) else ρ i) : ∀ (x : AV), x.trOk M = true → (x.tr M).val ρ = x.val ρ'
 | .v _, _ => rfl
 | .ptr a _, hx => by
  simp only [AV.trOk, bF9] at hx
  simp only [AV.tr, AV.val]; rw [h a, hx]; rfl
 | .ea a _ _ _, hx => by
  simp only [AV.trOk, bF9] at hx
  simp only [AV.tr, AV.val]; rw [h a, hx]; rfl
 | .ref i, _ => by
  simp only [AV.tr]
  cases hm : (C7 M i).isT
  ·simp only [Bool.false_eq_true, if_false, AV.val]; rw [h i, hm]; rfl
  ·simp only [if_true, AV.val]; rw [h i, hm]; rfl
 | .agg l, hx => by simp only [AV.tr, AV.val]; rw [AV.vals_tr h l (by simpa [AV.trOk] using hx)]
 | .tup l, hx => by simp only [AV.tr, AV.val]; rw [AV.vals_tr h l (by simpa [AV.trOk] using hx)]
 | .fn _ l, hx => by simp only [AV.tr, AV.val]; rw [AV.vals_tr h l (by simpa [AV.trOk] using hx)]
 | .bm _ l, hx => by simp only [AV.tr, AV.val]; rw [AV.vals_tr h l (by simpa [AV.trOk] using hx)]
 | .tref i, hx => by
  simp only [AV.trOk, bF9] at hx
  simp only [AV.tr, AV.val]; rw [h i, hx]; rfl
theorem AV.vals_tr {ρ ρ' : Nat → Value} {M : List Ln} (h : ∀ i, ρ' i = if (C7 M i).isT then H2 (ρ i) else ρ i) : ∀ (l : List AV), AV.trOkL M l = true → AV.vals ρ (AV.trL M l) = AV.vals ρ' l
 | [], _ => rfl
 | x :: r, hx => by
  simp only [AV.trOkL, bE9] at hx
  simp only [AV.trL, AV.vals]; rw [AV.val_tr h x hx.1, AV.vals_tr h r hx.2]
end
def D8 (M : List Ln) : Ln → It → It
 | .row e, .dat d => .row e d
 | .tree, .dat d => .tree d
 | .no, .box cs => .box (AV.trL M cs)
 | _, x => x
def V1 (M : List Ln) (S : List It) : List It := (bG6 S.length).map fun i => D8 M (C7 M i) (t7 S i)
theorem Y0 (M : List Ln) (S : List It) (i : Nat) : t7 (V1 M S) i = D8 M (C7 M i) (t7 S i) := by
 unfold V1
 rcases bI0 i S.length with h | h
 ·conv => lhs; rw [t7, bF4, List.getElem?_map, List.getElem?_range h]
  rfl
 ·rw [A0 (by simpa using h), A0 h]
  cases C7 M i <;> rfl
def aU9 : D → Bool
 | .rows _ => false
 | .brows _ => false
 | .exprs _ => false
 | .stmts _ => false
 | _ => true
theorem a67 {w w' : World} {φ φ' : Nat → Prop} {d : D} {xs : List Value} (hd : aU9 d = true) (h : RW w φ d xs) : RW w' φ' d xs := by
 intro i hi j x hx
 obtain ⟨u, h1, h2⟩ := h i hi j x hx
 refine ⟨u, h1, ?_⟩
 have : ∃ y, x = .v y := by
  have hm := bG4 hx
  cases d <;> simp only [aU9, Bool.false_eq_true] at hd <;> simp [D.elem, a16, an9] at hm
  ·exact ⟨_, hm⟩
  ·exact ⟨_, hm⟩
  ·exact ⟨_, hm⟩
  ·exact ⟨_, hm⟩
  ·rcases hm with h | h | h | h | h <;> exact ⟨_, h⟩
  ·rcases hm with h | h <;> exact ⟨_, h⟩
 obtain ⟨y, rfl⟩ := this
 exact h2
def aT9 (M : List Ln) (l : Ln) (p x : It) : Bool :=
 match l with
 | .no => match x with
  | .dat _ => (match p with | .dat _ => true | _ => false)
  | .row _ d => aU9 d
  | .box cs => AV.trOkL M cs
  | .kept _ _ => false
  | _ => true
 | .row _ => (match p, x with | .dat d, .dat _ => aU9 d | _, _ => false)
 | .tree => (match p, x with | .dat d, .dat _ => (ak1 d).isSome | _, _ => false)
def bg1 (M : List Ln) (l : Ln) (p : It) : Bool :=
 match l, p with
 | .no, .box cs => AV.trOkL M cs
 | _, _ => true
def bh8 (M : List Ln) (c : p6) : Bool :=
 decide (M.length ≤ c.pre.length) && decide (c.pre.length ≤ c.post.length) && AV.trOkL M c.args && c.res.trOk M && (bG6 c.post.length).all (fun i => aT9 M (C7 M i) (t7 c.pre i) (t7 c.post i)) && (bG6 c.pre.length).all fun i => bg1 M (C7 M i) (t7 c.pre i)
def Rs.snap (w : World) (r : Rs) : Rs := .own r.blk fun w' => ∀ b, r.blk b → b < w.heap.size → w'.heap[b]? = w.heap[b]?
theorem Rs.snap_holds {w : World} {φ φ' : Nat → Prop} {r : Rs} (h : r.holds w φ) : (r.snap w).holds w φ' := by
 refine ⟨fun w1 w2 h1 h2 b hb hlt => ?_, fun b _ _ => rfl, fun b hb => Rs.lt h hb⟩
 have h3 := h1 b hb hlt
 rw [h2 b hb, h3]
 have : (w1.heap[b]?).isSome = true := by rw [h3, Array.getElem?_eq_getElem hlt]; rfl
 obtain ⟨o, ho⟩ := bI6.1 this
 exact (Array.getElem?_eq_some_iff.1 ho).1
theorem aP1 : ∀ {P X : List It} {i : Nat} {d e : D}, av0 P X = au9 P X → t7 P i = .dat d → t7 X i = .dat e → d = e
 | P, X, i, d, e, h, h1, h2 => by
  have hp : P[i]? = some (.dat d) := by
   rcases bI0 i P.length with hl | hl
   ·rw [ae1 hl] at h1; rw [bF1 hl, h1]
   ·rw [A0 hl] at h1; cases h1
  have hx : X[i]? = some (.dat e) := by
   rcases bI0 i X.length with hl | hl
   ·rw [ae1 hl] at h2; rw [bF1 hl, h2]
   ·rw [A0 hl] at h2; cases h2
  exact bx2 h hp hx
theorem p6.lend0 {P : Program} {c : p6} (hc : c.ok P) (M : List Ln) (hb : bh8 M c = true) (he : av0 c.pre c.post = au9 c.pre c.post) : p6.ok P ⟨c.f, AV.trL M c.args, V1 M c.pre, V1 M c.post, c.res.tr M⟩ := by
 simp only [bh8, bE9, decide_eq_true_eq] at hb
 obtain ⟨⟨⟨⟨⟨hM, hle⟩, hargs⟩, hres⟩, hpost⟩, hpre⟩ := hb
 have hno : ∀ i, c.pre.length ≤ i → C7 M i = .no := fun i hi => by
  unfold C7; rw [bF4, bG7 (by omega)]; rfl
 have hpo : ∀ i, aT9 M (C7 M i) (t7 c.pre i) (t7 c.post i) = true := fun i => by
  rcases bI0 i c.post.length with h | h
  ·exact bG1.1 hpost i (List.mem_range.2 h)
  ·rw [hno i (by omega), A0 h]; rfl
 have hpr : ∀ i, bg1 M (C7 M i) (t7 c.pre i) = true := fun i => by
  rcases bI0 i c.pre.length with h | h
  ·exact bG1.1 hpre i (List.mem_range.2 h)
  ·rw [hno i h, A0 h]; rfl
 intro ι φ ψ w0 w F ρ MM
 let ρ1 : Nat → Value := fun i => if (C7 M i).isT then H2 (ρ i) else ρ i
 have hρ1 : ∀ i, ρ1 i = if (C7 M i).isT then H2 (ρ i) else ρ i := fun _ => rfl
 let F1 : ι → Rs := fun i => (F i).snap w
 have hLi : ∀ i, t6 F ρ (t7 (V1 M c.pre)) (.inl i) = F i := fun _ => rfl
 have hLj : ∀ j, t6 F ρ (t7 (V1 M c.pre)) (.inr j) = (D8 M (C7 M j) (t7 c.pre j)).res ρ j := fun j => by simp only [t6]; rw [Y0]
 generalize hL : t6 F ρ (t7 (V1 M c.pre)) = L at MM hLi hLj
 have h1j : ∀ j, C7 M j = .no → (t7 c.pre j).res ρ1 j = L (.inr j) := fun j hl => by
  rw [hLj, hl]
  have hp := hpr j
  have e : ρ1 j = ρ j := by rw [hρ1, hl]; rfl
  cases hx : t7 c.pre j with
  | none => rfl
  | dead => rfl
  | dat d => simp only [D8, It.res]; rw [e]
  | row e' d => simp only [D8, It.res]; rw [e]
  | tree d => simp only [D8, It.res]; rw [e]
  | kept e' d => cases e' <;> (simp only [D8, It.res]; rw [e])
  | box cs =>
   rw [hl, hx] at hp
   simp only [bg1] at hp
   simp only [D8, It.res]
   rw [e, AV.vals_tr hρ1 cs hp]
 have hlent : ∀ j, C7 M j ≠ .no → (∃ d, t7 c.pre j = .dat d ∧ t7 c.post j = .dat d ∧ ((∃ e, C7 M j = .row e ∧ aU9 d = true) ∨ C7 M j = .tree)) := fun j hj => by
  have h := hpo j
  cases hl : C7 M j with
  | no => exact absurd hl hj
  | row e =>
   rw [hl] at h
   simp only [aT9] at h
   split at h
   ·rename_i d d' h1 h2
    exact ⟨d, h1, by rw [h2, ← aP1 he h1 h2], .inl ⟨e, rfl, h⟩⟩
   ·cases h
  | tree =>
   rw [hl] at h
   simp only [aT9] at h
   split at h
   ·rename_i d d' h1 h2
    exact ⟨d, h1, by rw [h2, ← aP1 he h1 h2], .inr rfl⟩
   ·cases h
 have hsub : ∀ k b, (t6 F1 ρ1 (t7 c.pre) k).blk b → (L k).blk b ∧ ∀ j, k = .inr j → C7 M j = .no := fun k b hb => by
  cases k with
  | inl i => rw [hLi]; exact ⟨hb, fun j h => by cases h⟩
  | inr j =>
   by_cases hl : C7 M j = .no
   ·simp only [t6] at hb
    rw [h1j j hl] at hb
    exact ⟨hb, fun j' h => by cases h; exact hl⟩
   ·obtain ⟨d, h1, _⟩ := hlent j hl
    simp only [t6, h1, It.res] at hb
    exact hb.elim
 have hfr1 : ∀ b, X0 φ L b → X0 φ (t6 F1 ρ1 (t7 c.pre)) b := fun b hb => ⟨hb.1, fun k hk => hb.2 k (hsub k b hk).1⟩
 let ψ1 : Nat → Prop := fun b => ∀ k, ¬ (t6 F1 ρ1 (t7 c.pre) k).blk b
 have M1 : n9 φ ψ1 w w (t6 F1 ρ1 (t7 c.pre)) := by
  refine ⟨C3.refl _ _, fun b hb => MM.fresh b (bH0 MM.size hb), fun k => ?_, fun k k' b hkk h1 h2 => MM.dis k k' b hkk (hsub k b h1).1 (hsub k' b h2).1, fun k b h1 => .inr fun h => h k h1, fun k b h1 => MM.ph k b (hsub k b h1).1⟩
  cases k with
  | inl i => exact Rs.snap_holds (show (F i).holds w _ from by rw [← hLi i]; exact MM.holds (.inl i))
  | inr j =>
   by_cases hl : C7 M j = .no
   ·simp only [t6]
    rw [h1j j hl]
    exact Rs.keep (MM.holds (.inr j)) (J0.mono fun b _ hf => hfr1 b hf) fun _ _ => rfl
   ·obtain ⟨d, h1, h2, h3⟩ := hlent j hl
    have hh := MM.holds (.inr j)
    have hown : ∀ b, (L (.inr j)).blk b → X0 φ (t6 F1 ρ1 (t7 c.pre)) b := fun b hb => ⟨MM.ph _ _ hb, fun k hk => by
     obtain ⟨q1, q2⟩ := hsub k b hk
     by_cases e : k = .inr j
     ·exact hl (q2 j e)
     ·exact MM.dis k (.inr j) b e q1 hb⟩
    simp only [t6, h1, It.res]
    refine ⟨RD.nice _ _, ?_⟩
    rcases h3 with ⟨e, h3, hflat⟩ | h3
    ·rw [hLj, h3, h1] at hh
     simp only [D8, It.res] at hh
     obtain ⟨_, xs, o1, o2⟩ := hh
     have e1 : ρ1 j = ρ j := by rw [hρ1, h3]; rfl
     rw [e1]
     refine RD.make (G0 o1 fun g hg => hown g ?_) (a67 hflat o2)
     rw [hLj, h3, h1]; exact hg
    ·rw [hLj, h3, h1] at hh
     simp only [D8, It.res] at hh
     have e1 : ρ1 j = H2 (ρ j) := by rw [hρ1, h3]; rfl
     rw [e1]
     refine F8.read hh.2.1 fun b hb => hown b ?_
     rw [hLj, h3, h1]; exact hb
 simp only
 rw [AV.vals_tr hρ1 c.args hargs]
 refine (hc ι φ ψ1 w w F1 ρ1 M1).mono ?_
 rintro x w' ⟨ρ2, g1, g2, M2⟩
 have hplen : (V1 M c.pre).length = c.pre.length := by simp [V1]
 let ρ' : Nat → Value := fun j => if j < c.pre.length then ρ j else ρ2 j
 have hρ' : ∀ j, ρ2 j = if (C7 M j).isT then H2 (ρ' j) else ρ' j := fun j => by
  show _ = if (C7 M j).isT then H2 (if j < c.pre.length then ρ j else ρ2 j) else (if j < c.pre.length then ρ j else ρ2 j)
  rcases bI0 j c.pre.length with h | h
  ·rw [if_pos h, g1 j h]
  ·rw [hno j h]
   exact (if_neg (Nat.not_lt.2 h)).symm
 have hρo : ∀ j, C7 M j ≠ .no → ρ' j = ρ j := fun j hj => by
  rcases bI0 j c.pre.length with h | h
  ·exact if_pos h
  ·exact absurd (hno j h) hj
 refine ⟨ρ', fun i hi => if_pos (by rw [hplen] at hi; exact hi), by rw [AV.val_tr hρ' c.res hres]; exact g2, ?_⟩
 have hL'j : ∀ j, t6 F ρ' (t7 (V1 M c.post)) (.inr j) = (D8 M (C7 M j) (t7 c.post j)).res ρ' j := fun j => by simp only [t6]; rw [Y0]
 have hL'i : ∀ i, t6 F ρ' (t7 (V1 M c.post)) (.inl i) = F i := fun _ => rfl
 generalize hL' : t6 F ρ' (t7 (V1 M c.post)) = L' at hL'j hL'i
 have hL2j : ∀ j, C7 M j = .no → L' (.inr j) = t6 F1 ρ2 (t7 c.post) (.inr j) := fun j hl => by
  rw [hL'j, hl]
  have hp := hpo j
  have e : ρ2 j = ρ' j := by rw [hρ', hl]; rfl
  simp only [t6]
  cases hx : t7 c.post j with
  | none => rfl
  | dead => rfl
  | dat d => simp only [D8, It.res]; rw [e]
  | row e' d => simp only [D8, It.res]; rw [e]
  | tree d => simp only [D8, It.res]; rw [e]
  | kept e' d => cases e' <;> (simp only [D8, It.res]; rw [e])
  | box cs =>
   rw [hl, hx] at hp
   simp only [aT9] at hp
   simp only [D8, It.res]
   rw [e, AV.vals_tr hρ' cs hp]
 have hlj : ∀ j, C7 M j ≠ .no → L' (.inr j) = L (.inr j) := fun j hl => by
  obtain ⟨d, h1, h2, h3⟩ := hlent j hl
  rw [hL'j, hLj, h1, h2]
  rcases h3 with ⟨e, h3, _⟩ | h3
  ·rw [h3]; simp only [D8, It.res]; rw [hρo j hl]
  ·rw [h3]; simp only [D8, It.res]; rw [hρo j hl]
 have hin : ∀ b, b < w.heap.size → ¬ ψ1 b → ∃ k, (L k).blk b ∧ ∀ j, k = .inr j → C7 M j = .no := fun b _ hn => by
  obtain ⟨k, hk⟩ := Classical.not_forall.1 hn
  exact ⟨k, hsub k b (Classical.not_not.1 hk)⟩
 have hnew : ∀ k b, (∀ j, k = .inr j → C7 M j = .no) → (t6 F1 ρ2 (t7 c.post) k).blk b → b < w.heap.size → ∃ k', (L k').blk b ∧ ∀ j, k' = .inr j → C7 M j = .no := fun k b _ hb hlt => by
  rcases M2.ge k b hb with h | h
  ·omega
  ·exact hin b hlt h
 have hback : ∀ k b, (L' k).blk b → b < w.heap.size → ∃ k', (L k').blk b := fun k b hb hlt => by
  cases k with
  | inl i => rw [hL'i] at hb; exact ⟨.inl i, by rw [hLi]; exact hb⟩
  | inr j =>
   by_cases hl : C7 M j = .no
   ·rw [hL2j j hl] at hb
    obtain ⟨k', h1, _⟩ := hnew (.inr j) b (fun j' h => by cases h; exact hl) hb hlt
    exact ⟨k', h1⟩
   ·rw [hlj j hl] at hb; exact ⟨_, hb⟩
 have hsame : ∀ b, b < w.heap.size → ψ1 b → w'.heap[b]? = w.heap[b]? := fun b h1 h2 => M2.kept.block b h1 h2
 have hagr : J0 (X0 φ L) (X0 φ L') w w' := ⟨M2.kept.size, fun b hb hf => ⟨⟨hf.1, fun k hk => let ⟨k', h1⟩ := hback k b hk hb; hf.2 k' h1⟩, hsame b hb fun k hk => (hfr1 b hf).2 k hk⟩⟩
 have hlsame : ∀ j, C7 M j ≠ .no → ∀ b, (L (.inr j)).blk b → w'.heap[b]? = w.heap[b]? := fun j hl b hb => hsame b (MM.lt hb) fun k hk => by
  obtain ⟨q1, q2⟩ := hsub k b hk
  by_cases e : k = .inr j
  ·exact hl (q2 j e)
  ·exact MM.dis k (.inr j) b e q1 hb
 have hcross : ∀ j k b, C7 M j ≠ .no → (∀ j, k = .inr j → C7 M j = .no) → (L (.inr j)).blk b → ¬ (t6 F1 ρ2 (t7 c.post) k).blk b := fun j k b hl hk h1 h2 => by
  obtain ⟨k', h3, h4⟩ := hnew k b hk h2 (MM.lt h1)
  exact MM.dis k' (.inr j) b (fun e => hl (h4 j e)) h3 h1
 refine ⟨⟨M2.kept.os.trans MM.kept.os, M2.kept.tape.trans MM.kept.tape, M2.kept.output.trans MM.kept.output, bH0 MM.size M2.kept.size, fun b hb hp => (hsame b (bH5 hb MM.size) fun k hk => ?_).trans (MM.kept.block b hb hp)⟩, MM.fresh, fun k => ?_, fun k k' b hkk h1 h2 => ?_, fun k b h1 => ?_, fun k b h1 => ?_⟩
 ·rcases MM.ge k b (hsub k b hk).1 with h | h
  ·omega
  ·exact h hp
 ·cases k with
  | inl i =>
   rw [hL'i, ← hLi i]
   refine Rs.keep (MM.holds (.inl i)) hagr fun b hb => ?_
   have := (M2.holds (.inl i)).2.1 b (by rw [← hLi i]; exact hb) (MM.lt hb)
   exact this
  | inr j =>
   by_cases hl : C7 M j = .no
   ·have hh := M2.holds (.inr j)
    rw [← hL2j j hl] at hh
    have hp := hpo j
    rw [hl] at hp
    cases hx : t7 c.post j with
    | none => rw [hL'j, hl, hx]; exact Rs.none_holds _ _
    | dead => rw [hL'j, hl, hx]; exact Rs.none_holds _ _
    | box cs => rw [hL'j, hl, hx] at hh ⊢; exact hh
    | tree d => rw [hL'j, hl, hx] at hh ⊢; exact hh
    | kept e' d => rw [hx] at hp; exact absurd hp (by simp [aT9])
    | row e d =>
     rw [hx] at hp
     simp only [aT9] at hp
     rw [hL'j, hl, hx] at hh ⊢
     simp only [D8, It.res] at hh ⊢
     obtain ⟨_, xs, o1, o2⟩ := hh
     exact ⟨fun xs => RW.nice d xs, xs, o1, a67 hp o2⟩
    | dat d =>
     rw [hx] at hp
     simp only [aT9] at hp
     split at hp
     ·rename_i d' hpx
      have hd : d' = d := aP1 he hpx hx
      subst hd
      have e : L' (.inr j) = L (.inr j) := by
       rw [hL'j, hLj, hl, hx, hpx]
       simp only [D8, It.res]
       have : j < c.pre.length := by
        rcases bI0 j c.pre.length with h | h
        ·exact h
        ·rw [A0 h] at hpx; cases hpx
       rw [show ρ' j = ρ j from if_pos this]
      rw [e]
      refine Rs.keep (MM.holds (.inr j)) hagr fun b hb => ?_
      rw [hLj, hl, hpx] at hb
      exact hb.elim
     ·cases hp
   ·rw [hlj j hl]
    exact Rs.keep (MM.holds (.inr j)) hagr fun b hb => hlsame j hl b hb
 ·have key : ∀ k, (∃ j, k = .inr j ∧ C7 M j ≠ .no ∧ (L' k) = L k) ∨ ((∀ j, k = .inr j → C7 M j = .no) ∧ ∀ b, (L' k).blk b → (t6 F1 ρ2 (t7 c.post) k).blk b) := fun k => by
   cases k with
   | inl i => exact .inr ⟨(fun j h => by cases h), fun b hb => by rw [hL'i] at hb; exact hb⟩
   | inr j =>
    by_cases hl : C7 M j = .no
    ·exact .inr ⟨fun j' h => by cases h; exact hl, fun b hb => by rw [hL2j j hl] at hb; exact hb⟩
    ·exact .inl ⟨j, rfl, hl, hlj j hl⟩
  rcases key k with ⟨j, rfl, k1, k2⟩ | ⟨k1, k2⟩ <;> rcases key k' with ⟨j', rfl, k3, k4⟩ | ⟨k3, k4⟩
  ·rw [k2] at h1; rw [k4] at h2; exact MM.dis _ _ b hkk h1 h2
  ·rw [k2] at h1; exact hcross j k' b k1 k3 h1 (k4 b h2)
  ·rw [k4] at h2; exact hcross j' k b k3 k1 h2 (k2 b h1)
  ·exact M2.dis k k' b hkk (k2 b h1) (k4 b h2)
 ·cases k with
  | inl i => rw [hL'i, ← hLi i] at h1; exact MM.ge _ b h1
  | inr j =>
   by_cases hl : C7 M j = .no
   ·rw [hL2j j hl] at h1
    rcases bI0 b w.heap.size with hlt | hge
    ·obtain ⟨k', h2, _⟩ := hnew (.inr j) b (fun j' h => by cases h; exact hl) h1 hlt
     exact MM.ge k' b h2
    ·exact .inl (bH0 MM.size hge)
   ·rw [hlj j hl] at h1; exact MM.ge _ b h1
 ·cases k with
  | inl i => rw [hL'i, ← hLi i] at h1; exact MM.ph _ b h1
  | inr j =>
   by_cases hl : C7 M j = .no
   ·rw [hL2j j hl] at h1; exact M2.ph _ b h1
   ·rw [hlj j hl] at h1; exact MM.ph _ b h1
def bi4 (M : List Ln) : Ln → It → It
 | .row e, .dat d => .kept (some e) d
 | .tree, .dat d => .kept none d
 | .no, .box cs => .box (AV.trL M cs)
 | _, x => x
def bi3 (M : List Ln) (S : List It) : List It := (bG6 S.length).map fun i => bi4 M (C7 M i) (t7 S i)
theorem bh4 (M : List Ln) (S : List It) (i : Nat) : t7 (bi3 M S) i = bi4 M (C7 M i) (t7 S i) := by
 unfold bi3
 rcases bI0 i S.length with h | h
 ·conv => lhs; rw [t7, bF4, List.getElem?_map, List.getElem?_range h]
  rfl
 ·rw [A0 (by simpa using h), A0 h]
  cases C7 M i <;> rfl
theorem p6.lend {P : Program} {c : p6} (hc : c.ok P) (M : List Ln) (hb : bh8 M c = true := by kernel_rfl) (he : av0 c.pre c.post = au9 c.pre c.post := by kernel_rfl) : p6.ok P ⟨c.f, AV.trL M c.args, V1 M c.pre, bi3 M c.post, c.res.tr M⟩ :=
 p6.okPost (p6.lend0 hc M hb he) _ fun ρ i => by
  simp only
  rw [bh4, Y0]
  cases C7 M i <;> cases t7 c.post i <;> rfl
section
variable {P : Program} {ι κ : Type} {φ ψ : Nat → Prop} {w0 w : World} {F : ι → Rs} {ρ ρ0 : Nat → Value} {N m n : Nat} {S : List It} {tm : List (Nat × AV)} {a : Act}
theorem n9.release {L L' : κ → Rs} (M : n9 φ ψ w0 w L) (h : ∀ k, L' k = L k ∨ ((∀ b, ¬ (L' k).blk b) ∧ ∀ φ', (∀ b, X0 φ L b → φ' b) → (∀ b, (L k).blk b → φ' b) → (L' k).holds w φ')) : n9 φ ψ w0 w L' := by
 have old : ∀ k b, (L' k).blk b → (L k).blk b := fun k b hb => by
  rcases h k with e | ⟨h1, _⟩
  ·rw [e] at hb; exact hb
  ·exact (h1 b hb).elim
 have hfr : ∀ b, X0 φ L b → X0 φ L' b := fun b hb => ⟨hb.1, fun k hk => hb.2 k (old k b hk)⟩
 refine ⟨M.kept, M.fresh, fun k => ?_, fun i j g hij h1 h2 => M.dis i j g hij (old i g h1) (old j g h2), fun i b hb => M.ge i b (old i b hb), fun i b hb => M.ph i b (old i b hb)⟩
 rcases h k with e | ⟨h1, h2⟩
 ·rw [e]; exact Rs.keep (M.holds k) (J0.mono fun b _ hf => hfr b hf) fun _ _ => rfl
 ·refine h2 _ hfr fun b hb => ⟨M.ph k b hb, fun j hj => ?_⟩
  by_cases e : j = k
  ·subst e; exact h1 b hj
  ·exact M.dis j k b e (old j b hj) hb
mutual
theorem AV.ids_tr (M : List Ln) : ∀ (x : AV), (x.tr M).ids = x.ids
 | .v _ => rfl
 | .ptr _ _ => rfl
 | .ea _ _ _ _ => rfl
 | .ref i => by simp only [AV.tr]; split <;> rfl
 | .agg l => by simp only [AV.tr, AV.ids]; exact AV.idsL_tr M l
 | .tup l => by simp only [AV.tr, AV.ids]; exact AV.idsL_tr M l
 | .fn _ l => by simp only [AV.tr, AV.ids]; exact AV.idsL_tr M l
 | .bm _ l => by simp only [AV.tr, AV.ids]; exact AV.idsL_tr M l
 | .tref _ => rfl
theorem AV.idsL_tr (M : List Ln) : ∀ (l : List AV), AV.idsL (AV.trL M l) = AV.idsL l
 | [] => rfl
 | x :: r => by simp only [AV.trL, AV.idsL]; rw [AV.ids_tr M x, AV.idsL_tr M r]
end
theorem aO2 {M : List Ln} {t : Nat} {x : AV} : ∀ {tm : List (Nat × AV)}, D3 tm t = some x → D3 (tm.map fun p => (p.1, p.2.tr M)) t = some (x.tr M) ∧ ∃ p ∈ tm, p.2 = x
 | [], h => by cases h
 | (k, y) :: r, h => by
  simp only [D3, bI2] at h ⊢
  split at h
  ·cases h; rename_i hk; rw [if_pos hk]; exact ⟨rfl, _, bG8, rfl⟩
  ·rename_i hk; rw [if_neg hk]
   obtain ⟨h1, p, h2, h3⟩ := aO2 h
   exact ⟨h1, p, bH2 _ h2, h3⟩
def bB9 (M : List Ln) (m : Nat) (S1 : List It) (tm1 : List (Nat × AV)) : Bool :=
 decide (M.length ≤ S1.length) && (bG6 S1.length).all (fun i => match C7 M i, t7 S1 i with
  | .no, .box cs => AV.trOkL M cs
  | .no, _ => true
  | .row _, .dat _ => true
  | .tree, .dat _ => decide (m ≤ i)
  | _, _ => false) && tm1.all fun p => p.2.trOk M
theorem It.ids_lend (M : List Ln) (l : Ln) (x : It) : x.ids = [] ∨ (D8 M l x).ids = x.ids := by
 cases x with
 | box cs => cases l <;> first | exact .inr rfl | exact .inr (AV.idsL_tr M cs)
 | _ => exact .inl rfl
theorem A6.frz (G : A6 φ ψ w0 F N m ρ0 ρ S tm a w) (M : List Ln) (S1 : List It) (tm1 : List (Nat × AV)) (hb : bB9 M m S1 tm1 = true := by kernel_rfl) (hS : S = V1 M S1 := by kernel_rfl) (ht : tm = tm1.map (fun p => (p.1, p.2.tr M)) := by kernel_rfl) :
  ∃ ρ', A6 φ ψ w0 F N m ρ0 ρ' S1 tm1 a w := by
 subst hS
 subst ht
 simp only [bB9, bE9, decide_eq_true_eq] at hb
 obtain ⟨⟨hM, hall⟩, htm⟩ := hb
 have hlen : (V1 M S1).length = S1.length := by simp [V1]
 have hno : ∀ i, S1.length ≤ i → C7 M i = .no := fun i hi => by
  unfold C7; rw [bF4, bG7 (by omega)]; rfl
 have hat := fun i (hi : i < S1.length) => bG1.1 hall i (List.mem_range.2 hi)
 let ρ1 : Nat → Value := fun i => if (C7 M i).isT then H2 (ρ i) else ρ i
 have hρ1 : ∀ i, ρ1 i = if (C7 M i).isT then H2 (ρ i) else ρ i := fun _ => rfl
 have hρn : ∀ i, (C7 M i).isT = false → ρ1 i = ρ i := fun i h => by rw [hρ1, h]; rfl
 refine ⟨ρ1, G.size, G.defs, fun t x hx => ?_, fun t x hx i hi => ?_, fun j => ⟨fun i hi => ?_, fun hj => A0 hj⟩, ?_, ?_, fun i hi => ?_⟩
 ·obtain ⟨h1, p, h2, h3⟩ := aO2 (M := M) hx
  rw [G.tmv t _ h1, AV.val_tr hρ1 x (by rw [← h3]; exact bG1.1 htm p h2)]
 ·obtain ⟨h1, _⟩ := aO2 (M := M) hx
  have := G.tmi t _ h1 i (by rw [AV.ids_tr]; exact hi)
  rw [hlen] at this; exact this
 ·have h1 := (G.bd j).1 i
  rw [Y0, hlen] at h1
  rcases It.ids_lend M (C7 M j) (t7 S1 j) with h | h
  ·rw [h] at hi; cases hi
  ·exact h1 (by rw [h]; exact hi)
 ·refine G.mem.release fun k => ?_
  cases k with
  | inl i => exact .inl rfl
  | inr j =>
   simp only [t6]
   rw [Y0]
   rcases bI0 j S1.length with hj | hj
   case inr => rw [hno j hj, A0 hj]; exact .inl rfl
   have h1 := hat j hj
   cases hl : C7 M j with
   | no =>
    have e : ρ1 j = ρ j := hρn j (by rw [hl]; rfl)
    rw [hl] at h1
    left
    cases hx : t7 S1 j with
    | box cs =>
     rw [hx] at h1
     simp only [D8, It.res]
     rw [e, AV.vals_tr hρ1 cs h1]
    | none => rfl
    | dead => rfl
    | dat d => simp only [D8, It.res]; rw [e]
    | row e' d => simp only [D8, It.res]; rw [e]
    | tree d => simp only [D8, It.res]; rw [e]
    | kept e' d => cases e' <;> (simp only [D8, It.res]; rw [e])
   | row e' =>
    have e : ρ1 j = ρ j := hρn j (by rw [hl]; rfl)
    rw [hl] at h1
    cases hx : t7 S1 j <;> rw [hx] at h1 <;> first | cases h1 | skip
    rename_i d
    refine .inr ⟨fun b hb => hb, fun φ' hf hown => ⟨RD.nice _ _, ?_⟩⟩
    have hh := G.mem.holds (.inr j)
    simp only [t6] at hh
    rw [Y0, hl, hx] at hh
    simp only [D8, It.res] at hh
    obtain ⟨_, xs, o1, o2⟩ := hh
    rw [e]
    exact RD.make (G0 o1 fun g hg => hown g hg) (RW.nice _ _ _ _ _ _ (J0.mono fun b _ hb => hf b hb) o2)
   | tree =>
    have e : ρ1 j = H2 (ρ j) := by rw [hρ1, hl]; rfl
    rw [hl] at h1
    cases hx : t7 S1 j <;> rw [hx] at h1 <;> first | cases h1 | skip
    rename_i d
    refine .inr ⟨fun b hb => hb, fun φ' hf hown => ⟨RD.nice _ _, ?_⟩⟩
    have hh := G.mem.holds (.inr j)
    simp only [t6] at hh
    rw [Y0, hl, hx] at hh
    simp only [D8, It.res] at hh
    rw [e]
    exact F8.read hh.2.1 fun b hb => hown b hb
 ·have := G.le; rw [hlen] at this; exact this
 ·have hm := G.le
  rw [hlen] at hm
  have : (C7 M i).isT = false := by
   cases hl : C7 M i with
   | no => rfl
   | row _ => rfl
   | tree =>
    have h1 := hat i (by omega)
    rw [hl] at h1
    cases hx : t7 S1 i <;> rw [hx] at h1 <;> simp at h1
    omega
  show ρ1 i = ρ0 i
  rw [hρn i this]; exact G.old i hi
end
theorem a90 {ks ls : List b5} {k : Nat} (h1 : k < ks.length) (h2 : k < ls.length) (h : ab7 ks[k] ls[k] = false) : P3 ks ls = false := by
 cases hs : P3 ks ls
 ·rfl
 ·have := (ab6 ks ls).1 hs
  subst this
  rw [(ag7 _ _).2 rfl] at h; cases h
theorem a89 {ks ls : List b6} {k : Nat} (h1 : k < ks.length) (h2 : k < ls.length) (h : aC0 ks[k] ls[k] = false) : I6 ks ls = false := by
 cases hs : I6 ks ls
 ·rfl
 ·have := (R5 ks ls).1 hs
  subst this
  rw [(aB9 _ _).2 rfl] at h; cases h
def EqE (e : b5) : Prop := ∀ (φ φ' : Nat → Prop) (v u : Value) (e' : b5) (w : World), I9 w φ v e → I9 w φ' u e' →
 Calls Tryz.prog 216 #[v, u] w fun x w' => x = .returned (.bool (ab7 e e')) ∧ Below w.heap.size w w'
theorem a25 (ks : List b5) (ih : ∀ e ∈ ks, EqE e) (φ φ' : Nat → Prop) (v u : Value) (ls : List b5) (w : World) (h : p8 w φ v ks) (h' : p8 w φ' u ls) :
  Calls Tryz.prog 243 #[v, u] w fun x w' => x = .returned (.bool (P3 ks ls)) ∧ Below w.heap.size w w' := by
 obtain ⟨a, cap, rfl, -, hn, -, hc⟩ := h.open
 obtain ⟨a', cap', rfl, -, hn', -, hc'⟩ := h'.open
 have HC := show Hid _ from hc
 have HC' := show Hid _ from hc'
 clear hc hc' h h'
 by_cases hl : ks.length = ls.length
 ·have heq : ((ks.length : Int) == (ls.length : Int)) = true := by simp; omega
  have HL := show Hid _ from hl
  clear hl
  go_enter Tryz.func243, Tryz.ntmps243
  go_wp2
  go_loopw [5] (fun i wr => ∃ k : Nat, k ≤ ks.length ∧ i = .int .i64 k ∧ ks.take k = ls.take k ∧ Below w.heap.size w wr) (fun i _ => ks.length - (intOf i).toNat)
  case atStart => exact ⟨0, bH1 _, rfl, rfl, Below.refl _ _⟩
  case round =>
   obtain ⟨k, hk, rfl, ht, hb⟩ := hrel
   have HT := show Hid _ from ht
   have HB := show Hid _ from hb
   clear ht hb
   by_cases hlt : k < ks.length
   ·have hlt2 : k < ls.length := by have := HL.out; omega
    obtain ⟨b, off, kv, rfl, hbk, hf, c0, c1, c2, hkv⟩ := HC.out k hlt
    obtain ⟨b', off', kv', rfl, hbk', hf', d0, d1, d2, hkv'⟩ := HC'.out k hlt2
    rw [← (T9 HB.out).1 _ _ hbk] at c0 c1 c2
    rw [← (T9 HB.out).1 _ _ hbk'] at d0 d1 d2
    obtain ⟨q, hq⟩ : ∃ q, q = ab7 ks[k] ls[k] := ⟨_, rfl⟩
    have HC3 : Hid (∀ X, Calls Tryz.prog 216 #[.agg #[.int .i64 ks[k].kind, .int .i64 ks[k].value, kv], .agg #[.int .i64 ls[k].kind, .int .i64 ls[k].value, kv']] (wr.ext X) fun e w'' => e = .returned (.bool q) ∧ ∃ Y, w'' = wr.ext Y) := fun X => by
     have bb := HB.out.trans ((v6 wr X).mono HB.out.size)
     rw [hq]
     exact Calls.ext_of' (ih _ (bG5 hlt) φ φ' _ _ _ _ ⟨kv, rfl, p8.nice _ _ _ _ _ _ (J0.below bb) hkv⟩ ⟨kv', rfl, p8.nice _ _ _ _ _ _ (J0.below bb) hkv'⟩)
    have HQ := show Hid _ from hq
    have j0 := fun X => m7 c0 X
    have j1 := fun X => m7 c1 X
    have j2 := fun X => m7 c2 X
    have i0 := fun X => m7 d0 X
    have i1 := fun X => m7 d1 X
    have i2 := fun X => m7 d2 X
    clear hkv hkv' hq c0 c1 c2 d0 d1 d2
    cases q
    ·go_wp2_with fail
     refine t3 (by kernel_rfl) (by kernel_rfl) ?_
     repeat (any_goals (first | go_big_quiet_step (((go_at_call 216; exact HC3.out _))) | quiet_step (((go_at_call 216; exact HC3.out _)))))
     refine wpQuiet_nil ?_
     rintro _ ⟨X, rfl⟩
     go_wp2_with fail
     go_ret
     exact ⟨k6 (a90 hlt hlt2 HQ.out.symm).symm, HB.out.trans ((v6 wr X).mono HB.out.size)⟩
    ·go_wp2_with fail
     refine t3 (by kernel_rfl) (by kernel_rfl) ?_
     repeat (any_goals (first | go_big_quiet_step (((go_at_call 216; exact HC3.out _))) | quiet_step (((go_at_call 216; exact HC3.out _)))))
     refine wpQuiet_nil ?_
     rintro _ ⟨X, rfl⟩
     go_wp2_with fail
     exact ⟨⟨k + 1, by omega, by go_num, ad2 HT.out hlt hlt2 ((ag7 _ _).1 HQ.out.symm), HB.out.trans ((v6 wr X).mono HB.out.size)⟩, by simp [intOf]; omega⟩
   ·have hge : ¬ ((k : Int) < (ks.length : Int)) := by omega
    go_wp2_with fail
    go_ret
    exact ⟨k6 (by rw [T2 HT.out (by omega) (by have := HL.out; omega)]; exact ((ab6 _ _).2 rfl).symm), HB.out⟩
 ·have hne : ((ks.length : Int) == (ls.length : Int)) = false := by simp; omega
  have HL := show Hid _ from hl
  clear hl
  go_enter Tryz.func243, Tryz.ntmps243
  go_wp2
  go_ret
  exact ⟨k6 (aZ7 HL.out).symm, Below.refl _ _⟩
theorem aE9 (e : b5) : EqE e := by
 refine b5.ind (P := EqE) (fun k n ks ih => ?_) e
 intro φ φ' v u e' w h h'
 obtain ⟨kv, rfl, hk⟩ := h
 obtain ⟨ku, rfl, hk'⟩ := h'
 simp only [b5.kind, b5.value, b5.kids] at hk ⊢
 cases e' with
 | mk k' n' ks' =>
 have HS : Hid (ab7 ⟨k, n, ks⟩ ⟨k', n', ks'⟩ = (decide (k = k') && decide (n = n') && P3 ks ks')) := rfl
 simp only [b5.kind, b5.value, b5.kids] at hk' ⊢
 obtain ⟨W, hW, M⟩ : ∃ W, W = (w.alloc (.cells #[.int .i64 k, .int .i64 n, kv] 104)).alloc (.cells #[.int .i64 k', .int .i64 n', ku] 104) ∧ A1 (fun _ => True) (fun _ => True) w W [.box w.heap.size [.int .i64 k, .int .i64 n, kv], .box (w.heap.size + 1) [.int .i64 k', .int .i64 n', ku]] :=
  ⟨_, rfl, ((A1.start fun _ _ => trivial).box _ _).box' _ _ (by simp)⟩
 have HK := show Hid (p8 W φ kv ks ∧ p8 W φ' ku ks') from ⟨p8.nice _ _ _ _ _ _ (J0.below (M.below fun _ _ => trivial)) hk, p8.nice _ _ _ _ _ _ (J0.below (M.below fun _ _ => trivial)) hk'⟩
 have HB := show Hid _ from M.below fun _ _ => trivial
 have c0 := M.c 0 0 rfl rfl
 have c1 := M.c 0 1 rfl rfl
 have c2 := M.c 0 2 rfl rfl
 have d0 := M.c 1 0 rfl rfl
 have d1 := M.c 1 1 rfl rfl
 have d2 := M.c 1 2 rfl rfl
 rw [hW] at c0 c1 c2 d0 d1 d2
 clear hk hk' M
 by_cases q0 : k = k'
 ·have p0 : (k == k') = true := by simp [q0]
  by_cases q1 : n = n'
  ·have p1 : (n == n') = true := by simp [q1]
   have Q := show Hid _ from And.intro q0 q1
   clear q0 q1
   go_enter Tryz.func216, Tryz.ntmps216
   go_wp2_with fail
   rw [← hW]
   clear hW c0 c1 c2 d0 d1 d2
   refine (a25 ks ih φ φ' kv ku ks' _ HK.out.1 HK.out.2).mono ?_
   rintro x w1 ⟨rfl, b1⟩
   have B1 := show Hid _ from HB.out.trans (b1.mono HB.out.size)
   obtain ⟨q, hq⟩ : ∃ q, q = P3 ks ks' := ⟨_, rfl⟩
   rw [← hq]
   have HQ := show Hid _ from hq
   clear hq
   cases q
   ·go_wp2_with fail
    go_ret
    exact ⟨k6 (by rw [HS.out, ← HQ.out]; simp), B1.out⟩
   ·go_wp2_with fail
    go_ret
    exact ⟨k6 (by rw [HS.out, ← HQ.out]; simp [Q.out.1, Q.out.2]), B1.out⟩
  ·have p1 : (n == n') = false := by simp [q1]
   have Q := show Hid _ from q1
   clear q0 q1
   go_enter Tryz.func216, Tryz.ntmps216
   go_wp2_with fail
   go_ret
   exact ⟨k6 (by rw [HS.out, show decide (n = n') = false from decide_eq_false Q.out]; simp), by rw [← hW]; exact HB.out⟩
 ·have p0 : (k == k') = false := by simp [q0]
  have Q := show Hid _ from q0
  clear q0
  go_enter Tryz.func216, Tryz.ntmps216
  go_wp2_with fail
  go_ret
  exact ⟨k6 (by rw [HS.out, show decide (k = k') = false from decide_eq_false Q.out]; simp), by rw [← hW]; exact HB.out⟩
def EqS (e : b6) : Prop := ∀ (φ φ' : Nat → Prop) (v u : Value) (e' : b6) (w : World), N5 w φ v e → N5 w φ' u e' →
 Calls Tryz.prog 164 #[v, u] w fun x w' => x = .returned (.bool (aC0 e e')) ∧ Below w.heap.size w w'
theorem ao0 (ks : List b6) (ih : ∀ e ∈ ks, EqS e) (φ φ' : Nat → Prop) (v u : Value) (ls : List b6) (w : World) (h : s0 w φ v ks) (h' : s0 w φ' u ls) :
  Calls Tryz.prog 84 #[v, u] w fun x w' => x = .returned (.bool (I6 ks ls)) ∧ Below w.heap.size w w' := by
 obtain ⟨a, cap, rfl, -, hn, -, hc⟩ := h.open
 obtain ⟨a', cap', rfl, -, hn', -, hc'⟩ := h'.open
 have HC := show Hid _ from hc
 have HC' := show Hid _ from hc'
 clear hc hc' h h'
 by_cases hl : ks.length = ls.length
 ·have heq : ((ks.length : Int) == (ls.length : Int)) = true := by simp; omega
  have HL := show Hid _ from hl
  clear hl
  go_enter Tryz.func84, Tryz.ntmps84
  go_wp2
  go_loopw [5] (fun i wr => ∃ k : Nat, k ≤ ks.length ∧ i = .int .i64 k ∧ ks.take k = ls.take k ∧ Below w.heap.size w wr) (fun i _ => ks.length - (intOf i).toNat)
  case atStart => exact ⟨0, bH1 _, rfl, rfl, Below.refl _ _⟩
  case round =>
   obtain ⟨k, hk, rfl, ht, hb⟩ := hrel
   have HT := show Hid _ from ht
   have HB := show Hid _ from hb
   clear ht hb
   by_cases hlt : k < ks.length
   ·have hlt2 : k < ls.length := by have := HL.out; omega
    obtain ⟨b, off, iv, vv, bv, ev, rfl, hbk, hf, ⟨c0, c1, c2, c3, c4, c5, c6, c7, c8, c9, c10⟩, g1, g2, g3, g4⟩ := HC.out k hlt
    obtain ⟨b', off', iv', vv', bv', ev', rfl, hbk', hf', ⟨d0, d1, d2, d3, d4, d5, d6, d7, d8, d9, d10⟩, g1', g2', g3', g4'⟩ := HC'.out k hlt2
    rw [← (T9 HB.out).1 _ _ hbk] at c0 c1 c2 c3 c4 c5 c6 c7 c8 c9 c10
    rw [← (T9 HB.out).1 _ _ hbk'] at d0 d1 d2 d3 d4 d5 d6 d7 d8 d9 d10
    obtain ⟨q, hq⟩ : ∃ q, q = aC0 ks[k] ls[k] := ⟨_, rfl⟩
    have HC3 : Hid (∀ X, Calls Tryz.prog 164 #[.agg #[.int .i64 ks[k].kind, .int .i64 ks[k].target, .int .i64 ks[k].index.kind, .int .i64 ks[k].index.value, iv, .int .i64 ks[k].value.kind, .int .i64 ks[k].value.value, vv, .int .i64 ks[k].count, bv, ev], .agg #[.int .i64 ls[k].kind, .int .i64 ls[k].target, .int .i64 ls[k].index.kind, .int .i64 ls[k].index.value, iv', .int .i64 ls[k].value.kind, .int .i64 ls[k].value.value, vv', .int .i64 ls[k].count, bv', ev']] (wr.ext X) fun e w'' => e = .returned (.bool q) ∧ ∃ Y, w'' = wr.ext Y) := fun X => by
     have bb := HB.out.trans ((v6 wr X).mono HB.out.size)
     rw [hq]
     exact Calls.ext_of' (ih _ (bG5 hlt) φ φ' _ _ _ _ (N5.nice _ _ _ _ _ _ (J0.below bb) ⟨iv, vv, bv, ev, rfl, g1, g2, g3, g4⟩) (N5.nice _ _ _ _ _ _ (J0.below bb) ⟨iv', vv', bv', ev', rfl, g1', g2', g3', g4'⟩))
    have HQ := show Hid _ from hq
    have j0 := fun X => m7 c0 X
    have j1 := fun X => m7 c1 X
    have j2 := fun X => m7 c2 X
    have j3 := fun X => m7 c3 X
    have j4 := fun X => m7 c4 X
    have j5 := fun X => m7 c5 X
    have j6 := fun X => m7 c6 X
    have j7 := fun X => m7 c7 X
    have j8 := fun X => m7 c8 X
    have j9 := fun X => m7 c9 X
    have j10 := fun X => m7 c10 X
    have i0 := fun X => m7 d0 X
    have i1 := fun X => m7 d1 X
    have i2 := fun X => m7 d2 X
    have i3 := fun X => m7 d3 X
    have i4 := fun X => m7 d4 X
    have i5 := fun X => m7 d5 X
    have i6 := fun X => m7 d6 X
    have i7 := fun X => m7 d7 X
    have i8 := fun X => m7 d8 X
    have i9 := fun X => m7 d9 X
    have i10 := fun X => m7 d10 X
    clear g1 g2 g3 g4 g1' g2' g3' g4' hq c0 d0 c1 d1 c2 d2 c3 d3 c4 d4 c5 d5 c6 d6 c7 d7 c8 d8 c9 d9 c10 d10
    cases q
    ·go_wp2_with fail
     refine t3 (by kernel_rfl) (by kernel_rfl) ?_
     repeat (any_goals (first | go_big_quiet_step (((go_at_call 164; exact HC3.out _))) | quiet_step (((go_at_call 164; exact HC3.out _)))))
     refine wpQuiet_nil ?_
     rintro _ ⟨X, rfl⟩
     go_wp2_with fail
     go_ret
     exact ⟨k6 (a89 hlt hlt2 HQ.out.symm).symm, HB.out.trans ((v6 wr X).mono HB.out.size)⟩
    ·go_wp2_with fail
     refine t3 (by kernel_rfl) (by kernel_rfl) ?_
     repeat (any_goals (first | go_big_quiet_step (((go_at_call 164; exact HC3.out _))) | quiet_step (((go_at_call 164; exact HC3.out _)))))
     refine wpQuiet_nil ?_
     rintro _ ⟨X, rfl⟩
     go_wp2_with fail
     exact ⟨⟨k + 1, by omega, by go_num, ad2 HT.out hlt hlt2 ((aB9 _ _).1 HQ.out.symm), HB.out.trans ((v6 wr X).mono HB.out.size)⟩, by simp [intOf]; omega⟩
   ·have hge : ¬ ((k : Int) < (ks.length : Int)) := by omega
    go_wp2_with fail
    go_ret
    exact ⟨k6 (by rw [T2 HT.out (by omega) (by have := HL.out; omega)]; exact ((R5 _ _).2 rfl).symm), HB.out⟩
 ·have hne : ((ks.length : Int) == (ls.length : Int)) = false := by simp; omega
  have HL := show Hid _ from hl
  clear hl
  go_enter Tryz.func84, Tryz.ntmps84
  go_wp2
  go_ret
  exact ⟨k6 (aZ6 HL.out).symm, Below.refl _ _⟩
theorem a24 (s : b6) : EqS s := by
 refine b6.ind (P := EqS) (fun k t i v c b e ihb ihe => ?_) s
 intro φ φ' x u s' w h h'
 obtain ⟨iv, vv, bv, ev, rfl, g1, g2, g3, g4⟩ := h
 obtain ⟨iv', vv', bv', ev', rfl, g1', g2', g3', g4'⟩ := h'
 cases s' with
 | mk k' t' i' v' c' b' e' =>
 have HS : Hid (aC0 ⟨k, t, i, v, c, b, e⟩ ⟨k', t', i', v', c', b', e'⟩ = (decide (k = k') && decide (t = t') && ab7 i i' && ab7 v v' && decide (c = c') && I6 b b' && I6 e e')) := rfl
 simp only [b6.index, b6.value, b6.body, b6.els, b6.kind, b6.target, b6.count] at g1 g2 g3 g4 g1' g2' g3' g4' ⊢
 obtain ⟨W, hW, M⟩ : ∃ W, W = (w.alloc (.cells #[.int .i64 k, .int .i64 t, .int .i64 i.kind, .int .i64 i.value, iv, .int .i64 v.kind, .int .i64 v.value, vv, .int .i64 c, bv, ev] 106)).alloc (.cells #[.int .i64 k', .int .i64 t', .int .i64 i'.kind, .int .i64 i'.value, iv', .int .i64 v'.kind, .int .i64 v'.value, vv', .int .i64 c', bv', ev'] 106) ∧ A1 (fun _ => True) (fun _ => True) w W [.box w.heap.size [.int .i64 k, .int .i64 t, .int .i64 i.kind, .int .i64 i.value, iv, .int .i64 v.kind, .int .i64 v.value, vv, .int .i64 c, bv, ev], .box (w.heap.size + 1) [.int .i64 k', .int .i64 t', .int .i64 i'.kind, .int .i64 i'.value, iv', .int .i64 v'.kind, .int .i64 v'.value, vv', .int .i64 c', bv', ev']] :=
  ⟨_, rfl, ((A1.start fun _ _ => trivial).box _ _).box' _ _ (by simp)⟩
 have HG := show Hid (∀ W', Below w.heap.size w W' → I9 W' φ (.agg #[.int .i64 i.kind, .int .i64 i.value, iv]) i ∧ I9 W' φ (.agg #[.int .i64 v.kind, .int .i64 v.value, vv]) v ∧ s0 W' φ bv b ∧ s0 W' φ ev e) from fun W' k =>
  ⟨⟨iv, rfl, p8.nice _ _ _ _ _ _ (J0.below k) g1⟩, ⟨vv, rfl, p8.nice _ _ _ _ _ _ (J0.below k) g2⟩, s0.nice _ _ _ _ _ _ (J0.below k) g3, s0.nice _ _ _ _ _ _ (J0.below k) g4⟩
 have HG' := show Hid (∀ W', Below w.heap.size w W' → I9 W' φ' (.agg #[.int .i64 i'.kind, .int .i64 i'.value, iv']) i' ∧ I9 W' φ' (.agg #[.int .i64 v'.kind, .int .i64 v'.value, vv']) v' ∧ s0 W' φ' bv' b' ∧ s0 W' φ' ev' e') from fun W' k =>
  ⟨⟨iv', rfl, p8.nice _ _ _ _ _ _ (J0.below k) g1'⟩, ⟨vv', rfl, p8.nice _ _ _ _ _ _ (J0.below k) g2'⟩, s0.nice _ _ _ _ _ _ (J0.below k) g3', s0.nice _ _ _ _ _ _ (J0.below k) g4'⟩
 clear g1 g2 g3 g4 g1' g2' g3' g4'
 have c0 := M.c 0 0 rfl rfl
 have d0 := M.c 1 0 rfl rfl
 have c1 := M.c 0 1 rfl rfl
 have d1 := M.c 1 1 rfl rfl
 have c2 := M.c 0 2 rfl rfl
 have d2 := M.c 1 2 rfl rfl
 have c3 := M.c 0 3 rfl rfl
 have d3 := M.c 1 3 rfl rfl
 have c4 := M.c 0 4 rfl rfl
 have d4 := M.c 1 4 rfl rfl
 rw [hW] at c0 d0 c1 d1 c2 d2 c3 d3 c4 d4
 have HB0 := show Hid _ from M.below fun _ _ => trivial
 have HM := show Hid _ from M
 clear M
 by_cases q0 : k = k'
 rotate_left
 ·have p0 : (k == k') = false := by simp [q0]
  have Q := show Hid _ from q0
  clear q0
  go_enter Tryz.func164, Tryz.ntmps164
  go_wp2_with fail
  go_ret
  exact ⟨k6 (by rw [HS.out, show decide (k = k') = false from decide_eq_false Q.out]; simp), by rw [← hW]; exact HB0.out⟩
 have p0 : (k == k') = true := by simp [q0]
 by_cases q1 : t = t'
 rotate_left
 ·have p1 : (t == t') = false := by simp [q1]
  have Q := show Hid _ from q1
  clear q0 q1
  go_enter Tryz.func164, Tryz.ntmps164
  go_wp2_with fail
  go_ret
  exact ⟨k6 (by rw [HS.out, show decide (t = t') = false from decide_eq_false Q.out]; simp), by rw [← hW]; exact HB0.out⟩
 have p1 : (t == t') = true := by simp [q1]
 have Q0 := show Hid _ from And.intro q0 q1
 clear q0 q1
 go_enter Tryz.func164, Tryz.ntmps164
 go_wp2_with fail
 rw [← hW]
 have M := HM.out
 clear hW HM p0 p1 c0 d0 c1 d1 c2 d2 c3 d3 c4 d4
 refine (aE9 i φ φ' _ _ i' _ (HG.out _ (M.below fun _ _ => trivial)).1 (HG'.out _ (M.below fun _ _ => trivial)).1).mono ?_
 rintro x w1 ⟨rfl, b1⟩
 replace M := M.call b1
 clear b1
 obtain ⟨r1, hq⟩ : ∃ q, q = ab7 i i' := ⟨_, rfl⟩
 rw [← hq]
 have Hr1 := show Hid _ from hq
 clear hq
 have HB := show Hid _ from M.below fun _ _ => trivial
 have c5 := M.c 0 5 rfl rfl
 have d5 := M.c 1 5 rfl rfl
 have c6 := M.c 0 6 rfl rfl
 have d6 := M.c 1 6 rfl rfl
 have c7 := M.c 0 7 rfl rfl
 have d7 := M.c 1 7 rfl rfl
 have HM := show Hid _ from M
 clear M
 cases r1
 ·go_wp2_with fail
  go_ret
  exact ⟨k6 (by rw [HS.out, ← Hr1.out]; simp), HB.out⟩
 go_wp2_with fail
 have M := HM.out
 clear HM HB c5 d5 c6 d6 c7 d7
 refine (aE9 v φ φ' _ _ v' _ (HG.out _ (M.below fun _ _ => trivial)).2.1 (HG'.out _ (M.below fun _ _ => trivial)).2.1).mono ?_
 rintro x w1 ⟨rfl, b1⟩
 replace M := M.call b1
 clear b1
 obtain ⟨r2, hq⟩ : ∃ q, q = ab7 v v' := ⟨_, rfl⟩
 rw [← hq]
 have Hr2 := show Hid _ from hq
 clear hq
 have HB := show Hid _ from M.below fun _ _ => trivial
 have c8 := M.c 0 8 rfl rfl
 have d8 := M.c 1 8 rfl rfl
 have c9 := M.c 0 9 rfl rfl
 have d9 := M.c 1 9 rfl rfl
 have HM := show Hid _ from M
 clear M
 cases r2
 ·go_wp2_with fail
  go_ret
  exact ⟨k6 (by rw [HS.out, ← Hr2.out]; simp), HB.out⟩
 by_cases q4 : c = c'
 rotate_left
 ·have p4 : (c == c') = false := by simp [q4]
  have Q := show Hid _ from q4
  clear q4
  go_wp2_with fail
  go_ret
  exact ⟨k6 (by rw [HS.out, show decide (c = c') = false from decide_eq_false Q.out]; simp), HB.out⟩
 have p4 : (c == c') = true := by simp [q4]
 have Q4 := show Hid _ from q4
 clear q4
 go_wp2_with fail
 have M := HM.out
 clear HM HB p4 c8 d8 c9 d9
 refine (ao0 b ihb φ φ' bv bv' b' _ (HG.out _ (M.below fun _ _ => trivial)).2.2.1 (HG'.out _ (M.below fun _ _ => trivial)).2.2.1).mono ?_
 rintro x w1 ⟨rfl, b1⟩
 replace M := M.call b1
 clear b1
 obtain ⟨r3, hq⟩ : ∃ q, q = I6 b b' := ⟨_, rfl⟩
 rw [← hq]
 have Hr3 := show Hid _ from hq
 clear hq
 have HB := show Hid _ from M.below fun _ _ => trivial
 have c10 := M.c 0 10 rfl rfl
 have d10 := M.c 1 10 rfl rfl
 have HM := show Hid _ from M
 clear M
 cases r3
 ·go_wp2_with fail
  go_ret
  exact ⟨k6 (by rw [HS.out, ← Hr3.out]; simp), HB.out⟩
 go_wp2_with fail
 have M := HM.out
 clear HM HB c10 d10
 refine (ao0 e ihe φ φ' ev ev' e' _ (HG.out _ (M.below fun _ _ => trivial)).2.2.2 (HG'.out _ (M.below fun _ _ => trivial)).2.2.2).mono ?_
 rintro x w1 ⟨rfl, b1⟩
 replace M := M.call b1
 clear b1
 obtain ⟨r4, hq⟩ : ∃ q, q = I6 e e' := ⟨_, rfl⟩
 rw [← hq]
 have Hr4 := show Hid _ from hq
 clear hq
 have HB := show Hid _ from M.below fun _ _ => trivial
 have HM := show Hid _ from M
 clear M
 cases r4
 ·go_wp2_with fail
  go_ret
  exact ⟨k6 (by rw [HS.out, ← Hr4.out]; simp), HB.out⟩
 go_wp2_with fail
 go_ret
 exact ⟨k6 (by rw [HS.out, ← Hr1.out, ← Hr2.out, ← Hr3.out, ← Hr4.out, decide_eq_true Q0.out.1, decide_eq_true Q0.out.2, decide_eq_true Q4.out]; rfl), HB.out⟩
theorem aH2 (φ φ' : Nat → Prop) (x u : Value) (p q : b9) (w : World) (h : af7 w φ x p) (h' : af7 w φ' u q) :
  Calls Tryz.prog 30 #[x, u] w fun e w' => e = .returned (.bool (p.same q)) ∧ Below w.heap.size w w' := by
 obtain ⟨v1, v2, v3, rfl, h1, h2, h3⟩ := h
 obtain ⟨u1, u2, u3, rfl, k1, k2, k3⟩ := h'
 have HS : Hid (p.same q = (decide (p.vars = q.vars) && decide (p.arrays = q.arrays) && I6 p.body q.body)) := rfl
 obtain ⟨W, hW, M⟩ : ∃ W, W = (w.alloc (.cells #[v1, v2, v3] 26)).alloc (.cells #[u1, u2, u3] 26) ∧ A1 (fun _ => True) (fun _ => True) w W [.box w.heap.size [v1, v2, v3], .box (w.heap.size + 1) [u1, u2, u3]] :=
  ⟨_, rfl, ((A1.start fun _ _ => trivial).box _ _).box' _ _ (by simp)⟩
 have HG := show Hid (∀ W', Below w.heap.size w W' → (Q8 W' v1 p.vars.length 1 (ints p.vars) ∧ Q8 W' v2 p.arrays.length 1 (ints p.arrays) ∧ s0 W' φ v3 p.body) ∧ (Q8 W' u1 q.vars.length 1 (ints q.vars) ∧ Q8 W' u2 q.arrays.length 1 (ints q.arrays) ∧ s0 W' φ' u3 q.body)) from fun W' k =>
  ⟨⟨h1.row.below k, h2.row.below k, s0.nice _ _ _ _ _ _ (J0.below k) h3⟩, k1.row.below k, k2.row.below k, s0.nice _ _ _ _ _ _ (J0.below k) k3⟩
 clear h1 h2 h3 k1 k2 k3
 have c0 := M.c 0 0 rfl rfl
 have d0 := M.c 1 0 rfl rfl
 rw [hW] at c0 d0
 have HM := show Hid _ from M
 clear M
 go_enter Tryz.func30, Tryz.ntmps30
 go_wp2_with fail
 rw [← hW]
 have M := HM.out
 clear hW HM c0 d0
 refine (aE8 _ _ p.vars q.vars _ (HG.out _ (M.below fun _ _ => trivial)).1.1 (HG.out _ (M.below fun _ _ => trivial)).2.1).mono ?_
 rintro x w1 ⟨rfl, n1, rfl⟩
 replace M := M.call (below_drewN (Below.refl _ _) n1)
 obtain ⟨r1, hq⟩ : ∃ r, r = decide (p.vars = q.vars) := ⟨_, rfl⟩
 rw [← hq]
 have Hr1 := show Hid _ from hq
 clear hq
 have HB := show Hid _ from M.below fun _ _ => trivial
 have c1 := M.c 0 1 rfl rfl
 have d1 := M.c 1 1 rfl rfl
 have HM := show Hid _ from M
 clear M
 cases r1
 ·go_wp2_with fail
  go_ret
  exact ⟨k6 (by rw [HS.out, ← Hr1.out]; simp), HB.out⟩
 go_wp2_with fail
 have M := HM.out
 clear HM HB c1 d1
 refine (aE8 _ _ p.arrays q.arrays _ (HG.out _ (M.below fun _ _ => trivial)).1.2.1 (HG.out _ (M.below fun _ _ => trivial)).2.2.1).mono ?_
 rintro x w1 ⟨rfl, n2, rfl⟩
 replace M := M.call (below_drewN (Below.refl _ _) n2)
 rw [World.drewN_drewN] at M
 obtain ⟨r2, hq⟩ : ∃ r, r = decide (p.arrays = q.arrays) := ⟨_, rfl⟩
 rw [← hq]
 have Hr2 := show Hid _ from hq
 clear hq
 have HB := show Hid _ from M.below fun _ _ => trivial
 have c2 := M.c 0 2 rfl rfl
 have d2 := M.c 1 2 rfl rfl
 have HM := show Hid _ from M
 clear M
 cases r2
 ·go_wp2_with fail
  go_ret
  exact ⟨k6 (by rw [HS.out, ← Hr2.out]; simp), HB.out⟩
 go_wp2_with fail
 have M := HM.out
 clear HM HB c2 d2
 refine (ao0 p.body (fun s _ => a24 s) φ φ' v3 u3 q.body _ (HG.out _ (M.below fun _ _ => trivial)).1.2.2 (HG.out _ (M.below fun _ _ => trivial)).2.2.2).mono ?_
 rintro x w1 ⟨rfl, b1⟩
 replace M := M.call b1
 clear b1
 obtain ⟨r3, hq⟩ : ∃ r, r = I6 p.body q.body := ⟨_, rfl⟩
 rw [← hq]
 have Hr3 := show Hid _ from hq
 clear hq
 have HB := show Hid _ from M.below fun _ _ => trivial
 clear M
 cases r3
 ·go_wp2_with fail
  go_ret
  exact ⟨k6 (by rw [HS.out, ← Hr3.out]; simp), HB.out⟩
 go_wp2_with fail
 go_ret
 exact ⟨k6 (by rw [HS.out, ← Hr1.out, ← Hr2.out, ← Hr3.out]; rfl), HB.out⟩
theorem aV7 (p : b9) (m : Int) (hm : 0 ≤ m) (hm2 : m ≤ 1048576) : p6.ok Tryz.prog (O8 26 [pA 0, iA m] (pS p) (iA (J1 m p.size))) :=
 X6 fun φ w ρ h => aG1 φ _ p m w ⟨ρ 0, ρ 1, ρ 2, rfl, h 0 _ rfl, h 1 _ rfl, h 2 _ rfl⟩ hm hm2
theorem T8 (p q : b9) : p6.ok Tryz.prog (O8 30 [pA 0, pA 3] (pS p ++ pS q) (bA (p.same q))) :=
 X6 fun φ w ρ h => aH2 φ φ _ _ p q w ⟨ρ 0, ρ 1, ρ 2, rfl, h 0 _ rfl, h 1 _ rfl, h 2 _ rfl⟩ ⟨ρ 3, ρ 4, ρ 5, rfl, h 3 _ rfl, h 4 _ rfl, h 5 _ rfl⟩
theorem bg7 {P : Program} {f : FuncId} {args : List AV} {S : List It} {q : b9} (hS : S.all (fun x => V0 S.length x.ids) = true)
  (h : ∀ (φ : Nat → Prop) (w : World) (ρ : Nat → Value), (∀ i d, t7 S i = .dat d → RD w φ d (ρ i)) → Calls P f (AV.vals ρ args).toArray w fun e w' => ∃ v1 v2 v3, e = .returned (.agg #[v1, v2, v3]) ∧ af7 w' (fun b => w.heap.size ≤ b) (.agg #[v1, v2, v3]) q ∧ Below w.heap.size w w') :
  p6.ok P ⟨f, args, S, S ++ pS q, pA S.length⟩ := by
 intro ι φ ψ w0 w F ρ M
 refine (h (X0 φ (t6 F ρ (t7 S))) w ρ fun i d hi => M.datAt hi).mono ?_
 rintro e w' ⟨v1, v2, v3, rfl, hp, hb⟩
 have M1 := M.call hb
 obtain ⟨u1, u2, u3, hu, h1, h2, h3⟩ := hp
 cases hu
 have ha : J0 (fun b => w.heap.size ≤ b) (X0 φ (t6 F ρ (t7 S))) w' w' := J0.mono fun b _ hf => M.frFresh b hf
 have hx : XHs w' (X0 φ (t6 F ρ (t7 S))) [.sl (.ints q.vars), .sl (.ints q.arrays), .sl (.stmts q.body)] [v1, v2, v3] :=
  ⟨RD.nice (.ints q.vars) _ _ _ _ _ ha h1, RD.nice (.ints q.arrays) _ _ _ _ _ ha h2, RD.nice (.stmts q.body) _ _ _ _ _ ha h3, bF3⟩
 have hlen : ∀ j, S.length ≤ j → t7 S j = .none := fun j hj => by simp only [t7, bF4, bG7 hj]; rfl
 obtain ⟨ρ', g1, M2, g2⟩ := n9.dats [.sl (.ints q.vars), .sl (.ints q.arrays), .sl (.stmts q.body)] [v1, v2, v3] S.length M1 hx (fun j hj => hlen j (by simp [O1] at hj; omega)) (fun ρ' ha j => by
  by_cases hj : j < S.length
  ·refine It.res_congr _ (fun k hk => ha k ?_) (.inr (.inr (ha j (by simp [O1]; omega))))
   have h1 := G2 (bG1.1 hS (S[j]) (bG5 hj)) k (by simpa [t7, bF4, bF1 hj] using hk)
   simp [O1]; omega
  ·rw [hlen j (by omega)]; rfl)
 have e : t5 (t7 S) (O1 [.sl (.ints q.vars), .sl (.ints q.arrays), .sl (.stmts q.body)] S.length) = t7 (S ++ pS q) := by
  funext j
  simp only [O1, t5, t7, bF4]
  by_cases h0 : j = S.length
  ·subst h0; simp
  by_cases h1 : j = S.length + 1
  ·subst h1
   rw [if_neg (by omega), if_pos rfl, bH8 (by omega), show S.length + 1 - S.length = 1 by omega]; rfl
  by_cases h2 : j = S.length + 1 + 1
  ·subst h2
   rw [if_neg (by omega), if_neg (by omega), if_pos rfl, bH8 (by omega), show S.length + 1 + 1 - S.length = 2 by omega]; rfl
  rw [if_neg h0, if_neg h1, if_neg h2]
  by_cases hj : j < S.length
  ·rw [bG9 hj]
  ·rw [bG7 (by omega), bG7 (by simp; omega)]
 rw [e] at M2
 refine ⟨ρ', fun k hk => g1 k (by have hk : k < S.length := hk; simp [O1]; omega), ?_, M2⟩
 simp only [xav, AV.vals, AV.val, List.cons.injEq, and_true] at g2
 obtain ⟨rfl, rfl, rfl⟩ := g2
 rfl
theorem aV6 (p : b9) (hb : p.size ≤ 1048576) : p6.ok Tryz.prog ⟨28, [pA 0], pS p, pS p ++ pS p, pA 3⟩ :=
 bg7 (S := pS p) (q := p) rfl fun φ w ρ h => (ak2 φ _ p w ⟨ρ 0, ρ 1, ρ 2, rfl, h 0 _ rfl, h 1 _ rfl, h 2 _ rfl⟩ hb).mono fun e w' ⟨a1, k1, a2, k2, a3, k3, S, e1, e2, e3, e4⟩ => ⟨_, _, _, e1, e2.read fun b hb => (e3 b hb).1, e4⟩
theorem bg0 {P : Program} {f : FuncId} {x : Value} {p : b9} {post : List It} (hc : p6.ok P ⟨f, [pA 0], pS p, post, .v x⟩) (u : Value) (w : World) (hp : af7 w (fun _ => True) u p) :
  Calls P f #[u] w fun e w' => e = .returned x ∧ Below w.heap.size w w' := by
 obtain ⟨v1, v2, v3, rfl, h1, h2, h3⟩ := hp
 have M0 : n9 (fun _ => True) (fun _ => True) w w (t6 (fun _ : Empty => Rs.none) (fun _ => undef) (t7 [])) := by
  refine (n9.start (ι := Empty ⊕ Nat) (w0 := w) (φ := fun _ => True) (ψ := fun _ => True) fun _ _ => trivial).map (fun k => some k) (fun k k' i a b => by cases a; cases b; rfl) fun k => ?_
  cases k with
  | inl e => exact e.elim
  | inr j => exact .inr rfl
 have ha : J0 (fun _ => True) (X0 (fun _ => True) (t6 (fun _ : Empty => Rs.none) (fun _ => undef) (t7 []))) w w := J0.mono fun b _ _ => ⟨bF3, fun i => by
  cases i with
  | inl e => exact e.elim
  | inr j => exact fun h => h.elim⟩
 obtain ⟨ρ', g1, M2, g2⟩ := n9.dats [.sl (.ints p.vars), .sl (.ints p.arrays), .sl (.stmts p.body)] [v1, v2, v3] 0 M0
  ⟨RD.nice (.ints p.vars) _ _ _ _ _ ha h1, RD.nice (.ints p.arrays) _ _ _ _ _ ha h2, RD.nice (.stmts p.body) _ _ _ _ _ ha h3, bF3⟩ (fun _ _ => rfl) (fun _ _ _ => rfl)
 have e : t5 (t7 []) (O1 [.sl (.ints p.vars), .sl (.ints p.arrays), .sl (.stmts p.body)] 0) = t7 (pS p) := by
  funext j
  match j with
  | 0 => rfl
  | 1 => rfl
  | 2 => rfl
  | j + 3 => simp [O1, t5, t7]
 rw [e] at M2
 simp only [xav, AV.vals, AV.val, List.cons.injEq, and_true] at g2
 obtain ⟨rfl, rfl, rfl⟩ := g2
 refine (hc Empty _ _ w w _ ρ' M2).mono ?_
 rintro e w' ⟨ρ2, -, rfl, M3⟩
 exact ⟨rfl, M3.below fun _ _ => trivial⟩
def ai0 (ss : List b6) : Prop := ∀ (φ : Nat → Prop) (v : Value) (k : Int) (w : World), s0 w φ v (ac1 ss k) → 0 ≤ k → k + Z9 ss ≤ 9000000000000000000 →
 Calls Tryz.prog 88 #[v, .int .i64 k] w fun x w' => x = .returned (.int .i64 (k + Z9 ss)) ∧ Below w.heap.size w w'
theorem ae5 /- 88 -/ (ks : List b6) (ih : ∀ s ∈ ks, ai0 s.body ∧ ai0 s.els) : ai0 ks := by
 intro φ v k0 w h hk0 hkb
 obtain ⟨a, cap, rfl, -, hn, -, hc⟩ := h.open
 rw [N0] at hn ⊢
 have HC := show Hid _ from hc
 have HKB := show Hid _ from hkb
 clear hc h hkb
 go_enter Tryz.func88, Tryz.ntmps88
 go_wp2_with fail
 go_loopw [1, 5] (fun q i wr => ∃ (j : Nat) (y : Int), j ≤ ks.length ∧ i = .int .i64 j ∧ q = .int .i64 y ∧ y = k0 + Z9 (ks.take j) ∧ Below w.heap.size w wr) (fun _ i _ => ks.length - (intOf i).toNat)
 case atStart => exact ⟨0, k0, bH1 _, rfl, rfl, by simp [Z9], Below.refl _ _⟩
 case round =>
  obtain ⟨j, y, hj, rfl, rfl, hy, hb⟩ := hrel
  have HY := show Hid _ from hy
  have HB := show Hid _ from hb
  clear hy hb
  by_cases hlt : j < ks.length
  ·obtain ⟨b, off, iv, vv, bv, ev, rfl, hbk, hf, hcell, g1, g2, g3, g4⟩ := HC.out j (by rw [N0]; exact hlt)
   have hge := aC7 ks k0 j hlt
   rw [← HY.out, bF1 (by rw [N0]; exact hlt)] at hge
   rw [Option.some.inj hge] at hcell g1 g2 g3 g4
   have hih := ih _ (bG5 hlt)
   have ht1 := aI9 hlt
   have hdr := aT3 ks (j + 1)
   obtain ⟨s, hsj⟩ : ∃ s, s = ks[j] := ⟨_, rfl⟩
   rw [← hsj] at hcell g1 g2 g3 g4 hih ht1
   have hdef := aT5 s
   have hnb := (C8 s.body).1
   have hne := (C8 s.els).1
   have hnt := (C8 (ks.take j)).1
   have hnd := (C8 (ks.drop (j + 1))).1
   obtain ⟨A, hA⟩ : ∃ A : Int, A = 2 * n7 s.index.kids := ⟨_, rfl⟩
   obtain ⟨B, hB⟩ : ∃ B : Int, B = 2 * n7 s.value.kids := ⟨_, rfl⟩
   obtain ⟨C, hC⟩ : ∃ C : Int, C = Z9 s.body := ⟨_, rfl⟩
   obtain ⟨D, hD⟩ : ∃ D : Int, D = Z9 s.els := ⟨_, rfl⟩
   have hA0 : 0 ≤ A := by omega
   have hB0 : 0 ≤ B := by omega
   have hC0 : 0 ≤ C := by omega
   have hD0 : 0 ≤ D := by omega
   have hy0 : 0 ≤ y := by have := HY.out; omega
   have hy1 : y + 7 + A + B + C + D ≤ 9000000000000000000 := by have := HY.out; have := HKB.out; omega
   have hyn : y + 7 + A + B + C + D = k0 + Z9 (ks.take (j + 1)) := by have := HY.out; omega
   rw [a54 s y A B hA hB, ← hC] at hcell g1 g2 g3 g4
   simp only [b6.kind, b6.target, b6.index, b6.value, b6.count, b6.body, b6.els, b5.kind, b5.value, b5.kids] at hcell g1 g2 g3 g4
   have HCC := show Hid (∀ W, Below w.heap.size w W → ∀ o, W.cell? ⟨b, o, none⟩ = w.cell? ⟨b, o, none⟩) from fun W hW o => (T9 hW).1 _ _ hbk
   have HG := show Hid _ from And.intro g1 (And.intro g2 (And.intro g3 g4))
   have HE := show Hid _ from And.intro hA (And.intro hB (And.intro hC hD))
   have HIH := show Hid _ from hih
   have HYN := show Hid _ from hyn
   have HCE := show Hid _ from hcell
   clear hih hA hB hC hD hcell g1 g2 g3 g4 hge ht1 hdr hdef hnb hne hnt hnd hsj hyn
   obtain ⟨c0, c1, c2, c3, c4, c5, c6, c7, c8, c9, c10⟩ := HCE.out
   rw [← HCC.out _ HB.out] at c0 c1 c2 c3 c4
   clear c5 c6 c7 c8 c9 c10
   go_wp2_with fail
   clear c0 c1 c2 c3 c4
   refine (ak6 s.index.kids φ iv (y + 1 + 1 + 1 + 1) _ (p8.nice _ _ _ _ _ _ (J0.below HB.out) HG.out.1) (by omega) (by have := HE.out.1; omega)).mono ?_
   rintro x w1 ⟨rfl, b1⟩
   rw [← HE.out.1]
   have B1 := show Hid _ from HB.out.trans (b1.mono HB.out.size)
   clear b1
   obtain ⟨c0, c1, c2, c3, c4, c5, c6, c7, c8, c9, c10⟩ := HCE.out
   rw [← HCC.out _ B1.out] at c5 c6 c7
   clear c0 c1 c2 c3 c4 c8 c9 c10
   go_wp2_with fail
   clear c5 c6 c7
   refine (ak6 s.value.kids φ vv (y + 1 + 1 + 1 + 1 + A + 1 + 1) _ (p8.nice _ _ _ _ _ _ (J0.below B1.out) HG.out.2.1) (by omega) (by have := HE.out.2.1; omega)).mono ?_
   rintro x w2 ⟨rfl, b1⟩
   rw [← HE.out.2.1]
   have B2 := show Hid _ from B1.out.trans (b1.mono B1.out.size)
   clear b1
   obtain ⟨c0, c1, c2, c3, c4, c5, c6, c7, c8, c9, c10⟩ := HCE.out
   rw [← HCC.out _ B2.out] at c8 c9
   clear c0 c1 c2 c3 c4 c5 c6 c7 c10
   go_wp2_with fail
   clear c8 c9
   refine (HIH.out.1 φ bv (y + 1 + 1 + 1 + 1 + A + 1 + 1 + B + 1) _ (s0.nice _ _ _ _ _ _ (J0.below B2.out) HG.out.2.2.1) (by omega) (by have := HE.out.2.2.1; omega)).mono ?_
   rintro x w3 ⟨rfl, b1⟩
   rw [← HE.out.2.2.1]
   have B3 := show Hid _ from B2.out.trans (b1.mono B2.out.size)
   clear b1
   obtain ⟨c0, c1, c2, c3, c4, c5, c6, c7, c8, c9, c10⟩ := HCE.out
   rw [← HCC.out _ B3.out] at c10
   clear c0 c1 c2 c3 c4 c5 c6 c7 c8 c9
   go_wp2_with fail
   clear c10
   refine (HIH.out.2 φ ev (y + 1 + 1 + 1 + 1 + A + 1 + 1 + B + 1 + C) _ (s0.nice _ _ _ _ _ _ (J0.below B3.out) HG.out.2.2.2) (by omega) (by have := HE.out.2.2.2; omega)).mono ?_
   rintro x w4 ⟨rfl, b1⟩
   rw [← HE.out.2.2.2]
   have B4 := show Hid _ from B3.out.trans (b1.mono B3.out.size)
   clear b1
   obtain ⟨z, hz⟩ : ∃ z : Int, z = y + 1 + 1 + 1 + 1 + A + 1 + 1 + B + 1 + C + D := ⟨_, rfl⟩
   have HZ := show Hid _ from hz
   rw [← hz]
   have hz0 : 0 ≤ z := by omega
   have hz1 : z ≤ 9000000000000000000 := by omega
   clear hz hy1
   go_wp2_with fail
   exact ⟨⟨j + 1, _, by omega, by go_num, rfl, by have := HZ.out; have := HYN.out; omega, B4.out⟩, by simp [intOf]; omega⟩
  ·have hjn : j = ks.length := by omega
   subst hjn
   go_wp2_with fail
   go_ret
   exact ⟨w6 (by have := HY.out; rw [bF8 (bF7 _)] at this; exact this), HB.out⟩
theorem aH1 /- 88 -/ (s : b6) : ai0 s.body ∧ ai0 s.els :=
 b6.ind (P := fun s => ai0 s.body ∧ ai0 s.els) (fun _ _ _ _ _ b e ihb ihe => ⟨ae5 b ihb, ae5 e ihe⟩) s
theorem aH0 /- 88 -/ (ks : List b6) : ai0 ks := ae5 ks fun s _ => aH1 s
theorem aq2 (v : Value) (xs : List Int) (K : Nat) (w : World) (h : w.ownsRow 0 3 1 v xs.length (ints xs)) (hK : K + xs.length ≤ 9000000000000000000) :
  Calls Tryz.prog 85 #[v, .int .i64 K] w fun e w' => e = .returned (.int .i64 (K + xs.length : Nat)) ∧ w'.ownsRow 0 3 1 v xs.length (ints (E4 K xs.length)) ∧ C3 (fun b => ¬ v.ownBlock = some b) w w' := by
 obtain ⟨lo, hi, _, _, ho, hb⟩ := (Q3.mk' h).tight
 refine (aO0 v xs K lo hi w ho hK).mono ?_
 rintro e w1 ⟨rfl, h1, h2⟩
 refine ⟨rfl, I7 h1.1 (bH1 _), h2.os, h2.tape, h2.output, h2.size, fun b hb1 hb2 => h2.block b hb1 ?_⟩
 rcases bI0 b lo with h3 | h3
 ·exact .inl h3
 ·rcases bI0 b hi with h4 | h4
  ·exact absurd (hb b h3 h4) hb2
  ·exact .inr h4
theorem A1.turnRow {φ ψ : Nat → Prop} {w0 w w' : World} {L : List U7} (M : A1 φ ψ w0 w L) (i : Nat) {e : TypeId} {sz : Nat} {v : Value} {n : Nat} {xs xs' : List Value} (hi : L[i]? = some (.row e sz v n xs)) (hk : C3 (fun b => ¬ v.ownBlock = some b) w w') (h : w'.ownsRow 0 e sz v n xs') : A1 φ ψ w0 w' (L.set i (.row e sz v n xs')) :=
 M.put hi _ hk h fun _ hg => .inl hg
def mkP (p : b9) (k : Nat) : b9 := ⟨E4 k p.vars.length, E4 (k + p.vars.length) p.arrays.length, ac1 p.body ((k + p.vars.length + p.arrays.length : Nat) : Int)⟩
def J7 (p : b9) : Int := p.vars.length + p.arrays.length + Z9 p.body
theorem aw9 (v : Value) (p : b9) (k : Nat) (w : World) (S : Nat → Prop) (h : af8 w v p S) (hb : k + J7 p ≤ 9000000000000000000) :
  Calls Tryz.prog 31 #[v, .int .i64 k] w fun x w' => x = .returned (.int .i64 (k + J7 p)) ∧ af8 w' v (mkP p k) S ∧ C3 (fun b => ¬ S b) w w' := by
 obtain ⟨v1, v2, v3, S3, rfl, h1, h2, h3, d1, d2, d3⟩ := h
 have hnn := (C8 p.body).1
 have hbb : (k : Int) + p.vars.length + p.arrays.length + Z9 p.body ≤ 9000000000000000000 := by unfold J7 at hb; omega
 obtain ⟨W, hW, M⟩ : ∃ W, W = w.alloc (.cells #[v1, v2, v3] 26) ∧ A1 (fun _ => True) (fun b => ¬ S b) w W [.box w.heap.size [v1, v2, v3], .row 3 1 v1 p.vars.length (ints p.vars), .row 3 1 v2 p.arrays.length (ints p.arrays), .own (fun b => S3 b ∧ b < w.heap.size) (fun w' => v9 w' v3 p.body (fun b => S3 b ∧ b < w.heap.size))] := by
  refine ⟨_, rfl, (((((A1.start fun _ _ => trivial).box [v1, v2, v3] 26).adopt (.row 3 1 v1 p.vars.length (ints p.vars)) ?_ bF3 (G9 h1 fun g hg => ?_) ?_ ?_).adopt (.row 3 1 v2 p.arrays.length (ints p.arrays)) ?_ bF3 (G9 h2 fun g hg => ?_) ?_ ?_).adopt (.own (fun b => S3 b ∧ b < w.heap.size) (fun w' => v9 w' v3 p.body (fun b => S3 b ∧ b < w.heap.size))) ?_ bF3 ⟨fun _ _ h hs => v9.same h hs, h3.cut.same fun b hb hl => ?_, fun b hb => ?_⟩ ?_ ?_)⟩
  ·intro a ha; simp at ha; subst ha; trivial
  ·exact (Below.refl _ _ |>.alloc (bF7 _) _).block g (World.ownsRow.lt h1 g hg).2
  ·intro a ha g hg h; simp at ha; subst ha; cases h; have := (World.ownsRow.lt h1 _ hg).2; omega
  ·intro g hg hn; exact hn (d1 g hg).1
  ·intro a ha; simp at ha; rcases ha with rfl | rfl <;> trivial
  ·exact (Below.refl _ _ |>.alloc (bF7 _) _).block g (World.ownsRow.lt h2 g hg).2
  ·intro a ha g hg h; simp at ha; rcases ha with rfl | rfl
   ·cases h; have := (World.ownsRow.lt h2 _ hg).2; omega
   ·exact (d1 g h).2.2 hg
  ·intro g hg hn; exact hn (d2 g hg).1
  ·intro a ha; simp at ha; rcases ha with rfl | rfl | rfl <;> trivial
  ·exact (Below.refl _ _ |>.alloc (bF7 _) _).block b hb.2
  ·simp; have := hb.2; omega
  ·intro a ha g hg h; simp at ha; rcases ha with rfl | rfl | rfl
   ·cases h; have := hg.2; omega
   ·exact (d1 g h).2.1 hg.1
   ·exact (d2 g h).2 hg.1
  ·intro g hg hn; exact hn (d3 g hg.1)
 have HD := show Hid _ from And.intro d1 (And.intro d2 d3)
 clear h1 h2 h3 d1 d2 d3
 have c0 := M.c 0 0 rfl rfl
 rw [hW] at c0
 go_enter Tryz.func31, Tryz.ntmps31
 go_wp2_with fail
 rw [← hW]
 clear hW c0
 refine (aq2 v1 p.vars k _ (M.r 1 rfl) (by omega)).mono ?_
 rintro x w1 ⟨rfl, k1, kp1⟩
 replace M := M.turnRow 1 rfl kp1 k1
 clear k1 kp1
 have c1 := M.c 0 1 rfl rfl
 have HM := show Hid _ from M
 clear M
 go_wp2_with fail
 have M := HM.out
 clear HM c1
 refine (aq2 v2 p.arrays (k + p.vars.length) _ (M.r 2 rfl) (by omega)).mono ?_
 rintro x w2 ⟨rfl, k1, kp1⟩
 replace M := M.turnRow 2 rfl kp1 k1
 clear k1 kp1
 have c2 := M.c 0 2 rfl rfl
 have HM := show Hid _ from M
 clear M
 go_wp2_with fail
 have M := HM.out
 clear HM c2
 refine (aG5 p.body v3 ((k + p.vars.length + p.arrays.length : Nat) : Int) _ _ (M.o 3 rfl) (by omega) (by omega)).mono ?_
 rintro x w3 ⟨rfl, k1, kp1⟩
 replace M := M.turn 3 rfl kp1 (fun _ _ h hs => v9.same h hs) k1
 clear k1 kp1
 have HM := show Hid _ from M
 clear M
 go_wp2_with fail
 go_ret
 have M := HM.out
 obtain ⟨d1, d2, d3⟩ := HD.out
 refine ⟨w6 (by unfold J7; omega), ⟨v1, v2, v3, S3, rfl, ?_, ?_, (show v9 _ v3 (ac1 p.body _) _ from M.o 3 rfl).mono fun _ h => h.1, d1, d2, d3⟩, M.kept⟩
 ·rw [show (mkP p k).vars = E4 k p.vars.length from rfl, ad9]; exact M.r 1 rfl
 ·rw [show (mkP p k).arrays = E4 (k + p.vars.length) p.arrays.length from rfl, ad9]; exact M.r 2 rfl
theorem ax1 (φ : Nat → Prop) (v : Value) (p : b9) (k : Nat) (w : World) (h : af7 w φ v (mkP p k)) (hb : k + J7 p ≤ 9000000000000000000) :
  Calls Tryz.prog 32 #[v, .int .i64 k] w fun x w' => x = .returned (.int .i64 (k + J7 p)) ∧ Below w.heap.size w w' := by
 obtain ⟨v1, v2, v3, rfl, h1, h2, h3⟩ := h
 rw [show (mkP p k).vars = E4 k p.vars.length from rfl, ad9] at h1
 rw [show (mkP p k).arrays = E4 (k + p.vars.length) p.arrays.length from rfl, ad9] at h2
 have hnn := (C8 p.body).1
 have hbb : (k : Int) + p.vars.length + p.arrays.length + Z9 p.body ≤ 9000000000000000000 := by unfold J7 at hb; omega
 obtain ⟨W, hW, M⟩ : ∃ W, W = w.alloc (.cells #[v1, v2, v3] 26) ∧ A1 (fun _ => True) (fun _ => True) w W [.box w.heap.size [v1, v2, v3]] :=
  ⟨_, rfl, (A1.start fun _ _ => trivial).box _ _⟩
 have HG := show Hid (∀ W', Below w.heap.size w W' → Q8 W' v1 p.vars.length 1 (ints (E4 k p.vars.length)) ∧ Q8 W' v2 p.arrays.length 1 (ints (E4 (k + p.vars.length) p.arrays.length)) ∧ s0 W' φ v3 (ac1 p.body ((k + p.vars.length + p.arrays.length : Nat) : Int))) from fun W' k =>
  ⟨h1.row.below k, h2.row.below k, s0.nice _ _ _ _ _ _ (J0.below k) h3⟩
 clear h1 h2 h3
 have c0 := M.c 0 0 rfl rfl
 have c1 := M.c 0 1 rfl rfl
 have c2 := M.c 0 2 rfl rfl
 have HB0 := show Hid _ from M.below fun _ _ => trivial
 clear M
 rw [hW] at c0
 go_enter Tryz.func32, Tryz.ntmps32
 go_wp2_with fail
 rw [← hW]
 clear hW c0
 refine (aq9 v1 p.vars.length k _ (HG.out _ HB0.out).1 (by omega)).mono ?_
 rintro x w1 ⟨rfl, n1, rfl⟩
 go_wp2_with fail
 have B1 := show Hid _ from below_drewN HB0.out n1
 refine (aq9 v2 p.arrays.length (k + p.vars.length) _ (HG.out _ B1.out).2.1 (by omega)).mono ?_
 rintro x w2 ⟨rfl, n2, rfl⟩
 go_wp2_with fail
 have B2 := show Hid _ from below_drewN HB0.out (n1 + n2)
 have hcast : ((k + p.vars.length + p.arrays.length : Nat) : Int) = (k : Int) + p.vars.length + p.arrays.length := by omega
 have HBB : s0 (W.drewN (n1 + n2)) φ v3 (ac1 p.body ((k : Int) + p.vars.length + p.arrays.length)) := by rw [← hcast]; exact (HG.out _ B2.out).2.2
 clear hcast
 refine (aH0 p.body φ v3 ((k : Int) + p.vars.length + p.arrays.length) _ HBB (by omega) (by omega)).mono ?_
 rintro x w3 ⟨rfl, b1⟩
 have HB := show Hid _ from B2.out.trans (b1.mono B2.out.size)
 clear b1 HBB
 have hn1 : ¬ ((k : Int) + p.vars.length + p.arrays.length + Z9 p.body < 0) := by omega
 go_wp2_with fail
 go_ret
 exact ⟨w6 (by unfold J7; omega), HB.out⟩
section
variable {P : Program} {ι κ : Type} {φ ψ : Nat → Prop} {w0 w w' : World} {F : ι → Rs} {ρ ρ0 : Nat → Value}
theorem n9.turns {L L' : κ → Rs} (M : n9 φ ψ w0 w L) (hblk : ∀ k b, (L' k).blk b ↔ (L k).blk b) (K : κ → Prop) (ho : ∀ k, ¬ K k → L' k = L k) (hk : C3 (fun b => ¬ ∃ k, K k ∧ (L k).blk b) w w') (h : ∀ k, K k → (L' k).holds w' (X0 φ L')) : n9 φ ψ w0 w' L' := by
 have hfr : ∀ b, X0 φ L b → X0 φ L' b := fun b hb => ⟨hb.1, fun k hk => hb.2 k ((hblk k b).1 hk)⟩
 refine ⟨⟨hk.os.trans M.kept.os, hk.tape.trans M.kept.tape, hk.output.trans M.kept.output, bH0 M.size hk.size, fun b hb hp => (hk.block b (bH5 hb M.size) ?_).trans (M.kept.block b hb hp)⟩, M.fresh, fun k => ?_, fun i j g hij h1 h2 => M.dis i j g hij ((hblk i g).1 h1) ((hblk j g).1 h2), fun i b hb => M.ge i b ((hblk i b).1 hb), fun i b hb => M.ph i b ((hblk i b).1 hb)⟩
 ·rintro ⟨k, _, h2⟩
  rcases M.ge k b h2 with h | h
  ·omega
  ·exact h hp
 ·by_cases e : K k
  ·exact h k e
  ·rw [ho k e]
   refine Rs.keep (M.holds k) ⟨hk.size, fun b hb hf => ⟨hfr b hf, hk.block b hb fun ⟨j, _, h2⟩ => hf.2 j h2⟩⟩ fun g hg => hk.block g (M.lt hg) ?_
   rintro ⟨j, h1, h2⟩
   exact M.dis j k g (fun h => e (h ▸ h1)) h2 hg
theorem n9.grow {L L' : κ → Rs} (M : n9 φ ψ w0 w L) (hb : Below w.heap.size w w') (K : κ → Prop) (ho : ∀ k, ¬ K k → L' k = L k) (hg : ∀ k, K k → ∀ b, (L' k).blk b → w.heap.size ≤ b) (hd : ∀ j k b, j ≠ k → K j → K k → (L' j).blk b → ¬ (L' k).blk b) (h : ∀ k, K k → (L' k).holds w' (X0 φ L')) : n9 φ ψ w0 w' L' := by
 have M1 := M.call hb
 have old : ∀ k, ¬ K k → ∀ b, (L' k).blk b → b < w.heap.size := fun k hk b h1 => by rw [ho k hk] at h1; exact M.lt h1
 refine ⟨M1.kept, M.fresh, fun k => ?_, fun i j g hij h1 h2 => ?_, fun i b h1 => ?_, fun i b h1 => ?_⟩
 ·by_cases e : K k
  ·exact h k e
  ·rw [ho k e]
   refine Rs.keep (M.holds k) ⟨hb.size, fun b hl hf => ⟨⟨hf.1, fun j hj => ?_⟩, hb.block b hl⟩⟩ fun g hgx => hb.block g (M.lt hgx)
   by_cases e2 : K j
   ·have := hg j e2 b hj; omega
   ·rw [ho j e2] at hj; exact hf.2 j hj
 ·by_cases e1 : K i <;> by_cases e2 : K j
  ·exact hd i j g hij e1 e2 h1 h2
  ·have := hg i e1 g h1; have := old j e2 g h2; omega
  ·have := hg j e2 g h2; have := old i e1 g h1; omega
  ·rw [ho i e1] at h1; rw [ho j e2] at h2; exact M.dis i j g hij h1 h2
 ·by_cases e : K i
  ·exact .inl (bH0 M.size (hg i e b h1))
  ·rw [ho i e] at h1; exact M.ge i b h1
 ·by_cases e : K i
  ·exact M.fresh b (bH0 M.size (hg i e b h1))
  ·rw [ho i e] at h1; exact M.ph i b h1
end
abbrev oP (p : b9) : List It := [.row 3 (.ints p.vars), .row 3 (.ints p.arrays), .tree (.stmts p.body)]
abbrev oA (r : Nat) : AV := .agg [.ref r, .ref (r + 1), .tref (r + 2)]
theorem ab8 {w : World} {φ : Nat → Prop} {v : Value} {l : List Int} (h : w.ownsRow 0 3 1 v l.length (ints l)) : (Rs.row 3 (D.ints l).sz v (D.ints l).len fun xs w φ => RW w φ (.ints l) xs).holds w φ := by
 refine ⟨fun xs => RW.nice (.ints l) xs, ints l, h, fun i hi j x hx => ?_⟩
 have hi' : i < l.length := hi
 simp only [D.elem] at hx
 have hj : j = 0 := by
  cases j with
  | zero => rfl
  | succ j => simp at hx
 subst hj
 simp at hx
 subst hx
 refine ⟨_, ?_, rfl⟩
 simp only [D.sz]
 rw [Nat.mul_one, Nat.add_zero]
 simp [ints, hi']
theorem bf6 {w : World} {φ : Nat → Prop} {v : Value} {l : List Int} (h : (Rs.row 3 (D.ints l).sz v (D.ints l).len fun xs w φ => RW w φ (.ints l) xs).holds w φ) : w.ownsRow 0 3 1 v l.length (ints l) := by
 obtain ⟨_, xs, h1, h2⟩ := h
 have h3 : xs.length = l.length := by have := h1.1; simpa [D.len, D.sz] using this
 rw [a47 h3 h2] at h1
 exact h1
theorem aQ8 (p : b9) (hb : p.size ≤ 1048576) : p6.ok Tryz.prog ⟨28, [pA 0], pS p, pS p ++ oP p, oA 3⟩ := by
 intro ι φ ψ w0 w F ρ M
 refine (ak2 (X0 φ (t6 F ρ (t7 (pS p)))) _ p w ⟨ρ 0, ρ 1, ρ 2, rfl, M.datAt (id := 0) rfl, M.datAt (id := 1) rfl, M.datAt (id := 2) rfl⟩ hb).mono ?_
 rintro e w' ⟨a1, k1, a2, k2, a3, k3, S, rfl, hO, hS, hbl⟩
 obtain ⟨v1, v2, v3, S3, hv, h1, h2, h3, d1, d2, d3⟩ := hO
 cases hv
 obtain ⟨z, hz1, hz2⟩ := ao1 (.slice a3 p.body.length k3) (fun b => S3 b ∧ b < w'.heap.size) w'.heap.size fun b h => h.2
 refine ⟨fun i => if i = 3 then .slice a1 p.vars.length k1 else if i = 4 then .slice a2 p.arrays.length k2 else if i = 5 then z else ρ i, fun i hi => ?_, ?_, ?_⟩
 ·have : i < 3 := hi
  simp only [if_neg (show ¬ i = 3 by omega), if_neg (show ¬ i = 4 by omega), if_neg (show ¬ i = 5 by omega)]
 ·simp [AV.val, AV.vals, hz1]
 ·have hlt : ∀ j, 6 ≤ j → t7 (pS p ++ oP p) j = .none ∧ t7 (pS p) j = .none := fun j hj => ⟨A0 (by simp; omega), A0 (by simp; omega)⟩
  refine M.grow hbl (fun k => k = .inr 3 ∨ k = .inr 4 ∨ k = .inr 5) (fun k hk => ?_) ?_ ?_ ?_
  ·cases k with
   | inl i => rfl
   | inr j =>
    have n3 : j ≠ 3 := fun e => hk (.inl (by rw [e]))
    have n4 : j ≠ 4 := fun e => hk (.inr (.inl (by rw [e])))
    have n5 : j ≠ 5 := fun e => hk (.inr (.inr (by rw [e])))
    match j, n3, n4, n5 with
    | 0, _, _, _ => rfl
    | 1, _, _, _ => rfl
    | 2, _, _, _ => rfl
    | 3, h, _, _ => exact absurd rfl h
    | 4, _, h, _ => exact absurd rfl h
    | 5, _, _, h => exact absurd rfl h
    | j + 6, _, _, _ => simp only [t6, (hlt (j + 6) (by omega)).1, (hlt (j + 6) (by omega)).2]; rfl
  ·rintro k (rfl | rfl | rfl) b hbk
   ·exact (hS b (d1 b hbk).1).1
   ·exact (hS b (d2 b hbk).1).1
   ·exact (hS b (d3 b ((hz2 b).1 hbk).1)).1
  ·have x1 : ∀ b, (Value.slice a1 p.vars.length k1).ownBlock = some b → ¬ (Value.slice a2 p.arrays.length k2).ownBlock = some b := fun b hb => (d1 b hb).2.2
   rintro j k b hjk (rfl | rfl | rfl) (rfl | rfl | rfl) hj hk
   ·exact hjk rfl
   ·exact (d1 b hj).2.2 hk
   ·exact (d1 b hj).2.1 ((hz2 b).1 hk).1
   ·exact (d1 b hk).2.2 hj
   ·exact hjk rfl
   ·exact (d2 b hj).2 ((hz2 b).1 hk).1
   ·exact (d1 b hk).2.1 ((hz2 b).1 hj).1
   ·exact (d2 b hk).2 ((hz2 b).1 hj).1
   ·exact hjk rfl
  ·rintro k (rfl | rfl | rfl)
   ·exact ab8 h1
   ·exact ab8 h2
   ·have e : F6 z = fun b => S3 b ∧ b < w'.heap.size := funext fun b => propext (hz2 b)
    show (Rs.own (F6 z) fun w => F8 w (F6 z) (.stmts p.body) (H2 z)).holds _ _
    rw [hz1, e]
    exact ⟨fun _ _ h hs => h.same hs, (F8.block.2 h3).cut, fun b hb => hb.2⟩
theorem ak8 (p : b9) (k : Nat) (hb : k + J7 p ≤ 9000000000000000000) : p6.ok Tryz.prog ⟨31, [oA 0, iA k], oP p, oP (mkP p k), iA (k + J7 p)⟩ := by
 intro ι φ ψ w0 w F ρ M
 have r1 := bf6 (M.holds (.inr 0))
 have r2 := bf6 (M.holds (.inr 1))
 have r3 := (M.holds (.inr 2)).2.1
 have hO : af8 w (.agg #[ρ 0, ρ 1, H2 (ρ 2)]) p (fun b => (ρ 0).ownBlock = some b ∨ (ρ 1).ownBlock = some b ∨ F6 (ρ 2) b) :=
  ⟨_, _, _, F6 (ρ 2), rfl, r1, r2, F8.block.1 r3,
   fun g hg => ⟨.inl hg, fun h => M.dis (.inr 0) (.inr 2) g (by simp) hg h, fun h => M.dis (.inr 0) (.inr 1) g (by simp) hg h⟩,
   fun g hg => ⟨.inr (.inl hg), fun h => M.dis (.inr 1) (.inr 2) g (by simp) hg h⟩, fun b hb => .inr (.inr hb)⟩
 refine (aw9 _ p k w _ hO hb).mono ?_
 rintro e w' ⟨rfl, hO', hk⟩
 obtain ⟨v1, v2, v3, S3, hv, h1, h2, h3, d1, d2, d3⟩ := hO'
 cases hv
 have hS3 : ∀ b, S3 b → F6 (ρ 2) b := fun b hb => by
  rcases d3 b hb with h | h | h
  ·exact ((d1 b h).2.1 hb).elim
  ·exact ((d2 b h).2 hb).elim
  ·exact h
 refine ⟨ρ, fun _ _ => rfl, rfl, M.turns (fun k b => ?_) (fun k => k = .inr 0 ∨ k = .inr 1 ∨ k = .inr 2) (fun k hk => ?_) ?_ ?_⟩
 ·cases k with
  | inl i => rfl
  | inr j =>
   match j with
   | 0 => exact Iff.rfl
   | 1 => exact Iff.rfl
   | 2 => exact Iff.rfl
   | j + 3 => simp only [t6]; rw [A0 (show (oP (mkP p _)).length ≤ j + 3 by simp), A0 (show (oP p).length ≤ j + 3 by simp)]
 ·cases k with
  | inl i => rfl
  | inr j =>
   match j, hk with
   | 0, h => exact absurd (.inl rfl) h
   | 1, h => exact absurd (.inr (.inl rfl)) h
   | 2, h => exact absurd (.inr (.inr rfl)) h
   | j + 3, _ => simp only [t6]; rw [A0 (show (oP (mkP p _)).length ≤ j + 3 by simp), A0 (show (oP p).length ≤ j + 3 by simp)]
 ·refine ⟨hk.os, hk.tape, hk.output, hk.size, fun b hb hn => hk.block b hb ?_⟩
  rintro (h | h | h)
  ·exact hn ⟨_, .inl rfl, h⟩
  ·exact hn ⟨_, .inr (.inl rfl), h⟩
  ·exact hn ⟨_, .inr (.inr rfl), h⟩
 ·rintro k (rfl | rfl | rfl)
  ·exact ab8 h1
  ·exact ab8 h2
  ·exact ⟨fun _ _ h hs => h.same hs, F8.block.2 (h3.mono hS3), fun b hb => bH5 (M.lt (i := .inr 2) hb) hk.size⟩
theorem al0 (p : b9) (k : Nat) (hb : k + J7 p ≤ 9000000000000000000) : p6.ok Tryz.prog (O8 32 [pA 0, iA k] (pS (mkP p k)) (iA (k + J7 p))) :=
 X6 fun φ w ρ h => ax1 φ _ p k w ⟨ρ 0, ρ 1, ρ 2, rfl, h 0 _ rfl, h 1 _ rfl, h 2 _ rfl⟩ hb
theorem a26 (v : Value) (t : List Int) (w : World) (h : Q8 w v t.length 1 (ints t)) (hb : t.length ≤ 1000000000000) :
  Calls Tryz.prog 70 #[v] w fun e w' => ∃ u, e = .returned u ∧ Q3 w' w.heap.size w'.heap.size 3 1 u t.length (ints t) ∧ Below w.heap.size w w' := by
 obtain ⟨a, cap, rfl, hc1, hc2, hc3, -⟩ := h.open
 have hnil := fun w => Lib.run_eql_slice_nil (P := Tryz.prog) w 23 3 a t.length cap 0 0 Tryz.underlying23
 rcases a with _ | a
 ·have hn : t.length = 0 := by
   rcases Nat.eq_zero_or_pos t.length with h0 | h0
   ·exact h0
   ·obtain ⟨_, a, c, he, _, _, hx⟩ := h
    cases he
    obtain ⟨_, _, he, _⟩ := hx h0
    cases he
  have ht : t = [] := bI1 hn
  subst ht
  simp only [bF5, Option.isNone_none] at hnil
  go_enter Tryz.func70, Tryz.ntmps70
  go_wp2_with fail
  go_ret
  exact ⟨_, rfl, ⟨World.ownsRow_nil _ _ _ _, fun g hg => by cases hg⟩, Below.refl _ _⟩
 ·go_enter Tryz.func70, Tryz.ntmps70
  simp only [Option.isNone_some] at hnil
  have ba := (Below.refl w.heap.size w).alloc (bF7 _) (.cells #[] 3)
  go_wp2_with (at_builtin; refine aY6 rfl _ _ rfl Tryz.underlying23 bt3 rfl (by omega) rfl (ai7 w #[] 0 1 _ rfl rfl (by omega)).1 rfl (h.below ba) bi7 (by omega) (by omega) (by simp) ?_; rintro a4 q4 w4 o4 b4 - -)
  go_ret
  refine ⟨_, rfl, Q3.mk' (by simpa using o4), ba.trans b4⟩
theorem aa1 (l : List Int) (hb : l.length ≤ 1000000000000) : p6.ok Tryz.prog ⟨70, [.ref 0], [.dat (.ints l)], [.dat (.ints l), .row 3 (.ints l)], .ref 1⟩ := by
 intro ι φ ψ w0 w F ρ M
 have hr := M.datAt (id := 0) (d := .ints l) rfl
 refine (a26 (ρ 0) l w (D9.row hr) hb).mono ?_
 rintro e w' ⟨u, rfl, ⟨ho, hg⟩, hbl⟩
 refine ⟨fun i => if i = 1 then u else ρ i, fun i hi => if_neg (show ¬ i = 1 by have : i < 1 := hi; omega), by simp [AV.val], ?_⟩
 refine M.grow hbl (fun k => k = .inr 1) (fun k hk => ?_) ?_ ?_ ?_
 ·cases k with
  | inl i => rfl
  | inr j =>
   match j, hk with
   | 0, _ => rfl
   | 1, h => exact absurd rfl h
   | j + 2, _ => rfl
 ·rintro k rfl b hb; exact (World.ownsRow.lt ho b hb).1
 ·rintro j k b hjk rfl rfl; exact absurd rfl hjk
 ·rintro k rfl; exact ab8 (I7 ho (bH1 _))
theorem br8 {l : List b5} {k : Nat} (hk : k < l.length) : l.take k ++ [⟨(l.getD k bE8).kind, (l.getD k bE8).value, (l.getD k bE8).kids⟩] = l.take (k + 1) := by
 rw [b5.eta, p7 _ _ hk, A5 hk]
theorem br7 {l : List b6} {k : Nat} (hk : k < l.length) : l.take k ++ [⟨(l.getD k bE8).kind, (l.getD k bE8).target, ⟨(l.getD k bE8).index.kind, (l.getD k bE8).index.value, (l.getD k bE8).index.kids⟩, ⟨(l.getD k bE8).value.kind, (l.getD k bE8).value.value, (l.getD k bE8).value.kids⟩, (l.getD k bE8).count, (l.getD k bE8).body, (l.getD k bE8).els⟩] = l.take (k + 1) := by
 rw [b5.eta, b5.eta, b6.eta, p7 _ _ hk, A5 hk]
theorem ax6 {α : Type} {l : List α} {k : Nat} (h1 : k ≤ l.length) (h2 : ¬ (k : Int) < l.length) : l.take k = l := by rw [bF8 (by omega)]
theorem bh9 {α : Type} {l : List α} {k n : Nat} (h1 : k ≤ l.length) (h : l.length ≤ n) : (l.take k).length ≤ n := by rw [List.length_take]; omega
theorem aU1 {e : b5} (h : t8 e ≤ 1048576) : e.kids.length ≤ 1048576 := by
 have h1 := T3 e.kids
 have h2 : t8 e = n7 e.kids := by cases e; rfl
 omega
theorem aJ7 {l : List b6} (h : l7 l ≤ 1048576) : l.length ≤ 1048576 := bH0 (E2 l) h
theorem ac2 {α : Type} {l : List α} {x : α} {k : Nat} (h1 : k ≤ l.length) (h : l.length ≤ 1048576) : (l.take k).length + [x].length ≤ 1048577 := by
 have := bh9 (k := k) h1 h
 simp only [bF0, bF5]; omega
theorem bp2 {a b : Nat} (ha : a ≤ 1048577) (hb : Nat.ble b 1000 = true) : a * b ≤ 140737488355328 := by
 have h1 := Nat.le_of_ble_eq_true hb
 have h2 := Nat.mul_le_mul ha h1
 omega
theorem ar1 {l : List b5} {k : Nat} (h : (k : Int) < l.length) : l.getD k bE8 ∈ l := by rw [A5 (by omega)]; exact bG5 (by omega)
theorem ah3 {l : List b6} {k : Nat} (h : (k : Int) < l.length) : l.getD k bE8 ∈ l := by rw [A5 (by omega)]; exact bG5 (by omega)
abbrev cpC (e : b5) : p6 := ⟨132, [eA e 0], eS e, eS e ++ [.tree (.exprs e.kids)], .agg [iA e.kind, iA e.value, .tref 1]⟩
abbrev aQ1 (e : b5) (r0 : List It) : List It := dE e.kids :: .box (eL e 0) :: .box [iA 0, iA 0, .v (.slice none 0 0)] :: r0
theorem bf0 (e : b5) (hb : t8 e ≤ 1048576) (ih : ∀ (x : b5), x ∈ e.kids → p6.ok Tryz.prog (cpC x)) : p6.ok Tryz.prog (cpC e) := by
 refine M6 29 Tryz.func132 [dE e.kids] [(0, eA e 0)] fun G => ?_; have hl := aU1 hb; refine wp_seq (t2 G l9 [0, 1, 9] (aQ1 e []) [(1, .ptr 1 0), (2, .ptr 2 0)] fun G => b7 (wp_seq (t2 G l9 [0, 1, 2, 43] (aQ1 e [.box [iA e.kind, iA e.value, .v (.slice none 0 0)]]) [(1, .ptr 1 0), (2, .ptr 2 0), (3, .ptr 3 0)] fun G => b7 (wp_seq (wp_seq (S9 G l9 [(1, .ptr 1 0), (2, .ptr 2 0), (3, .ptr 3 0), (4, iA 0)] fun G => b7 (wp_block ?_))))))); obtain ⟨ρ, G⟩ := G.nilT 4 (.exprs []) (aQ1 e [.box [iA e.kind, iA e.value, .tref 4]]) [(1, .ptr 1 0), (2, .ptr 2 0), (3, .ptr 3 0), (4, iA 0)]; refine C4 (κ := Nat) (fun k => k ≤ e.kids.length) (fun k => e.kids.length - k) (fun k => [dE e.kids, .box (eL e 0), .box [iA 0, iA 0, .v (.slice none 0 0)], .box [iA e.kind, iA e.value, .tref 4], .tree (.exprs (e.kids.take k))]) (fun k => [(1, .ptr 1 0), (2, .ptr 2 0), (3, .ptr 3 0), (4, iA k)]) 0 (by omega) (A6.at G _ _) ?_; clear G; intro k ρ a w hp G; replace G := A6.at G (aQ1 e [.box [iA e.kind, iA e.value, .tref 4], .tree (D.exprs (bG3 k e.kids))]) [(1, .ptr 1 0), (2, .ptr 2 0), (3, .ptr 3 0), (4, iA k)]; refine wp_seq (wp_seq (s4 G l9 [(14, bA (decide ((k : Int) < e.kids.length)))] fun G => b7 (rcD G (fun h0 q0 => ?_) fun h0 q0 => ?_)))
 ·refine wp_exit (C0 (C0 (A9 (b7 (wp_seq (t2 G l9 [0, 2, 4] [dE e.kids, .box [iA e.kind, iA e.value, .tref 2], .tree (D.exprs (bG3 k e.kids))] [(2, .ptr 1 0)] fun G => b7 (wp_ret ?_))))))); exact W2 G [0, 2] (by show _ = mR [0, 2] [dE e.kids, .tree (D.exprs e.kids)]; have e1 : (bG3 k e.kids : List b5) = (e.kids) := (ax6 hp (by assumption)); (first | rw [e1] | simp only [e1]) <;> rfl)
 ·refine wp_skip (b7 (wp_seq (wp_block (W5 G (G7 7 [53] (ih (e.kids.getD k bE8) (ar1 (by assumption)))) [0, 1, 0, 4, 0, 28, 60, 124, 252, 511, 1023, 2047] [0, 1, 2, 3, 77] (aQ1 e [.box [iA e.kind, iA e.value, .tref 4], .tree (D.exprs (bG3 k e.kids ++ [s6 (e.kids.getD k bE8)]))]) [(1, .ptr 1 0), (2, .ptr 2 0), (3, .ptr 3 0), (4, iA k)] [(0 : Int) ≤ (k : Int), (k : Int) < e.kids.length, k < e.kids.length, (bG3 k e.kids).length + [s6 (e.kids.getD k bE8)].length ≤ (9223372036854775807 : Nat), ((bG3 k e.kids).length + [s6 (e.kids.getD k bE8)].length) * (40 : Nat) ≤ (140737488355328 : Nat)] ⟨(by simp [h0]), (by assumption), (by have := ac2 (x := (bE8 : b5)) hp hl; simp only [bF0, bF5] at this ⊢; omega), (by have := ac2 (x := (bE8 : b5)) hp hl; simp only [bF0, bF5] at this ⊢; omega), (bp2 (ac2 hp hl) (by kernel_rfl)), bF3⟩ fun G => B5 (b7 (N8 G l9 [(4, iA ((k : Int) + 1))] [wO ((k : Int) + 1)] (o1 (by omega)) fun G => b7 ?_)))))); exact rxn G (k + 1) (by have := ac2 (x := (bE8 : b5)) hp hl; simp only [bF0, bF5] at this ⊢; omega) (by have := ac2 (x := (bE8 : b5)) hp hl; simp only [bF0, bF5] at this ⊢; omega) (rg 5) (by have e1 : (bG3 (k + 1) e.kids : List b5) = (bG3 k e.kids ++ [s6 (e.kids.getD k bE8)]) := ((br8 (by omega)).symm); (first | rw [e1] | simp only [e1]) <;> rfl)
theorem aP7 (e : b5) : t8 e ≤ 1048576 → p6.ok Tryz.prog (cpC e) :=
 b5.ind (P := fun e => t8 e ≤ 1048576 → p6.ok Tryz.prog (cpC e)) (fun k n ks ih hb => bf0 ⟨k, n, ks⟩ hb fun x hx => ih x hx (by
  have h1 := aL6 (show x ∈ ks from hx)
  have h2 : t8 ⟨k, n, ks⟩ = n7 ks := rfl
  omega)) e
abbrev aV4 (l : List b6) : p6 := ⟨151, [.ref 0], [dT l], [dT l, .tree (.stmts l)], .tref 1⟩
theorem ay3 {l : List b6} {k : Nat} (hb : l7 l ≤ 1048576) (h : (k : Int) < l.length) : t8 (l.getD k bE8).index ≤ 1048576 ∧ t8 (l.getD k bE8).value ≤ 1048576 ∧ l7 (l.getD k bE8).body ≤ 1048576 ∧ l7 (l.getD k bE8).els ≤ 1048576 := by
 have h1 := J5 (ah3 h)
 generalize l.getD k bE8 = s at *
 rcases s with ⟨_, _, i, v, _, b, e⟩
 simp only [K6] at h1
 simp only [b6.index, b6.value, b6.body, b6.els]
 omega
abbrev az1 (k : Nat) (r0 : List (Nat × AV)) : List (Nat × AV) := (0, .ref 0) :: (2, .v (.slice none 0 0)) :: (3, .tref 1) :: (4, iA (k : Int)) :: r0
theorem aC1 (l : List b6) (hb : l7 l ≤ 1048576) (ih1 : ∀ (s : b6), s ∈ l → p6.ok Tryz.prog (aV4 s.body)) (ih2 : ∀ (s : b6), s ∈ l → p6.ok Tryz.prog (aV4 s.els)) : p6.ok Tryz.prog (aV4 l) := by
  refine M6 38 Tryz.func151 [dT l] [(0, .ref 0)] fun G => ?_; have hl := aJ7 hb; refine wp_seq (s4 G l9 [(2, .v (.slice none 0 0))] fun G => b7 (wp_seq (t2 G l9 [0, 1] [dT l, .tree (D.stmts [])] [(0, .ref 0), (2, .v (.slice none 0 0)), (3, .tref 1)] fun G => b7 (wp_seq (wp_seq (S9 G l9 [(0, .ref 0), (2, .v (.slice none 0 0)), (3, .tref 1), (4, iA 0)] fun G => b7 (wp_block ?_))))))); refine C4 (κ := Nat) (fun k => k ≤ l.length) (fun k => l.length - k) (fun k => [dT l, .tree (.stmts (l.take k))]) (fun k => [(0, .ref 0), (2, .v (.slice none 0 0)), (3, .tref 1), (4, iA k)]) 0 (by omega) (A6.at G _ _) ?_; clear G; intro k ρ a w hp G; replace G := A6.at G [dT l, .tree (D.stmts (bG3 k l))] (az1 k []); refine wp_seq (wp_seq (s4 G l9 [(10, bA (decide ((k : Int) < l.length)))] fun G => b7 (rcD G (fun h0 q0 => ?_) fun h0 q0 => ?_)))
  · refine wp_exit (C0 (C0 (A9 (b7 (wp_seq (s4 G l9 [(2, .tref 1)] fun G => b7 (wp_ret ?_))))))); exact W2 G [0, 1] (by show _ = mR [0, 1] [dT l, .tree (D.stmts l)]; have e1 : (bG3 k l : List b6) = (l) := (ax6 hp (by assumption)); (first | rw [e1] | simp only [e1]) <;> rfl)
  ·
   refine wp_skip (b7 (wp_seq (wp_block (wp_seq (rA1 G l9 [0, 1, 26, 27, 28, 29, 34] [dT l, .tree (D.stmts (bG3 k l)), dE (l.getD k bE8).index.kids, dE (l.getD k bE8).value.kids, dT (l.getD k bE8).body, dT (l.getD k bE8).els, .box (sL (l.getD k bE8) 2)] (az1 k [(5, .ptr 6 0)]) [(0 : Int) ≤ (k : Int), (k : Int) < l.length, k < l.length] ⟨(by simp [h0]), (by assumption), (by have := ac2 (x := (bE8 : b6)) hp hl; simp only [bF0, bF5] at this ⊢; omega), bF3⟩ fun G => b7 (wp_seq (t2 G (G7 2 [2] (aP7 ((l.getD k bE8).index) ((ay3 hb (by assumption)).1))) [0, 1, 3, 4, 5, 6, 23] [dT l, .tree (D.stmts (bG3 k l)), dE (l.getD k bE8).value.kids, dT (l.getD k bE8).body, dT (l.getD k bE8).els, .box [iA (l.getD k bE8).kind, iA (l.getD k bE8).target, iA (l.getD k bE8).index.kind, iA (l.getD k bE8).index.value, .tref 6, iA (l.getD k bE8).value.kind, iA (l.getD k bE8).value.value, .ref 2, iA (l.getD k bE8).count, .ref 3, .ref 4], .tree (D.exprs (l.getD k bE8).index.kids)] (az1 k [(5, .ptr 5 0)]) fun G => b7 (wp_seq (t2 G (G7 2 [2] (aP7 ((l.getD k bE8).value) ((ay3 hb (by assumption)).2.1))) [0, 1, 3, 4, 5, 6, 23] [dT l, .tree (D.stmts (bG3 k l)), dT (l.getD k bE8).body, dT (l.getD k bE8).els, .box [iA (l.getD k bE8).kind, iA (l.getD k bE8).target, iA (l.getD k bE8).index.kind, iA (l.getD k bE8).index.value, .tref 5, iA (l.getD k bE8).value.kind, iA (l.getD k bE8).value.value, .tref 6, iA (l.getD k bE8).count, .ref 2, .ref 3], .tree (D.exprs (l.getD k bE8).index.kids), .tree (D.exprs (l.getD k bE8).value.kids)] (az1 k [(5, .ptr 4 0)]) fun G => b7 (wp_seq (t2 G (G7 2 [2] (ih1 (l.getD k bE8) (ah3 (by assumption)))) [0, 1, 3, 4, 5, 6, 23] [dT l, .tree (D.stmts (bG3 k l)), dT (l.getD k bE8).els, .box [iA (l.getD k bE8).kind, iA (l.getD k bE8).target, iA (l.getD k bE8).index.kind, iA (l.getD k bE8).index.value, .tref 4, iA (l.getD k bE8).value.kind, iA (l.getD k bE8).value.value, .tref 5, iA (l.getD k bE8).count, .tref 6, .ref 2], .tree (D.exprs (l.getD k bE8).index.kids), .tree (D.exprs (l.getD k bE8).value.kids), .tree (D.stmts (l.getD k bE8).body)] (az1 k [(5, .ptr 3 0)]) fun G => b7 (wp_seq (t2 G (G7 2 [2] (ih2 (l.getD k bE8) (ah3 (by assumption)))) [0, 1, 3, 4, 5, 6, 23] [dT l, .tree (D.stmts (bG3 k l)), .box [iA (l.getD k bE8).kind, iA (l.getD k bE8).target, iA (l.getD k bE8).index.kind, iA (l.getD k bE8).index.value, .tref 3, iA (l.getD k bE8).value.kind, iA (l.getD k bE8).value.value, .tref 4, iA (l.getD k bE8).count, .tref 5, .tref 6], .tree (D.exprs (l.getD k bE8).index.kids), .tree (D.exprs (l.getD k bE8).value.kids), .tree (D.stmts (l.getD k bE8).body), .tree (D.stmts (l.getD k bE8).els)] (az1 k [(5, .ptr 2 0)]) fun G => ?_)))))))))))))
   refine b7 (rA1 G l9 [0, 31] [dT l, .tree (D.stmts (bG3 k l ++ [qzS (l.getD k bE8)]))] (az1 k []) [(bG3 k l).length + [qzS (l.getD k bE8)].length ≤ (9223372036854775807 : Nat), ((bG3 k l).length + [qzS (l.getD k bE8)].length) * (152 : Nat) ≤ (140737488355328 : Nat)] ⟨(by have := ac2 (x := (bE8 : b6)) hp hl; simp only [bF0, bF5] at this ⊢; omega), (bp2 (ac2 hp hl) (by kernel_rfl)), bF3⟩ fun G => B5 (b7 (N8 G l9 [(4, iA ((k : Int) + 1))] [wO ((k : Int) + 1)] (o1 (by omega)) fun G => b7 ?_))); exact rxn G (k + 1) (by have := ac2 (x := (bE8 : b6)) hp hl; simp only [bF0, bF5] at this ⊢; omega) (by have := ac2 (x := (bE8 : b6)) hp hl; simp only [bF0, bF5] at this ⊢; omega) [0, 1] (by have e1 : (bG3 (k + 1) l : List b6) = (bG3 k l ++ [qzS (l.getD k bE8)]) := ((br7 (by omega)).symm); (first | rw [e1] | simp only [e1]) <;> rfl)
theorem bq2 (l : List b6) : l7 l ≤ 1048576 → p6.ok Tryz.prog (aV4 l) := fun hb => aC1 l hb
 (fun s hs => (c_copyS2 s).1 (bH0 (Nat.le_of_lt (J5 hs)) hb)) fun s hs => (c_copyS2 s).2 (bH0 (Nat.le_of_lt (J5 hs)) hb)
where
 c_copyS2 (s : b6) : (K6 s ≤ 1048576 → p6.ok Tryz.prog (aV4 s.body)) ∧ (K6 s ≤ 1048576 → p6.ok Tryz.prog (aV4 s.els)) :=
  b6.ind (P := fun s => (K6 s ≤ 1048576 → p6.ok Tryz.prog (aV4 s.body)) ∧ (K6 s ≤ 1048576 → p6.ok Tryz.prog (aV4 s.els))) (fun k t i v c b e h1 h2 => by
   have hz : K6 ⟨k, t, i, v, c, b, e⟩ = t8 i + t8 v + l7 b + l7 e := rfl
   constructor
   ·intro hb
    refine aC1 b (by omega) (fun s hs => (h1 s hs).1 ?_) fun s hs => (h1 s hs).2 ?_
    ·have := J5 hs; omega
    ·have := J5 hs; omega
   ·intro hb
    refine aC1 e (by omega) (fun s hs => (h2 s hs).1 ?_) fun s hs => (h2 s hs).2 ?_
    ·have := J5 hs; omega
    ·have := J5 hs; omega) s
theorem bl1 (p : b9) (hb : p.size ≤ 1048576) : p6.ok Tryz.prog ⟨78, [pA 0], pS p, pS p ++ oP p, oA 3⟩ := by
 refine M6 15 Tryz.func78 [dI p.vars, dI p.arrays, dT p.body] [(0, pA 0)] fun G => ?_
 have hb1 : p.vars.length ≤ 1048576 ∧ p.arrays.length ≤ 1048576 ∧ l7 p.body ≤ 1048576 := by unfold b9.size at hb; omega
 refine wp_seq (t2 G l9 [0, 1, 2, 3, 11] [dI p.vars, dI p.arrays, dT p.body, .box (pL 0), .box [.v (.slice none 0 0), .v (.slice none 0 0), .v (.slice none 0 0)]] [(1, .ptr 3 0), (2, .ptr 4 0)] fun G => b7 (wp_seq (W5 G (G7 10 [2] (bq2 p.body hb1.2.2)) [0, 0, 2, 7, 0, 0, 32, 127, 0, 256, 1023, 2047, 4095] [0, 1, 2, 4, 29, 61, 85] [dI p.vars, dI p.arrays, dT p.body, .box [.ref 4, .ref 5, .tref 6], .row 3 (D.ints ([] ++ p.vars)), .row 3 (D.ints ([] ++ p.arrays)), .tree (D.stmts p.body)] [(2, .ptr 3 0)] (aP ((0 : Nat) + p.vars.length) 8 (aP ((0 : Nat) + p.arrays.length) 8 [])) (aK (by omega) (aK (by omega) bF3)) fun G => b7 (wp_ret ?_)))); exact W2 G [0, 1, 2, 4, 5, 6]
abbrev owC (e : b5) : p6 := ⟨126, [eA e 0], eS e, eS e ++ [.tree (.exprs e.kids)], .agg [iA e.kind, iA e.value, .tref 1]⟩
abbrev aH5 : It := .box [iA 0, iA 0, .v (.slice none 0 0)]
theorem bu6 (e : b5) (hb : t8 e ≤ 1048576) (ih : ∀ (x : b5), x ∈ e.kids → p6.ok Tryz.prog (owC x)) : p6.ok Tryz.prog (owC e) := by
 refine M6 27 Tryz.func126 [dE e.kids] [(0, eA e 0)] fun G => ?_; have hl := aU1 hb; refine wp_seq (t2 G l9 [0, 1, 9] [dE e.kids, .box (eL e 0), aH5] [(1, .ptr 1 0), (2, .ptr 2 0)] fun G => b7 (wp_seq (t2 G l9 [0, 1, 2, 43] [dE e.kids, .box (eL e 0), aH5, .box [iA e.kind, iA e.value, .v (.slice none 0 0)]] [(1, .ptr 1 0), (2, .ptr 2 0), (3, .ptr 3 0)] fun G => b7 (wp_seq (wp_seq (t2 G l9 [0, 2, 3] [dE e.kids, aH5, .box [iA e.kind, iA e.value, .v (.slice none 0 0)]] [(2, .ptr 1 0), (3, .ptr 2 0), (12, .ref 0), (13, iA (e.kids.length : Int)), (14, iA 0)] fun G => b7 (wp_block ?_))))))); obtain ⟨ρ, G⟩ := G.nilT 3 (.exprs []) [dE e.kids, .box [iA 0, iA 0, .v (.slice none 0 0)], .box [iA e.kind, iA e.value, .tref 3]] [(2, .ptr 1 0), (3, .ptr 2 0), (12, .ref 0), (13, iA (e.kids.length : Int)), (14, iA 0)]; refine C4 (κ := Nat) (fun k => k ≤ e.kids.length) (fun k => e.kids.length - k) (fun k => [dE e.kids, .box [iA 0, iA 0, .v (.slice none 0 0)], .box [iA e.kind, iA e.value, .tref 3], .tree (.exprs (e.kids.take k))]) (fun k => [(2, .ptr 1 0), (3, .ptr 2 0), (12, .ref 0), (13, iA (e.kids.length : Int)), (14, iA k)]) 0 (by omega) (A6.at G _ _) ?_; clear G; intro k ρ a w hp G; replace G := A6.at G [dE e.kids, aH5, .box [iA e.kind, iA e.value, .tref 3], .tree (D.exprs (bG3 k e.kids))] [(2, .ptr 1 0), (3, .ptr 2 0), (12, .ref 0), (13, iA (e.kids.length : Int)), (14, iA k)]; refine wp_seq (s4 G l9 [(15, bA (decide ((k : Int) < e.kids.length)))] fun G => b7 (wp_seq (rcD G (fun h0 q0 => ?_) fun h0 q0 => ?_)))
 ·refine wp_exit (C0 (C0 (A9 (b7 (wp_seq (t2 G l9 [0, 1, 3] [dE e.kids, .box [iA e.kind, iA e.value, .tref 2], .tree (D.exprs (bG3 k e.kids))] [(2, .ptr 1 0)] fun G => b7 (wp_ret ?_))))))); exact W2 G [0, 2] (by show _ = mR [0, 2] [dE e.kids, .tree (D.exprs e.kids)]; have e1 : (bG3 k e.kids : List b5) = (e.kids) := (ax6 hp (by assumption)); (first | rw [e1] | simp only [e1]) <;> rfl)
 ·refine wp_skip (b7 (wp_seq (wp_block (wp_seq (rA1 G l9 [0, 1, 2, 3, 12, 20] [dE e.kids, aH5, .box [iA e.kind, iA e.value, .tref 3], .tree (D.exprs (bG3 k e.kids)), dE (e.kids.getD k bE8).kids, .box (eL (e.kids.getD k bE8) 4)] [(2, .ptr 1 0), (3, .ptr 2 0), (5, .ptr 5 0), (12, .ref 0), (13, iA (e.kids.length : Int)), (14, iA k)] [(0 : Int) ≤ (k : Int), (k : Int) < e.kids.length, k < e.kids.length] ⟨(by simp [h0]), (by assumption), (by have := ac2 (x := (bE8 : b5)) hp hl; simp only [bF0, bF5] at this ⊢; omega), bF3⟩ fun G => b7 (W5 G (G7 3 [4] (ih (e.kids.getD k bE8) (ar1 (by assumption)))) [0, 1, 0, 4, 12, 31, 63, 127] [0, 1, 2, 46] [dE e.kids, aH5, .box [iA e.kind, iA e.value, .tref 3], .tree (D.exprs (bG3 k e.kids ++ [s6 (e.kids.getD k bE8)]))] [(2, .ptr 1 0), (3, .ptr 2 0), (12, .ref 0), (13, iA (e.kids.length : Int)), (14, iA k)] [(bG3 k e.kids).length + [s6 (e.kids.getD k bE8)].length ≤ (9223372036854775807 : Nat), ((bG3 k e.kids).length + [s6 (e.kids.getD k bE8)].length) * (40 : Nat) ≤ (140737488355328 : Nat)] ⟨(by have := ac2 (x := (bE8 : b5)) hp hl; simp only [bF0, bF5] at this ⊢; omega), (bp2 (ac2 hp hl) (by kernel_rfl)), bF3⟩ fun G => B5 (b7 (N8 G l9 [(14, iA ((k : Int) + 1))] [wO ((k : Int) + 1)] (o1 (by omega)) fun G => b7 ?_)))))))); exact rxn G (k + 1) (by have := ac2 (x := (bE8 : b5)) hp hl; simp only [bF0, bF5] at this ⊢; omega) (by have := ac2 (x := (bE8 : b5)) hp hl; simp only [bF0, bF5] at this ⊢; omega) (rg 4) (by have e1 : (bG3 (k + 1) e.kids : List b5) = (bG3 k e.kids ++ [s6 (e.kids.getD k bE8)]) := ((br8 (by omega)).symm); (first | rw [e1] | simp only [e1]) <;> rfl)
theorem bk6 (e : b5) : t8 e ≤ 1048576 → p6.ok Tryz.prog (owC e) :=
 b5.ind (P := fun e => t8 e ≤ 1048576 → p6.ok Tryz.prog (owC e)) (fun k n ks ih hb => bu6 ⟨k, n, ks⟩ hb fun x hx => ih x hx (by
  have h1 := aL6 (show x ∈ ks from hx)
  have h2 : t8 ⟨k, n, ks⟩ = n7 ks := rfl
  omega)) e
abbrev aS6 (l : List b6) : p6 := ⟨59, [.ref 0], [dT l], [dT l, .tree (.stmts l)], .tref 1⟩
theorem aZ8 (l : List b6) (hb : l7 l ≤ 1048576) (ih1 : ∀ (s : b6), s ∈ l → p6.ok Tryz.prog (aS6 s.body)) (ih2 : ∀ (s : b6), s ∈ l → p6.ok Tryz.prog (aS6 s.els)) : p6.ok Tryz.prog (aS6 l) := by
 refine M6 36 Tryz.func59 [dT l] [(0, .ref 0)] fun G => ?_; have hl := aJ7 hb; refine wp_seq (s4 G l9 [(2, .v (.slice none 0 0))] fun G => b7 (wp_seq (s4 G l9 [(3, .v (.slice none 0 0))] fun G => b7 (wp_seq (wp_seq (S9 G l9 [(2, .v (.slice none 0 0)), (3, .v (.slice none 0 0)), (6, .ref 0), (7, iA (l.length : Int)), (8, iA 0)] fun G => b7 (wp_block ?_))))))); obtain ⟨ρ, G⟩ := G.nilT 1 (.stmts []) [dT l] [(2, .v (.slice none 0 0)), (3, .tref 1), (6, .ref 0), (7, iA (l.length : Int)), (8, iA 0)]; refine C4 (κ := Nat) (fun k => k ≤ l.length) (fun k => l.length - k) (fun k => [dT l, .tree (.stmts (l.take k))]) (fun k => [(2, .v (.slice none 0 0)), (3, .tref 1), (6, .ref 0), (7, iA (l.length : Int)), (8, iA k)]) 0 (by omega) (A6.at G _ _) ?_; clear G; intro k ρ a w hp G; replace G := A6.at G [dT l, .tree (D.stmts (bG3 k l))] [(2, .v (.slice none 0 0)), (3, .tref 1), (6, .ref 0), (7, iA (l.length : Int)), (8, iA k)]; refine wp_seq (s4 G l9 [(9, bA (decide ((k : Int) < l.length)))] fun G => b7 (wp_seq (rcD G (fun h0 q0 => ?_) fun h0 q0 => ?_)))
 ·refine wp_exit (C0 (C0 (A9 (b7 (wp_seq (s4 G l9 [(2, .tref 1)] fun G => b7 (wp_ret ?_))))))); exact W2 G [0, 1] (by show _ = mR [0, 1] [dT l, .tree (D.stmts l)]; have e1 : (bG3 k l : List b6) = (l) := (ax6 hp (by assumption)); (first | rw [e1] | simp only [e1]) <;> rfl)
 ·refine wp_skip (b7 (wp_seq (wp_block (wp_seq (rA1 G l9 [0, 1, 10, 11, 12, 13, 18] [dT l, .tree (D.stmts (bG3 k l)), dE (l.getD k bE8).index.kids, dE (l.getD k bE8).value.kids, dT (l.getD k bE8).body, dT (l.getD k bE8).els, .box (sL (l.getD k bE8) 2)] [(2, .v (.slice none 0 0)), (3, .tref 1), (5, .ptr 6 0), (6, .ref 0), (7, iA (l.length : Int)), (8, iA k)] [(0 : Int) ≤ (k : Int), (k : Int) < l.length, k < l.length] ⟨(by simp [h0]), (by assumption), (by have := ac2 (x := (bE8 : b6)) hp hl; simp only [bF0, bF5] at this ⊢; omega), bF3⟩ fun G => b7 (W5 G (D6 (s7 7 [2] (bk6 ((l.getD k bE8).index) ((ay3 hb (by assumption)).1)) (s7 10 [3] (bk6 ((l.getD k bE8).value) ((ay3 hb (by assumption)).2.1)) (s7 15 [4] (ih1 (l.getD k bE8) (ah3 (by assumption))) (s7 18 [5] (ih2 (l.getD k bE8) (ah3 (by assumption))) D5)))) fz []) [0, 0, 2, 0, 8, 0, 32, 96, 0, 256, 992, 0, 2048, 0, 8192, 26592, 0, 65536, 255968, 524286, 1048574, 2097151, 4194303] [0, 175] [dT l, .tree (D.stmts (bG3 k l ++ [qzS (l.getD k bE8)]))] [(2, .v (.slice none 0 0)), (3, .tref 1), (6, .ref 0), (7, iA (l.length : Int)), (8, iA k)] [(bG3 k l).length + [qzS (l.getD k bE8)].length ≤ (9223372036854775807 : Nat), ((bG3 k l).length + [qzS (l.getD k bE8)].length) * (152 : Nat) ≤ (140737488355328 : Nat)] ⟨(by have := ac2 (x := (bE8 : b6)) hp hl; simp only [bF0, bF5] at this ⊢; omega), (bp2 (ac2 hp hl) (by kernel_rfl)), bF3⟩ fun G => B5 (b7 (N8 G l9 [(8, iA ((k : Int) + 1))] [wO ((k : Int) + 1)] (o1 (by omega)) fun G => b7 ?_)))))))); exact rxn G (k + 1) (by have := ac2 (x := (bE8 : b6)) hp hl; simp only [bF0, bF5] at this ⊢; omega) (by have := ac2 (x := (bE8 : b6)) hp hl; simp only [bF0, bF5] at this ⊢; omega) [0, 1] (by have e1 : (bG3 (k + 1) l : List b6) = (bG3 k l ++ [qzS (l.getD k bE8)]) := ((br7 (by omega)).symm); (first | rw [e1] | simp only [e1]) <;> rfl)
theorem bx5 (l : List b6) : l7 l ≤ 1048576 → p6.ok Tryz.prog (aS6 l) := fun hb => aZ8 l hb
 (fun s hs => (own2 s).1 (bH0 (Nat.le_of_lt (J5 hs)) hb)) fun s hs => (own2 s).2 (bH0 (Nat.le_of_lt (J5 hs)) hb)
where
 own2 (s : b6) : (K6 s ≤ 1048576 → p6.ok Tryz.prog (aS6 s.body)) ∧ (K6 s ≤ 1048576 → p6.ok Tryz.prog (aS6 s.els)) :=
  b6.ind (P := fun s => (K6 s ≤ 1048576 → p6.ok Tryz.prog (aS6 s.body)) ∧ (K6 s ≤ 1048576 → p6.ok Tryz.prog (aS6 s.els))) (fun k t i v c b e h1 h2 => by
   have hz : K6 ⟨k, t, i, v, c, b, e⟩ = t8 i + t8 v + l7 b + l7 e := rfl
   constructor
   ·intro hb
    refine aZ8 b (by omega) (fun s hs => (h1 s hs).1 ?_) fun s hs => (h1 s hs).2 ?_
    ·have := J5 hs; omega
    ·have := J5 hs; omega
   ·intro hb
    refine aZ8 e (by omega) (fun s hs => (h2 s hs).1 ?_) fun s hs => (h2 s hs).2 ?_
    ·have := J5 hs; omega
    ·have := J5 hs; omega) s
theorem bC1 (p : b9) (hb : p.size ≤ 1048576) : p6.ok Tryz.prog ⟨58, [pA 0], pS p, pS p ++ oP p, oA 3⟩ := by
 refine M6 13 Tryz.func58 [dI p.vars, dI p.arrays, dT p.body] [(0, pA 0)] fun G => ?_
 have hb1 : p.vars.length ≤ 1048576 ∧ p.arrays.length ≤ 1048576 ∧ l7 p.body ≤ 1048576 := by unfold b9.size at hb; omega
 refine wp_seq (t2 G l9 [0, 1, 2, 3, 11] [dI p.vars, dI p.arrays, dT p.body, .box (pL 0), .box [.v (.slice none 0 0), .v (.slice none 0 0), .v (.slice none 0 0)]] [(1, .ptr 3 0), (2, .ptr 4 0)] fun G => b7 (wp_seq (ab9 G (D6 (s7 2 [0] (aa1 p.vars (by omega)) (s7 5 [1] (aa1 p.arrays (by omega)) (s7 8 [2] (bx5 p.body hb1.2.2) D5))) fz []) [0, 1, 3, 0, 8, 31, 0, 64, 255, 511, 1023] [0, 1, 2, 4, 21, 45, 69] [dI p.vars, dI p.arrays, dT p.body, .box [.ref 4, .ref 5, .tref 6], .row 3 (D.ints p.vars), .row 3 (D.ints p.arrays), .tree (D.stmts p.body)] [(2, .ptr 3 0)] fun G => b7 (wp_ret ?_)))); exact W2 G [0, 1, 2, 4, 5, 6]
section
variable {P : Program} {ι κ : Type} {φ ψ : Nat → Prop} {w0 w : World} {F : ι → Rs} {ρ ρ0 : Nat → Value} {N m n : Nat} {S : List It} {tm : List (Nat × AV)} {a : Act}
def aI8 (n : Nat) : List Ln := bI4 n .no ++ [.tree]
theorem aT1 (n i : Nat) : C7 (aI8 n) i = if i = n then .tree else .no := by
 unfold C7 aI8
 rw [bF4]
 rcases Nat.lt_trichotomy i n with h | h | h
 ·rw [bG9 (by simpa using h), if_neg (by omega)]
  simp [List.getElem?_replicate, h]
 ·subst h; simp
 ·rw [bG7 (by simp; omega), if_neg (by omega)]; rfl
theorem p6.datPost {f : FuncId} {args : List AV} {S0 S : List It} {d : D} {res : AV} (hc : p6.ok P ⟨f, args, S0, S ++ [.tree d], res⟩) (res1 : AV) (hr : res = res1.tr (aI8 S.length) := by kernel_rfl) (hk : (decide (S0.length ≤ S.length) && (res1.trOk (aI8 S.length) && S.all fun x => x.ids.isEmpty)) = true := by kernel_rfl) : p6.ok P ⟨f, args, S0, S ++ [.dat d], res1⟩ := by
 simp only [bE9, decide_eq_true_eq] at hk
 obtain ⟨hl0, hk⟩ := hk
 subst hr
 intro ι φ ψ w0 w F ρ M
 refine (hc ι φ ψ w0 w F ρ M).mono ?_
 rintro x w' ⟨ρ', h1, rfl, M2⟩
 let ρ1 : Nat → Value := fun i => if (C7 (aI8 S.length) i).isT then H2 (ρ' i) else ρ' i
 have hρ1 : ∀ i, ρ1 i = if (C7 (aI8 S.length) i).isT then H2 (ρ' i) else ρ' i := fun _ => rfl
 have hne : ∀ i, i ≠ S.length → ρ1 i = ρ' i := fun i hi => by rw [hρ1, aT1, if_neg hi]; rfl
 have heq : ρ1 S.length = H2 (ρ' S.length) := by rw [hρ1, aT1, if_pos rfl]; rfl
 refine ⟨ρ1, fun i hi => by rw [hne i (by simp only at hi; omega)]; exact h1 i hi, by rw [AV.val_tr hρ1 res1 hk.1], ?_⟩
 refine M2.release fun k => ?_
 cases k with
 | inl i => exact .inl rfl
 | inr j =>
  simp only [t6]
  rcases Nat.lt_trichotomy j S.length with hj | hj | hj
  ·have e1 : t7 (S ++ [.dat d]) j = t7 S j := by simp [t7, bF4, bG9 hj]
   have e2 : t7 (S ++ [.tree d]) j = t7 S j := by simp [t7, bF4, bG9 hj]
   rw [e1, e2]
   left
   have h2 : (t7 S j).ids = [] := by
    have h3 := bG1.1 hk.2 _ (bG5 hj)
    rw [ae1 hj]
    simpa using h3
   exact It.res_congr _ (fun i hi => by rw [h2] at hi; cases hi) (.inr (.inr (hne j (by omega))))
  ·subst hj
   have e1 : t7 (S ++ [.dat d]) S.length = .dat d := by simp [t7, bF4]
   have e2 : t7 (S ++ [.tree d]) S.length = .tree d := by simp [t7, bF4]
   rw [e1, e2]
   refine .inr ⟨fun b hb => hb, fun φ' hf hown => ⟨RD.nice _ _, ?_⟩⟩
   have hh := M2.holds (.inr S.length)
   simp only [t6] at hh
   rw [e2] at hh
   rw [heq]
   exact F8.read hh.2.1 fun b hb => hown b (by rw [show (It.tree d).res ρ' S.length = Rs.own (F6 (ρ' S.length)) _ from rfl]; exact hb)
  ·rw [A0 (by simp; omega), A0 (by simp; omega)]; exact .inl rfl
theorem It.res_ren' {σ : Nat → Nat} {i j : Nat} {ρ : Nat → Value} (x : It) (h : σ i = j) : (x.ren σ).res ρ j = x.res (fun i => ρ (σ i)) i := by
 subst h; exact It.res_ren x
def mv (i n j : Nat) : Nat := if natEq j i then n else j
theorem aD4 {f : AV → AV} {t : Nat} {y : AV} : ∀ {tm : List (Nat × AV)}, D3 (tm.map fun p => (p.1, f p.2)) t = some y → ∃ x, D3 tm t = some x ∧ y = f x
 | [], h => by cases h
 | (k, z) :: r, h => by
  simp only [D3, bI2] at h ⊢
  split at h
  ·rename_i hk; cases h; exact ⟨z, by rw [if_pos hk], rfl⟩
  ·rename_i hk
   obtain ⟨x, h1, h2⟩ := aD4 h
   exact ⟨x, by rw [if_neg hk]; exact h1, h2⟩
theorem bw8 {i n : Nat} {x : AV} : ∀ j ∈ (x.ren (mv i n)).ids, (∃ k ∈ x.ids, mv i n k = j) := by
 have key : (∀ x : AV, ∀ j ∈ (x.ren (mv i n)).ids, ∃ k ∈ x.ids, mv i n k = j) ∧ (∀ l : List AV, ∀ j ∈ AV.idsL (AV.renL (mv i n) l), ∃ k ∈ AV.idsL l, mv i n k = j) := by
  have hL : ∀ (l : List AV), (∀ x ∈ l, ∀ j ∈ (x.ren (mv i n)).ids, ∃ k ∈ x.ids, mv i n k = j) → ∀ j ∈ AV.idsL (AV.renL (mv i n) l), ∃ k ∈ AV.idsL l, mv i n k = j := by
   intro l
   induction l with
   | nil => intro _ j hj; cases hj
   | cons y r ih =>
    intro h j hj
    simp only [AV.renL, AV.idsL, bH6] at hj ⊢
    rcases hj with hj | hj
    ·obtain ⟨k, h1, h2⟩ := h y bG8 j hj
     exact ⟨k, .inl h1, h2⟩
    ·obtain ⟨k, h1, h2⟩ := ih (fun x hx => h x (bH2 _ hx)) j hj
     exact ⟨k, .inr h1, h2⟩
  have hx : ∀ x : AV, ∀ j ∈ (x.ren (mv i n)).ids, ∃ k ∈ x.ids, mv i n k = j := fun x => goX hL x
  exact ⟨hx, fun l => hL l fun x _ => hx x⟩
 exact key.1 x
where
 goX {i n : Nat} (hL : ∀ (l : List AV), (∀ x ∈ l, ∀ j ∈ (x.ren (mv i n)).ids, ∃ k ∈ x.ids, mv i n k = j) → ∀ j ∈ AV.idsL (AV.renL (mv i n) l), ∃ k ∈ AV.idsL l, mv i n k = j) : ∀ x : AV, ∀ j ∈ (x.ren (mv i n)).ids, ∃ k ∈ x.ids, mv i n k = j
  | .v _, j, hj => by cases hj
  | .ptr a b, j, hj => ⟨a, bH9.2 rfl, (bH9.1 hj).symm⟩
  | .ea a b c d, j, hj => ⟨a, bH9.2 rfl, (bH9.1 hj).symm⟩
  | .ref a, j, hj => ⟨a, bH9.2 rfl, (bH9.1 hj).symm⟩
  | .tref a, j, hj => ⟨a, bH9.2 rfl, (bH9.1 hj).symm⟩
  | .agg l, j, hj => hL l (fun x _ => goX hL x) j hj
  | .tup l, j, hj => hL l (fun x _ => goX hL x) j hj
  | .fn _ l, j, hj => hL l (fun x _ => goX hL x) j hj
  | .bm _ l, j, hj => hL l (fun x _ => goX hL x) j hj
theorem A6.shift (G : A6 φ ψ w0 F N m ρ0 ρ S tm a w) (i n : Nat) (S1 : List It) (tm1 : List (Nat × AV)) (hn : (natEq S.length n && decide (i < n)) = true := by kernel_rfl) (hS : S1 = (S.map (It.ren (mv i n))).set i .dead ++ [(t7 S i).ren (mv i n)] := by kernel_rfl) (ht : tm1 = tm.map (fun p => (p.1, p.2.ren (mv i n))) := by kernel_rfl) :
  ∃ ρ', A6 φ ψ w0 F N m ρ0 ρ' S1 tm1 a w := by
 subst hS
 subst ht
 simp only [bE9, natEq, beq_iff_eq, decide_eq_true_eq] at hn
 obtain ⟨hn, hin⟩ := hn
 have hlen : ((S.map (It.ren (mv i n))).set i .dead ++ [(t7 S i).ren (mv i n)]).length = n + 1 := by simp [hn]
 have hat : ∀ j, t7 ((S.map (It.ren (mv i n))).set i .dead ++ [(t7 S i).ren (mv i n)]) j = if j = n then (t7 S i).ren (mv i n) else if j = i then .dead else (t7 S j).ren (mv i n) := fun j => by
  by_cases e : j = n
  ·subst e
   rw [if_pos rfl]
   simp only [t7, bF4]
   rw [bH8 (by simp [hn])]
   simp [hn]
  ·rw [if_neg e]
   by_cases e2 : j = i
   ·subst e2
    rw [if_pos rfl]
    simp only [t7, bF4]
    rw [bG9 (by simp; omega)]
    simp [show j < S.length by omega]
   ·rw [if_neg e2]
    simp only [t7, bF4]
    rcases bI0 j n with h | h
    ·rw [bG9 (by simp; omega), List.getElem?_set_ne (fun h => e2 h.symm), List.getElem?_map, bF1 (by omega)]
     rfl
    ·rw [bG7 (by simp; omega), bG7 (by omega)]; rfl
 have hbd : ∀ x : AV, (∀ j ∈ x.ids, j < n) → ∀ j ∈ (x.ren (mv i n)).ids, j < n + 1 := fun x h j hj => by
  obtain ⟨k, h1, h2⟩ := bw8 j hj
  have := h k h1
  rw [← h2]; unfold mv
  split <;> omega
 let ρ1 : Nat → Value := fun j => if j = n then ρ i else ρ j
 have hmv : ∀ j, j < n → ρ1 (mv i n j) = ρ j := fun j hj => by
  show (if mv i n j = n then ρ i else ρ (mv i n j)) = ρ j
  by_cases e : j = i
  ·subst e; simp [mv, natEq]
  ·have h : mv i n j = j := by simp [mv, natEq, e]
   rw [h, if_neg (by omega)]
 have hval : ∀ x : AV, (∀ j ∈ x.ids, j < n) → (x.ren (mv i n)).val ρ1 = x.val ρ := fun x h => by
  rw [AV.val_ren]
  exact AV.val_congr x fun j hj => hmv j (h j hj)
 have hids : ∀ j, ∀ q ∈ (t7 S j).ids, q < n := fun j q hq => by have := (G.bd j).1 q hq; omega
 have hitem : ∀ j, ∀ q ∈ ((t7 S j).ren (mv i n)).ids, q < n + 1 := fun j q hq => by
  cases hx : t7 S j with
  | box cs =>
   rw [hx] at hq
   have h1 := hids j
   rw [hx] at h1
   exact hbd (.agg cs) h1 q hq
  | _ => rw [hx] at hq; cases hq
 refine ⟨ρ1, G.size, G.defs, fun t y hy => ?_, fun t y hy j hj => ?_, fun j => ⟨fun q hq => ?_, fun hj => A0 hj⟩, ?_, ?_, fun j hj => ?_⟩
 ·obtain ⟨x, h1, rfl⟩ := aD4 hy
  rw [G.tmv t x h1, hval x fun j hj => by have := G.tmi t x h1 j hj; omega]
 ·obtain ⟨x, h1, rfl⟩ := aD4 hy
  rw [hlen]
  exact hbd x (fun j hj => by have := G.tmi t x h1 j hj; omega) j hj
 ·rw [hlen]
  rw [hat] at hq
  split at hq
  ·exact hitem i q hq
  ·split at hq
   ·cases hq
   ·exact hitem j q hq
 ·refine G.mem.map (fun k : ι ⊕ Nat => (match k with | .inl q => some (.inl q) | .inr j => if j = n then some (.inr i) else if j = i then none else some (.inr j) : Option (ι ⊕ Nat))) ?_ ?_
  ·intro k k' x h1 h2
   match k, k' with
   | .inl q, .inl q' => simp at h1 h2; rw [← h1] at h2; simpa using h2.symm
   | .inl q, .inr j => simp at h1; subst h1; simp at h2; split at h2 <;> simp at h2
   | .inr j, .inl q => simp at h2; subst h2; simp at h1; split at h1 <;> simp at h1
   | .inr j, .inr j' =>
    simp only at h1 h2
    by_cases e1 : j = n <;> by_cases e2 : j' = n
    ·rw [e1, e2]
    ·rw [if_pos e1] at h1
     rw [if_neg e2] at h2
     by_cases e3 : j' = i
     ·rw [if_pos e3] at h2; cases h2
     ·rw [if_neg e3] at h2
      simp at h1 h2
      rw [← h1] at h2
      exact absurd (Sum.inr.inj h2) e3
    ·rw [if_pos e2] at h2
     rw [if_neg e1] at h1
     by_cases e3 : j = i
     ·rw [if_pos e3] at h1; cases h1
     ·rw [if_neg e3] at h1
      simp at h1 h2
      rw [← h2] at h1
      exact absurd (Sum.inr.inj h1) e3
    ·rw [if_neg e1] at h1
     rw [if_neg e2] at h2
     by_cases e3 : j = i
     ·rw [if_pos e3] at h1; cases h1
     ·by_cases e4 : j' = i
      ·rw [if_pos e4] at h2; cases h2
      ·rw [if_neg e3] at h1
       rw [if_neg e4] at h2
       simp at h1 h2
       rw [← h1] at h2
       rw [Sum.inr.inj h2]
  ·intro k
   match k with
   | .inl q => exact .inl ⟨_, rfl, rfl⟩
   | .inr j =>
    by_cases e : j = n
    ·refine .inl ⟨.inr i, by simp [e], ?_⟩
     simp only [t6]
     rw [hat, if_pos e]
     subst e
     have h1 : mv i j i = j := by simp [mv, natEq]
     rw [It.res_ren' (t7 S i) h1]
     exact It.res_congr _ (fun q hq => hmv q (hids i q hq)) (.inr (.inr (hmv i hin)))
    ·by_cases e2 : j = i
     ·refine .inr ?_
      simp only [t6]
      rw [hat, if_neg e, if_pos e2]
      rfl
     ·refine .inl ⟨.inr j, by simp [e, e2], ?_⟩
      simp only [t6]
      rw [hat, if_neg e, if_neg e2]
      rcases bI0 j n with hj | hj
      ·have h1 : mv i n j = j := by simp [mv, natEq, e2]
       rw [It.res_ren' (t7 S j) h1]
       exact It.res_congr _ (fun q hq => hmv q (hids j q hq)) (.inr (.inr (hmv j hj)))
      ·rw [A0 (by omega)]; rfl
 ·have := G.le; rw [hlen]; omega
 ·have := G.le
  show (if j = n then ρ i else ρ j) = ρ0 j
  rw [if_neg (by omega)]; exact G.old j hj
end
theorem p6.dupPost {P : Program} {f : FuncId} {args : List AV} {pre S : List It} {d : D} {res res' : AV} {i : Nat} (hc : p6.ok P ⟨f, args, pre, S, res⟩) (hi : S[i]? = some (.dat d)) (hl : pre.length ≤ S.length)
  (hS : S.all (fun x => V0 S.length x.ids) = true) (hr : ∀ ρ : Nat → Value, ρ S.length = ρ i → res'.val ρ = res.val ρ) (hg : V0 S.length res.ids = true) : p6.ok P ⟨f, args, pre, S ++ [.dat d], res'⟩ := by
 intro ι φ ψ w0 w F ρ M
 refine (hc ι φ ψ w0 w F ρ M).mono ?_
 rintro x w' ⟨ρ1, h1, rfl, M1⟩
 have hi' : t7 S i = .dat d := by simp [t7, hi]
 have hlt : i < S.length := (bG0.1 hi).1
 have hinv : Inv (t7 S) ρ1 [S.length] := fun ρ' h j => by
  by_cases hj : j < S.length
  ·refine It.res_congr _ (fun k hk => h k ?_) (.inr (.inr (h j (by simp; omega))))
   have h1 := G2 (bG1.1 hS (S[j]) (bG5 hj)) k (by simpa [t7, bF4, bF1 hj] using hk)
   simp; omega
  ·rw [show t7 S j = .none by simp only [t7, bF4, bG7 (Nat.le_of_not_lt hj)]; rfl]; rfl
 obtain ⟨ρ2, h3, M2, h4⟩ := M1.newDat (id := S.length) (by simp [t7]) hinv (M1.datAt hi')
 have e : t5 (t7 S) [(S.length, .dat d)] = t7 (S ++ [.dat d]) := by
  funext j
  simp only [t5, t7, bF4]
  by_cases hj : j = S.length
  ·subst hj; simp
  ·rw [if_neg hj]
   by_cases hj2 : j < S.length
   ·rw [bG9 hj2]
   ·rw [bG7 (by omega), bG7 (by simp; omega)]
 rw [e] at M2
 have hρ : ρ2 i = ρ1 i := h3 i (by simp; omega)
 refine ⟨ρ2, fun k hk => by
  have hk : k < pre.length := hk
  rw [h3 k (by simp; omega)]; exact h1 k hk, ?_, M2⟩
 rw [hr ρ2 (by rw [← h4, hρ])]
 exact congrArg _ (AV.val_congr res fun k hk => by
  have := G2 hg k hk
  exact h3 k (by simp; omega)).symm
abbrev nlA : AV := .v (.slice none 0 0)
abbrev qT (l : List b6) : It := .row 106 (.stmts l)
abbrev qI (l : List Int) : It := .row 3 (.ints l)
theorem aZ9 (vs ars : List Int) (d : Nat) (ih : ∀ (e : b5), l5 vs.length ars.length d e = true → p6.ok Tryz.prog (O8 159 [.agg [.ref 0, .ref 1, nlA], eA e 2] ([dI vs, dI ars] ++ eS e) (iA (k8 vs ars d e))))
    (e : b5) (he : l5 vs.length ars.length (d + 1) e = true) : p6.ok Tryz.prog (O8 159 [.agg [.ref 0, .ref 1, nlA], eA e 2] ([dI vs, dI ars] ++ eS e) (iA (k8 vs ars (d + 1) e))) := by
  refine M6 42 Tryz.func159 [dI vs, dI ars, dE e.kids] [(0, .agg [.ref 0, .ref 1, .v (.slice none 0 0)]), (1, eA e 2)] fun G => ?_; refine wp_seq (t2 G l9 [0, 1, 2, 3, 11] [dI vs, dI ars, dE e.kids, .box [.ref 0, .ref 1, .v (.slice none 0 0)], .box (eL e 2)] [(2, .ptr 3 0), (3, .ptr 4 0), (4, iA 0)] fun G => b7 (wp_seq (s4 G l9 [(5, iA 0)] fun G => b7 (wp_seq (wp_seq (s4 G l9 [(8, iA e.kind)] fun G => b7 (wp_block (wp_seq (s4 G l9 [(9, bA (e.kind == 2))] fun G => b7 (rcE G (fun h0 q0 => ?_) fun h0 q0 => ?_))))))))))
  ·
   refine wp_seq (s4 G l9 [(17, bA (e.kind == 3))] fun G => b7 (rcE G (fun h1 q1 => ?_) fun h1 q1 => ?_))
   ·
    refine wp_skip (B5 (b7 (wp_seq (wp_seq (S9 G l9 [(2, .ptr 3 0), (3, .ptr 4 0), (4, iA 0), (5, iA 0), (6, iA 0)] fun G => b7 (wp_block ?_)))))); refine C4 (κ := Nat) (fun k => k ≤ e.kids.length) (fun k => e.kids.length - k) (fun k => [dI vs, dI ars, dE e.kids, .box [.ref 0, .ref 1, .v (.slice none 0 0)], .box (eL e 2)]) (fun k => [(2, .ptr 3 0), (3, .ptr 4 0), (4, iA 0), (5, iA (v5 vs ars d 0 e.kids k)), (6, iA k)]) 0 (by simp [he, h0, h1]) (A6.at G _ _) ?_; clear G; intro k ρ a w hp G; have hlen : e.kids.length ≤ 9223372036854775807 := G.len 2 (d := .exprs e.kids) (by kernel_rfl); refine wp_seq (wp_seq (S9 G l9 [(2, .ptr 3 0), (3, .ptr 4 0), (4, iA 0), (5, iA (v5 vs ars d 0 e.kids k)), (6, iA k), (29, bA (decide ((k : Int) < e.kids.length)))] fun G => b7 (rcD G (fun h2 q2 => ?_) fun h2 q2 => ?_)))
    · refine wp_exit (C0 (C0 (A9 (b7 (wp_seq (t2 G l9 [0, 1, 2] [dI vs, dI ars, dE e.kids] [(4, iA (v5 vs ars d 0 e.kids k))] fun G => b7 (wp_ret ?_))))))); exact Y8 (v5 vs ars d 0 e.kids k) G [0, 1, 2] (K1 (by omega) (by simp [an0, h0, q0, h1, q1, h2, q2]; done))
    · refine wp_skip (b7 (wp_seq (wp_block (aw7 G (G7 7 [0, 1, 53] (ih (e.kids.getD k bE8) (L6 he (by omega)))) [0, 0, 0, 4, 0, 28, 60, 126, 255, 511] [(5, iA (m6 (v5 vs ars d 0 e.kids k) (k8 vs ars d (e.kids.getD k bE8))))] (iX k k e.kids.length []) (iK (by omega) bF3) fun G => B5 (b7 (N8 G l9 [(6, iA ((k : Int) + 1))] [wO ((k : Int) + 1)] (o1 (by omega)) fun G => b7 ?_)))))); exact rxn G (k + 1) (by omega) (by omega) (rg 5) (ht := by have e1 : (v5 vs ars d 0 e.kids (k + 1) : Int) = (m6 (v5 vs ars d 0 e.kids k) (k8 vs ars d (e.kids.getD k bE8))) := (H0 (by omega)); (first | rw [e1] | simp only [e1]) <;> rfl)
   ·
    refine N8 G l9 [(5, iA (ars.getD e.value.toNat 0))] [(0 : Int) ≤ e.value, e.value < (ars.length : Int), e.value.toNat < ars.length] ⟨((U5 he (by assumption)).1), ((U5 he (by assumption)).2.1), ((U5 he (by assumption)).2.2), bF3⟩ fun G => B5 (b7 (wp_seq (wp_seq (S9 G l9 [(2, .ptr 3 0), (3, .ptr 4 0), (4, iA 0), (5, iA (ars.getD e.value.toNat 0)), (6, iA 0)] fun G => b7 (wp_block ?_))))); refine C4 (κ := Nat) (fun k => k ≤ e.kids.length) (fun k => e.kids.length - k) (fun k => [dI vs, dI ars, dE e.kids, .box [.ref 0, .ref 1, .v (.slice none 0 0)], .box (eL e 2)]) (fun k => [(2, .ptr 3 0), (3, .ptr 4 0), (4, iA 0), (5, iA (v5 vs ars d (ars.getD e.value.toNat 0) e.kids k)), (6, iA k)]) 0 (by simp [he, h0, h1]) (A6.at G _ _) ?_; clear G; intro k ρ a w hp G; have hlen : e.kids.length ≤ 9223372036854775807 := G.len 2 (d := .exprs e.kids) (by kernel_rfl); refine wp_seq (wp_seq (S9 G l9 [(2, .ptr 3 0), (3, .ptr 4 0), (4, iA 0), (5, iA (v5 vs ars d (ars.getD e.value.toNat 0) e.kids k)), (6, iA k), (29, bA (decide ((k : Int) < e.kids.length)))] fun G => b7 (rcD G (fun h3 q3 => ?_) fun h3 q3 => ?_)))
    · refine wp_exit (C0 (C0 (A9 (b7 (wp_seq (t2 G l9 [0, 1, 2] [dI vs, dI ars, dE e.kids] [(4, iA (v5 vs ars d (ars.getD e.value.toNat 0) e.kids k))] fun G => b7 (wp_ret ?_))))))); exact Y8 (v5 vs ars d (ars.getD e.value.toNat 0) e.kids k) G [0, 1, 2] (K1 (by omega) (by simp [an0, h0, q0, h1, q1, h3, q3]; done))
    · refine wp_skip (b7 (wp_seq (wp_block (aw7 G (G7 7 [0, 1, 53] (ih (e.kids.getD k bE8) (L6 he (by omega)))) [0, 0, 0, 4, 0, 28, 60, 126, 255, 511] [(5, iA (m6 (v5 vs ars d (ars.getD e.value.toNat 0) e.kids k) (k8 vs ars d (e.kids.getD k bE8))))] (iX k k e.kids.length []) (iK (by omega) bF3) fun G => B5 (b7 (N8 G l9 [(6, iA ((k : Int) + 1))] [wO ((k : Int) + 1)] (o1 (by omega)) fun G => b7 ?_)))))); exact rxn G (k + 1) (by omega) (by omega) (rg 5) (ht := by have e1 : (v5 vs ars d (ars.getD e.value.toNat 0) e.kids (k + 1) : Int) = (m6 (v5 vs ars d (ars.getD e.value.toNat 0) e.kids k) (k8 vs ars d (e.kids.getD k bE8))) := (H0 (by omega)); (first | rw [e1] | simp only [e1]) <;> rfl)
  ·
   refine N8 G l9 [(5, iA (vs.getD e.value.toNat 0))] [(0 : Int) ≤ e.value, e.value < (vs.length : Int), e.value.toNat < vs.length] ⟨((U4 he (by assumption)).1), ((U4 he (by assumption)).2.1), ((U4 he (by assumption)).2.2), bF3⟩ fun G => B5 (b7 (wp_seq (wp_seq (S9 G l9 [(2, .ptr 3 0), (3, .ptr 4 0), (4, iA 0), (5, iA (vs.getD e.value.toNat 0)), (6, iA 0)] fun G => b7 (wp_block ?_))))); refine C4 (κ := Nat) (fun k => k ≤ e.kids.length) (fun k => e.kids.length - k) (fun k => [dI vs, dI ars, dE e.kids, .box [.ref 0, .ref 1, .v (.slice none 0 0)], .box (eL e 2)]) (fun k => [(2, .ptr 3 0), (3, .ptr 4 0), (4, iA 0), (5, iA (v5 vs ars d (vs.getD e.value.toNat 0) e.kids k)), (6, iA k)]) 0 (by simp [he, h0]) (A6.at G _ _) ?_; clear G; intro k ρ a w hp G; have hlen : e.kids.length ≤ 9223372036854775807 := G.len 2 (d := .exprs e.kids) (by kernel_rfl); refine wp_seq (wp_seq (S9 G l9 [(2, .ptr 3 0), (3, .ptr 4 0), (4, iA 0), (5, iA (v5 vs ars d (vs.getD e.value.toNat 0) e.kids k)), (6, iA k), (29, bA (decide ((k : Int) < e.kids.length)))] fun G => b7 (rcD G (fun h4 q4 => ?_) fun h4 q4 => ?_)))
   · refine wp_exit (C0 (C0 (A9 (b7 (wp_seq (t2 G l9 [0, 1, 2] [dI vs, dI ars, dE e.kids] [(4, iA (v5 vs ars d (vs.getD e.value.toNat 0) e.kids k))] fun G => b7 (wp_ret ?_))))))); exact Y8 (v5 vs ars d (vs.getD e.value.toNat 0) e.kids k) G [0, 1, 2] (K1 (by omega) (by simp [an0, h0, q0, h4, q4]; done))
   · refine wp_skip (b7 (wp_seq (wp_block (aw7 G (G7 7 [0, 1, 53] (ih (e.kids.getD k bE8) (L6 he (by omega)))) [0, 0, 0, 4, 0, 28, 60, 126, 255, 511] [(5, iA (m6 (v5 vs ars d (vs.getD e.value.toNat 0) e.kids k) (k8 vs ars d (e.kids.getD k bE8))))] (iX k k e.kids.length []) (iK (by omega) bF3) fun G => B5 (b7 (N8 G l9 [(6, iA ((k : Int) + 1))] [wO ((k : Int) + 1)] (o1 (by omega)) fun G => b7 ?_)))))); exact rxn G (k + 1) (by omega) (by omega) (rg 5) (ht := by have e1 : (v5 vs ars d (vs.getD e.value.toNat 0) e.kids (k + 1) : Int) = (m6 (v5 vs ars d (vs.getD e.value.toNat 0) e.kids k) (k8 vs ars d (e.kids.getD k bE8))) := (H0 (by omega)); (first | rw [e1] | simp only [e1]) <;> rfl)
abbrev aa2 : It := .box [.ref 0, .ref 1, .v (.slice none 0 0)]
abbrev ac7 (e : b5) (k : Nat) (r0 : List (Nat × AV)) : List (Nat × AV) := (27, .ref 2) :: (28, iA (e.kids.length : Int)) :: (29, iA (k : Int)) :: r0
theorem be6 (vs ars : List Int) (d : Nat) (ih : ∀ (e : b5), l5 vs.length ars.length d e = true → p6.ok Tryz.prog (O8 141 [.agg [.ref 0, .ref 1, nlA], eA e 2] ([dI vs, dI ars] ++ eS e) (iA (k8 vs ars d e))))
    (e : b5) (he : l5 vs.length ars.length (d + 1) e = true) : p6.ok Tryz.prog (O8 141 [.agg [.ref 0, .ref 1, nlA], eA e 2] ([dI vs, dI ars] ++ eS e) (iA (k8 vs ars (d + 1) e))) := by
  refine M6 40 Tryz.func141 [dI vs, dI ars, dE e.kids] [(0, .agg [.ref 0, .ref 1, .v (.slice none 0 0)]), (1, eA e 2)] fun G => ?_; refine wp_seq (t2 G l9 [0, 1, 2, 3, 11] [dI vs, dI ars, dE e.kids, aa2, .box (eL e 2)] [(2, .ptr 3 0), (3, .ptr 4 0), (4, iA 0)] fun G => b7 (wp_seq (s4 G l9 [(5, iA 0)] fun G => b7 (wp_seq (wp_seq (s4 G l9 [(9, iA e.kind)] fun G => b7 (wp_block (wp_seq (s4 G l9 [(10, bA (e.kind == 2))] fun G => b7 (rcE G (fun h0 q0 => ?_) fun h0 q0 => ?_))))))))))
  ·
   refine wp_seq (s4 G l9 [(18, bA (e.kind == 3))] fun G => b7 (rcE G (fun h1 q1 => ?_) fun h1 q1 => ?_))
   ·
    refine wp_skip (B5 (b7 (wp_seq (wp_seq (t2 G l9 (rg 4) [dI vs, dI ars, dE e.kids, aa2] [(2, .ptr 3 0), (4, iA 0), (5, iA 0), (27, .ref 2), (28, iA (e.kids.length : Int)), (29, iA 0)] fun G => b7 (wp_block ?_)))))); refine C4 (κ := Nat) (fun k => k ≤ e.kids.length) (fun k => e.kids.length - k) (fun k => [dI vs, dI ars, dE e.kids, .box [.ref 0, .ref 1, .v (.slice none 0 0)]]) (fun k => [(2, .ptr 3 0), (4, iA 0), (5, iA (v5 vs ars d 0 e.kids k)), (27, .ref 2), (28, iA (e.kids.length : Int)), (29, iA k)]) 0 (by simp [he, h0, h1]) (A6.at G _ _) ?_; clear G; intro k ρ a w hp G; have hlen : e.kids.length ≤ 9223372036854775807 := G.len 2 (d := .exprs e.kids) (by kernel_rfl); refine wp_seq (S9 G l9 ((2, .ptr 3 0) :: (4, iA 0) :: (5, iA (v5 vs ars d 0 e.kids k)) :: (ac7 e k [(30, bA (decide ((k : Int) < e.kids.length)))])) fun G => b7 (wp_seq (rcD G (fun h2 q2 => ?_) fun h2 q2 => ?_)))
    · refine wp_exit (C0 (C0 (A9 (b7 (wp_seq (t2 G l9 [0, 1, 2] [dI vs, dI ars, dE e.kids] [(4, iA (v5 vs ars d 0 e.kids k))] fun G => b7 (wp_ret ?_))))))); exact Y8 (v5 vs ars d 0 e.kids k) G [0, 1, 2] (K1 (by omega) (by simp [an0, h0, q0, h1, q1, h2, q2]; done))
    · refine wp_skip (b7 (wp_seq (wp_block (wp_seq (rA1 G l9 [0, 1, 2, 3, 12, 20] [dI vs, dI ars, dE e.kids, aa2, dE (e.kids.getD k bE8).kids, .box (eL (e.kids.getD k bE8) 4)] ((2, .ptr 3 0) :: (4, iA 0) :: (5, iA (v5 vs ars d 0 e.kids k)) :: (7, .ptr 5 0) :: (ac7 e k [])) (iX k k e.kids.length []) (iK (by omega) bF3) fun G => b7 (t2 G (G7 3 [0, 1, 4] (ih (e.kids.getD k bE8) (L6 he (by omega)))) (rg 4) [dI vs, dI ars, dE e.kids, aa2] ((2, .ptr 3 0) :: (4, iA 0) :: (5, iA (m6 (v5 vs ars d 0 e.kids k) (k8 vs ars d (e.kids.getD k bE8)))) :: (ac7 e k [])) fun G => B5 (b7 (N8 G l9 [(29, iA ((k : Int) + 1))] [wO ((k : Int) + 1)] (o1 (by omega)) fun G => b7 ?_)))))))); exact rxn G (k + 1) (by omega) (by omega) (rg 4) (ht := by have e1 : (v5 vs ars d 0 e.kids (k + 1) : Int) = (m6 (v5 vs ars d 0 e.kids k) (k8 vs ars d (e.kids.getD k bE8))) := (H0 (by omega)); (first | rw [e1] | simp only [e1]) <;> rfl)
   ·
    refine N8 G l9 [(5, iA (ars.getD e.value.toNat 0))] [(0 : Int) ≤ e.value, e.value < (ars.length : Int), e.value.toNat < ars.length] ⟨((U5 he (by assumption)).1), ((U5 he (by assumption)).2.1), ((U5 he (by assumption)).2.2), bF3⟩ fun G => B5 (b7 (wp_seq (wp_seq (t2 G l9 (rg 4) [dI vs, dI ars, dE e.kids, aa2] [(2, .ptr 3 0), (4, iA 0), (5, iA (ars.getD e.value.toNat 0)), (27, .ref 2), (28, iA (e.kids.length : Int)), (29, iA 0)] fun G => b7 (wp_block ?_))))); refine C4 (κ := Nat) (fun k => k ≤ e.kids.length) (fun k => e.kids.length - k) (fun k => [dI vs, dI ars, dE e.kids, .box [.ref 0, .ref 1, .v (.slice none 0 0)]]) (fun k => [(2, .ptr 3 0), (4, iA 0), (5, iA (v5 vs ars d (ars.getD e.value.toNat 0) e.kids k)), (27, .ref 2), (28, iA (e.kids.length : Int)), (29, iA k)]) 0 (by simp [he, h0, h1]) (A6.at G _ _) ?_; clear G; intro k ρ a w hp G; have hlen : e.kids.length ≤ 9223372036854775807 := G.len 2 (d := .exprs e.kids) (by kernel_rfl); refine wp_seq (S9 G l9 ((2, .ptr 3 0) :: (4, iA 0) :: (5, iA (v5 vs ars d (ars.getD e.value.toNat 0) e.kids k)) :: (ac7 e k [(30, bA (decide ((k : Int) < e.kids.length)))])) fun G => b7 (wp_seq (rcD G (fun h3 q3 => ?_) fun h3 q3 => ?_)))
    · refine wp_exit (C0 (C0 (A9 (b7 (wp_seq (t2 G l9 [0, 1, 2] [dI vs, dI ars, dE e.kids] [(4, iA (v5 vs ars d (ars.getD e.value.toNat 0) e.kids k))] fun G => b7 (wp_ret ?_))))))); exact Y8 (v5 vs ars d (ars.getD e.value.toNat 0) e.kids k) G [0, 1, 2] (K1 (by omega) (by simp [an0, h0, q0, h1, q1, h3, q3]; done))
    · refine wp_skip (b7 (wp_seq (wp_block (wp_seq (rA1 G l9 [0, 1, 2, 3, 12, 20] [dI vs, dI ars, dE e.kids, aa2, dE (e.kids.getD k bE8).kids, .box (eL (e.kids.getD k bE8) 4)] ((2, .ptr 3 0) :: (4, iA 0) :: (5, iA (v5 vs ars d (ars.getD e.value.toNat 0) e.kids k)) :: (7, .ptr 5 0) :: (ac7 e k [])) (iX k k e.kids.length []) (iK (by omega) bF3) fun G => b7 (t2 G (G7 3 [0, 1, 4] (ih (e.kids.getD k bE8) (L6 he (by omega)))) (rg 4) [dI vs, dI ars, dE e.kids, aa2] ((2, .ptr 3 0) :: (4, iA 0) :: (5, iA (m6 (v5 vs ars d (ars.getD e.value.toNat 0) e.kids k) (k8 vs ars d (e.kids.getD k bE8)))) :: (ac7 e k [])) fun G => B5 (b7 (N8 G l9 [(29, iA ((k : Int) + 1))] [wO ((k : Int) + 1)] (o1 (by omega)) fun G => b7 ?_)))))))); exact rxn G (k + 1) (by omega) (by omega) (rg 4) (ht := by have e1 : (v5 vs ars d (ars.getD e.value.toNat 0) e.kids (k + 1) : Int) = (m6 (v5 vs ars d (ars.getD e.value.toNat 0) e.kids k) (k8 vs ars d (e.kids.getD k bE8))) := (H0 (by omega)); (first | rw [e1] | simp only [e1]) <;> rfl)
  ·
   refine N8 G l9 [(5, iA (vs.getD e.value.toNat 0))] [(0 : Int) ≤ e.value, e.value < (vs.length : Int), e.value.toNat < vs.length] ⟨((U4 he (by assumption)).1), ((U4 he (by assumption)).2.1), ((U4 he (by assumption)).2.2), bF3⟩ fun G => B5 (b7 (wp_seq (wp_seq (t2 G l9 (rg 4) [dI vs, dI ars, dE e.kids, aa2] [(2, .ptr 3 0), (4, iA 0), (5, iA (vs.getD e.value.toNat 0)), (27, .ref 2), (28, iA (e.kids.length : Int)), (29, iA 0)] fun G => b7 (wp_block ?_))))); refine C4 (κ := Nat) (fun k => k ≤ e.kids.length) (fun k => e.kids.length - k) (fun k => [dI vs, dI ars, dE e.kids, .box [.ref 0, .ref 1, .v (.slice none 0 0)]]) (fun k => [(2, .ptr 3 0), (4, iA 0), (5, iA (v5 vs ars d (vs.getD e.value.toNat 0) e.kids k)), (27, .ref 2), (28, iA (e.kids.length : Int)), (29, iA k)]) 0 (by simp [he, h0]) (A6.at G _ _) ?_; clear G; intro k ρ a w hp G; have hlen : e.kids.length ≤ 9223372036854775807 := G.len 2 (d := .exprs e.kids) (by kernel_rfl); refine wp_seq (S9 G l9 ((2, .ptr 3 0) :: (4, iA 0) :: (5, iA (v5 vs ars d (vs.getD e.value.toNat 0) e.kids k)) :: (ac7 e k [(30, bA (decide ((k : Int) < e.kids.length)))])) fun G => b7 (wp_seq (rcD G (fun h4 q4 => ?_) fun h4 q4 => ?_)))
   · refine wp_exit (C0 (C0 (A9 (b7 (wp_seq (t2 G l9 [0, 1, 2] [dI vs, dI ars, dE e.kids] [(4, iA (v5 vs ars d (vs.getD e.value.toNat 0) e.kids k))] fun G => b7 (wp_ret ?_))))))); exact Y8 (v5 vs ars d (vs.getD e.value.toNat 0) e.kids k) G [0, 1, 2] (K1 (by omega) (by simp [an0, h0, q0, h4, q4]; done))
   · refine wp_skip (b7 (wp_seq (wp_block (wp_seq (rA1 G l9 [0, 1, 2, 3, 12, 20] [dI vs, dI ars, dE e.kids, aa2, dE (e.kids.getD k bE8).kids, .box (eL (e.kids.getD k bE8) 4)] ((2, .ptr 3 0) :: (4, iA 0) :: (5, iA (v5 vs ars d (vs.getD e.value.toNat 0) e.kids k)) :: (7, .ptr 5 0) :: (ac7 e k [])) (iX k k e.kids.length []) (iK (by omega) bF3) fun G => b7 (t2 G (G7 3 [0, 1, 4] (ih (e.kids.getD k bE8) (L6 he (by omega)))) (rg 4) [dI vs, dI ars, dE e.kids, aa2] ((2, .ptr 3 0) :: (4, iA 0) :: (5, iA (m6 (v5 vs ars d (vs.getD e.value.toNat 0) e.kids k) (k8 vs ars d (e.kids.getD k bE8)))) :: (ac7 e k [])) fun G => B5 (b7 (N8 G l9 [(29, iA ((k : Int) + 1))] [wO ((k : Int) + 1)] (o1 (by omega)) fun G => b7 ?_)))))))); exact rxn G (k + 1) (by omega) (by omega) (rg 4) (ht := by have e1 : (v5 vs ars d (vs.getD e.value.toNat 0) e.kids (k + 1) : Int) = (m6 (v5 vs ars d (vs.getD e.value.toNat 0) e.kids k) (k8 vs ars d (e.kids.getD k bE8))) := (H0 (by omega)); (first | rw [e1] | simp only [e1]) <;> rfl)
theorem aJ1 (vs ars : List Int) : ∀ (d : Nat) (e : b5), l5 vs.length ars.length d e = true → p6.ok Tryz.prog (O8 159 [.agg [.ref 0, .ref 1, nlA], eA e 2] ([dI vs, dI ars] ++ eS e) (iA (k8 vs ars d e)))
 | 0, _, h => by simp [l5] at h
 | d + 1, e, h => aZ9 vs ars d (aJ1 vs ars d) e h
theorem a60 (vs ars : List Int) : ∀ (d : Nat) (e : b5), l5 vs.length ars.length d e = true → p6.ok Tryz.prog (O8 141 [.agg [.ref 0, .ref 1, nlA], eA e 2] ([dI vs, dI ars] ++ eS e) (iA (k8 vs ars d e)))
 | 0, _, h => by simp [l5] at h
 | d + 1, e, h => be6 vs ars d (a60 vs ars d) e h
theorem Y5 (vs ars : List Int) (ky vy : Int) (ks : List b5) (h : l5 vs.length ars.length 5 ⟨ky, vy, ks⟩ = true) : p6.ok Tryz.prog (O8 159 [.agg [.ref 0, .ref 1, nlA], .agg [iA ky, iA vy, .ref 2]] [dI vs, dI ars, dE ks] (iA (k8 vs ars 5 ⟨ky, vy, ks⟩))) := aJ1 vs ars 5 ⟨ky, vy, ks⟩ h
theorem ah5 (vs ars : List Int) (ky vy : Int) (ks : List b5) (h : l5 vs.length ars.length 5 ⟨ky, vy, ks⟩ = true) : p6.ok Tryz.prog (O8 141 [.agg [.ref 0, .ref 1, nlA], .agg [iA ky, iA vy, .ref 2]] [dI vs, dI ars, dE ks] (iA (k8 vs ars 5 ⟨ky, vy, ks⟩))) := a60 vs ars 5 ⟨ky, vy, ks⟩ h
theorem K3 (n : Int) : p6.ok Tryz.prog ⟨203, [iA n], [], [dE []], .agg [iA 1, iA n, .ref 0]⟩ := by
 refine M6 5 Tryz.func203 [] [(0, iA n)] fun G => ?_; refine wp_seq (t2 G l9 [0] [.box [iA 0, iA 0, .v (.slice none 0 0)]] [(0, iA n), (2, .ptr 0 0)] fun G => b7 (wp_seq (t2 G l9 [0] [.box [iA 1, iA n, .v (.slice none 0 0)]] [(2, .ptr 0 0)] fun G => b7 (wp_ret ?_)))); obtain ⟨ρ, G⟩ := G.nil 1 0 (.exprs []) 9 [.box [iA 1, iA n, .ref 1]] [(2, .ptr 0 0)]; obtain ⟨ρ, G⟩ := G.frz [.no, .row 0] [.box [iA 1, iA n, .ref 1], dE []] [(2, .ptr 0 0)]; exact W2 G [1]
theorem aj4 (n : Int) : p6.ok Tryz.prog ⟨157, [iA n], [], [dE []], .agg [iA 2, iA n, .ref 0]⟩ := by
 refine M6 5 Tryz.func157 [] [(0, iA n)] fun G => ?_; refine wp_seq (t2 G l9 [0] [.box [iA 0, iA 0, .v (.slice none 0 0)]] [(0, iA n), (2, .ptr 0 0)] fun G => b7 (wp_seq (t2 G l9 [0] [.box [iA 2, iA n, .v (.slice none 0 0)]] [(2, .ptr 0 0)] fun G => b7 (wp_ret ?_)))); obtain ⟨ρ, G⟩ := G.nil 1 0 (.exprs []) 9 [.box [iA 2, iA n, .ref 1]] [(2, .ptr 0 0)]; obtain ⟨ρ, G⟩ := G.frz [.no, .row 0] [.box [iA 2, iA n, .ref 1], dE []] [(2, .ptr 0 0)]; exact W2 G [1]
theorem ac3 (k : Int) (ks : List b5) : p6.ok Tryz.prog ⟨204, [iA k, .ref 0], [.row 104 (.exprs ks)], [dE ks], .agg [iA k, iA 0, .ref 0]⟩ := by
 refine M6 8 Tryz.func204 [.row 104 (D.exprs ks)] [(0, iA k), (1, .ref 0)] fun G => ?_; refine wp_seq (t2 G l9 [0, 1] [.row 104 (D.exprs ks), .box [iA 0, iA 0, .v (.slice none 0 0)]] [(0, iA k), (1, .ref 0), (4, .ptr 1 0)] fun G => b7 (wp_seq (t2 G l9 [0, 1] [.row 104 (D.exprs ks), .box [iA k, iA 0, .ref 0]] [(4, .ptr 1 0)] fun G => b7 (wp_ret ?_)))); obtain ⟨ρ, G⟩ := G.frz [.row 104] [dE ks, .box [iA k, iA 0, .ref 0]] [(4, .ptr 1 0)]; exact W2 G [0]
theorem as3 (n ky vy : Int) (ks : List b5) : p6.ok Tryz.prog ⟨161, [iA n, .agg [iA ky, iA vy, .ref 0]], [dE ks], [dE ks, dE [⟨ky, vy, ks⟩]], .agg [iA 3, iA n, .ref 1]⟩ := by
 refine M6 9 Tryz.func161 [dE ks] [(0, iA n), (1, .agg [iA ky, iA vy, .ref 0])] fun G => ?_; refine wp_seq (t2 G l9 [0, 1, 9] [dE ks, .box [iA ky, iA vy, .ref 0], .box [iA 0, iA 0, .v (.slice none 0 0)]] [(0, iA n), (3, .ptr 1 0), (4, .ptr 2 0)] fun G => b7 (wp_seq (t2 G l9 [0, 2, 19] [dE ks, .box [iA 3, iA n, .ref 2], .row 104 (D.exprs ([b5.mk ky vy ks] ++ []))] [(4, .ptr 1 0)] fun G => b7 (wp_ret ?_)))); obtain ⟨ρ, G⟩ := G.frz [.no, .no, .row 104] [dE ks, .box [iA 3, iA n, .ref 2], dE ([b5.mk ky vy ks] ++ [])] [(4, .ptr 1 0)]; exact W2 G [0, 2]
theorem a77 (ky vy : Int) (ks : List b5) (k : Int) : p6.ok Tryz.prog ⟨205, [.agg [iA ky, iA vy, .ref 0], iA k], [dE ks], [dE ks, dE (R7 ⟨ky, vy, ks⟩ k).kids], .agg [iA 9, iA 0, .ref 1]⟩ := by
 refine M6 13 Tryz.func205 [dE ks] [(0, .agg [iA ky, iA vy, .ref 0]), (1, iA k)] fun G => ?_; refine wp_seq (t2 G l9 [0, 1, 9] [dE ks, .box [iA ky, iA vy, .ref 0], .box [iA 0, iA 0, .v (.slice none 0 0)]] [(1, iA k), (2, .ptr 1 0), (4, .ptr 2 0)] fun G => b7 (wp_seq (ab9 G (D6 (s7 1 [] (K3 3) (s7 3 [19] (ac3 7 ([b5.mk ky vy ks] ++ ([b5.mk 1 3 []] ++ []))) (s7 5 [] (K3 k) (s7 7 [51] (ac3 9 ([b5.mk 7 0 ([b5.mk ky vy ks] ++ ([b5.mk 1 3 []] ++ []))] ++ ([b5.mk 1 k []] ++ []))) D5)))) fz []) [0, 0, 3, 7, 0, 31, 63, 127, 255] [0, 2, 51] [dE ks, .box [iA 9, iA 0, .ref 2], dE ([b5.mk 7 0 ([b5.mk ky vy ks] ++ ([b5.mk 1 3 []] ++ []))] ++ ([b5.mk 1 k []] ++ []))] [(4, .ptr 1 0)] fun G => b7 (wp_ret ?_)))); exact W2 G [0, 2]
theorem bs4 {m : Int} {e f : b5} (h : m < 0) : w9 m e f = e := if_pos h
theorem bs3 {m : Int} {e f : b5} (h : ¬ m < 0) : w9 m e f = seE (vrE m) e f := if_neg h
theorem a94 (m k1 v1 k2 v2 : Int) (s1 s2 : List b5) (hm : m < 0) : p6.ok Tryz.prog ⟨156, [iA m, .agg [iA k1, iA v1, .ref 0], .agg [iA k2, iA v2, .ref 1]], [dE s1, dE s2], [dE s1, dE s2], .agg [iA k1, iA v1, .ref 0]⟩ := by
 refine M6 16 Tryz.func156 [dE s1, dE s2] [(0, iA m), (1, .agg [iA k1, iA v1, .ref 0]), (2, .agg [iA k2, iA v2, .ref 1])] fun G => ?_; refine wp_seq (t2 G l9 [0, 1, 2, 10, 18] [dE s1, dE s2, .box [iA k1, iA v1, .ref 0], .box [iA k2, iA v2, .ref 1], .box [iA 0, iA 0, .v (.slice none 0 0)]] [(0, iA m), (4, .ptr 2 0), (5, .ptr 3 0), (6, .ptr 4 0)] fun G => b7 (wp_seq (wp_seq (S9 G l9 [(0, iA m), (4, .ptr 2 0), (5, .ptr 3 0), (6, .ptr 4 0), (8, bA (decide (m < 0)))] fun G => b7 ?_)))); cases h0 : (decide (m < 0))
 ·have q0 := dFf h0; exact False.elim (by omega)
 ·have q0 := dTt h0; refine rT G _ h0 (wp_seq (t2 G l9 (rg 5) [dE s1, dE s2, .box [iA k1, iA v1, .ref 0], .box [iA k2, iA v2, .ref 1], .box [iA k1, iA v1, .ref 0]] [(0, iA m), (4, .ptr 2 0), (5, .ptr 3 0), (6, .ptr 4 0)] fun G => b7 (wp_ret (t9 ?_)))); exact W2 G [0, 1]
theorem a93 (m k1 v1 k2 v2 : Int) (s1 s2 : List b5) (hm : ¬ m < 0) : p6.ok Tryz.prog ⟨156, [iA m, .agg [iA k1, iA v1, .ref 0], .agg [iA k2, iA v2, .ref 1]], [dE s1, dE s2], [dE s1, dE s2, dE (seE (vrE m) ⟨k1, v1, s1⟩ ⟨k2, v2, s2⟩).kids], .agg [iA 11, iA 0, .ref 2]⟩ := by
 refine M6 16 Tryz.func156 [dE s1, dE s2] [(0, iA m), (1, .agg [iA k1, iA v1, .ref 0]), (2, .agg [iA k2, iA v2, .ref 1])] fun G => ?_; refine wp_seq (t2 G l9 [0, 1, 2, 10, 18] [dE s1, dE s2, .box [iA k1, iA v1, .ref 0], .box [iA k2, iA v2, .ref 1], .box [iA 0, iA 0, .v (.slice none 0 0)]] [(0, iA m), (4, .ptr 2 0), (5, .ptr 3 0), (6, .ptr 4 0)] fun G => b7 (wp_seq (wp_seq (S9 G l9 [(0, iA m), (4, .ptr 2 0), (5, .ptr 3 0), (6, .ptr 4 0), (8, bA (decide (m < 0)))] fun G => b7 ?_)))); cases h0 : (decide (m < 0))
 ·have q0 := dFf h0; refine rF G _ h0 (wp_skip (b7 (wp_seq (ab9 G (D6 (s7 1 [] (aj4 m) (s7 5 [37] (ac3 11 ([b5.mk 2 m []] ++ ([b5.mk k1 v1 s1] ++ ([b5.mk k2 v2 s2] ++ [])))) D5)) fz []) [0, 1, 0, 0, 15, 31, 63] [0, 1, 4, 37] [dE s1, dE s2, .box [iA 11, iA 0, .ref 3], dE ([b5.mk 2 m []] ++ ([b5.mk k1 v1 s1] ++ ([b5.mk k2 v2 s2] ++ [])))] [(6, .ptr 2 0)] fun G => b7 (wp_ret ?_))))); exact W2 G [0, 1, 3]
 ·have q0 := dTt h0; exact False.elim (by omega)
theorem ah6 (m k1 v1 k2 v2 : Int) (s1 s2 : List b5) : p6.ok Tryz.prog ⟨156, [iA m, .agg [iA k1, iA v1, .ref 0], .agg [iA k2, iA v2, .ref 1]], [dE s1, dE s2], [dE s1, dE s2, dE (w9 m ⟨k1, v1, s1⟩ ⟨k2, v2, s2⟩).kids], .agg [iA (w9 m ⟨k1, v1, s1⟩ ⟨k2, v2, s2⟩).kind, iA (w9 m ⟨k1, v1, s1⟩ ⟨k2, v2, s2⟩).value, .ref 2]⟩ := by
 by_cases hm : m < 0
 ·rw [bs4 hm]
  exact p6.dupPost (S := [dE s1, dE s2]) (d := .exprs s1) (i := 0) (a94 m k1 v1 k2 v2 s1 s2 hm) rfl (bF7 _) rfl (fun ρ h => by
   have h : ρ 2 = ρ 0 := h
   simp only [AV.val, AV.vals, h]; rfl) rfl
 ·rw [bs3 hm]
  exact a93 m k1 v1 k2 v2 s1 s2 hm
theorem aj5 (vs ars : List Int) (bd : List b6) (l : Int) (hl : vs.length ≤ 8000000) : p6.ok Tryz.prog ⟨202, [.agg [.ref 0, .ref 1, nlA, .ref 2], iA l], [qI vs, dI ars, qT bd], [qI vs, dI ars, qT bd, qI (vs ++ [l])], .tup [.agg [.ref 3, .ref 1, nlA, .ref 2], iA (vs.length : Int)]⟩ := by
 refine M6 22 Tryz.func202 [.row 3 (D.ints vs), dI ars, .row 106 (D.stmts bd)] [(0, .agg [.ref 0, .ref 1, .v (.slice none 0 0), .ref 2]), (1, iA l)] fun G => ?_; refine wp_seq (t2 G l9 [0, 1, 2, 3, 11] [.row 3 (D.ints vs), dI ars, .row 106 (D.stmts bd), .box [.ref 0, .ref 1, .v (.slice none 0 0), .ref 2], .box [.v (.slice none 0 0), .v (.slice none 0 0), .v (.slice none 0 0), .v (.slice none 0 0)]] [(1, iA l), (2, .ptr 3 0), (4, .ptr 4 0), (5, iA 0)] fun G => b7 (wp_seq (rA1 G l9 [0, 1, 2, 3, 4, 61] [.row 3 (D.ints vs), dI ars, .row 106 (D.stmts bd), .box [.ref 5, .ref 1, .v (.slice none 0 0), .ref 2], .box [.v (.slice none 0 0), .v (.slice none 0 0), .v (.slice none 0 0), .v (.slice none 0 0)], .row 3 (D.ints ([] ++ vs ++ ([l] ++ [])))] [(2, .ptr 3 0), (4, .ptr 4 0), (5, iA 0)] (aP ((0 : Nat) + vs.length) 8 (aP (([] ++ vs).length + 1) 8 [])) (aK (by omega) (aK (by simp only [bF2, bF0, bF5]; omega) bF3)) fun G => b7 (wp_seq (W5 G l9 [0, 0, 2, 6, 14, 30, 1, 127] [0, 1, 2, 4, 5] [.row 3 (D.ints vs), dI ars, .row 106 (D.stmts bd), .box [.ref 4, .ref 1, .v (.slice none 0 0), .ref 2], .row 3 (D.ints ([] ++ vs ++ ([l] ++ [])))] [(4, .ptr 3 0), (5, iA ((([] ++ vs ++ ([l] ++ [])).length : Int) - 1))] [wO ((([] ++ vs ++ ([l] ++ [])).length : Int) - 1)] ⟨(w64 (by simp only [bF2, bF0, bF5]; omega) (by simp only [bF2, bF0, bF5]; omega)), bF3⟩ fun G => b7 (wp_ret ?_)))))); exact rxv (.tup [.agg [.ref 4, .ref 1, .v (.slice none 0 0), .ref 2], iA ((([] ++ vs ++ ([l] ++ [])).length : Int) - 1)]) G [0, 1, 2, 4] (by have e1 : ((vs.length : Int) : Int) = ((([] ++ vs ++ ([l] ++ [])).length : Int) - 1) := (by simp only [bF2, bF0, bF5]; omega); (first | rw [e1] | simp only [e1]) <;> rfl)
theorem S5 (vs ars : List Int) (bd : List b6) (v ky vy : Int) (ks : List b5) (hl : bd.length ≤ 800000) : p6.ok Tryz.prog ⟨155, [.agg [.ref 0, .ref 1, nlA, .ref 2], iA v, .agg [iA ky, iA vy, .ref 3]], [qI vs, dI ars, qT bd, dE ks], [qI vs, dI ars, .dead, dE ks, qT (bd ++ [M4 v ⟨ky, vy, ks⟩])], .agg [.ref 0, .ref 1, nlA, .ref 4]⟩ := by
 refine M6 16 Tryz.func155 [.row 3 (D.ints vs), dI ars, .row 106 (D.stmts bd), dE ks] [(0, .agg [.ref 0, .ref 1, .v (.slice none 0 0), .ref 2]), (1, iA v), (2, .agg [iA ky, iA vy, .ref 3])] fun G => ?_; refine wp_seq (t2 G l9 [0, 1, 2, 3, 4, 12, 20] [.row 3 (D.ints vs), dI ars, .row 106 (D.stmts bd), dE ks, .box [.ref 0, .ref 1, .v (.slice none 0 0), .ref 2], .box [iA ky, iA vy, .ref 3], .box [.v (.slice none 0 0), .v (.slice none 0 0), .v (.slice none 0 0), .v (.slice none 0 0)]] [(1, iA v), (3, .ptr 4 0), (5, .ptr 5 0), (6, .ptr 6 0)] fun G => b7 (wp_seq (rA1 G l9 [0, 1, 2, 3, 4, 6, 55] [.row 3 (D.ints vs), dI ars, .dead, dE ks, .box [.ref 0, .ref 1, .v (.slice none 0 0), .ref 6], .box [.v (.slice none 0 0), .v (.slice none 0 0), .v (.slice none 0 0), .v (.slice none 0 0)], .row 106 (D.stmts (bd ++ ([b6.mk 1 v (b5.mk 0 0 []) (b5.mk ky vy ks) 0 [] []] ++ [])))] [(3, .ptr 4 0), (6, .ptr 5 0)] (aP (bd.length + 1) 152 []) (aK (by omega) bF3) fun G => b7 (wp_seq (t2 G l9 [0, 1, 2, 3, 5, 6] [.row 3 (D.ints vs), dI ars, .dead, dE ks, .box [.ref 0, .ref 1, .v (.slice none 0 0), .ref 5], .row 106 (D.stmts (bd ++ ([b6.mk 1 v (b5.mk 0 0 []) (b5.mk ky vy ks) 0 [] []] ++ [])))] [(6, .ptr 4 0)] fun G => b7 (wp_ret ?_)))))); exact W2 G [0, 1, 2, 3, 5]
end Go.Proofs.YthikdkjjdeehoaaGreat

namespace Go.Proofs.YthikdkjjdeehoaaGreat
set_option linter.unusedVariables false
set_option linter.unusedSimpArgs false
open Go Go.RowKit
theorem a42 (ks : List b5) (k : Nat) : n7 (ks.take k) ≤ n7 ks ∧ (k < ks.length → n7 (ks.take k) + 1 + t8 (ks.getD k bE8) ≤ n7 ks) ∧ (ks.take k).length ≤ n7 (ks.take k) := by
 refine ⟨?_, fun h => ?_, T3 _⟩
 ·have := L5 (ks.take k) (ks.drop k)
  rw [List.take_append_drop] at this
  omega
 ·have h1 := L5 (ks.take (k + 1)) (ks.drop (k + 1))
  rw [List.take_append_drop, p7 _ _ h, L5, ← A5 (d := bE8) h] at h1
  simp only [n7] at h1
  omega
section
variable {e : b5} {l : List Z0} {fr : List Int} {n reg : Int} {k : Nat}
end
abbrev leC (ars : List Int) (pc : Int) (vs : List Int) (bd : List b6) (e : b5) : p6 := ⟨154, [.agg [.ref 0, .ref 1, nlA, .ref 2], eA e 3, iA pc], [qI vs, dI ars, qT bd, dE e.kids], [.dead, dI ars, .dead, dE e.kids, qI (b8 ars pc e (vs, bd)).1.1, qT (b8 ars pc e (vs, bd)).1.2, dE (b8 ars pc e (vs, bd)).2.kids], .tup [.agg [.ref 4, .ref 1, nlA, .ref 5], .agg [iA (b8 ars pc e (vs, bd)).2.kind, iA (b8 ars pc e (vs, bd)).2.value, .ref 6]]⟩
abbrev xE (ars : List Int) (pc : Int) (vs : List Int) (bd : List b6) (e : b5) (k : Nat) : LnS × List b5 := w5 ars pc (e.kids.take k) (vs, bd)
section
variable {ars vs : List Int} {pc : Int} {bd : List b6} {e : b5} {d k : Nat}
theorem at6 (he : l5 vs.length ars.length (d + 1) e = true) (k : Nat) : Grw vs.length ars.length d (n7 (e.kids.take k)) (vs, bd) (xE ars pc vs bd e k).1 := by
 rw [l5] at he
 simp only [bE9, bG1] at he
 exact (a57 (ars := ars) (pc := pc) (na := ars.length) (d := d) (fun e s h => ae2 ars pc ars.length d e s h) (e.kids.take k) (vs, bd) fun x hx => he.1.2 x (List.mem_of_mem_take hx)).1
theorem bd3 (he : l5 vs.length ars.length (d + 1) e = true) (r1 : vs.length + (1 + t8 e) ≤ 100000) (r2 : l7 bd + 40 * (1 + t8 e) ≤ 700000) (k : Nat) : (xE ars pc vs bd e k).1.1.length + 1 ≤ 100000 ∧ (xE ars pc vs bd e k).1.2.length + 40 ≤ 700000 ∧ vs.length ≤ (xE ars pc vs bd e k).1.1.length := by
 have h := at6 (ars := ars) (pc := pc) (bd := bd) he k
 have h1 := V6 e.kids k
 have h2 := E3 e
 have h3 := E2 (xE ars pc vs bd e k).1.2
 have a := h.lo; have b := h.hi; have c := h.st
 simp only at a b c
 omega
theorem bd0 (he : l5 vs.length ars.length (d + 1) e = true) (hk : k < e.kids.length) : l5 (xE ars pc vs bd e k).1.1.length ars.length d (e.kids.getD k bE8) = true :=
 E9 (at6 (pc := pc) (bd := bd) he k).lo d _ (L6 he hk)
theorem br3 (he : l5 vs.length ars.length (d + 1) e = true) (r1 : vs.length + (1 + t8 e) ≤ 100000) (hk : k < e.kids.length) : (xE ars pc vs bd e k).1.1.length + (1 + t8 (e.kids.getD k bE8)) ≤ 100000 := by
 have h := (at6 (pc := pc) (bd := bd) he k).hi
 have h1 := (a42 e.kids k).2.1 hk
 have h2 := E3 e
 simp only at h
 omega
theorem br2 (he : l5 vs.length ars.length (d + 1) e = true) (r2 : l7 bd + 40 * (1 + t8 e) ≤ 700000) (hk : k < e.kids.length) : l7 (xE ars pc vs bd e k).1.2 + 40 * (1 + t8 (e.kids.getD k bE8)) ≤ 700000 := by
 have h := (at6 (pc := pc) (bd := bd) he k).st
 have h1 := (a42 e.kids k).2.1 hk
 have h2 := E3 e
 simp only at h
 omega
theorem bq9 (hk : k < e.kids.length) : (xE ars pc vs bd e (k + 1)).1.1 = (b8 ars pc (e.kids.getD k bE8) ((xE ars pc vs bd e k).1.1, (xE ars pc vs bd e k).1.2)).1.1 := by unfold xE; rw [an3 hk]
theorem bq8 (hk : k < e.kids.length) : (xE ars pc vs bd e (k + 1)).1.2 = (b8 ars pc (e.kids.getD k bE8) ((xE ars pc vs bd e k).1.1, (xE ars pc vs bd e k).1.2)).1.2 := by unfold xE; rw [an3 hk]
theorem bq7 (hk : k < e.kids.length) : (xE ars pc vs bd e (k + 1)).2 = (xE ars pc vs bd e k).2 ++ [⟨(b8 ars pc (e.kids.getD k bE8) ((xE ars pc vs bd e k).1.1, (xE ars pc vs bd e k).1.2)).2.kind, (b8 ars pc (e.kids.getD k bE8) ((xE ars pc vs bd e k).1.1, (xE ars pc vs bd e k).1.2)).2.value, (b8 ars pc (e.kids.getD k bE8) ((xE ars pc vs bd e k).1.1, (xE ars pc vs bd e k).1.2)).2.kids⟩] := by unfold xE; rw [an3 hk, b5.eta]
theorem bc9 (k : Nat) : (xE ars pc vs bd e k).2.length ≤ e.kids.length := by
 have h : ∀ (ks : List b5) (s : LnS), (w5 ars pc ks s).2.length = ks.length := by
  intro ks
  induction ks with
  | nil => intro s; rfl
  | cons x r ih => intro s; rw [w5, bF0, ih, bF0]
 unfold xE; rw [h, List.length_take]; exact Nat.min_le_right _ _
theorem bd2 (hk : e.kids.length ≤ k) (hn : ¬ (e.kind = 3 ∧ aa5 (k8 (xE ars pc vs bd e k).1.1 ars 5 (e.kids.getD 0 bE8)) = true)) : b8 ars pc e (vs, bd) = ((xE ars pc vs bd e k).1, ⟨e.kind, e.value, (xE ars pc vs bd e k).2⟩) := by
 unfold xE at hn ⊢
 rw [bF8 hk] at hn ⊢
 rw [aD8, if_neg hn]
theorem bu1 (hk : e.kids.length ≤ k) (h3 : e.kind = 3) (hs : aa5 (k8 (xE ars pc vs bd e k).1.1 ars 5 (e.kids.getD 0 bE8)) = true) : b8 ars pc e (vs, bd) = (((xE ars pc vs bd e k).1.1 ++ [m6 (k8 (xE ars pc vs bd e k).1.1 ars 5 e) pc], (xE ars pc vs bd e k).1.2 ++ rdL ((xE ars pc vs bd e k).1.1.length : Int) e.value (e.kids.getD 0 bE8) 3), vrE ((xE ars pc vs bd e k).1.1.length : Int)) := by
 unfold xE at hs ⊢
 rw [bF8 hk] at hs ⊢
 rw [aD8, if_pos ⟨h3, hs⟩]
abbrev kE (e : b5) : b5 := ⟨(e.kids.getD 0 bE8).kind, (e.kids.getD 0 bE8).value, (e.kids.getD 0 bE8).kids⟩
theorem bi5 (e : b5) : kE e = e.kids.getD 0 bE8 := b5.eta _
theorem br0 (he : l5 vs.length ars.length (d + 1) e = true) (hd : d + 1 ≤ 5) (h3 : e.kind = 3) : l5 (xE ars pc vs bd e k).1.1.length ars.length 5 (kE e) = true := by
 rw [bi5]
 have := aa4 he h3
 exact aR3 (by omega) (E9 (at6 (pc := pc) (bd := bd) he k).lo d _ (L6 he this))
theorem br1 (he : l5 vs.length ars.length (d + 1) e = true) (hd : d + 1 ≤ 5) : l5 (xE ars pc vs bd e k).1.1.length ars.length 5 ⟨e.kind, e.value, e.kids⟩ = true := by
 rw [b5.eta]
 exact aR3 hd (E9 (at6 (pc := pc) (bd := bd) he k).lo (d + 1) _ he)
theorem ai2 (hk : e.kids.length ≤ k) (hn : ¬ e.kind = 3) : b8 ars pc e (vs, bd) = ((xE ars pc vs bd e k).1, ⟨e.kind, e.value, (xE ars pc vs bd e k).2⟩) := bd2 hk fun h => hn h.1
theorem ax5 (hk : e.kids.length ≤ k) (hs : (!(l6 (k8 (xE ars pc vs bd e k).1.1 ars 5 (kE e)) && decide (k8 (xE ars pc vs bd e k).1.1 ars 5 (kE e) % 2 = 1))) = true) : b8 ars pc e (vs, bd) = ((xE ars pc vs bd e k).1, ⟨e.kind, e.value, (xE ars pc vs bd e k).2⟩) := by
 rw [bi5, bF9] at hs
 exact bd2 hk fun h => by
  have h5 := h.2
  unfold aa5 at h5
  rw [hs] at h5; cases h5
theorem ao9 (hk : e.kids.length ≤ k) (h3 : e.kind = 3) (hs : (!(l6 (k8 (xE ars pc vs bd e k).1.1 ars 5 (kE e)) && decide (k8 (xE ars pc vs bd e k).1.1 ars 5 (kE e) % 2 = 1))) = false) : b8 ars pc e (vs, bd) = (((xE ars pc vs bd e k).1.1 ++ [m6 (k8 (xE ars pc vs bd e k).1.1 ars 5 ⟨e.kind, e.value, e.kids⟩) pc], (xE ars pc vs bd e k).1.2 ++ rdL ((xE ars pc vs bd e k).1.1.length : Int) e.value (kE e) 3), vrE ((xE ars pc vs bd e k).1.1.length : Int)) := by
 rw [bi5] at hs ⊢
 rw [b5.eta]
 rw [bG2] at hs
 exact bu1 hk h3 hs
theorem bl9 {j : Nat} (hj : j = 3) (hk : e.kids.length ≤ k) (h3 : e.kind = 3) (hs : (!(l6 (k8 (xE ars pc vs bd e k).1.1 ars 5 (kE e)) && decide (k8 (xE ars pc vs bd e k).1.1 ars 5 (kE e) % 2 = 1))) = false) : (b8 ars pc e (vs, bd)).1.2 = (xE ars pc vs bd e k).1.2 ++ rdL ((xE ars pc vs bd e k).1.1.length : Int) e.value (kE e) j := by
 rw [hj, ao9 hk h3 hs]
theorem bz2 {v a : Int} {i : b5} {j : Nat} : bd ++ rdL v a i (j + 1) = bd ++ rdL v a i j ++ [M4 v ⟨11, 0, [⟨9, 0, (R7 i ((j : Int) + 1)).kids⟩, ⟨3, a, [⟨1, (j : Int) + 1, []⟩]⟩, ⟨2, v, []⟩]⟩] := by
 rw [rdL, List.append_assoc]; rfl
end
abbrev at5 (e : b5) := s6 (e.kids.getD 0 bE8)
abbrev aL1 (e : b5) (ars : List Int) (pc : Int) (vs : List Int) (bd : List b6) (k : Nat) := k8 (xE ars pc vs bd e k).fst.fst ars 5 (s6 e)
abbrev am2 (e : b5) (ars : List Int) (pc : Int) (vs : List Int) (bd : List b6) (k : Nat) := b8 ars pc (e.kids.getD k bE8) (xE ars pc vs bd e k).fst
abbrev at4 (e : b5) (ars : List Int) (pc : Int) (vs : List Int) (bd : List b6) : List It := [.dead, dI ars, .dead, dE e.kids, .row 3 (D.ints (b8 ars pc e (vs, bd)).fst.fst), .row 106 (D.stmts (b8 ars pc e (vs, bd)).fst.snd), dE (b8 ars pc e (vs, bd)).snd.kids]
abbrev X2 : It := .box [.v (.slice none 0 0), .v (.slice none 0 0), .v (.slice none 0 0), .v (.slice none 0 0)]
abbrev U1 : It := .box [iA 0, iA 0, .v (.slice none 0 0)]
abbrev aA4 (e : b5) (ars : List Int) (pc : Int) (vs : List Int) (bd : List b6) (k : Nat) : It := .row 3 (D.ints ((xE ars pc vs bd e k).fst.fst ++ [m6 (aL1 e ars pc vs bd k) pc]))
abbrev ag2 : It := .box [.ref 8, .ref 1, .v (.slice none 0 0), .ref 9]
abbrev I4 (r0 : List (Nat × AV)) : List (Nat × AV) := (3, .ptr 4 0) :: (4, .ptr 5 0) :: (6, .ptr 6 0) :: (7, .ptr 7 0) :: r0
abbrev al7 (e : b5) (ars : List Int) (pc : Int) (vs : List Int) (bd : List b6) (k : Nat) (r0 : List It) : List It := .row 3 (D.ints (xE ars pc vs bd e k).fst.fst) :: .row 106 (D.stmts (xE ars pc vs bd e k).fst.snd) :: r0
abbrev az7 (e : b5) (ars : List Int) (r0 : List It) : List It := .dead :: dI ars :: .dead :: dE e.kids :: .box [.ref 9, .ref 1, .v (.slice none 0 0), .ref 10] :: .box (eL e 3) :: r0
abbrev aX9 (r0 : List It) : List It := .box [.v (.slice none 0 0), .v (.slice none 0 0), .v (.slice none 0 0), .v (.slice none 0 0)] :: .box [iA 0, iA 0, .v (.slice none 0 0)] :: r0
theorem be7 (e : b5) (ars : List Int) (pc : Int) (d : Nat) (hd : d + 1 ≤ 5) (ih : ∀ (u : b5), u ∈ e.kids → ∀ (vs : List Int) (bd : List b6), l5 vs.length ars.length d u = true → vs.length + (1 + t8 u) ≤ 100000 → l7 bd + 40 * (1 + t8 u) ≤ 700000 → p6.ok Tryz.prog (leC ars pc vs bd u))
    (vs : List Int) (bd : List b6) (he : l5 vs.length ars.length (d + 1) e = true) (r1 : vs.length + (1 + t8 e) ≤ 100000) (r2 : l7 bd + 40 * (1 + t8 e) ≤ 700000) : p6.ok Tryz.prog (leC ars pc vs bd e) := by
  refine M6 102 Tryz.func154 [.row 3 (D.ints vs), dI ars, .row 106 (D.stmts bd), dE e.kids] [(0, .agg [.ref 0, .ref 1, .v (.slice none 0 0), .ref 2]), (1, eA e 3), (2, iA pc)] fun G => ?_
  have hlen : e.kids.length ≤ t8 e := by cases e; exact T3 _
  have hb := bd3 (ars := ars) (pc := pc) (bd := bd) he r1 r2; refine wp_seq (t2 G l9 [0, 1, 2, 3, 4, 12, 20, 28] [.row 3 (D.ints vs), dI ars, .row 106 (D.stmts bd), dE e.kids, .box [.ref 0, .ref 1, .v (.slice none 0 0), .ref 2], .box (eL e 3), X2, U1] ((2, iA pc) :: (I4 [])) fun G => b7 (wp_seq (t2 G l9 [0, 1, 2, 3, 4, 5, 6, 7, 48] [.row 3 (D.ints vs), dI ars, .row 106 (D.stmts bd), dE e.kids, .box [.ref 0, .ref 1, .v (.slice none 0 0), .ref 2], .box (eL e 3), X2, U1, .box [iA e.kind, iA e.value, .v (.slice none 0 0)]] ((2, iA pc) :: (I4 [(8, .ptr 8 0)])) fun G => b7 (wp_seq (wp_seq (S9 G l9 ((2, iA pc) :: (I4 [(8, .ptr 8 0), (9, iA 0)])) fun G => b7 (wp_block ?_))))))); obtain ⟨ρ, G⟩ := G.shift 0 9 (.dead :: dI ars :: .row 106 (D.stmts bd) :: dE e.kids :: .box [.ref 9, .ref 1, .v (.slice none 0 0), .ref 2] :: .box (eL e 3) :: (aX9 [.box [iA e.kind, iA e.value, .v (.slice none 0 0)], .row 3 (D.ints vs)])) ((2, iA pc) :: (I4 [(8, .ptr 8 0), (9, iA 0)])); obtain ⟨ρ, G⟩ := G.shift 2 10 (az7 e ars (aX9 [.box [iA e.kind, iA e.value, .v (.slice none 0 0)], .row 3 (D.ints vs), .row 106 (D.stmts bd)])) ((2, iA pc) :: (I4 [(8, .ptr 8 0), (9, iA 0)])); obtain ⟨ρ, G⟩ := G.nil 11 104 (.exprs []) 9 (az7 e ars (aX9 [.box (eL e 11), .row 3 (D.ints vs), .row 106 (D.stmts bd)])) ((2, iA pc) :: (I4 [(8, .ptr 8 0), (9, iA 0)])); refine C4 (κ := Nat) (fun k => k ≤ e.kids.length) (fun k => e.kids.length - k) (fun k => [.dead, dI ars, .dead, dE e.kids, .box [.ref 9, .ref 1, .v (.slice none 0 0), .ref 10], .box (eL e 3), .box [.v (.slice none 0 0), .v (.slice none 0 0), .v (.slice none 0 0), .v (.slice none 0 0)], .box [iA 0, iA 0, .v (.slice none 0 0)], .box (eL e 11), .row 3 (.ints (xE ars pc vs bd e k).1.1), .row 106 (.stmts (xE ars pc vs bd e k).1.2), .row 104 (.exprs (xE ars pc vs bd e k).2)]) (fun k => [(2, iA pc), (3, .ptr 4 0), (4, .ptr 5 0), (6, .ptr 6 0), (7, .ptr 7 0), (8, .ptr 8 0), (9, iA k)]) 0 (by simp [he]) (A6.at G _ _) ?_; clear G; intro k ρ a w hp G; replace G := A6.at G (az7 e ars (X2 :: U1 :: .box (eL e 11) :: (al7 e ars pc vs bd k [.row 104 (D.exprs (xE ars pc vs bd e k).snd)]))) ((2, iA pc) :: (I4 [(8, .ptr 8 0), (9, iA k)])); have hbk := hb k; have hxl := bc9 (ars := ars) (pc := pc) (vs := vs) (bd := bd) (e := e) k; refine wp_seq (wp_seq (s4 G l9 [(22, bA (decide ((k : Int) < e.kids.length)))] fun G => b7 (rcD G (fun h0 q0 => ?_) fun h0 q0 => ?_)))
  ·
   refine wp_exit (C0 (C0 (A9 (b7 (wp_seq (wp_seq ?_)))))); cases h1 : (e.kind != 3)
   ·
    have q1 := bne_eq_false_iff_eq.1 h1; refine aw7 G (D6 (s7 10 [9, 1, 84] (p6.lend (Y5 ((xE ars pc vs bd e k).fst.fst) ars ((e.kids.getD 0 bE8).kind) ((e.kids.getD 0 bE8).value) ((e.kids.getD 0 bE8).kids) (br0 he hd (by omega))) [.row 3]) (s7 11 [] (K4 (k8 (xE ars pc vs bd e k).fst.fst ars 5 (at5 e))) D5)) (fc h1 fz) (us [(4, 12, 0), (1013, 1013, 0)])) [0, 1, 3, 7, 15, 31, 15, 79, 207, 463, 1023, 2047, 4095, 8191] [(56, .v (.bool !(l6 (k8 (xE ars pc vs bd e k).fst.fst ars 5 (at5 e)) && decide (k8 (xE ars pc vs bd e k).fst.fst ars 5 (at5 e) % 2 = 1))))] (iX 0 0 e.kids.length []) (iK (by have := aa4 he (by omega); omega) bF3) fun G => b7 ?_; cases h2 : (!(l6 (k8 (xE ars pc vs bd e k).fst.fst ars (5 : Nat) (s6 (e.kids.getD (0 : Nat) bE8))) && decide (k8 (xE ars pc vs bd e k).fst.fst ars (5 : Nat) (s6 (e.kids.getD (0 : Nat) bE8)) % (2 : Int) = 1)))
    ·
     have q2 : ((l6 (k8 (xE ars pc vs bd e k).fst.fst ars 5 (s6 (e.kids.getD 0 bE8)))) = true) ∧ (k8 (xE ars pc vs bd e k).fst.fst ars 5 (s6 (e.kids.getD 0 bE8)) % 2 = 1) := (fun hq => And.imp (fun hq => (hq)) (fun hq => of_decide_eq_true hq) (bH4.1 hq)) (Eq.mp (bG2 _) h2); refine rF G _ h2 (wp_skip (b7 (wp_seq (t2 G l9 [0, 1, 2, 3, 4, 5, 6, 7, 9, 10] (.dead :: dI ars :: .dead :: dE e.kids :: ag2 :: .box (eL e 3) :: X2 :: U1 :: (al7 e ars pc vs bd k [])) ((2, iA pc) :: (I4 [(11, iA 0)])) fun G => b7 (wp_seq (ab9 G (D6 (s7 4 [8, 1, 3] (p6.lend (Y5 ((xE ars pc vs bd e k).fst.fst) ars e.kind e.value e.kids (br1 he hd)) [.row 3]) (s7 7 [8, 1, 9] (aj5 ((xE ars pc vs bd e k).fst.fst) ars ((xE ars pc vs bd e k).fst.snd) (m6 (aL1 e ars pc vs bd k) pc) (by have := aa4 he (by omega); omega)) D5)) fz []) [0, 0, 2, 0, 14, 0, 62, 127, 255, 511, 511, 1023, 4095] [0, 1, 2, 3, 4, 5, 6, 7, 9, 66] [.dead, dI ars, .dead, dE e.kids, .box [.ref 9, .ref 1, .v (.slice none 0 0), .ref 8], .box (eL e 3), X2, U1, .row 106 (D.stmts (xE ars pc vs bd e k).fst.snd), aA4 e ars pc vs bd k] (I4 [(11, iA ((xE ars pc vs bd e k).fst.fst.length : Int))]) fun G => b7 (wp_seq (ab9 G (D6 (s7 4 [] (K3 0) (s7 5 [42] (as3 e.value 1 0 ([])) (s7 6 [9, 1, 8, 50] (S5 ((xE ars pc vs bd e k).fst.fst ++ [m6 (aL1 e ars pc vs bd k) pc]) ars ((xE ars pc vs bd e k).fst.snd) (((xE ars pc vs bd e k).fst.fst.length : Int)) 3 e.value ([b5.mk 1 0 []]) (by have := aa4 he (by omega); omega)) D5))) fz []) [0, 0, 0, 4, 0, 28, 63, 127] [0, 1, 2, 3, 4, 5, 6, 7, 9, 58] [.dead, dI ars, .dead, dE e.kids, ag2, .box (eL e 3), X2, U1, aA4 e ars pc vs bd k, .row 106 (D.stmts ((xE ars pc vs bd e k).fst.snd ++ [M4 ((xE ars pc vs bd e k).fst.fst.length : Int) (b5.mk 3 e.value [b5.mk 1 0 []])]))] (I4 [(11, iA ((xE ars pc vs bd e k).fst.fst.length : Int))]) fun G => b7 (wp_seq (wp_seq (S9 G l9 (I4 [(11, iA ((xE ars pc vs bd e k).fst.fst.length : Int)), (12, iA 1)]) fun G => b7 (wp_block ?_)))))))))))); refine C4 (κ := Nat) (fun j => j ≤ 3) (fun j => 3 - j) (fun j => [.dead, dI ars, .dead, dE e.kids, .box [.ref 8, .ref 1, .v (.slice none 0 0), .ref 9], .box (eL e 3), .box [.v (.slice none 0 0), .v (.slice none 0 0), .v (.slice none 0 0), .v (.slice none 0 0)], .box [iA 0, iA 0, .v (.slice none 0 0)], .row 3 (D.ints ((xE ars pc vs bd e k).fst.fst ++ [m6 (k8 (xE ars pc vs bd e k).fst.fst ars 5 (s6 e)) pc])), .row 106 (.stmts ((xE ars pc vs bd e k).1.2 ++ rdL ((xE ars pc vs bd e k).1.1.length : Int) e.value (kE e) j))]) (fun j => [(3, .ptr 4 0), (4, .ptr 5 0), (6, .ptr 6 0), (7, .ptr 7 0), (11, iA ((xE ars pc vs bd e k).fst.fst.length : Int)), (12, iA ((j : Int) + 1))]) 0 (by simp [he, h0, h1, h2]) (A6.at G _ _) ?_
     clear G; intro j ρ a w hp G; replace G := A6.at G [.dead, dI ars, .dead, dE e.kids, ag2, .box (eL e 3), X2, U1, aA4 e ars pc vs bd k, .row 106 (D.stmts ((xE ars pc vs bd e k).fst.snd ++ rdL ((xE ars pc vs bd e k).fst.fst.length : Int) e.value (kE e) j))] (I4 [(11, iA ((xE ars pc vs bd e k).fst.fst.length : Int)), (12, iA ((j : Int) + 1))]); refine wp_seq (wp_seq (s4 G l9 [(78, bA (decide ((j : Int) + 1 < 4)))] fun G => b7 (rcD G (fun h3 q3 => ?_) fun h3 q3 => ?_)))
     · refine wp_exit (C0 (C0 (A9 (b7 (wp_seq (ab9 G (G7 2 [] (aj4 (((xE ars pc vs bd e k).fst.fst.length : Int)))) [0, 0, 2, 7, 15] [0, 1, 2, 3, 6, 7, 8, 9, 26] [.dead, dI ars, .dead, dE e.kids, .box [.ref 6, .ref 1, .v (.slice none 0 0), .ref 7], .box [iA 2, iA ((xE ars pc vs bd e k).fst.fst.length : Int), .ref 8], aA4 e ars pc vs bd k, .row 106 (D.stmts ((xE ars pc vs bd e k).fst.snd ++ rdL ((xE ars pc vs bd e k).fst.fst.length : Int) e.value (kE e) j)), dE []] [(6, .ptr 4 0), (7, .ptr 5 0)] fun G => b7 (wp_ret ?_))))))); exact rxv (.tup [.agg [.ref 6, .ref 1, .v (.slice none 0 0), .ref 7], .agg [iA 2, iA ((xE ars pc vs bd e k).fst.fst.length : Int), .ref 8]]) G [0, 1, 2, 3, 6, 7, 8] (by have e1 : ((b8 ars pc e (vs, bd)).snd.kind : Int) = (2) := (by rw [ao9 (ars := ars) (pc := pc) (vs := vs) (bd := bd) (e := e) (k := k) (by omega) (by omega) (by with_reducible assumption)]; rfl); have e2 : ((b8 ars pc e (vs, bd)).snd.value : Int) = (((xE ars pc vs bd e k).fst.fst.length : Int)) := (by rw [ao9 (ars := ars) (pc := pc) (vs := vs) (bd := bd) (e := e) (k := k) (by omega) (by omega) (by with_reducible assumption)]; rfl); (first | rw [e1, e2] | simp only [e1, e2]) <;> rfl) (by show _ = mR [0, 1, 2, 3, 6, 7, 8] (at4 e ars pc vs bd); unfold at4; have e2 : ((b8 ars pc e (vs, bd)).fst.snd : List b6) = ((xE ars pc vs bd e k).fst.snd ++ rdL ((xE ars pc vs bd e k).fst.fst.length : Int) e.value (kE e) j) := (bl9 (k := k) (show j = 3 by omega) (by omega) (by omega) (by with_reducible assumption)); rw [e2, ao9 (ars := ars) (pc := pc) (vs := vs) (bd := bd) (e := e) (k := k) (by omega) (by omega) (by with_reducible assumption)] <;> rfl)
     · refine wp_skip (b7 (wp_seq (wp_block (W5 G (D6 (s7 7 [50] (a77 ((e.kids.getD 0 bE8).kind) ((e.kids.getD 0 bE8).value) ((e.kids.getD 0 bE8).kids) ((j : Int) + 1)) (s7 11 [] (K3 ((j : Int) + 1)) (s7 12 [98] (as3 e.value 1 ((j : Int) + 1) ([])) (s7 14 [] (aj4 (((xE ars pc vs bd e k).fst.fst.length : Int))) (s7 16 [130] (ac3 11 ([b5.mk 9 0 (R7 (at5 e) ((j : Int) + 1)).kids] ++ ([b5.mk 3 e.value [b5.mk 1 ((j : Int) + 1) []]] ++ ([b5.mk 2 ((xE ars pc vs bd e k).fst.fst.length : Int) []] ++ [])))) (s7 17 [8, 1, 9, 130] (S5 ((xE ars pc vs bd e k).fst.fst ++ [m6 (aL1 e ars pc vs bd k) pc]) ars ((xE ars pc vs bd e k).fst.snd ++ rdL ((xE ars pc vs bd e k).fst.fst.length : Int) e.value (kE e) j) (((xE ars pc vs bd e k).fst.fst.length : Int)) 11 0 ([b5.mk 9 0 (R7 (at5 e) ((j : Int) + 1)).kids] ++ ([b5.mk 3 e.value [b5.mk 1 ((j : Int) + 1) []]] ++ ([b5.mk 2 ((xE ars pc vs bd e k).fst.fst.length : Int) []] ++ []))) (by simp only [bF2, bF0, bF5, W4]; omega)) D5)))))) fz []) [0, 0, 0, 4, 12, 28, 0, 124, 0, 256, 0, 1276, 4092, 0, 16380, 32764, 65532, 131071, 262143] [0, 1, 2, 3, 4, 5, 6, 7, 8, 146] [.dead, dI ars, .dead, dE e.kids, ag2, .box (eL e 3), X2, U1, aA4 e ars pc vs bd k, .row 106 (D.stmts ((xE ars pc vs bd e k).fst.snd ++ rdL ((xE ars pc vs bd e k).fst.fst.length : Int) e.value (kE e) j ++ [M4 ((xE ars pc vs bd e k).fst.fst.length : Int) (b5.mk 11 0 ([b5.mk 9 0 (R7 (at5 e) ((j : Int) + 1)).kids] ++ ([b5.mk 3 e.value [b5.mk 1 ((j : Int) + 1) []]] ++ ([b5.mk 2 ((xE ars pc vs bd e k).fst.fst.length : Int) []] ++ []))))]))] (I4 [(11, iA ((xE ars pc vs bd e k).fst.fst.length : Int)), (12, iA ((j : Int) + 1))]) (iX 0 0 e.kids.length []) (iK (by have := aa4 he (by omega); omega) bF3) fun G => B5 (b7 (N8 G l9 [(12, iA ((j : Int) + 1 + 1))] [wO ((j : Int) + 1 + 1)] (o1 (by omega)) fun G => b7 ?_)))))); exact rxn G (j + 1) (by have := aa4 he (by omega); omega) (by have := aa4 he (by omega); omega) (rg 10) (by have e1 : ((xE ars pc vs bd e k).fst.snd ++ rdL ((xE ars pc vs bd e k).fst.fst.length : Int) e.value (kE e) (j + 1) : List b6) = ((xE ars pc vs bd e k).fst.snd ++ rdL ((xE ars pc vs bd e k).fst.fst.length : Int) e.value (kE e) j ++ [M4 ((xE ars pc vs bd e k).fst.fst.length : Int) (b5.mk 11 0 ([b5.mk 9 0 (R7 (s6 (e.kids.getD 0 bE8)) ((j : Int) + 1)).kids] ++ ([b5.mk 3 e.value [b5.mk 1 ((j : Int) + 1) []]] ++ ([b5.mk 2 ((xE ars pc vs bd e k).fst.fst.length : Int) []] ++ []))))]) := bz2; (first | rw [e1] | simp only [e1]) <;> rfl)
    · have q2 : ((l6 (k8 (xE ars pc vs bd e k).fst.fst ars 5 (s6 (e.kids.getD 0 bE8)))) = false) ∨ (¬ (k8 (xE ars pc vs bd e k).fst.fst ars 5 (s6 (e.kids.getD 0 bE8)) % 2 = 1)) := (fun hq => Or.imp (fun hq => (hq)) (fun hq => of_decide_eq_false hq) (bH3.1 hq)) (Eq.mp (bF9 _) h2); refine rT G _ h2 (wp_seq (ab9 G l9 [0, 0, 1, 7] [0, 1, 2, 3, 4, 5, 6, 7, 9, 10, 11] (.dead :: dI ars :: .dead :: dE e.kids :: ag2 :: .box (eL e 3) :: ag2 :: .box (eL e 10) :: (al7 e ars pc vs bd k [.row 104 (D.exprs (xE ars pc vs bd e k).snd)])) ((2, iA pc) :: (I4 [])) fun G => b7 (wp_ret (t9 ?_)))); obtain ⟨ρ, G⟩ := G.frz [.no, .no, .no, .no, .no, .no, .no, .no, .no, .no, .row 104] (.dead :: dI ars :: .dead :: dE e.kids :: .box [.ref 8, .ref 1, .v (.slice none 0 0), .ref 9] :: .box (eL e 3) :: .box [.ref 8, .ref 1, .v (.slice none 0 0), .ref 9] :: .box (eL e 10) :: (al7 e ars pc vs bd k [dE (xE ars pc vs bd e k).snd])) ((2, iA pc) :: (I4 [])); exact rxv (.tup [.agg [.ref 8, .ref 1, .v (.slice none 0 0), .ref 9], eA e 10]) G [0, 1, 2, 3, 8, 9, 10] (by have e1 : ((b8 ars pc e (vs, bd)).snd.kind : Int) = (e.kind) := (by rw [ax5 (ars := ars) (pc := pc) (vs := vs) (bd := bd) (e := e) (k := k) (by omega) (by with_reducible assumption)]; rfl); have e2 : ((b8 ars pc e (vs, bd)).snd.value : Int) = (e.value) := (by rw [ax5 (ars := ars) (pc := pc) (vs := vs) (bd := bd) (e := e) (k := k) (by omega) (by with_reducible assumption)]; rfl); (first | rw [e1, e2] | simp only [e1, e2]) <;> rfl) (by show _ = mR [0, 1, 2, 3, 8, 9, 10] (at4 e ars pc vs bd); unfold at4; rw [ax5 (ars := ars) (pc := pc) (vs := vs) (bd := bd) (e := e) (k := k) (by omega) (by with_reducible assumption)] <;> rfl)
   · have q1 := bne_iff_ne.1 h1; refine a02 G (hhF (fc h1 fz) (us [(4, 12, 0), (1013, 1013, 0)])) [0, 1, 3, 7, 15, 31, 15, 79, 207, 463, 1023, 2047, 4095, 8191] [(56, bA true)] fun G => b7 (rT G true (by kernel_rfl) (wp_seq (ab9 G l9 [0, 0, 1, 7] [0, 1, 2, 3, 4, 5, 6, 7, 9, 10, 11] (.dead :: dI ars :: .dead :: dE e.kids :: ag2 :: .box (eL e 3) :: ag2 :: .box (eL e 10) :: (al7 e ars pc vs bd k [.row 104 (D.exprs (xE ars pc vs bd e k).snd)])) ((2, iA pc) :: (I4 [])) fun G => b7 (wp_ret (t9 ?_))))); obtain ⟨ρ, G⟩ := G.frz [.no, .no, .no, .no, .no, .no, .no, .no, .no, .no, .row 104] (.dead :: dI ars :: .dead :: dE e.kids :: .box [.ref 8, .ref 1, .v (.slice none 0 0), .ref 9] :: .box (eL e 3) :: .box [.ref 8, .ref 1, .v (.slice none 0 0), .ref 9] :: .box (eL e 10) :: (al7 e ars pc vs bd k [dE (xE ars pc vs bd e k).snd])) ((2, iA pc) :: (I4 [])); exact rxv (.tup [.agg [.ref 8, .ref 1, .v (.slice none 0 0), .ref 9], eA e 10]) G [0, 1, 2, 3, 8, 9, 10] (by have e1 : ((b8 ars pc e (vs, bd)).snd.kind : Int) = (e.kind) := (by rw [ai2 (ars := ars) (pc := pc) (vs := vs) (bd := bd) (e := e) (k := k) (by omega) (by omega)]; rfl); have e2 : ((b8 ars pc e (vs, bd)).snd.value : Int) = (e.value) := (by rw [ai2 (ars := ars) (pc := pc) (vs := vs) (bd := bd) (e := e) (k := k) (by omega) (by omega)]; rfl); (first | rw [e1, e2] | simp only [e1, e2]) <;> rfl) (by show _ = mR [0, 1, 2, 3, 8, 9, 10] (at4 e ars pc vs bd); unfold at4; rw [ai2 (ars := ars) (pc := pc) (vs := vs) (bd := bd) (e := e) (k := k) (by omega) (by omega)] <;> rfl)
  · refine wp_skip (b7 (wp_seq (wp_block (wp_seq (t2 G l9 [0, 1, 2, 3, 4, 5, 6, 7, 8, 9, 10, 11, 20] (az7 e ars (X2 :: U1 :: .box (eL e 11) :: (al7 e ars pc vs bd k [.row 104 (D.exprs (xE ars pc vs bd e k).snd), U1]))) ((2, iA pc) :: (I4 [(8, .ptr 8 0), (9, iA k), (10, .ptr 12 0)])) fun G => b7 (wp_seq (W5 G (G7 7 [9, 1, 10, 53] (ih (e.kids.getD k bE8) (ar1 (by omega)) ((xE ars pc vs bd e k).fst.fst) ((xE ars pc vs bd e k).fst.snd) (bd0 he (by omega)) (br3 he r1 (by omega)) (br2 he r2 (by omega)))) [0, 0, 2, 0, 14, 30, 0, 127, 255, 511, 511, 1023, 4095] [0, 1, 2, 3, 4, 5, 6, 7, 8, 11, 12, 69, 70, 71] [.dead, dI ars, .dead, dE e.kids, .box [.ref 11, .ref 1, .v (.slice none 0 0), .ref 12], .box (eL e 3), X2, U1, .box (eL e 9), .row 104 (D.exprs (xE ars pc vs bd e k).snd), .box (eL (am2 e ars pc vs bd k).snd 13), .row 3 (D.ints (am2 e ars pc vs bd k).fst.fst), .row 106 (D.stmts (am2 e ars pc vs bd k).fst.snd), dE (am2 e ars pc vs bd k).snd.kids] ((2, iA pc) :: (I4 [(8, .ptr 8 0), (9, iA k), (10, .ptr 10 0)])) (iX k k e.kids.length []) (iK (by omega) bF3) fun G => b7 (rA1 G l9 [0, 1, 2, 3, 4, 5, 6, 7, 8, 11, 12, 46] (az7 e ars [X2, U1, .box (eL e 11), .row 3 (D.ints (am2 e ars pc vs bd k).fst.fst), .row 106 (D.stmts (am2 e ars pc vs bd k).fst.snd), .row 104 (D.exprs ((xE ars pc vs bd e k).snd ++ ([s6 (am2 e ars pc vs bd k).snd] ++ [])))]) ((2, iA pc) :: (I4 [(8, .ptr 8 0), (9, iA k)])) (aP ((xE ars pc vs bd e k).snd.length + ([s6 (b8 ars pc (e.kids.getD k bE8) (xE ars pc vs bd e k).fst).snd] ++ []).length) 40 []) (aK (by simp only [bF2, bF0, bF5, W4]; omega) bF3) fun G => B5 (b7 (N8 G l9 [(9, iA ((k : Int) + 1))] [wO ((k : Int) + 1)] (o1 (by omega)) fun G => b7 ?_)))))))))); exact rxn G (k + 1) (by omega) (by omega) (rg 12) (by have e1 : ((xE ars pc vs bd e (k + 1)).fst.fst : List Int) = ((b8 ars pc (e.kids.getD k bE8) (xE ars pc vs bd e k).fst).fst.fst) := (bq9 (by omega)); have e2 : ((xE ars pc vs bd e (k + 1)).fst.snd : List b6) = ((b8 ars pc (e.kids.getD k bE8) (xE ars pc vs bd e k).fst).fst.snd) := (bq8 (by omega)); have e3 : ((xE ars pc vs bd e (k + 1)).snd : List b5) = ((xE ars pc vs bd e k).snd ++ ([s6 (b8 ars pc (e.kids.getD k bE8) (xE ars pc vs bd e k).fst).snd] ++ [])) := (bq7 (by omega)); (first | rw [e1, e2, e3] | simp only [e1, e2, e3]) <;> rfl)
end Go.Proofs.YthikdkjjdeehoaaGreat
