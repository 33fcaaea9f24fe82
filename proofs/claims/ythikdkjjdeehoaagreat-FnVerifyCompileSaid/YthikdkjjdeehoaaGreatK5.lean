/-
  Texts of this claim, part 5: what the functions on the way do, and plain laws. Conditions: as each statement says.
-/
import Derived.Laws.StructEq
import Derived.Test.YthikdkjjdeehoaaGreatRows
import Derived.Deep.QuietTactic
import Derived.BigQuiet
import Derived.StillTailTactics
import Derived.Deep.RegionHeld3
import Derived.WalkSpells
import Derived.Lib.SliceRun
import Derived.Deep.DeepCutAuto
import Derived.Test.YthikdkjjdeehoaaGreatK4
set_option maxRecDepth 100000
set_option maxHeartbeats 16000000
open Array renaming replicate → cb8
open Bool renaming and_eq_false_iff → cb4, and_eq_true → b85, and_eq_true_iff → cb6, not_eq_false' → ca0, not_eq_true' → b99, or_eq_true → cc4
open Inhabited renaming default → b81
open List renaming all_eq_true → b93, eq_nil_of_length_eq_zero → ca3, getD_eq_getElem?_getD → b90, getElem?_append_left → cb9, getElem?_append_right → cc9, getElem?_cons_succ → cb2, getElem?_cons_zero → b95, getElem?_eq_getElem → b89, getElem?_eq_none → cb3, getElem?_eq_some_iff → b96, getElem?_replicate → cc5, getElem_mem → ca5, length_append → b83, length_cons → b84, length_nil → b86, length_replicate → b87, length_set → b97, mem_append → ca1, mem_cons → cb7, mem_cons_of_mem → ca9, mem_cons_self → ca6, mem_of_getElem? → ca7, mem_range → cc6, mem_singleton → ca4, replicate → b82, take → b88, take_of_length_le → b98
open Nat renaming add_zero → cc8, le_refl → b94, le_trans → cb5, lt_of_lt_of_le → cd2, lt_or_ge → ca8, zero_add → cc3, zero_le → cb1
open True renaming intro → b91

namespace Go.Proofs.YthikdkjjdeehoaaGreat
set_option linter.unusedVariables false
set_option linter.unusedSimpArgs false
open Go Go.RowKit
def bnd : List Bool := b82 9 true ++ b82 5 false
def bf2 (r : List Bool) : Prop := r.length = 14 ∧ ∀ k : Nat, 9 ≤ k → r.getD k false = false
theorem G5 : bf2 bnd := by
 refine ⟨rfl, fun k hk => ?_⟩
 rcases ca8 k 14 with h | h
 ·have : k = 9 ∨ k = 10 ∨ k = 11 ∨ k = 12 ∨ k = 13 := by omega
  rcases this with rfl | rfl | rfl | rfl | rfl <;> rfl
 ·rw [b90, cb3 (by simpa [bnd] using h)]; rfl
theorem aF2 {r : List Bool} (h : bf2 r) : aw2 r bnd = true := by
 refine (L4 _ _).2 ⟨by decide, fun k hk => ?_⟩
 have h9 : k < 9 := by
  rcases ca8 k 9 with h1 | h1
  ·exact h1
  ·rw [h.2 k h1] at hk; cases hk
 have : k = 0 ∨ k = 1 ∨ k = 2 ∨ k = 3 ∨ k = 4 ∨ k = 5 ∨ k = 6 ∨ k = 7 ∨ k = 8 := by omega
 rcases this with rfl | rfl | rfl | rfl | rfl | rfl | rfl | rfl | rfl <;> rfl
mutual
def rwS (c : i8) : b5 → List (List Bool)
 | ⟨k, t, i, v, _, b, e⟩ =>
  if k = 4 then bnd :: (rwB c b ++ [bnd])
  else if k = 1 then aJ9 c (b6 v 0 ++ [⟨3, t, 0, 0, 0⟩]) bnd
  else if k = 5 then aJ9 c (b6 v 0 ++ [⟨11, 0, 0, 0, 0⟩, ⟨3, t, 0, 0, 0⟩]) bnd
  else if k = 2 then aJ9 c (b6 v 0 ++ b6 i 1 ++ [⟨5, t, 1, 0, 0⟩]) bnd
  else aJ9 c (b6 v 0) bnd ++ A0 c (b6 v 0) bnd :: (rwB c b ++ bnd :: rwB c e)
def rwB (c : i8) : List b5 → List (List Bool)
 | [] => []
 | s :: r => rwS c s ++ rwB c r
end
mutual
theorem aX2 (c : i8) : ∀ s : b5, (rwS c s).length = ad1 s
 | ⟨k, t, i, v, n, b, e⟩ => by
  rw [rwS, ad1]
  split
  ·simp only [b84, b83, b86, af7 c b]; omega
  ·split
   ·simp only [ad8, b84, b83, b86]
   ·split
    ·simp only [ad8, b84, b83, b86]
    ·split
     ·simp only [ad8, b84, b83, b86]
     ·simp only [ad8, b84, b83, af7 c b, af7 c e]; omega
theorem af7 (c : i8) : ∀ ss : List b5, (rwB c ss).length = A6 ss
 | [] => rfl
 | s :: r => by rw [rwB, A6, b83, aX2 c s, af7 c r]
end
def Seg (c : i8) (p : List (List Bool)) (o : Nat) (xs : List d9) (rs : List (List Bool)) : Prop :=
 ∀ j : Nat, j < xs.length → F4 c (o + j) = xs.getD j b81 ∧ rowAt p ((o + j : Nat) : Int) = rs.getD j []
theorem an8 {α : Type} {a b : List α} {j : Nat} {z : α} (h : j < a.length) : (a ++ b).getD j z = a.getD j z := by
 rw [b90, b90, cb9 h]
theorem ag5 {α : Type} {a b : List α} {j : Nat} {z : α} : (a ++ b).getD (a.length + j) z = b.getD j z := by
 rw [b90, b90, cc9 (by omega), Nat.add_sub_cancel_left]
theorem Seg.left {c : i8} {p : List (List Bool)} {o : Nat} {a b : List d9} {ra rb : List (List Bool)} (h : Seg c p o (a ++ b) (ra ++ rb)) (hl : ra.length = a.length) : Seg c p o a ra := fun j hj => by
 have := h j (by rw [b83]; omega)
 rwa [an8 hj, an8 (by omega)] at this
theorem Seg.right {c : i8} {p : List (List Bool)} {o : Nat} {a b : List d9} {ra rb : List (List Bool)} (h : Seg c p o (a ++ b) (ra ++ rb)) (hl : ra.length = a.length) : Seg c p (o + a.length) b rb := fun j hj => by
 have := h (a.length + j) (by rw [b83]; omega)
 rw [ag5, show a.length + j = ra.length + j by omega, ag5, hl] at this
 rwa [← Nat.add_assoc] at this
theorem Seg.one {c : i8} {p : List (List Bool)} {o : Nat} {x : d9} {xs : List d9} {r : List Bool} {rs : List (List Bool)} (h : Seg c p o (x :: xs) (r :: rs)) : F4 c o = x ∧ rowAt p (o : Int) = r := by
 have := h 0 (by simp)
 simpa using this
theorem Seg.tail {c : i8} {p : List (List Bool)} {o : Nat} {x : d9} {xs : List d9} {r : List Bool} {rs : List (List Bool)} (h : Seg c p o (x :: xs) (r :: rs)) : Seg c p (o + 1) xs rs := fun j hj => by
 have := h (j + 1) (by simpa using hj)
 simp only [List.getD_cons_succ] at this
 rwa [show o + (j + 1) = o + 1 + j by omega] at this
def GdX (c : i8) (p : List (List Bool)) (i : Nat) : Prop :=
 (rowAt p (i : Int)).length = 14 ∧ O8 c (F4 c i) (rowAt p (i : Int)) = 0 ∧ ∀ t ∈ ap5 (F4 c i) (i : Int), aw2 (w6 c (F4 c i) (rowAt p (i : Int))) (rowAt p t) = true
theorem aL0 {x : d9} {i : Int} (h : x.op ≠ 8 ∧ x.op ≠ 9 ∧ x.op ≠ 10 ∧ x.op ≠ 13) : ap5 x i = [i + 1] := by
 unfold ap5
 rw [if_neg h.2.2.2, if_neg h.1, if_neg (by omega)]
theorem aI7 {c : i8} {p : List (List Bool)} : ∀ (xs : List d9) (r : List Bool) (o : Nat), Seg c p o xs (aJ9 c xs r) → r.length = 14 → (∀ x ∈ xs, x.op ≠ 8 ∧ x.op ≠ 9 ∧ x.op ≠ 10 ∧ x.op ≠ 13) → av6 c xs r →
  aw2 (A0 c xs r) (rowAt p ((o + xs.length : Nat) : Int)) = true → ∀ j : Nat, j < xs.length → GdX c p (o + j)
 | [], _, _, _, _, _, _, _, j, hj => by simp at hj
 | x :: t, r, o, hs, hr, hop, hf, he, j, hj => by
  have h1 := hs.one
  cases j with
  | zero =>
   rw [cc8]
   unfold GdX
   rw [h1.1, h1.2, aL0 (hop x ca6)]
   refine ⟨hr, hf.1, fun y hy => ?_⟩
   rw [ca4] at hy
   subst hy
   rw [show (o : Int) + 1 = ((o + 1 : Nat) : Int) by omega]
   cases t with
   | nil => exact he
   | cons x2 t2 =>
    have h2 := hs.tail.one
    rw [h2.2]
    exact (L4 _ _).2 ⟨by rw [P4]; omega, rle.refl _⟩
  | succ j =>
   simp only [b84] at hj
   have := aI7 t (w6 c x r) (o + 1) hs.tail (by rw [P4]; exact hr) (fun y hy => hop y (ca9 _ hy)) hf.2 (by rw [show o + 1 + t.length = o + (x :: t).length by simp only [b84]; omega]; exact he) j (by omega)
   rwa [show o + 1 + j = o + (j + 1) by omega] at this
theorem al2 {c : i8} {xs : List d9} {t : List Bool} {reg : Int} (h : Eff c xs t reg) (ht : bf2 t) : bf2 (A0 c xs t) := by
 refine ⟨by rw [al8]; exact ht.1, fun k hk => ?_⟩
 rw [h.keep k (.inr hk)]; exact ht.2 k hk
theorem aJ8 {c : i8} {xs : List d9} {r : List Bool} (h : xs ≠ []) : (aJ9 c xs r).getD 0 [] = r := by
 cases xs with
 | nil => exact absurd rfl h
 | cons x t => rfl
theorem bE0 {x y pc : Int} (hx : i5 x = true) (hp : i5 pc = true) (h : flB (r8 x pc) y = true) (hs : scB x = true) : scB y = true := by
 have hy : i5 y = true := by unfold flB at h; simp only [b85] at h; exact h.1.2
 unfold i5 at hx hp hy
 simp only [b85, decide_eq_true_eq] at hx hp hy
 have h1 : x = 0 ∨ x = 1 ∨ x = 2 ∨ x = 3 := by omega
 have h2 : y = 0 ∨ y = 1 ∨ y = 2 ∨ y = 3 := by omega
 have h3 : pc = 0 ∨ pc = 1 ∨ pc = 2 ∨ pc = 3 := by omega
 rcases h1 with rfl | rfl | rfl | rfl <;> rcases h2 with rfl | rfl | rfl | rfl <;> rcases h3 with rfl | rfl | rfl | rfl <;> revert h hs <;> decide +kernel
theorem bl8 {c : i8} {t : Int} {r : List Bool} (h : bAt r 0 = true → scB (iAt c.vars t) = true) : O8 c ⟨3, t, 0, 0, 0⟩ r = 0 := by
 show (if (bAt r 0 && !scB (iAt c.vars t)) = true then (1 : Int) else 0) = 0
 cases hb : bAt r 0
 ·rfl
 ·rw [h hb]; rfl
theorem br5 {c : i8} {t : Int} {r : List Bool} (h1 : bAt r 1 = false) (h : bAt r 0 = true → scB (iAt c.arrays t) = true) : O8 c ⟨5, t, 1, 0, 0⟩ r = 0 := by
 show (if bAt r 1 = true then (4 : Int) else if (bAt r 0 && !scB (iAt c.arrays t)) = true then 1 else 0) = 0
 rw [h1]
 cases hb : bAt r 0
 ·rfl
 ·rw [h hb]; rfl
theorem bm8 {r : List Bool} {k : Nat} (h : bf2 r) : bf2 (r.set k false) := by
 refine ⟨by rw [b97]; exact h.1, fun j hj => ?_⟩
 rw [aa2]
 split
 ·rfl
 ·exact h.2 j hj
theorem aN5 {c : i8} {p : List (List Bool)} {o : Nat} {xs : List d9} {E : List Bool} (hs : Seg c p o xs (aJ9 c xs bnd)) (hop : ∀ x ∈ xs, x.op ≠ 8 ∧ x.op ≠ 9 ∧ x.op ≠ 10 ∧ x.op ≠ 13) (hf : av6 c xs bnd) (hE : A0 c xs bnd = E) (hl : bf2 E)
  (hr : rowAt p ((o + xs.length : Nat) : Int) = bnd) (hne : xs ≠ []) : rowAt p (o : Int) = bnd ∧ ∀ j : Nat, j < xs.length → GdX c p (o + j) := by
 refine ⟨?_, aI7 xs bnd o hs G5.1 hop hf (by rw [hE, hr]; exact aF2 hl)⟩
 have h0 : 0 < xs.length := by cases xs with | nil => exact absurd rfl hne | cons _ _ => simp
 have := (hs 0 h0).2
 rwa [aJ8 hne, cc8] at this
theorem bH4 {c : i8} {p : List (List Bool)} {n : Nat} {d pc : Int} (ih : ∀ (s : b5) (o : Nat), i9 c.vars.length c.arrays.length n s = true → cdS c.vars c.arrays true n pc s = 0 → Seg c p o (aZ3 s d o) (rwS c s) → rowAt p ((o + ad1 s : Nat) : Int) = bnd → rowAt p (o : Int) = bnd ∧ ∀ j : Nat, j < ad1 s → GdX c p (o + j)) :
  ∀ (ss : List b5) (o : Nat), ss.all (i9 c.vars.length c.arrays.length n) = true → (∀ s ∈ ss, cdS c.vars c.arrays true n pc s = 0) → Seg c p o (Y0 ss d o) (rwB c ss) → rowAt p ((o + A6 ss : Nat) : Int) = bnd → rowAt p (o : Int) = bnd ∧ ∀ j : Nat, j < A6 ss → GdX c p (o + j)
 | [], o, _, _, _, h => ⟨by simpa [A6] using h, fun j hj => by simp [A6] at hj⟩
 | s :: r, o, h1, h2, h3, h4 => by
  simp only [List.all_cons, b85] at h1
  rw [Y0, rwB] at h3
  rw [A6] at h4 ⊢
  have hl : (rwS c s).length = (aZ3 s d o).length := by rw [aX2, al6]
  have hr := h3.right hl
  rw [al6] at hr
  obtain ⟨b1, b2⟩ := bH4 ih r (o + ad1 s) h1.2 (fun x hx => h2 x (ca9 _ hx)) hr (by rw [Nat.add_assoc]; exact h4)
  obtain ⟨a1, a2⟩ := ih s o h1.1 (h2 s ca6) (h3.left hl) b1
  refine ⟨a1, fun j hj => ?_⟩
  rcases ca8 j (ad1 s) with hj1 | hj1
  ·exact a2 j hj1
  ·have := b2 (j - ad1 s) (by omega)
   rwa [show o + ad1 s + (j - ad1 s) = o + j by omega] at this
theorem bL7 {vs ars : List Int} {s : b5} {pc : Int} (h : O7 ⟨vs, ars, []⟩ s pc true = 0) : L0 ⟨vs, ars, []⟩ s pc = 0 ∧ ab6 ⟨vs, ars, []⟩ s = 0 := by
 unfold O7 at h
 split at h
 ·rename_i h0
  exact ⟨h0, by simpa using h⟩
 ·rename_i h0; exact absurd h h0
theorem bf3 {vs ars : List Int} {k t c : Int} {i v : d7} {b e : List b5} (h : ab6 ⟨vs, ars, []⟩ ⟨k, t, i, v, c, b, e⟩ = 0) : (k = 3 → scB (n5 vs ars 5 v) = false) ∧ (k ≠ 4 → v7 vs ars 5 v = false) ∧ (k = 2 → scB (n5 vs ars 5 i) = false) := by
 have h : (if k = 3 ∧ aD0 (n5 vs ars 5 v) = true then (3 : Int) else if (k ≠ 4 ∧ v7 vs ars 5 v = true) ∨ (k = 2 ∧ aD0 (n5 vs ars 5 i) = true) then 4 else 0) = 0 := h
 have hs : ∀ l, aD0 l = scB l := bl3
 rw [hs, hs] at h
 split at h
 ·cases h
 ·rename_i n1
  split at h
  ·cases h
  ·rename_i n2
   refine ⟨fun hk => ?_, fun hk => ?_, fun hk => ?_⟩
   ·cases hq : scB (n5 vs ars 5 v)
    ·rfl
    ·exact absurd ⟨hk, hq⟩ n1
   ·cases hq : v7 vs ars 5 v
    ·rfl
    ·exact absurd (.inl ⟨hk, hq⟩) n2
   ·cases hq : scB (n5 vs ars 5 i)
    ·rfl
    ·exact absurd (.inr ⟨hk, hq⟩) n2
theorem bg2 {vs ars : List Int} {k t c pc : Int} {i v : d7} {b e : List b5} (h : L0 ⟨vs, ars, []⟩ ⟨k, t, i, v, c, b, e⟩ pc = 0) : (k = 1 → flB (r8 (n5 vs ars 5 v) pc) (iAt vs t) = true) ∧ (k = 2 → flB (r8 (r8 (n5 vs ars 5 v) (n5 vs ars 5 i)) pc) (iAt ars t) = true) := by
 have h : (if k = 1 then (if flB (r8 (n5 vs ars 5 v) pc) (vs.getD t.toNat 0) = true then (0 : Int) else 1)
  else if k = 2 then (if flB (r8 (r8 (n5 vs ars 5 v) (n5 vs ars 5 i)) pc) (ars.getD t.toNat 0) = true then 0 else 1)
  else if k = 5 then (if ((i5 (n5 vs ars 5 v) && decide (n5 vs ars 5 v ≤ 1)) && decide (pc = 0)) = true then 0 else 2)
  else 0) = 0 := h
 refine ⟨fun hk => ?_, fun hk => ?_⟩
 ·rw [if_pos hk] at h
  split at h
  ·assumption
  ·cases h
 ·rw [if_neg (by omega), if_pos hk] at h
  split at h
  ·assumption
  ·cases h
theorem bH6 {nv na : Nat} {e : d7} (h : l0 nv na e = true) (ha : F6 e = true) : m6 nv na 1 e = true ∧ e.kids = [] := by
 unfold l0 at h
 rw [b85] at h
 obtain ⟨k, v, ks⟩ := e
 have h1 := h.1
 rw [m6, b85, b85] at h1
 obtain ⟨q1, _, _, _⟩ := aj7 h.1
 have ha : (decide (k = 1) || decide (k = 2)) = true := ha
 simp only [cc4, decide_eq_true_eq] at ha
 have : o0 k = 0 := by unfold o0; rw [if_pos ha]
 have hk : ks = [] := ca3 (by omega)
 subst hk
 refine ⟨?_, rfl⟩
 rw [m6, h1.1.1, h1.2]; rfl
theorem bC3 {vs ars : List Int} {e : d7} (h : e.kids = []) (m n : Nat) : n5 vs ars (m + 1) e = n5 vs ars (n + 1) e := by
 simp only [n5, h, List.foldl_nil]
theorem by3 {vs ars : List Int} {e : d7} (h : e.kids = []) (ha : F6 e = true) (n : Nat) : v7 vs ars (n + 1) e = false := by
 unfold F6 at ha
 simp only [cc4, decide_eq_true_eq] at ha
 exact by5 (by rw [h]; rfl) (by omega)
theorem bq7 {nv na n : Nat} {k t c : Int} {i v : d7} {b e : List b5} (h : i9 nv na (n + 1) ⟨k, t, i, v, c, b, e⟩ = true) (hk : k = 2) : F6 i = true := by
  rw [i9, b85] at h
  obtain ⟨_, h⟩ := h
  have h : (if k = 1 ∨ k = 5 then decide (0 ≤ t) && decide (t < nv) && l0 nv na v
     else if k = 2 then decide (0 ≤ t) && decide (t < na) && l0 nv na i && F6 i && l0 nv na v
     else if k = 3 then l0 nv na v && b.all (i9 nv na n) && e.all (i9 nv na n)
     else if k = 4 then b.all (i9 nv na n)
     else false) = true := h
  rw [if_neg (by omega), if_pos hk] at h
  simp only [b85] at h
  exact h.1.2
theorem bc0 {nv na n : Nat} {k t c : Int} {i v : d7} {b e : List b5} (h : i9 nv na (n + 1) ⟨k, t, i, v, c, b, e⟩ = true) (h4 : ¬ k = 4) (h1 : ¬ k = 1) (h5 : ¬ k = 5) (h2 : ¬ k = 2) : k = 3 := by
  rw [i9, b85] at h
  obtain ⟨_, h⟩ := h
  have h : (if k = 1 ∨ k = 5 then decide (0 ≤ t) && decide (t < nv) && l0 nv na v
     else if k = 2 then decide (0 ≤ t) && decide (t < na) && l0 nv na i && F6 i && l0 nv na v
     else if k = 3 then l0 nv na v && b.all (i9 nv na n) && e.all (i9 nv na n)
     else if k = 4 then b.all (i9 nv na n)
     else false) = true := h
  rw [if_neg (by omega), if_neg h2] at h
  split at h
  · assumption
  · cases h
theorem bz7 {nv na : Nat} {e : d7} (h : l0 nv na e = true) : m6 nv na 5 e = true := by
 unfold l0 at h; rw [b85] at h; exact h.1
theorem bP3 {k : Int} (h : 9 ≤ k) : bAt bnd k = false := by
 obtain ⟨m, rfl⟩ := Int.eq_ofNat_of_zero_le (show 0 ≤ k by omega)
 rw [a09]; exact G5.2 m (by omega)
theorem aw1 {r : List Bool} (h : r.length = 14) : aw2 r r = true := (L4 _ _).2 ⟨by omega, rle.refl _⟩
theorem aF0 {a b : List d9} (h : ∀ x ∈ a, x.op ≠ 8 ∧ x.op ≠ 9 ∧ x.op ≠ 10 ∧ x.op ≠ 13) (k : ∀ x ∈ b, x.op ≠ 8 ∧ x.op ≠ 9 ∧ x.op ≠ 10 ∧ x.op ≠ 13) : ∀ x ∈ a ++ b, x.op ≠ 8 ∧ x.op ≠ 9 ∧ x.op ≠ 10 ∧ x.op ≠ 13 := by
 intro x hx
 rcases ca1.1 hx with hx | hx
 ·exact h x hx
 ·exact k x hx
theorem aE9 {x : d9} (h : x.op ≠ 8 ∧ x.op ≠ 9 ∧ x.op ≠ 10 ∧ x.op ≠ 13) : ∀ y ∈ [x], y.op ≠ 8 ∧ y.op ≠ 9 ∧ y.op ≠ 10 ∧ y.op ≠ 13 := by
 intro y hy; rw [ca4] at hy; subst hy; exact h
theorem bX8 {c : i8} {p : List (List Bool)} (hv : ∀ k : Nat, i5 (c.vars.getD k 0) = true) (ha : ∀ k : Nat, i5 (c.arrays.getD k 0) = true) :
  ∀ (n : Nat) (d pc : Int) (s : b5) (o : Nat), i5 pc = true → 0 ≤ d → d + n ≤ 5 → i9 c.vars.length c.arrays.length n s = true → cdS c.vars c.arrays true n pc s = 0 → Seg c p o (aZ3 s d o) (rwS c s) → rowAt p ((o + ad1 s : Nat) : Int) = bnd →
  rowAt p (o : Int) = bnd ∧ ∀ j : Nat, j < ad1 s → GdX c p (o + j) := by
 intro n
 induction n with
 | zero => intro d pc s o _ _ _ h; simp [i9] at h
 | succ n ih =>
  intro d pc s o hpc h0 h1 hst hcd hseg hend
  obtain ⟨k, t, i, v, cn, b, e⟩ := s
  have hlen := al6 ⟨k, t, i, v, cn, b, e⟩ d o
  have hrlen := aX2 c ⟨k, t, i, v, cn, b, e⟩
  obtain ⟨p4, p1, p2, p3⟩ := aI8 hst
  obtain ⟨w1, w2, w3⟩ := bF7.1 hcd
  obtain ⟨hf, hlk⟩ := bL7 w1
  obtain ⟨l3, l4, l2⟩ := bf3 hlk
  obtain ⟨f1, f2⟩ := bg2 hf
  have hin : i5 (I5 ⟨c.vars, c.arrays, []⟩ ⟨k, t, i, v, cn, b, e⟩ pc) = true := by
   show i5 (if k = 3 then r8 pc (n5 c.vars c.arrays 5 v) else pc) = true
   split
   ·exact (bc7 hpc (an3 hv ha 5 v)).2
   ·exact hpc
  generalize I5 ⟨c.vars, c.arrays, []⟩ ⟨k, t, i, v, cn, b, e⟩ pc = pc2 at w2 w3 hin
  have w2 : ∀ s ∈ b, cdS c.vars c.arrays true n pc2 s = 0 := w2
  have w3 : ∀ s ∈ e, cdS c.vars c.arrays true n pc2 s = 0 := w3
  have ihb := fun (o : Nat) (ss : List b5) => bH4 (c := c) (p := p) (n := n) (d := d + 1) (pc := pc2) (fun s o q1 q2 q3 q4 => ih (d + 1) pc2 s o hin (by omega) (by omega) q1 q2 q3 q4) ss o
  rw [aZ3] at hseg hlen
  rw [rwS] at hseg hrlen
  rw [ad1] at hend hlen hrlen ⊢
  have hexp : k ≠ 4 → l0 c.vars.length c.arrays.length v = true → Eff c (b6 v 0) bnd 0 ∧ (bAt (A0 c (b6 v 0) bnd) 0 = true → scB (n5 c.vars c.arrays 5 v) = true) := fun hk hr =>
   az6 hv ha 5 v 0 bnd (bz7 hr) (l4 hk) (by omega) (by omega) G5.1
  by_cases k4 : k = 4
  ·simp only [if_pos k4] at hseg hlen hrlen hend ⊢
   obtain ⟨_, _, hb⟩ := p4 k4
   have s0 := hseg.one
   have hl : (rwB c b).length = (Y0 b (d + 1) (o + 1)).length := by rw [af7, H1]
   have sb := hseg.tail.left hl
   have sl := (hseg.tail.right hl).one
   rw [H1] at sl
   obtain ⟨b1, b2⟩ := ihb (o + 1) b hb w2 sb sl.2
   refine ⟨s0.2, fun j hj => ?_⟩
   by_cases j0 : j = 0
   ·subst j0
    rw [cc8]
    unfold GdX
    rw [s0.1, s0.2]
    refine ⟨G5.1, rfl, fun y hy => ?_⟩
    rw [aL0 bZ4, ca4] at hy
    subst hy
    rw [show (o : Int) + 1 = ((o + 1 : Nat) : Int) by omega, b1]
    exact aF2 (bm8 G5)
   ·by_cases jl : j < 1 + A6 b
    ·have := b2 (j - 1) (by omega)
     rwa [show o + 1 + (j - 1) = o + j by omega] at this
    ·have je : o + j = o + 1 + A6 b := by omega
     rw [je]
     unfold GdX
     rw [sl.1, sl.2]
     refine ⟨G5.1, ?_, fun y hy => ?_⟩
     ·show (if bAt bnd (9 + d) = true then (3 : Int) else 0) = 0
      rw [bP3 (by omega)]; rfl
     ·have hy : y ∈ [((o + 1 + A6 b : Nat) : Int) + 1, ((o + 1 : Nat) : Int)] := hy
      simp only [cb7, List.not_mem_nil, or_false] at hy
      show aw2 bnd (rowAt p y) = true
      rcases hy with rfl | rfl
      ·rw [show ((o + 1 + A6 b : Nat) : Int) + 1 = ((o + (2 + A6 b) : Nat) : Int) by omega, hend]; exact aw1 G5.1
      ·rw [b1]; exact aw1 G5.1
  ·simp only [if_neg k4] at hseg hlen hrlen hend ⊢
   by_cases k1 : k = 1
   ·simp only [if_pos k1] at hseg hlen hrlen hend ⊢
    obtain ⟨_, hr⟩ := p1 (.inl k1)
    obtain ⟨e1, e2⟩ := hexp k4 hr
    have hput : O8 c ⟨3, t, 0, 0, 0⟩ (A0 c (b6 v 0) bnd) = 0 := bl8 fun hb => bE0 (an3 hv ha 5 v) hpc (f1 k1) (e2 hb)
    have := aN5 hseg (aF0 e1.ops (aE9 bZ2)) ((ae6 _ _ _ _).2 ⟨e1.fine, hput, b91⟩) (E := A0 c (b6 v 0) bnd) (by rw [L3]; rfl) (al2 e1 G5) (by rw [hlen]; exact hend) (by simp)
    rwa [hlen] at this
   ·simp only [if_neg k1] at hseg hlen hrlen hend ⊢
    by_cases k5 : k = 5
    ·simp only [if_pos k5] at hseg hlen hrlen hend ⊢
     obtain ⟨_, hr⟩ := p1 (.inr k5)
     obtain ⟨e1, e2⟩ := hexp k4 hr
     have hset : w6 c ⟨11, 0, 0, 0, 0⟩ (A0 c (b6 v 0) bnd) = (A0 c (b6 v 0) bnd).set 0 false := rfl
     have hb0 : bAt ((A0 c (b6 v 0) bnd).set 0 false) 0 = false := by
      unfold bAt
      rw [aa2, if_pos ⟨rfl, by rw [al8]; decide⟩]
     have hput : O8 c ⟨3, t, 0, 0, 0⟩ ((A0 c (b6 v 0) bnd).set 0 false) = 0 := bl8 fun hb => by rw [hb0] at hb; cases hb
     have := aN5 hseg (show ∀ x ∈ b6 v 0 ++ [⟨11, 0, 0, 0, 0⟩, ⟨3, t, 0, 0, 0⟩], x.op ≠ 8 ∧ x.op ≠ 9 ∧ x.op ≠ 10 ∧ x.op ≠ 13 from aF0 e1.ops (aF0 (a := [⟨11, 0, 0, 0, 0⟩]) (b := [⟨3, t, 0, 0, 0⟩]) (aE9 bZ3) (aE9 bZ2))) ((ae6 _ _ _ _).2 ⟨e1.fine, rfl, hput, b91⟩) (E := (A0 c (b6 v 0) bnd).set 0 false) (by rw [L3]; rfl) (bm8 (al2 e1 G5)) (by rw [hlen]; exact hend) (by simp)
     rwa [hlen] at this
    ·simp only [if_neg k5] at hseg hlen hrlen hend ⊢
     by_cases k2 : k = 2
     ·simp only [if_pos k2] at hseg hlen hrlen hend ⊢
      obtain ⟨_, hri, hr⟩ := p2 k2
      obtain ⟨e1, e2⟩ := hexp k4 hr
      have hat := bq7 hst k2
      obtain ⟨hs1, hk0⟩ := bH6 hri hat
      have hE := al2 e1 G5
      obtain ⟨g1, g2⟩ := az6 hv ha 1 i 1 (A0 c (b6 v 0) bnd) hs1 (by3 hk0 hat 0) (by omega) (by omega) hE.1
      have hl5 : n5 c.vars c.arrays 1 i = n5 c.vars c.arrays 5 i := bC3 hk0 0 4
      have hb1 : bAt (A0 c (b6 i 1) (A0 c (b6 v 0) bnd)) 1 = false := by
       cases hq : bAt (A0 c (b6 i 1) (A0 c (b6 v 0) bnd)) 1
       ·rfl
       ·have := g2 hq
        rw [hl5, l2 k2] at this; cases this
      have hb0 : bAt (A0 c (b6 i 1) (A0 c (b6 v 0) bnd)) 0 = true → scB (iAt c.arrays t) = true := fun hb => by
       have hk := g1.keep 0 (.inl (by decide))
       have hb : (A0 c (b6 i 1) (A0 c (b6 v 0) bnd)).getD 0 false = true := hb
       rw [hk] at hb
       have hsv := e2 hb
       have hor := bc7 (an3 hv ha 5 v) (an3 hv ha 5 i)
       exact bE0 hor.2 hpc (f2 k2) (by rw [hor.1, hsv]; rfl)
      have e3 := e1.app g1 (by omega)
      have hend2 : A0 c (b6 v 0 ++ b6 i 1 ++ [⟨5, t, 1, 0, 0⟩]) bnd = A0 c (b6 i 1) (A0 c (b6 v 0) bnd) := by rw [L3, L3]; rfl
      have := aN5 hseg (aF0 e3.ops (aE9 b54)) ((ae6 _ _ _ _).2 ⟨e3.fine, by rw [L3]; exact br5 hb1 hb0, b91⟩) hend2 (al2 g1 hE) (by rw [hlen]; exact hend) (by simp)
      rwa [hlen] at this
     ·simp only [if_neg k2] at hseg hlen hrlen hend ⊢
      have k3 := bc0 hst k4 k1 k5 k2
      obtain ⟨hr, hb, he⟩ := p3 k4 k1 k5 k2
      obtain ⟨e1, e2⟩ := hexp k4 hr
      have hE := al2 e1 G5
      have hz : bAt (A0 c (b6 v 0) bnd) 0 = false := by
       cases hq : bAt (A0 c (b6 v 0) bnd) 0
       ·rfl
       ·have := e2 hq
        rw [l3 k3] at this; cases this
      have lv : (aJ9 c (b6 v 0) bnd).length = (b6 v 0).length := ad8 _ _ _
      have sv := hseg.left lv
      have st := hseg.right lv
      have sz := st.one
      have lb : (rwB c b).length = (Y0 b (d + 1) (o + (b6 v 0).length + 1)).length := by rw [af7, H1]
      have sb := st.tail.left lb
      have sj0 := st.tail.right lb
      rw [H1] at sj0
      have sj := sj0.one
      have se := sj0.tail
      have hendE : rowAt p ((o + (b6 v 0).length + 1 + A6 b + 1 + A6 e : Nat) : Int) = bnd := by
       rw [show o + (b6 v 0).length + 1 + A6 b + 1 + A6 e = o + ((b6 v 0).length + 2 + A6 b + A6 e) by omega]; exact hend
      obtain ⟨be1, be2⟩ := ihb _ e he w3 se hendE
      obtain ⟨bb1, bb2⟩ := ihb _ b hb w2 sb sj.2
      have sst := aI7 (b6 v 0) bnd o sv G5.1 e1.ops e1.fine (by rw [sz.2]; exact aw1 hE.1)
      refine ⟨?_, fun j hj => ?_⟩
      ·by_cases hne : b6 v 0 = []
       ·have h1 := sz.2
        rw [hne] at h1
        simpa [A0] using h1
       ·have h0 : 0 < (b6 v 0).length := List.length_pos_iff.2 hne
        have := (sv 0 h0).2
        rwa [aJ8 hne, cc8] at this
      ·by_cases ja : j < (b6 v 0).length
       ·exact sst j ja
       ·by_cases jz : j = (b6 v 0).length
        ·subst jz
         unfold GdX
         rw [sz.1, sz.2]
         refine ⟨hE.1, ?_, fun y hy => ?_⟩
         ·show (if bAt (A0 c (b6 v 0) bnd) 0 = true then (3 : Int) else 0) = 0
          rw [hz]; rfl
         ·have hy : y ∈ [((o + (b6 v 0).length : Nat) : Int) + 1, ((o + (b6 v 0).length + 1 + A6 b + 1 : Nat) : Int)] := hy
          simp only [cb7, List.not_mem_nil, or_false] at hy
          show aw2 (A0 c (b6 v 0) bnd) (rowAt p y) = true
          rcases hy with rfl | rfl
          ·rw [show ((o + (b6 v 0).length : Nat) : Int) + 1 = ((o + (b6 v 0).length + 1 : Nat) : Int) by omega, bb1]; exact aF2 hE
          ·rw [be1]; exact aF2 hE
        ·by_cases jb : j < (b6 v 0).length + 1 + A6 b
         ·have := bb2 (j - ((b6 v 0).length + 1)) (by omega)
          rwa [show o + (b6 v 0).length + 1 + (j - ((b6 v 0).length + 1)) = o + j by omega] at this
         ·by_cases jj : j = (b6 v 0).length + 1 + A6 b
          ·rw [show o + j = o + (b6 v 0).length + 1 + A6 b by omega]
           unfold GdX
           rw [sj.1, sj.2]
           refine ⟨G5.1, rfl, fun y hy => ?_⟩
           have hy : y ∈ [((o + (b6 v 0).length + 1 + A6 b + 1 + A6 e : Nat) : Int)] := hy
           rw [ca4] at hy
           subst hy
           show aw2 bnd (rowAt p _) = true
           rw [hendE]; exact aw1 G5.1
          ·have := be2 (j - ((b6 v 0).length + 1 + A6 b + 1)) (by omega)
           rwa [show o + (b6 v 0).length + 1 + A6 b + 1 + (j - ((b6 v 0).length + 1 + A6 b + 1)) = o + j by omega] at this
theorem bq0 {xs : List Int} (h : xs.all i5 = true) (k : Nat) : i5 (xs.getD k 0) = true := by
 rw [b90]
 cases e : xs[k]? with
 | none => rfl
 | some x => exact b93.1 h x (ca7 e)
theorem bM8 (p : f7) : (J6 p).1 = Y0 p.body 0 0 ++ [⟨13, 0, 0, 0, 0⟩] := by
 unfold J6
 show (l9 p.body 0 ([], [], 0)).1 ++ _ = _
 rw [aw4]; rfl
theorem bN7 {p : f7} (hp : n4 p = true) (h : (ctR p).1 = 0) : Vf ⟨p.vars, p.arrays, (J6 p).1⟩ := by
 obtain ⟨_, _, h2⟩ := (bN6 p).1 h
 have hh := hp
 simp only [n4, S6, B6, b85, decide_eq_true_eq] at hh
 obtain ⟨⟨⟨⟨⟨⟨hv, ha⟩, _⟩, _⟩, _⟩, hb⟩, _⟩ := hh
 generalize hc : (⟨p.vars, p.arrays, (J6 p).1⟩ : i8) = c
 have c1 : c.vars = p.vars := by rw [← hc]
 have c2 : c.arrays = p.arrays := by rw [← hc]
 have c3 : c.list = Y0 p.body 0 0 ++ [⟨13, 0, 0, 0, 0⟩] := by rw [← hc]; exact bM8 p
 have gl : (Y0 p.body 0 0).length = A6 p.body := H1 _ _ _
 have rl : (rwB c p.body).length = A6 p.body := af7 _ _
 have hseg : Seg c (rwB c p.body ++ [bnd]) 0 (Y0 p.body 0 0) (rwB c p.body) := fun j hj => by
  refine ⟨?_, ?_⟩
  ·unfold F4
   rw [c3, cc3, an8 hj]
   rw [b90, b90, b89 hj]; rfl
  ·unfold rowAt
   rw [cc3, Int.toNat_natCast, an8 (by omega)]
 have hlast : rowAt (rwB c p.body ++ [bnd]) ((A6 p.body : Nat) : Int) = bnd := by
  unfold rowAt
  rw [Int.toNat_natCast]
  have := ag5 (a := rwB c p.body) (b := [bnd]) (j := 0) (z := [])
  rw [cc8, rl] at this
  exact this
 have hil : F4 c (A6 p.body) = ⟨13, 0, 0, 0, 0⟩ := by
  unfold F4
  rw [c3]
  have := ag5 (a := Y0 p.body 0 0) (b := [(⟨13, 0, 0, 0, 0⟩ : d9)]) (j := 0) (z := ⟨0, 0, 0, 0, 0⟩)
  rw [cc8, gl] at this
  exact this
 obtain ⟨g1, g2⟩ := bH4 (c := c) (p := rwB c p.body ++ [bnd]) (n := 5) (d := 0) (pc := 0) (fun s o q1 q2 q3 q4 => bX8 (by rw [c1]; exact bq0 hv) (by rw [c2]; exact bq0 ha) 5 0 0 s o rfl (by omega) (by omega) q1 q2 q3 q4) p.body 0 (by rw [c1, c2]; exact hb) (by rw [c1, c2]; exact h2) hseg (by rw [cc3]; exact hlast)
 have hlen : (rwB c p.body ++ [bnd]).length = A6 p.body + 1 := by rw [b83, rl]; rfl
 have hcl : c.list.length = A6 p.body + 1 := by rw [c3, b83, gl]; rfl
 have hall : ∀ i : Nat, i < A6 p.body + 1 → GdX c (rwB c p.body ++ [bnd]) i := fun i hi => by
  by_cases h1 : i < A6 p.body
  ·have := g2 i h1; rwa [cc3] at this
  ·obtain rfl : i = A6 p.body := by omega
   unfold GdX
   rw [hlast, hil]
   exact ⟨G5.1, rfl, fun t ht => by cases ht⟩
 refine ⟨rwB c p.body ++ [bnd], ⟨by rw [hlen, hcl], ?_, ?_, fun i hi => ?_⟩, ar9.2 fun i hi => .inr (hall i (by omega)).2.1⟩
 ·rw [b93]
  intro r hr
  obtain ⟨i, hi, rfl⟩ := List.getElem_of_mem hr
  have := (hall i (by omega)).1
  rw [P9 hi] at this
  simp only [ap4, cc4, decide_eq_true_eq]
  exact .inr this
 ·have := (hall 0 (by omega)).1
  rw [show ((0 : Nat) : Int) = 0 from rfl] at this
  omega
 ·obtain ⟨q1, q2, q3⟩ := hall i (by omega)
  unfold ab9
  rw [decide_eq_false (by omega), Bool.false_or, b93]
  intro t ht
  rw [bT6 (by omega), ← an6 (by omega)] at ht
  exact q3 t ht
theorem bM2 (x y : d9) (w : World) : (binOp .neq 86 (.agg #[.int .i64 x.op, .int .i64 x.a, .int .i64 x.b, .int .i64 x.c, .int .i64 x.d]) (.agg #[.int .i64 y.op, .int .i64 y.a, .int .i64 y.b, .int .i64 y.c, .int .i64 y.d])).run Tryz.prog w = .ok (.bool (!decide (x.l = y.l))) w := by
 rw [run_neq_struct, run_equalIn_struct _ _ _ _ _ (by kernel_rfl) (by kernel_rfl)]
 rw [show (Tryz.prog.fieldsOf 86).toList = [⟨"Op", 3, 0, false, "", "", 0⟩, ⟨"A", 3, 1, false, "", "", 8⟩, ⟨"B", 3, 2, false, "", "", 16⟩, ⟨"C", 3, 3, false, "", "", 24⟩, ⟨"D", 3, 4, false, "", "", 32⟩] from by kernel_rfl]
 simp only [d9.l, List.cons.injEq, and_true]
 simp [go_sem, Op.eqFields]
 (repeat' split) <;> simp_all
theorem aN9 (v1 v2 : Value) (xs ys : List Int) (w : World) (h1 : N3 w v1 xs.length 1 (ints xs)) (h2 : N3 w v2 ys.length 1 (ints ys)) :
  Calls Tryz.prog 64 #[v1, v2] w fun e w' => e = .returned (.bool (decide (xs = ys))) ∧ ∃ n, w' = w.drewN n := by
 obtain ⟨a1, c1, rfl, -, hm1, -, hc1⟩ := h1.open1
 obtain ⟨a2, c2, rfl, -, hm2, -, hc2⟩ := h2.open1
 by_cases hl : xs.length = ys.length
 ·have heq : ((xs.length : Int) == (ys.length : Int)) = true := by simp; omega
  have HL : Hid (xs.length = ys.length) := hl
  clear h1 h2 hl
  go_enter Tryz.func64, Tryz.ntmps64
  go_wp2
  go_loopw [5, 13] (fun _ i wr => ∃ k : Nat, k ≤ xs.length ∧ i = .int .i64 k ∧ xs.take k = ys.take k ∧ ∃ n, wr = w.drewN n) (fun _ i _ => xs.length - (intOf i).toNat)
  case atStart => exact ⟨0, cb1 _, rfl, rfl, 0, rfl⟩
  case round =>
   obtain ⟨k, hk, rfl, ht, nd, rfl⟩ := hrel
   have HT : Hid (xs.take k = ys.take k) := ht
   clear ht
   by_cases hlt : k < xs.length
   ·have hlt2 : k < ys.length := by have := HL.out; omega
    obtain ⟨b1, o1, rfl, hb1, hx⟩ := hc1 k hlt
    obtain ⟨b2, o2, rfl, hb2, hy⟩ := hc2 k hlt2
    rw [al5 _ _ hlt] at hx
    rw [al5 _ _ hlt2] at hy
    clear hc1 hc2
    go_wp2
    go_quiet (fail)
    go_wp2
    ·rename_i hd
     go_ret
     exact ⟨i6 (by symm; simp; intro h; subst h; simp at hd), _, by first | rfl | exact World.drewN_drewN _ _ _⟩
    ·rename_i hd
     refine ⟨⟨k + 1, by omega, by go_num, at5 HT.out hlt hlt2 (by simpa using hd), _, by first | rfl | exact World.drewN_drewN _ _ _⟩, by simp [intOf]; omega⟩
   ·have hge : decide ((k : Int) < (xs.length : Int)) = false := by simp; omega
    go_wp2
    go_ret
    exact ⟨i6 (by symm; simp; exact aB3 HT.out (by omega) (by have := HL.out; omega)), _, rfl⟩
 ·have hne : ((xs.length : Int) == (ys.length : Int)) = false := by simp; omega
  clear hc1 hc2
  go_enter Tryz.func64, Tryz.ntmps64
  go_wp2
  go_ret
  exact ⟨i6 (by symm; simp; intro h; exact hl (by rw [h])), 0, rfl⟩
theorem bt5 (v1 v2 : Value) (xs ys : List d9) (w : World) (h1 : ah7 w v1 xs) (h2 : ah7 w v2 ys) :
  Calls Tryz.prog 72 #[v1, v2] w fun e w' => e = .returned (.bool (decide (T2 xs = T2 ys))) ∧ ∃ n, w' = w.drewN n := by
 obtain ⟨a1, c1, rfl, -, hm1, -, hc1⟩ := h1.ins
 obtain ⟨a2, c2, rfl, -, hm2, -, hc2⟩ := h2.ins
 by_cases hl : xs.length = ys.length
 ·have heq : ((xs.length : Int) == (ys.length : Int)) = true := by simp; omega
  have HL : Hid (xs.length = ys.length) := hl
  clear h1 h2 hl
  go_enter Tryz.func72, Tryz.ntmps72
  go_wp2
  go_loopw [5, 13] (fun _ i wr => ∃ k : Nat, k ≤ xs.length ∧ i = .int .i64 k ∧ xs.take k = ys.take k ∧ ∃ n, wr = w.drewN n) (fun _ i _ => xs.length - (intOf i).toNat)
  case atStart => exact ⟨0, cb1 _, rfl, rfl, 0, rfl⟩
  case round =>
   obtain ⟨k, hk, rfl, ht, nd, rfl⟩ := hrel
   have HT : Hid (xs.take k = ys.take k) := ht
   clear ht
   by_cases hlt : k < xs.length
   ·have hlt2 : k < ys.length := by have := HL.out; omega
    obtain ⟨b1, o1, e1, hb1, i0, i1, i2, i3, i4⟩ := hc1 k hlt
    obtain ⟨b2, o2, e2, hb2, j0, j1, j2, j3, j4⟩ := hc2 k hlt2
    have hq := fun w => bM2 xs[k] ys[k] w
    have HE := show Hid _ from (fun (h : xs[k].l = ys[k].l) => at5 HT.out hlt hlt2 (d9.ext' h))
    obtain ⟨q, hq0⟩ : ∃ q, q = !decide (xs[k].l = ys[k].l) := ⟨_, rfl⟩
    rw [← hq0] at hq
    have HQ0 := show Hid _ from hq0
    obtain ⟨x, hx⟩ : ∃ x, x = xs[k] := ⟨_, rfl⟩
    obtain ⟨y, hy⟩ : ∃ y, y = ys[k] := ⟨_, rfl⟩
    rw [← hx] at i0 i1 i2 i3 i4
    rw [← hy] at j0 j1 j2 j3 j4
    simp only [← hx, ← hy] at hq
    subst e1 e2
    clear hc1 hc2 hq0 hx hy
    cases q
    ·go_wp2
     go_quiet (fail)
     go_wp2
     refine ⟨⟨k + 1, by omega, by go_num, HE.out (by have := HQ0.out; simpa using this), _, by first | rfl | exact World.drewN_drewN _ _ _⟩, by simp [intOf]; omega⟩
    ·go_wp2
     go_quiet (fail)
     go_wp2
     go_ret
     exact ⟨i6 (by symm; simp; intro h; have := au9 h; subst this; simpa using HQ0.out), _, by first | rfl | exact World.drewN_drewN _ _ _⟩
   ·go_wp2
    go_ret
    exact ⟨i6 (by symm; simp; exact congrArg T2 (aB3 HT.out (by omega) (by have := HL.out; omega))), _, rfl⟩
 ·have hne : ((xs.length : Int) == (ys.length : Int)) = false := by simp; omega
  clear hc1 hc2
  go_enter Tryz.func72, Tryz.ntmps72
  go_wp2
  go_ret
  exact ⟨i6 (by symm; simp; intro h; exact hl (by rw [au9 h])), 0, rfl⟩
theorem aQ1 (v u : Value) (c d : i8) (w : World) (h : G6 w v c) (h' : G6 w u d) :
  Calls Tryz.prog 24 #[v, u] w fun e w' => e = .returned (.bool (c.same d)) ∧ Below w.heap.size w w' := by
 obtain ⟨v1, v2, v3, rfl, h1, h2, h3⟩ := h
 obtain ⟨u1, u2, u3, rfl, g1, g2, g3⟩ := h'
 obtain ⟨W, hW, M⟩ : ∃ W, W = ((w.alloc (.cells #[v1, v2, v3] 36)).alloc (.cells #[u1, u2, u3] 36)) ∧ C1 (fun _ => True) (fun _ => True) w W [.box w.heap.size [v1, v2, v3], .box (w.heap.size + 1) [u1, u2, u3]] :=
  ⟨_, rfl, ((C1.start fun _ _ => trivial).box _ _).box' _ _ (by simp)⟩
 have hs : Hid (c.same d = (decide (c.vars = d.vars) && decide (c.arrays = d.arrays) && decide (T2 c.list = T2 d.list))) := rfl
 have HR := show Hid (∀ W', Below W.heap.size W W' → (N3 W' v1 c.vars.length 1 (ints c.vars) ∧ N3 W' v2 c.arrays.length 1 (ints c.arrays) ∧ ah7 W' v3 c.list) ∧ N3 W' u1 d.vars.length 1 (ints d.vars) ∧ N3 W' u2 d.arrays.length 1 (ints d.arrays) ∧ ah7 W' u3 d.list) from fun W' k => by
  have bb := (M.call k).below fun _ _ => trivial
  exact ⟨⟨h1.below bb, h2.below bb, h3.below bb⟩, g1.below bb, g2.below bb, g3.below bb⟩
 have HB := show Hid (∀ n, Below w.heap.size w (W.drewN n)) from fun n => (M.call (below_drewN (Below.refl _ _) n)).below fun _ _ => trivial
 have x0 := M.c 0 0 rfl rfl
 have x1 := M.c 0 1 rfl rfl
 have x2 := M.c 0 2 rfl rfl
 have y0 := M.c 1 0 rfl rfl
 have y1 := M.c 1 1 rfl rfl
 have y2 := M.c 1 2 rfl rfl
 rw [hW] at x0 x1 x2 y0 y1 y2
 clear h1 h2 h3 g1 g2 g3 M
 go_enter Tryz.func24, Tryz.ntmps24
 go_wp2_with fail
 rw [← hW] at x0 x1 x2 y0 y1 y2 ⊢
 clear hW
 refine (aN9 _ _ c.vars d.vars _ (HR.out _ (Below.refl _ _)).1.1 (HR.out _ (Below.refl _ _)).2.1).mono ?_
 rintro e w1 ⟨rfl, n1, rfl⟩
 by_cases q1 : c.vars = d.vars
 ·rw [decide_eq_true q1]
  have Q1 := show Hid _ from q1
  clear q1
  go_wp2_with fail
  refine (aN9 _ _ c.arrays d.arrays _ (HR.out _ (below_drewN (Below.refl _ _) n1)).1.2.1 (HR.out _ (below_drewN (Below.refl _ _) n1)).2.2.1).mono ?_
  rintro e w1 ⟨rfl, n2, rfl⟩
  by_cases q2 : c.arrays = d.arrays
  ·rw [decide_eq_true q2]
   have Q2 := show Hid _ from q2
   clear q2
   go_wp2_with fail
   refine (bt5 _ _ c.list d.list _ (HR.out _ (below_drewN (Below.refl _ _) (n1 + n2))).1.2.2 (HR.out _ (below_drewN (Below.refl _ _) (n1 + n2))).2.2.2).mono ?_
   rintro e w1 ⟨rfl, n3, rfl⟩
   obtain ⟨q, hq⟩ : ∃ q, q = decide (T2 c.list = T2 d.list) := ⟨_, rfl⟩
   rw [← hq]
   have HQ := show Hid _ from hq
   clear hq
   go_wp2_with fail
   go_ret
   exact ⟨i6 (by rw [hs.out, decide_eq_true Q1.out, decide_eq_true Q2.out, HQ.out]; rfl), HB.out _⟩
  ·rw [decide_eq_false q2]
   go_wp2_with fail
   go_ret
   exact ⟨i6 (by rw [hs.out, decide_eq_false q2]; simp), HB.out _⟩
 ·rw [decide_eq_false q1]
  go_wp2_with fail
  go_ret
  exact ⟨i6 (by rw [hs.out, decide_eq_false q1]; simp), HB.out _⟩
theorem aM7 (p : d9 → Bool) (f : FuncId) (q : Value) (v : Value) (xs : List d9) (w : World) (h : ah7 w v xs) (he : ∀ args w, (callFunc f args).run Tryz.prog w = .ok (.enter f args) w)
  (hf : ∀ x w', Below w.heap.size w w' → Calls Tryz.prog f #[x.v, q] w' fun e w'' => e = .returned (.bool (p x)) ∧ Below w'.heap.size w' w'') :
  Calls Tryz.prog 173 #[v, .func (.func f) #[] #[q]] w fun e w' => ∃ r : Int, e = .returned (.int .i64 r) ∧ decide (0 ≤ r) = xs.any p ∧ Below w.heap.size w w' := by
 obtain ⟨a1, c1, rfl, -, hm1, -, hc1⟩ := h.ins
 have HF := show Hid _ from hf
 clear h hf
 go_enter Tryz.func173, Tryz.ntmps173
 go_wp2_with fail
 go_loopw [5, 8] (fun _ i wr => ∃ k : Nat, k ≤ xs.length ∧ i = .int .i64 k ∧ (xs.take k).any p = false ∧ Below w.heap.size w wr) (fun _ i _ => xs.length - (intOf i).toNat)
 case atStart => exact ⟨0, cb1 _, rfl, rfl, Below.refl _ _⟩
 case round =>
  obtain ⟨k, hk, rfl, ha, hb⟩ := hrel
  have HA := show Hid _ from ha
  clear ha
  by_cases hlt : k < xs.length
  ·obtain ⟨b1, o1, rfl, hb1, i0, i1, i2, i3, i4⟩ := hc1 k hlt
   rw [← (K0 hb).1 _ _ hb1] at i0 i1 i2 i3 i4
   clear hc1
   cases hp : p xs[k]
   all_goals
    have HP := show Hid _ from hp
    clear hp
    go_wp2_with fail
    refine (HF.out xs[k] _ hb).mono ?_
    rintro e w1 ⟨rfl, hb2⟩
    rw [HP.out]
    go_wp2_with fail
   ·go_roundw
    case rel => exact ⟨k + 1, by omega, by go_num, by rw [n9 _ _ hlt, List.any_append, HA.out]; simp [HP.out], hb.trans (hb2.mono hb.size)⟩
    case measure => simp [intOf]; omega
   ·go_ret
    exact ⟨_, rfl, by rw [decide_eq_true (by omega)]; symm; rw [List.any_eq_true]; exact ⟨_, ca5 hlt, HP.out⟩, hb.trans (hb2.mono hb.size)⟩
  ·go_wp2_with fail
   go_ret
   refine ⟨_, rfl, ?_, hb⟩
   have := HA.out
   rw [b98 (by omega)] at this
   rw [this]; rfl
theorem aw3 (p : d9 → Bool) (f : FuncId) (q : Value) (v : Value) (xs : List d9) (w : World) (h : ah7 w v xs) (he : ∀ args w, (callFunc f args).run Tryz.prog w = .ok (.enter f args) w)
  (hf : ∀ x w', Below w.heap.size w w' → Calls Tryz.prog f #[x.v, q] w' fun e w'' => e = .returned (.bool (p x)) ∧ Below w'.heap.size w' w'') :
  Calls Tryz.prog 102 #[v, .func (.func f) #[] #[q]] w fun e w' => e = .returned (.bool (xs.any p)) ∧ Below w.heap.size w w' := by
 obtain ⟨a1, c1, rfl, -⟩ := h.open
 have HF := show Hid _ from hf
 have HE := show Hid _ from he
 clear hf he
 go_enter Tryz.func102, Tryz.ntmps102
 go_wp2_with fail
 refine (aM7 p f q _ xs _ h HE.out HF.out).mono ?_
 rintro e w1 ⟨r, rfl, hr, hb⟩
 have HR := show Hid _ from hr
 clear hr
 go_wp2_with fail
 go_ret
 exact ⟨i6 HR.out, hb⟩
theorem bf7 (op : Int) (w : World) :
  Calls Tryz.prog 174 #[.int .i64 op] w fun e w' => e = .returned (.string ⟨(O6 op).toArray⟩) ∧ Below w.heap.size w w' := by
 by_cases h : 1 ≤ op ∧ op ≤ 13
 ·obtain ⟨h1, h2⟩ := h
  have h : op = 1 ∨ op = 2 ∨ op = 3 ∨ op = 4 ∨ op = 5 ∨ op = 6 ∨ op = 7 ∨ op = 8 ∨ op = 9 ∨ op = 10 ∨ op = 11 ∨ op = 12 ∨ op = 13 := by omega
  clear h1 h2
  rcases h with rfl | rfl | rfl | rfl | rfl | rfl | rfl | rfl | rfl | rfl | rfl | rfl | rfl
  all_goals
   go_enter Tryz.func174, Tryz.ntmps174
   go_wp2_with fail
   refine (w5 _ 1 13 _).mono ?_
   rintro e w1 ⟨rfl, rfl⟩
   go_wp2_with fail
   go_ret
   exact ⟨by simp [O6], by go_grown⟩
 ·have hF : Hid (O6 op = []) := aS4 h
  have hb : (decide ((1 : Int) ≤ op) && decide (op ≤ 13)) = false := by
   rw [Bool.eq_false_iff]; simp only [ne_eq, b85, decide_eq_true_eq]; exact h
  have HB := show Hid _ from hb
  clear h hb
  go_enter Tryz.func174, Tryz.ntmps174
  go_wp2_with fail
  refine (w5 _ 1 13 _).mono ?_
  rintro e w1 ⟨rfl, rfl⟩
  rw [HB.out]
  go_wp2_with fail
  go_ret
  exact ⟨by rw [hF.out]; rfl, Below.refl _ _⟩
theorem a65 (x : d9) (w : World) :
  Calls Tryz.prog 175 #[x.v] w fun e w' => ∃ u, e = .returned u ∧ I8 w' w.heap.size w'.heap.size 3 1 u 4 (ints [x.a, x.b, x.c, x.d]) ∧ Below w.heap.size w w' := by
 obtain ⟨x0, x1, x2, x3, x4⟩ := x
 go_enter Tryz.func175, Tryz.ntmps175
 go_wp2_with fail
 go_ret
 refine ⟨_, rfl, (Q3 _ #[.int .i64 x1, .int .i64 x2, .int .i64 x3, .int .i64 x4] 4 1 _ (by simp) rfl (by omega)).wide (by simp) (by simp), by go_grown⟩
theorem aZ1 (v1 v2 v3 : Value) (c : i8) (kd : UInt8) (n : Int) (w : World) (h1 : N3 w v1 c.vars.length 1 (ints c.vars)) (h2 : N3 w v2 c.arrays.length 1 (ints c.arrays)) (h3 : ah7 w v3 c.list) :
  Calls Tryz.prog 176 #[.agg #[v1, v2, v3], .int .u8 kd.toNat, .int .i64 n] w fun e w' => e = .returned (.bool (K6 c kd n)) ∧ Below w.heap.size w w' := by
 obtain ⟨a1, k1, rfl, -, q1, -, -⟩ := h1.open1
 obtain ⟨a2, k2, rfl, -, q2, -, -⟩ := h2.open1
 obtain ⟨a3, k3, rfl, -, q3, -, -⟩ := h3.open
 have hk : kd.toNat < 256 := kd.toNat_lt
 have HK : Hid (∀ m : UInt8, (kd = m) = ((kd.toNat : Int) = (m.toNat : Int))) := fun m => by
  rw [eq_iff_iff]
  constructor
  ·rintro rfl; rfl
  ·intro h; exact UInt8.toNat_inj.1 (by omega)
 clear h1 h2 h3
 obtain ⟨z, hz⟩ : ∃ z, z = kd.toNat := ⟨_, rfl⟩
 rw [← hz] at hk ⊢
 have HZ := show Hid _ from hz
 clear hz
 go_enter Tryz.func176, Tryz.ntmps176
 go_wp2_with (go_at_call 101; refine (w5 _ _ _ _).mono ?_; rintro e w1 ⟨rfl, rfl⟩)
 all_goals go_ret
 all_goals refine ⟨i6 ?_, by go_grown⟩
 all_goals unfold K6
 all_goals simp only [HK.out, ← HZ.out, show (UInt8.toNat 114) = 114 from rfl, show (UInt8.toNat 110) = 110 from rfl, show (UInt8.toNat 118) = 118 from rfl, show (UInt8.toNat 97) = 97 from rfl, show (UInt8.toNat 111) = 111 from rfl, show (UInt8.toNat 105) = 105 from rfl]
 all_goals clear HK HZ hk q1 q2 q3
 all_goals simp_all
 all_goals (rw [Bool.eq_iff_iff]; simp)
theorem aZ0 (v : Value) (c : i8) (x : d9) (w : World) (h : G6 w v c) :
  Calls Tryz.prog 104 #[v, x.v] w fun e w' => e = .returned (.bool (J0 c x)) ∧ Below w.heap.size w w' := by
 obtain ⟨v1, v2, v3, rfl, h1, h2, h3⟩ := h
 obtain ⟨W, hW⟩ : ∃ W, W = ((w.alloc (.cells #[v1, v2, v3] 36)).alloc (.cells #[.int .i64 x.op, .int .i64 x.a, .int .i64 x.b, .int .i64 x.c, .int .i64 x.d] 86)) := ⟨_, rfl⟩
 have B0 : Below w.heap.size w W := by rw [hW]; go_grown
 have L1 : H7 W w.heap.size [v1, v2, v3] := by rw [hW]; exact (H7.new w [v1, v2, v3] _).alloc _
 have L2 : H7 W (w.heap.size + 1) [.int .i64 x.op, .int .i64 x.a, .int .i64 x.b, .int .i64 x.c, .int .i64 x.d] := by rw [hW]; exact H7.new' (w.alloc _) [.int .i64 x.op, .int .i64 x.a, .int .i64 x.b, .int .i64 x.c, .int .i64 x.d] _ (by simp)
 go_enter Tryz.func104, Tryz.ntmps104
 go_wp2_with fail
 rw [← hW]
 clear hW
 refine (bf7 x.op W).mono ?_
 rintro e w1 ⟨rfl, b1⟩
 replace L1 := L1.below b1 L1.lt
 replace L2 := L2.below b1 L2.lt
 have y0 := L2.cell 0
 have y1 := L2.cell 1
 have y2 := L2.cell 2
 have y3 := L2.cell 3
 have y4 := L2.cell 4
 simp at y0 y1 y2 y3 y4
 go_wp2_with fail
 refine (a65 x _).mono ?_
 rintro e w2 ⟨u, rfl, o2, b2⟩
 replace L1 := L1.below b2 L1.lt
 have B2 := (B0.trans (b1.mono B0.size)).trans (b2.mono (by have := B0.size; have := b1.size; omega))
 obtain ⟨g, cap, rfl, -, -, hg, -, -, -, hp⟩ := o2.open (by omega)
 clear y0 y1 y2 y3 y4 L2 o2
 by_cases hop : 1 ≤ x.op ∧ x.op ≤ 13
 ·have hR : Hid (J0 c x = aK4 c (O6 x.op) [x.a, x.b, x.c, x.d] 4) := bf6 c x hop
  have hkl := bJ0 hop
  obtain ⟨kinds, hkinds⟩ : ∃ kinds, kinds = O6 x.op := ⟨_, rfl⟩
  obtain ⟨parts, hparts⟩ : ∃ parts, parts = [x.a, x.b, x.c, x.d] := ⟨_, rfl⟩
  rw [← hkinds] at hkl ⊢
  rw [← hkinds] at hR
  rw [← hparts] at hR hp
  have hpl : parts.length = 4 := by rw [hparts]; rfl
  clear hkinds hparts hop
  have HPL := show Hid _ from hpl
  clear hpl
  have hne : kinds.isEmpty = false := by
   rw [List.isEmpty_eq_false_iff]; intro h; rw [h] at hkl; simp at hkl
  go_wp2_with fail
  go_loopw [14] (fun i wr => ∃ k : Nat, k ≤ 4 ∧ i = .int .i64 k ∧ aK4 c kinds parts k = true ∧ Below w2.heap.size w2 wr) (fun i _ => 4 - (intOf i).toNat)
  case atStart => exact ⟨0, by omega, rfl, rfl, Below.refl _ _⟩
  case round =>
   obtain ⟨k, hk, rfl, ha, hb⟩ := hrel
   have HA := show Hid _ from ha
   clear ha
   replace L1 := L1.below hb L1.lt
   by_cases hlt : k < 4
   ·have x0 := L1.cell 0
    have x1 := L1.cell 1
    have x2 := L1.cell 2
    simp only [b95, cb2] at x0 x1 x2
    have z0 := fun X => f8 x0 X
    have z1 := fun X => f8 x1 X
    have z2 := fun X => f8 x2 X
    have hpk : k < parts.length := by rw [HPL.out]; exact hlt
    have p0 : wr.cell? ⟨g, k, none⟩ = some (.int .i64 parts[k]) := by
     rw [(K0 hb).1 _ _ hg]; exact hp k _ (by simp [hpk])
    have hkk : k < kinds.length := by rw [hkl]; exact hlt
    have HS := show Hid _ from aT2 c kinds parts k
    have HG := show Hid (parts.getD k 0 = parts[k]) from by simp [Hid, hpk]
    have HKD := show Hid (kinds.getD k 0 = kinds[k]) from by simp [Hid, hkk]
    have BW := B2.trans (hb.mono B2.size)
    clear x0 x1 x2 hp
    cases hr : K6 c kinds[k] parts[k]
    all_goals
     have HR := show Hid _ from hr
     clear hr
     have HC : Hid (∀ X, Calls Tryz.prog 176 #[.agg #[v1, v2, v3], .int .u8 kinds[k].toNat, .int .i64 parts[k]] (wr.ext X) fun e w'' => e = .returned (.bool _) ∧ ∃ Y, w'' = wr.ext Y) :=
      fun X => Calls.ext_of' ((aZ1 v1 v2 v3 c kinds[k] parts[k] _ ((h1.below BW).below (l7 _ X)) ((h2.below BW).below (l7 _ X)) ((h3.below BW).below (l7 _ X))).mono fun e w' h => by rw [HR.out] at h; exact h)
     go_wp2_with fail
     refine r9 (by kernel_rfl) (by kernel_rfl) ?_
     repeat (any_goals (first | go_big_quiet_step ((go_at_call 176; exact HC.out _)) | quiet_step ((go_at_call 176; exact HC.out _))))
     refine wpQuiet_nil ?_
     rintro _ ⟨X, rfl⟩
     have hbX := hb.trans ((l7 wr X).mono hb.size)
     go_wp2_with fail
    ·go_ret
     exact ⟨i6 (by rw [hR.out, br4 4 hlt (by rw [HG.out, HKD.out, HR.out])]), B2.trans (hbX.mono B2.size)⟩
    ·exact ⟨⟨k + 1, by omega, by go_num, by rw [HS.out, HA.out, HG.out, HKD.out, HR.out]; rfl, hbX⟩, by simp [intOf]; omega⟩
   ·go_wp2_with fail
    go_ret
    obtain rfl : k = 4 := by omega
    exact ⟨i6 (by rw [hR.out, HA.out]), B2.trans (hb.mono B2.size)⟩
 ·have hR : Hid (J0 c x = false) := by
   unfold Hid J0
   rcases Classical.not_and_iff_not_or_not.1 hop with h | h
   ·rw [decide_eq_false h]; rfl
   ·rw [decide_eq_false h]; simp
  rw [aS4 hop]
  have p0 := hp 0 (.int .i64 x.a) (by simp)
  clear hop hp h1 h2 h3
  go_wp2_with fail
  go_loopw [14] (fun i wr => i = .int .i64 0 ∧ w2 = wr) (fun i _ => 0)
  case atStart => exact ⟨rfl, rfl⟩
  case round =>
   obtain ⟨rfl, rfl⟩ := hrel
   go_wp2_with fail
   refine r9 (by kernel_rfl) (by kernel_rfl) ?_
   repeat (any_goals (first | go_big_quiet_step ((fail)) | quiet_step ((fail))))
   refine wpQuiet_nil ?_
   rintro _ ⟨X, rfl⟩
   have hbX := B2.trans ((l7 w2 X).mono B2.size)
   go_wp2_with fail
   go_ret
   exact ⟨i6 hR.out.symm, hbX⟩
theorem aD9 (v : Value) (c : i8) (x : d9) (b : Nat) (v1 v2 v3 : Value) (w : World) (hv : v = .agg #[v1, v2, v3]) (h : G6 w v c) (hb : H7 w b [v1, v2, v3]) :
  Calls Tryz.prog 103 #[x.v, .pointer (some ⟨b, 0, none⟩)] w fun e w' => e = .returned (.bool (!J0 c x)) ∧ Below w.heap.size w w' := by
 subst hv
 obtain ⟨W, hW⟩ : ∃ W, W = (w.alloc (.cells #[.int .i64 x.op, .int .i64 x.a, .int .i64 x.b, .int .i64 x.c, .int .i64 x.d] 86)) := ⟨_, rfl⟩
 have B0 : Below w.heap.size w W := by rw [hW]; go_grown
 have L1 : H7 W b [v1, v2, v3] := hb.below B0 hb.lt
 have L2 : H7 W w.heap.size [.int .i64 x.op, .int .i64 x.a, .int .i64 x.b, .int .i64 x.c, .int .i64 x.d] := by rw [hW]; exact H7.new w [.int .i64 x.op, .int .i64 x.a, .int .i64 x.b, .int .i64 x.c, .int .i64 x.d] _
 have x0 := L1.cell 0
 have x1 := L1.cell 1
 have x2 := L1.cell 2
 have y0 := L2.cell 0
 have y1 := L2.cell 1
 have y2 := L2.cell 2
 have y3 := L2.cell 3
 have y4 := L2.cell 4
 simp at x0 x1 x2 y0 y1 y2 y3 y4
 rw [hW] at x0 x1 x2 y0 y1 y2 y3 y4
 go_enter Tryz.func103, Tryz.ntmps103
 go_wp2_with fail
 rw [← hW]
 refine (aZ0 _ c x _ (h.below B0)).mono ?_
 rintro e w1 ⟨rfl, b1⟩
 clear x0 x1 x2 y0 y1 y2 y3 y4 hW
 go_wp2_with fail
 go_ret
 exact ⟨rfl, B0.trans (b1.mono B0.size)⟩
theorem bi8 (xs : List d9) (c : i8) : (xs.any fun l => !J0 c l) = !xs.all (J0 c) := by
 induction xs with
 | nil => rfl
 | cons x r ih => simp only [List.any_cons, List.all_cons, ih]; cases J0 c x <;> simp
theorem aM8 (v : Value) (c : i8) (w : World) (h : G6 w v c) :
  Calls Tryz.prog 43 #[v] w fun e w' => e = .returned (.bool (E3 c)) ∧ Below w.heap.size w w' := by
 have hrow := h
 obtain ⟨v1, v2, v3, rfl, h1, h2, h3⟩ := h
 have HT : Hid (E3 c = (B6 c.vars c.arrays && decide (1 ≤ c.list.length) && decide (c.list.length ≤ 400) && c.list.all (J0 c) && ar0 c)) := rfl
 obtain ⟨W, hW⟩ : ∃ W, W = w.alloc (.cells #[v1, v2, v3] 36) := ⟨_, rfl⟩
 have B0 : Below w.heap.size w W := by rw [hW]; go_grown
 have L1 : H7 W w.heap.size [v1, v2, v3] := by rw [hW]; exact (H7.new w [v1, v2, v3] _)
 have hmf : ∀ fn first cap w, (Instr.makeFunc fn first cap).run Tryz.prog w = .ok (.func fn first cap) w := fun _ _ _ _ => rfl
 obtain ⟨a3, k3, rfl, hk3, hm3, -, hc3⟩ := h3.ins
 have x0 := L1.cell 0
 have x1 := L1.cell 1
 have x2 := L1.cell 2
 simp at x0 x1 x2
 rw [hW] at x0 x1 x2
 go_enter Tryz.func43, Tryz.ntmps43
 go_wp2_with fail
 rw [← hW] at x0 x1 x2 ⊢
 clear hW
 refine (ap6 _ _ c.vars c.arrays _ (h1.below B0) (h2.below B0)).mono ?_
 rintro e w1 ⟨rfl, rfl⟩
 cases hh : B6 c.vars c.arrays
 ·have HH := show Hid _ from hh
  clear hh hc3
  go_wp2_with fail
  go_ret
  exact ⟨i6 (by rw [HT.out, HH.out]; rfl), B0⟩
 ·have HH := show Hid _ from hh
  clear hh
  go_wp2_with fail
  refine (w5 _ 1 400 _).mono ?_
  rintro e w1 ⟨rfl, rfl⟩
  by_cases hn : (1 : Int) ≤ (c.list.length : Int) ∧ (c.list.length : Int) ≤ 400
  ·have hn' : (decide ((1 : Int) ≤ (c.list.length : Int)) && decide ((c.list.length : Int) ≤ 400)) = true := by simpa using hn
   have HN := show Hid _ from hn
   rw [hn']
   clear hn hn'
   go_wp2_with fail
   refine (aw3 (fun l => !J0 c l) 103 _ _ c.list _ (h3.below B0) (az0 Tryz.func103 (by kernel_rfl) rfl) (fun x w' hb => aD9 _ c x _ _ _ _ w' rfl ((hrow.below B0).below hb) (L1.below hb L1.lt))).mono ?_
   rintro e w1 ⟨rfl, b1⟩
   rw [bi8]
   have BW := B0.trans (b1.mono B0.size)
   replace L1 := L1.below b1 L1.lt
   clear x0 x1 x2
   cases ha : c.list.all (J0 c)
   ·have HA := show Hid _ from ha
    clear ha hc3
    go_wp2_with fail
    go_ret
    exact ⟨i6 (by rw [HT.out, HA.out]; simp), BW⟩
   ·have HA := show Hid _ from ha
    clear ha
    have hl : c.list.length - 1 < c.list.length := by have := HN.out; omega
    obtain ⟨b, off, rfl, hb3, i0, i1, i2, i3, i4⟩ := hc3 _ hl
    rw [← (K0 BW).1 _ _ hb3] at i0
    have x2 := L1.cell 2
    simp only [b95, cb2] at x2
    have hn1 : 1 ≤ c.list.length := by omega
    have hn2 : c.list.length ≤ 400 := by have := HN.out; omega
    have HL : Hid (ar0 c = (decide (c.list[c.list.length - 1].op = 13) || decide (c.list[c.list.length - 1].op = 8))) := by
     unfold Hid ar0
     rw [List.getLast?_eq_getElem?, b89 hl]
    clear hc3 i1 i2 i3 i4
    have hF : Hid (E3 c = (decide (c.list[c.list.length - 1].op = 13) || decide (c.list[c.list.length - 1].op = 8))) := by
     unfold Hid; rw [HT.out, HH.out, HA.out, HL.out, decide_eq_true hn1, decide_eq_true hn2]; rfl
    go_wp2_with fail
    all_goals go_ret
    all_goals exact ⟨i6 (by rw [hF.out, Bool.eq_iff_iff]; simp_all), BW⟩
  ·have hn' : (decide ((1 : Int) ≤ (c.list.length : Int)) && decide ((c.list.length : Int) ≤ 400)) = false := by
    rw [Bool.eq_false_iff]; simp only [ne_eq, b85, decide_eq_true_eq]; exact hn
   have hF : Hid (E3 c = false) := by
    unfold Hid; rw [HT.out]
    rcases Classical.not_and_iff_not_or_not.1 hn with h | h
    ·rw [decide_eq_false (show ¬ 1 ≤ c.list.length by omega)]; simp
    ·rw [decide_eq_false (show ¬ c.list.length ≤ 400 by omega)]; simp
   rw [hn']
   clear hn hn' hc3
   go_wp2_with fail
   go_ret
   exact ⟨i6 hF.out.symm, B0⟩
theorem aC4 (v ar : List Int) (l : List d9) : m7.ok Tryz.prog (N1 24 [.agg [.ref 0, .ref 1, .ref 2], .agg [.ref 3, .ref 4, .ref 5]] [.dat (.ints v), .dat (.ints ar), .dat (.instrs l), .dat (.ints v), .dat (.ints ar), .dat (.instrs l)] (bA true)) :=
 ac7 fun φ w ρ h => (aQ1 _ _ ⟨v, ar, l⟩ ⟨v, ar, l⟩ w ⟨ρ 0, ρ 1, ρ 2, rfl, z8.row (h 0 _ rfl), z8.row (h 1 _ rfl), z8.row (h 2 _ rfl)⟩ ⟨ρ 3, ρ 4, ρ 5, rfl, z8.row (h 3 _ rfl), z8.row (h 4 _ rfl), z8.row (h 5 _ rfl)⟩).mono fun e w' h => ⟨by rw [h.1, i8.same_refl], h.2⟩
abbrev bools (l : List Bool) : List Value := l.map Value.bool
theorem H3 (l : List Bool) (k : Nat) (h : k < l.length) : (bools l)[k]? = some (.bool l[k]) := by simp [bools, h]
theorem bR0 : (Tryz.prog.info? 4).map (fun i => (i.zero, i.size, i.bytes)) = some (some (.bool false), 1, 1) := by kernel_rfl
theorem bU4 : (Tryz.prog.info? 57).map (fun i => (i.zero, i.size, i.bytes)) = some (some (.slice none 0 0), 1, 24) := by kernel_rfl
def P5 (w : World) (v : Value) (m : List (List Bool)) : Prop :=
 ∃ vs : List Value, N3 w v m.length 1 vs ∧ ∀ (i : Nat) (u : Value) (r : List Bool), vs[i]? = some u → m[i]? = some r → N3 w u r.length 1 (bools r)
def W5 (w : World) (lo hi : Nat) (v : Value) (m : List (List Bool)) : Prop :=
 ∃ vs : List Value, I8 w lo hi 57 1 v m.length vs ∧ (∀ (i : Nat) (u : Value) (r : List Bool), vs[i]? = some u → m[i]? = some r → I8 w lo hi 4 1 u r.length (bools r)) ∧
  (∀ (i j : Nat) (u u' : Value), i < j → vs[i]? = some u → vs[j]? = some u' → aE4 u u') ∧ ∀ (i : Nat) (u : Value), vs[i]? = some u → aE4 u v
theorem P5.below {w w' : World} {v : Value} {m : List (List Bool)} (h : P5 w v m) (hb : Below w.heap.size w w') : P5 w' v m := by
 obtain ⟨vs, h1, h2⟩ := h
 exact ⟨vs, h1.below hb, fun i u r a b => (h2 i u r a b).below hb⟩
theorem W5.row {w : World} {lo hi : Nat} {v : Value} {m : List (List Bool)} (h : W5 w lo hi v m) : P5 w v m := by
 obtain ⟨vs, h1, h2, _⟩ := h
 exact ⟨vs, h1.row, fun i u r a b => (h2 i u r a b).row⟩
theorem W5.keep {w w' : World} {lo hi B : Nat} {v : Value} {m : List (List Bool)} (h : W5 w lo hi v m) (hb : Below B w w') (hB : hi ≤ B) : W5 w' lo hi v m := by
 obtain ⟨vs, h1, h2, hd⟩ := h
 exact ⟨vs, h1.keep hb hB, fun i u r a b => (h2 i u r a b).keep hb hB, hd⟩
theorem W5.out {w w' : World} {lo hi lo' hi' : Nat} {v : Value} {m : List (List Bool)} (h : W5 w lo hi v m) (hb : Out lo' hi' w w') (hB : hi ≤ lo' ∨ hi' ≤ lo) : W5 w' lo hi v m := by
 obtain ⟨vs, h1, h2, hd⟩ := h
 exact ⟨vs, h1.out hb hB, fun i u r a b => (h2 i u r a b).out hb hB, hd⟩
theorem W5.wide {w : World} {lo hi lo' hi' : Nat} {v : Value} {m : List (List Bool)} (h : W5 w lo hi v m) (g1 : lo' ≤ lo) (g2 : hi ≤ hi') : W5 w lo' hi' v m := by
 obtain ⟨vs, h1, h2, hd⟩ := h
 exact ⟨vs, h1.wide g1 g2, fun i u r a b => (h2 i u r a b).wide g1 g2, hd⟩
theorem P5.open {w : World} {v : Value} {m : List (List Bool)} (h : P5 w v m) : ∃ a cap, v = .slice a m.length cap ∧ m.length ≤ 9223372036854775807 ∧
  ∀ i (hi : i < m.length), ∃ b off a' c', a = some ⟨b, off, none⟩ ∧ b < w.heap.size ∧ w.cell? ⟨b, off + i, none⟩ = some (.slice a' m[i].length c') ∧ N3 w (.slice a' m[i].length c') m[i].length 1 (bools m[i]) := by
 obtain ⟨vs, h1, h2⟩ := h
 obtain ⟨a, cap, hv, hc, hm, hm2, hcell⟩ := h1.open1
 refine ⟨a, cap, hv, hm, fun i hi => ?_⟩
 obtain ⟨b, off, ha, hb, hx⟩ := hcell i hi
 have hl : i < vs.length := by rw [h1.1]; omega
 rw [b89 hl] at hx
 have hr := h2 i _ _ (b89 hl) (b89 hi)
 obtain ⟨a', c', hs⟩ := hr.form
 rw [hs] at hx hr
 exact ⟨b, off, a', c', ha, hb, hx, hr⟩
end Go.Proofs.YthikdkjjdeehoaaGreat

namespace Go.Proofs.YthikdkjjdeehoaaGreat
set_option linter.unusedVariables false
set_option linter.unusedSimpArgs false
open Go Go.RowKit Go.ChangeShapes Go.WideShapes Go.Deep
section
variable {H : Type} {enc : TypeId × Value → H} {W : World}
end
end Go.Proofs.YthikdkjjdeehoaaGreat

namespace Go.Proofs.YthikdkjjdeehoaaGreat
set_option linter.unusedVariables false
set_option linter.unusedSimpArgs false
open Go Go.RowKit
theorem U3 {B : Nat} {w w1 w2 : World} (k : Below w1.heap.size w1 w2) (h : Below B w w1) (hB : B ≤ w.heap.size) : Below B w w2 :=
 h.trans (k.mono (cb5 hB h.size))
theorem bF6 {w : World} {b : Nat} {x y z : Value} (L : H7 w b [x, y, z]) : ∀ W', Below w.heap.size w W' → W'.cell? ⟨b, 0, none⟩ = some x ∧ W'.cell? ⟨b, 1, none⟩ = some y ∧ W'.cell? ⟨b, 2, none⟩ = some z := by
 intro W' hb
 have L' := L.below hb L.lt
 exact ⟨by simpa using L'.cell 0, by simpa using L'.cell 1, by simpa using L'.cell 2⟩
def E6 (w : World) (lo hi g : Nat) (m : List (List Bool)) : Prop :=
 W5 w lo hi (.slice (some ⟨g, 0, none⟩) m.length m.length) m ∧ ∀ i : Nat, i < m.length → (rowAt m i).length = 0 → w.cell? ⟨g, i, none⟩ = some (.slice none 0 0)
theorem E6.wide {w : World} {lo hi lo' hi' g : Nat} {m : List (List Bool)} (h : E6 w lo hi g m) (h1 : lo' ≤ lo) (h2 : hi ≤ hi') : E6 w lo' hi' g m := ⟨h.1.wide h1 h2, h.2⟩
theorem E6.lt {w : World} {lo hi g : Nat} {m : List (List Bool)} (h : E6 w lo hi g m) : lo ≤ g ∧ g < hi ∧ g < w.heap.size := by
 obtain ⟨vs, h1, _⟩ := h.1
 exact h1.lt g rfl
theorem E6.keep {w w' : World} {lo hi B g : Nat} {m : List (List Bool)} (h : E6 w lo hi g m) (hb : Below B w w') (hB : hi ≤ B) : E6 w' lo hi g m := by
 have hl := h.lt
 exact ⟨h.1.keep hb hB, fun i hi h0 => (hb.cell (p := ⟨g, i, none⟩) (by show g < B; omega)).trans (h.2 i hi h0)⟩
theorem E6.at {w : World} {lo hi g : Nat} {m : List (List Bool)} (h : E6 w lo hi g m) {i : Nat} (hi' : i < m.length) :
  w.frozen? ⟨g, i, none⟩ = false ∧ ∃ u, w.cell? ⟨g, i, none⟩ = some u ∧ I8 w lo hi 4 1 u (rowAt m i).length (bools (rowAt m i)) ∧ u.ownBlock ≠ some g := by
 obtain ⟨vs, h1, h2, h3, h4⟩ := h.1
 have hl : i < vs.length := by have := h1.1.1; omega
 obtain ⟨g', cap, hv, -, -, -, hf, u0, hc⟩ := h1.at hl
 cases hv
 obtain ⟨g', cap, hv, -, -, -, -, -, -, hcc⟩ := h1.open (by omega)
 cases hv
 have hu := b89 hl
 refine ⟨hf, vs[i], hcc i _ hu, ?_, fun e => h4 i _ hu g e rfl⟩
 have := h2 i _ _ hu (b89 hi')
 rw [P9 hi']
 exact this
theorem E6.at14 {w : World} {lo hi g : Nat} {m : List (List Bool)} (h : E6 w lo hi g m) {i : Nat} (hi' : i < m.length) (h14 : (rowAt m i).length = 14) :
  ∃ gy cy, w.cell? ⟨g, i, none⟩ = some (.slice (some ⟨gy, 0, none⟩) 14 cy) ∧ lo ≤ gy ∧ gy < hi ∧ gy < w.heap.size ∧ gy ≠ g ∧ 14 ≤ cy ∧ cy ≤ 9223372036854775807 ∧ (∀ o, w.frozen? ⟨gy, o, none⟩ = false) ∧ (∀ k : Nat, k < 14 → w.cell? ⟨gy, k, none⟩ = some (.bool ((rowAt m i).getD k false))) ∧
  N3 w (.slice (some ⟨gy, 0, none⟩) 14 cy) 14 1 (bools (rowAt m i)) := by
 obtain ⟨-, u, hc, ho, hn⟩ := h.at hi'
 rw [h14] at ho
 obtain ⟨gy, cy, rfl, g1, g2, g3, g4, g5, g6, g7⟩ := ho.open (by omega)
 refine ⟨gy, cy, hc, g1, g2, g3, fun e => hn (by rw [e]; rfl), g4, g5, g6, fun k hk => ?_, ho.row⟩
 rw [g7 k _ (H3 _ k (by omega))]
 simp [show k < (rowAt m i).length by omega]
theorem bN5 {vs : List Value} {y : Nat} {u : Value} (hd : ∀ (i j : Nat) (a b : Value), i < j → vs[i]? = some a → vs[j]? = some b → aE4 a b) (hu : ∀ i a, vs[i]? = some a → i ≠ y → aE4 a u) :
  ∀ (i j : Nat) (a b : Value), i < j → (vs.set y u)[i]? = some a → (vs.set y u)[j]? = some b → aE4 a b := by
 intro i j a b hij ha hb
 rw [List.getElem?_set] at ha hb
 by_cases h1 : y = i
 ·rw [if_pos h1] at ha
  have h2 : ¬ y = j := by omega
  rw [if_neg h2] at hb
  split at ha
  ·cases ha
   exact (hu j b hb (by omega)).symm
  ·cases ha
 ·rw [if_neg h1] at ha
  by_cases h2 : y = j
  ·rw [if_pos h2] at hb
   split at hb
   ·cases hb
    exact hu i a ha (by omega)
   ·cases hb
  ·rw [if_neg h2] at hb
   exact hd i j a b hij ha hb
theorem K9 (w : World) (b j : Nat) (u : Value) (k : Nat) (h : k ≠ b) : (w.setCell ⟨b, j, none⟩ u).heap[k]? = w.heap[k]? := Below.heap_setCell _ _ _ _ h
theorem E6.setRow {w : World} {lo hi lo' hi' g : Nat} {m : List (List Bool)} (h : E6 w lo hi g m) {y : Nat} (hy : y < m.length) {u : Value} {r : List Bool} (hr : r.length = 14) (hu : I8 w lo' hi' 4 1 u 14 (bools r)) (h1 : hi ≤ lo') (h2 : lo' ≤ hi') :
  E6 (w.setCell ⟨g, y, none⟩ u) lo hi' g (m.set y r) := by
 have hgl := h.lt
 obtain ⟨⟨vs, k1, k2, k3, k4⟩, hnil⟩ := h
 have hvl : vs.length = m.length := by have := k1.1.1; omega
 have hug : ∀ g', u.ownBlock = some g' → g' ≠ g := fun g' e => by have := hu.lt g' e; omega
 refine ⟨⟨vs.set y u, ?_, ?_, ?_, ?_⟩, ?_⟩
 ·rw [b97]
  exact (k1.setCell (by omega) u).wide (b94 _) (by omega)
 ·intro i a r' ha hr'
  rw [List.getElem?_set] at ha hr'
  split at ha
  ·rename_i e
   rw [if_pos e] at hr'
   rw [if_pos hy] at hr'
   cases hr'
   split at ha
   ·cases ha
    rw [hr]
    exact (hu.same fun g' e => K9 _ _ _ _ _ (hug g' e)).wide (by omega) (b94 _)
   ·cases ha
  ·rename_i e
   rw [if_neg e] at hr'
   exact ((k2 i a r' ha hr').same fun g' e => K9 _ _ _ _ _ fun e' => k4 i a ha g' e (by rw [e']; rfl)).wide (b94 _) (by omega)
 ·refine bN5 k3 fun i a ha _ => ?_
  have hi : i < m.length := by have := (b96.1 ha).1; omega
  exact bN4 (k2 i a _ ha (b89 hi)) hu (by omega)
 ·intro i a ha
  rw [List.getElem?_set] at ha
  split at ha
  ·split at ha
   ·cases ha
    exact fun g' e e' => hug g' e (by cases e'; rfl)
   ·cases ha
  ·have := k4 i a ha
   rw [b97]
   exact this
 ·intro i hi h0
  rw [b97] at hi
  rw [J2 _ _ hy] at h0
  split at h0
  ·omega
  ·rename_i e
   rw [World.cell?_setCell_other _ _ _ _ (by intro e'; cases e'; exact e (by simp))]
   exact hnil i hi h0
theorem E6.setBit {w : World} {lo hi g : Nat} {m : List (List Bool)} (h : E6 w lo hi g m) {y : Nat} (hy : y < m.length) {gy cy : Nat} (hc : w.cell? ⟨g, y, none⟩ = some (.slice (some ⟨gy, 0, none⟩) 14 cy)) (h14 : (rowAt m y).length = 14) {k : Nat} (hk : k < 14) (b : Bool) :
  E6 (w.setCell ⟨gy, k, none⟩ (.bool b)) lo hi g (m.set y ((rowAt m y).set k b)) := by
 have hgl := h.lt
 obtain ⟨⟨vs, k1, k2, k3, k4⟩, hnil⟩ := h
 have hvl : vs.length = m.length := by have := k1.1.1; omega
 have hyv : y < vs.length := by omega
 obtain ⟨g', cap, hv, -, -, -, -, -, -, hcc⟩ := k1.open (by omega)
 cases hv
 have hvy : vs[y]? = some (.slice (some ⟨gy, 0, none⟩) 14 cy) := by
  have := hcc y _ (b89 hyv)
  rw [hc] at this
  rw [b89 hyv, ← Option.some.inj this]
 have hgy : gy ≠ g := fun e => k4 y _ hvy gy rfl (by rw [e]; rfl)
 have hgr : rowAt m y = m[y] := P9 hy
 refine ⟨⟨vs, ?_, ?_, k3, ?_⟩, ?_⟩
 ·rw [b97]
  exact k1.same fun g' e => K9 _ _ _ _ _ (by cases e; exact fun e => hgy e.symm)
 ·intro i a r' ha hr'
  rw [List.getElem?_set] at hr'
  by_cases e : y = i
  ·subst e
   rw [if_pos rfl, if_pos hy] at hr'
   cases hr'
   rw [hvy] at ha
   cases ha
   have ho := k2 y _ _ hvy (b89 hy)
   rw [← hgr, h14] at ho
   rw [b97, h14]
   have := ho.setCell (j := k) (by simp; omega) (.bool b)
   rw [show bools ((rowAt m y).set k b) = (bools (rowAt m y)).set k (.bool b) by simp [bools, List.map_set]]
   exact this
  ·rw [if_neg e] at hr'
   refine (k2 i a r' ha hr').same fun g' e' => K9 _ _ _ _ _ fun e2 => ?_
   subst e2
   rcases ca8 y i with hlt | hge
   ·exact k3 y i _ _ hlt hvy ha g' rfl e'
   ·exact k3 i y _ _ (by omega) ha hvy g' e' rfl
 ·intro i a ha
  rw [b97]
  exact k4 i a ha
 ·intro i hi h0
  rw [b97] at hi
  rw [J2 _ _ hy] at h0
  split at h0
  ·rw [b97] at h0; omega
  ·rw [World.cell?_setCell_other _ _ _ _ (by intro e'; cases e'; exact hgy rfl)]
   exact hnil i hi h0
def aw9 (w : World) (g : Nat) (m : List (List Bool)) (b : Nat) : Prop := b = g ∨ ∃ (i : Nat) (u : Value), i < m.length ∧ w.cell? ⟨g, i, none⟩ = some u ∧ u.ownBlock = some b
theorem E6.blk {w : World} {lo hi g : Nat} {m : List (List Bool)} (h : E6 w lo hi g m) {b : Nat} (hb : aw9 w g m b) : lo ≤ b ∧ b < hi ∧ b < w.heap.size := by
 rcases hb with rfl | ⟨i, u, hi', hc, hu⟩
 ·exact h.lt
 ·obtain ⟨-, u', hc', ho, -⟩ := h.at hi'
  rw [hc] at hc'
  cases hc'
  exact ho.lt b hu
theorem aU0 {w w' : World} {b : Nat} (h : w'.heap[b]? = w.heap[b]?) (o : Nat) : w'.cell? ⟨b, o, none⟩ = w.cell? ⟨b, o, none⟩ := by simp [World.cell?, h]
theorem E6.same {w w' : World} {lo hi g : Nat} {m : List (List Bool)} (h : E6 w lo hi g m) (hs : ∀ b, aw9 w g m b → w'.heap[b]? = w.heap[b]?) : E6 w' lo hi g m ∧ ∀ b, aw9 w' g m b → aw9 w g m b := by
 have hg := hs g (.inl rfl)
 obtain ⟨⟨vs, k1, k2, k3, k4⟩, hnil⟩ := h
 have hvl : vs.length = m.length := by have := k1.1.1; omega
 have hrow : ∀ (i : Nat) (u : Value), vs[i]? = some u → i < m.length ∧ w.cell? ⟨g, i, none⟩ = some u := by
  intro i u hu
  have hi' := (b96.1 hu).1
  obtain ⟨g', cap, hv, -, -, -, -, -, -, hcc⟩ := k1.open (by omega)
  cases hv
  exact ⟨by omega, hcc i u hu⟩
 refine ⟨⟨⟨vs, k1.same fun g' e => by cases e; exact hg, fun i u r hu hr => (k2 i u r hu hr).same fun b e => hs b (.inr ⟨i, u, (hrow i u hu).1, (hrow i u hu).2, e⟩), k3, k4⟩, fun i hi' h0 => (aU0 hg i).trans (hnil i hi' h0)⟩, ?_⟩
 rintro b (rfl | ⟨i, u, h1, h2, h3⟩)
 ·exact .inl rfl
 ·exact .inr ⟨i, u, h1, (aU0 hg i).symm.trans h2, h3⟩
theorem E6.next {w w' : World} {lo hi g : Nat} {m : List (List Bool)} (h : E6 w lo hi g m) (hb : Below w.heap.size w w') : E6 w' lo hi g m ∧ ∀ b, aw9 w' g m b → aw9 w g m b :=
 h.same fun b hb' => hb.block b (h.blk hb').2.2
theorem E6.setRow_blk {w : World} {lo hi g : Nat} {m : List (List Bool)} (h : E6 w lo hi g m) {y : Nat} (hy : y < m.length) (u : Value) (r : List Bool) {b : Nat} (hb : aw9 (w.setCell ⟨g, y, none⟩ u) g (m.set y r) b) : aw9 w g m b ∨ u.ownBlock = some b := by
 rcases hb with rfl | ⟨i, u', h1, h2, h3⟩
 ·exact .inl (.inl rfl)
 ·rw [b97] at h1
  by_cases e : i = y
  ·subst e
   obtain ⟨hf, u0, hc, -, -⟩ := h.at hy
   rw [World.cell?_setCell_same _ _ _ hc] at h2
   cases h2
   exact .inr h3
  ·rw [World.cell?_setCell_other _ _ _ _ (by intro e'; cases e'; exact e rfl)] at h2
   exact .inl (.inr ⟨i, u', h1, h2, h3⟩)
theorem E6.setBit_blk {w : World} {g gy k y b' : Nat} {m : List (List Bool)} {r : List Bool} {u : Value} (hne : gy ≠ g) (hb : aw9 (w.setCell ⟨gy, k, none⟩ u) g (m.set y r) b') : aw9 w g m b' := by
 rcases hb with rfl | ⟨i, u', h1, h2, h3⟩
 ·exact .inl rfl
 ·rw [b97] at h1
  rw [World.cell?_setCell_other _ _ _ _ (by intro e'; cases e'; exact hne rfl)] at h2
  exact .inr ⟨i, u', h1, h2, h3⟩
def G2 (w : World) (g : Nat) (m : List (List Bool)) (v : Value) : Prop := ∀ b, v.ownBlock = some b → ¬ aw9 w g m b
theorem G2.next {w w' : World} {lo hi g : Nat} {m : List (List Bool)} {v : Value} (h : G2 w g m v) (hS : E6 w lo hi g m) (hb : Below w.heap.size w w') : G2 w' g m v := fun b hv hm => h b hv ((hS.next hb).2 b hm)
theorem G2.setRow {w : World} {lo hi g y : Nat} {m : List (List Bool)} {v u : Value} {r : List Bool} (h : G2 w g m v) (hS : E6 w lo hi g m) (hy : y < m.length) (hu : ∀ b, v.ownBlock = some b → u.ownBlock ≠ some b) : G2 (w.setCell ⟨g, y, none⟩ u) g (m.set y r) v := by
 intro b hv hm
 rcases hS.setRow_blk hy _ _ hm with h1 | h1
 ·exact h b hv h1
 ·exact hu b hv h1
theorem G2.setBit {w : World} {g gy k y : Nat} {m : List (List Bool)} {v u : Value} {r : List Bool} (h : G2 w g m v) (hne : gy ≠ g) : G2 (w.setCell ⟨gy, k, none⟩ u) g (m.set y r) v := fun b hv hm => h b hv (E6.setBit_blk hne hm)
theorem Y5 {w : World} {lo hi g b j : Nat} {m : List (List Bool)} {e : TypeId} {sz : Nat} {v u : Value} {n : Nat} {xs : List Value} (h : I8 w lo hi e sz v n xs) (ha : G2 w g m v) (hb : aw9 w g m b) : I8 (w.setCell ⟨b, j, none⟩ u) lo hi e sz v n xs :=
 h.same fun g' e => K9 _ _ _ _ _ fun e' => ha g' e (e' ▸ hb)
theorem P5.unique {w : World} {v : Value} {m p : List (List Bool)} (h : P5 w v m) (g : P5 w v p) : m = p := by
 obtain ⟨a, cap, rfl, -, h2⟩ := h.open
 obtain ⟨a', cap', hv, -, g2⟩ := g.open
 simp only [Value.slice.injEq] at hv
 obtain ⟨rfl, hl, rfl⟩ := hv
 have hl : m.length = p.length := by omega
 apply List.ext_getElem hl
 intro i hi hj
 obtain ⟨b, off, a1, c1, e1, -, x1, r1⟩ := h2 i hi
 obtain ⟨b', off', a2, c2, e2, -, x2, r2⟩ := g2 i hj
 rw [e1] at e2
 cases e2
 rw [x1] at x2
 have x2 := Option.some.inj x2
 simp only [Value.slice.injEq] at x2
 obtain ⟨rfl, hlr, rfl⟩ := x2
 have hlr : m[i].length = p[i].length := by omega
 obtain ⟨a3, k3, hv3, -, -, -, f3⟩ := r1.open1
 obtain ⟨a4, k4, hv4, -, -, -, f4⟩ := r2.open1
 cases hv3
 simp only [Value.slice.injEq] at hv4
 obtain ⟨rfl, -, -⟩ := hv4
 apply List.ext_getElem hlr
 intro j g1 g2
 obtain ⟨b3, o3, e3, -, y3⟩ := f3 j g1
 obtain ⟨b4, o4, e4, -, y4⟩ := f4 j g2
 rw [e3] at e4
 cases e4
 rw [H3 _ _ g1] at y3
 rw [H3 _ _ g2] at y4
 rw [y3] at y4
 have := Option.some.inj y4
 cases hb1 : m[i][j] <;> cases hb2 : p[i][j] <;> simp_all
noncomputable def aB9 (w : World) (v : Value) : Nat := open Classical in if h : ∃ m, P5 w v m then pot h.choose else 0
theorem bA2 {w : World} {v : Value} {m : List (List Bool)} (h : P5 w v m) : aB9 w v = pot m := by
 unfold aB9
 have hx : ∃ m, P5 w v m := ⟨m, h⟩
 rw [dif_pos hx]
 rw [P5.unique hx.choose_spec h]
theorem E6.pot {w : World} {lo hi g : Nat} {m : List (List Bool)} (h : E6 w lo hi g m) : aB9 w (.slice (some ⟨g, 0, none⟩) m.length m.length) = pot m := bA2 h.1.row
theorem bv2 {l : List Bool} : ∀ u ∈ bools l, u.oneCell' = true := by
 intro u hu
 obtain ⟨x, _, rfl⟩ := List.mem_map.1 hu
 rfl
theorem bh0 (v : Value) (t : List Bool) (w : World) (h : N3 w v t.length 1 (bools t)) (hb : t.length ≤ 100000000000000) :
  Calls Tryz.prog 178 #[v] w fun e w' => ∃ u, e = .returned u ∧ I8 w' w.heap.size w'.heap.size 4 1 u t.length (bools t) ∧ Below w.heap.size w w' := by
 obtain ⟨a, cap, rfl, hc1, hc2, hc3, -⟩ := h.open
 have hnil := fun w => Lib.run_eql_slice_nil (P := Tryz.prog) w 57 4 a t.length cap 0 0 Tryz.underlying57
 rcases a with _ | a
 ·have hn : t.length = 0 := by
   rcases Nat.eq_zero_or_pos t.length with h0 | h0
   ·exact h0
   ·obtain ⟨_, a, c, he, _, _, hx⟩ := h
    cases he
    obtain ⟨_, _, he, _⟩ := hx h0
    cases he
  have ht : t = [] := ca3 hn
  subst ht
  simp only [b86, Option.isNone_none] at hnil
  go_enter Tryz.func178, Tryz.ntmps178
  go_wp2_with fail
  go_ret
  exact ⟨_, rfl, ⟨World.ownsRow_nil _ _ _ _, fun g hg => by cases hg⟩, Below.refl _ _⟩
 ·go_enter Tryz.func178, Tryz.ntmps178
  simp only [Option.isNone_some] at hnil
  have ba := (Below.refl w.heap.size w).alloc (b94 _) (.cells #[] 4)
  go_wp2_with (at_builtin; refine Y9 rfl _ _ rfl Tryz.underlying57 bR0 rfl (by omega) rfl (Q3 w #[] 0 1 _ rfl rfl (by omega)).1 rfl (h.below ba) bv2 (by omega) (by omega) (by simp) ?_; rintro a4 q4 w4 o4 b4 - -)
  go_ret
  refine ⟨_, rfl, I8.mk' (by simpa using o4), ba.trans b4⟩
theorem aK1 (n : Nat) (v : Value) : (E5 [v] n).toArray = cb8 n v := by rw [aa6]; simp
theorem bs5 (W : World) (n : Nat) (hn : 1 ≤ n) (hm : n ≤ 9223372036854775807) :
  let W2 := (W.alloc (.cells (cb8 n (.slice none 0 0)) 57)).alloc (.cells (cb8 14 (.bool false)) 4)
  W2.frozen? ⟨W.heap.size, 0, none⟩ = false ∧ (∃ u, W2.cell? ⟨W.heap.size, 0, none⟩ = some u) ∧
  E6 (W2.setCell ⟨W.heap.size, 0, none⟩ (.slice (some ⟨W.heap.size + 1, 0, none⟩) 14 14)) W.heap.size (W.heap.size + 1 + 1) W.heap.size ((b82 n ([] : List Bool)).set 0 (b82 14 false)) := by
 intro W2
 have h0 := a46 W [.slice none 0 0] n 1 57 rfl hm
 rw [aK1, aa6] at h0
 have k0 : Below (W.heap.size + 1) (W.alloc (.cells (cb8 n (.slice none 0 0)) 57)) W2 := by
  have := (Below.refl (W.heap.size + 1) (W.alloc (.cells (cb8 n (.slice none 0 0)) 57))).alloc (by simp) (.cells (cb8 14 (.bool false)) 4)
  exact this
 have h1 := h0.keep k0 (b94 _)
 have hS : E6 W2 W.heap.size (W.heap.size + 1) W.heap.size (b82 n ([] : List Bool)) := by
  refine ⟨⟨b82 n (.slice none 0 0), by rw [b87]; exact h1, fun i u r hu hr => ?_, fun i j a b _ ha _ => ?_, fun i u hu => ?_⟩, fun i hi _ => ?_⟩
  ·rw [cc5] at hu hr
   split at hu
   ·rename_i hi
    rw [if_pos hi] at hr
    cases hu; cases hr
    exact ⟨World.ownsRow_nil _ _ _ _, fun g hg => by cases hg⟩
   ·cases hu
  ·rw [cc5] at ha
   split at ha
   ·cases ha; intro g hg; cases hg
   ·cases ha
  ·rw [cc5] at hu
   split at hu
   ·cases hu; intro g hg; cases hg
   ·cases hu
  ·rw [b87] at hi
   obtain ⟨g, cap, hv, -, -, -, -, -, -, hcc⟩ := h1.open (by omega)
   cases hv
   exact hcc i _ (by rw [cc5, if_pos hi])
 have hr : I8 W2 (W.heap.size + 1) (W.heap.size + 1 + 1) 4 1 (.slice (some ⟨W.heap.size + 1, 0, none⟩) 14 14) 14 (bools (b82 14 false)) := by
  have := Q3 (W.alloc (.cells (cb8 n (.slice none 0 0)) 57)) (g := W.heap.size + 1) (cb8 14 (.bool false)) 14 1 4 (by simp) (by simp) (by omega)
  rw [show (cb8 14 (Value.bool false)).toList = bools (b82 14 false) by simp [bools]] at this
  simpa using this
 have hl : 0 < (b82 n ([] : List Bool)).length := by rw [b87]; omega
 obtain ⟨hf, u, hc, -⟩ := hS.at hl
 exact ⟨hf, ⟨u, hc⟩, (hS.setRow hl (by simp) hr (b94 _) (by omega))⟩
theorem bs6 {w : World} {lo g y : Nat} {m : List (List Bool)} (h : E6 w lo w.heap.size g m) (hy : y < m.length) :
  (w.alloc (.cells (cb8 14 (.bool false)) 4)).frozen? ⟨g, y, none⟩ = false ∧ (∃ u, (w.alloc (.cells (cb8 14 (.bool false)) 4)).cell? ⟨g, y, none⟩ = some u) ∧
  E6 ((w.setCell ⟨g, y, none⟩ (.slice (some ⟨w.heap.size, 0, none⟩) 14 14)).alloc (.cells (cb8 14 (.bool false)) 4)) lo (w.heap.size + 1) g (m.set y (b82 14 false)) ∧
  ∀ v : Value, G2 w g m v → (∀ b, v.ownBlock = some b → b < w.heap.size) → G2 ((w.setCell ⟨g, y, none⟩ (.slice (some ⟨w.heap.size, 0, none⟩) 14 14)).alloc (.cells (cb8 14 (.bool false)) 4)) g (m.set y (b82 14 false)) v := by
 have hlt := h.lt
 have ba : Below w.heap.size w (w.alloc (.cells (cb8 14 (.bool false)) 4)) := by go_grown
 have h1 := (h.next ba).1
 have hr := Q3 w (g := w.heap.size) (cb8 14 (.bool false)) 14 1 4 rfl (by simp) (by omega)
 rw [show (cb8 14 (Value.bool false)).toList = bools (b82 14 false) by simp [bools]] at hr
 have h2 := h1.setRow hy (by simp) hr (b94 _) (by omega)
 have e := World.setCell_alloc_past (w := w) (.cells (cb8 14 (.bool false)) 4) g y (.slice (some ⟨w.heap.size, 0, none⟩) 14 14) hlt.2.2
 rw [e] at h2
 obtain ⟨f, u, cu, -⟩ := h1.at hy
 refine ⟨f, ⟨u, cu⟩, h2, fun v hv hb => ?_⟩
 have h3 := (hv.next h ba).setRow (u := .slice (some ⟨w.heap.size, 0, none⟩) 14 14) (r := b82 14 false) h1 hy (fun b e1 e2 => by have := hb b e1; cases e2; exact absurd this (Nat.lt_irrefl _))
 rw [e] at h3
 exact h3
theorem bf4 {l : Int} (h : i5 l = true) : l = 0 ∨ l = 1 ∨ l = 2 ∨ l = 3 := by
 simp [i5] at h; omega
theorem B5 (l : Int) (w : World) : Calls Tryz.prog 142 #[.int .i64 l] w fun e w' => e = .returned (.bool (scB l)) ∧ w = w' := by
 cases h : i5 l
 ·have HT := show Hid (scB l = false) from by unfold Hid scB; rw [h]; rfl
  go_enter Tryz.func142, Tryz.ntmps142
  go_wp2_with fail
  refine (O1 l _).mono ?_
  rintro e w1 ⟨rfl, rfl⟩
  rw [h]
  clear h
  go_wp2_with fail
  go_ret
  exact ⟨i6 HT.out.symm, rfl⟩
 ·rcases bf4 h with rfl | rfl | rfl | rfl
  all_goals
   clear h
   go_enter Tryz.func142, Tryz.ntmps142
   go_wp2_with fail
   refine (O1 _ _).mono ?_
   rintro e w1 ⟨rfl, rfl⟩
   rw [show i5 _ = true from rfl]
   go_wp2_with fail
   go_ret
   exact ⟨by simp [go_sem, scB, i5]; decide, rfl⟩
theorem N3.bools14 {w : World} {v : Value} {t : List Bool} (h : N3 w v 14 1 (bools t)) : t.length = 14 ∧ ∃ b off cap, v = .slice (some ⟨b, off, none⟩) 14 cap ∧ 14 ≤ cap ∧ cap ≤ 9223372036854775807 ∧ b < w.heap.size ∧ ∀ k : Nat, k < 14 → w.cell? ⟨b, off + k, none⟩ = some (.bool (bAt t k)) := by
 have hl : t.length = 14 := by have := h.1; simpa [bools] using this
 obtain ⟨a, cap, rfl, h1, -, h2, h3⟩ := h.open1
 obtain ⟨b, off, rfl, hb, -⟩ := h3 0 (by omega)
 refine ⟨hl, b, off, cap, rfl, h1, h2, hb, fun k hk => ?_⟩
 obtain ⟨b', off', he, -, hc⟩ := h3 k hk
 cases he
 rw [hc]
 simp [bools, bAt, show k < t.length by omega]
theorem N3.intsAt {w : World} {v : Value} {l : List Int} (h : N3 w v l.length 1 (ints l)) (hn : 0 < l.length) : ∃ b off cap, v = .slice (some ⟨b, off, none⟩) l.length cap ∧ l.length ≤ cap ∧ cap ≤ 9223372036854775807 ∧ l.length ≤ 9223372036854775807 ∧ b < w.heap.size ∧ ∀ k : Nat, k < l.length → w.cell? ⟨b, off + k, none⟩ = some (.int .i64 (iAt l k)) := by
 obtain ⟨a, cap, rfl, h1, h4, h2, h3⟩ := h.open1
 obtain ⟨b, off, rfl, hb, -⟩ := h3 0 hn
 refine ⟨b, off, cap, rfl, h1, h2, h4, hb, fun k hk => ?_⟩
 obtain ⟨b', off', he, -, hc⟩ := h3 k hk
 cases he
 rw [hc]
 simp [ints, iAt, hk]
theorem bf8 (v u : Value) (c : i8) (x : d9) (t : List Bool) (w : World) (h : G6 w v c) (hx : J0 c x = true) (ht : N3 w u 14 1 (bools t)) :
  Calls Tryz.prog 148 #[v, x.v, u] w fun e w' => e = .returned (.int .i64 (O8 c x t)) ∧ Below w.heap.size w w' := by
 obtain ⟨v1, v2, v3, rfl, h1, h2, h3⟩ := h
 have hf := aM5 hx
 obtain ⟨o, a, b, d, g⟩ := x
 simp only at hf
 obtain ⟨W, hW⟩ : ∃ W, W = ((w.alloc (.cells #[v1, v2, v3] 36)).alloc (.cells #[.int .i64 o, .int .i64 a, .int .i64 b, .int .i64 d, .int .i64 g] 86)) := ⟨_, rfl⟩
 have B0 : Below w.heap.size w W := by rw [hW]; go_grown
 obtain ⟨htl, tb, tq, tc, rfl, htc, htm, htb, htx⟩ := ht.bools14
 clear ht hx
 have hOF : Hid (O8 c ⟨o, a, b, d, g⟩ t = if o = 3 then (if bAt t b && !scB (iAt c.vars a) then 1 else 0) else if o = 4 then (if bAt t d then 4 else 0)
   else if o = 5 then (if bAt t b then 4 else if bAt t d && !scB (iAt c.arrays a) then 1 else 0) else if o = 9 ∨ o = 10 then (if bAt t a then 3 else 0) else 0) := rfl
 have tx : ∀ k : Nat, k < 14 → W.cell? ⟨tb, tq + k, none⟩ = some (.bool (bAt t k)) := fun k hk => by rw [(K0 B0).1 _ _ htb]; exact htx k hk
 clear htx
 by_cases o3 : o = 3
 ·subst o3
  obtain ⟨⟨f1, f2⟩, f3, f4⟩ := hf.2.2.2.1 rfl
  clear hf
  obtain ⟨b', rfl⟩ : ∃ n : Nat, b = n := ⟨b.toNat, by omega⟩
  obtain ⟨a', rfl⟩ : ∃ n : Nat, a = n := ⟨a.toNat, by omega⟩
  obtain ⟨vb, vo, vc, rfl, hvc, hvm, hvn, hvb, hvx⟩ := h1.intsAt (by omega)
  have y1 := tx b' (by omega)
  have y2 := hvx a' (by omega)
  rw [← (K0 B0).1 _ _ hvb] at y2
  rw [hW] at y1 y2
  have hR : Hid (O8 c ⟨3, a', b', d, g⟩ t = if bAt t b' && !scB (iAt c.vars a') then 1 else 0) := by unfold Hid; rw [hOF.out]; simp
  clear hOF tx hvx h1 h2 h3
  cases hb : bAt t b'
  all_goals
   rw [hb] at y1
   have HB := show Hid _ from hb
   clear hb
   go_enter Tryz.func148, Tryz.ntmps148
   go_wp2_with fail
  ·go_ret
   exact ⟨B9 (by rw [hR.out, HB.out]; rfl), by go_grown⟩
  ·refine (B5 _ _).mono ?_
   rintro e w1 ⟨rfl, rfl⟩
   cases hs : scB (iAt c.vars a')
   all_goals
    have HS := show Hid _ from hs
    clear hs
    go_wp2_with fail
    go_ret
    exact ⟨B9 (by rw [hR.out, HB.out, HS.out]; rfl), by go_grown⟩
 by_cases o4 : o = 4
 ·subst o4
  have hff := (hf.2.2.2.2.1 rfl).2.2
  obtain ⟨k', hk'⟩ : ∃ n : Nat, d = n := ⟨d.toNat, by omega⟩
  subst hk'
  have hk14 : k' < 14 := by omega
  have y1 := tx k' hk14
  rw [hW] at y1
  have hR : Hid (O8 c ⟨4, a, b, k', g⟩ t = if bAt t k' then 4 else 0) := by unfold Hid; rw [hOF.out]; simp
  clear hOF tx h1 h2 h3 hf hff
  cases hb : bAt t k'
  all_goals
   rw [hb] at y1
   have HB := show Hid _ from hb
   clear hb
   go_enter Tryz.func148, Tryz.ntmps148
   go_wp2_with fail
   go_ret
   exact ⟨B9 (by rw [hR.out, HB.out]; rfl), by go_grown⟩
 by_cases o5 : o = 5
 ·subst o5
  obtain ⟨⟨f1, f2⟩, ⟨f3, f4⟩, f5, f6⟩ := hf.2.2.2.2.2.1 rfl
  clear hf
  obtain ⟨b', rfl⟩ : ∃ n : Nat, b = n := ⟨b.toNat, by omega⟩
  obtain ⟨a', rfl⟩ : ∃ n : Nat, a = n := ⟨a.toNat, by omega⟩
  obtain ⟨d', rfl⟩ : ∃ n : Nat, d = n := ⟨d.toNat, by omega⟩
  obtain ⟨vb, vo, vc, rfl, hvc, hvm, hvn, hvb, hvx⟩ := h2.intsAt (by omega)
  have y1 := tx b' (by omega)
  have y3 := tx d' (by omega)
  have y2 := hvx a' (by omega)
  rw [← (K0 B0).1 _ _ hvb] at y2
  rw [hW] at y1 y2 y3
  have hR : Hid (O8 c ⟨5, a', b', d', g⟩ t = if bAt t b' then 4 else if bAt t d' && !scB (iAt c.arrays a') then 1 else 0) := by unfold Hid; rw [hOF.out]; simp
  clear hOF tx hvx h1 h2 h3
  cases hb : bAt t b'
  all_goals
   rw [hb] at y1
   have HB := show Hid _ from hb
   clear hb
  ·cases hd : bAt t d'
   all_goals
    rw [hd] at y3
    have HD := show Hid _ from hd
    clear hd
    go_enter Tryz.func148, Tryz.ntmps148
    go_wp2_with fail
   ·go_ret
    exact ⟨B9 (by rw [hR.out, HB.out, HD.out]; rfl), by go_grown⟩
   ·refine (B5 _ _).mono ?_
    rintro e w1 ⟨rfl, rfl⟩
    cases hs : scB (iAt c.arrays a')
    all_goals
     have HS := show Hid _ from hs
     clear hs
     go_wp2_with fail
     go_ret
     exact ⟨B9 (by rw [hR.out, HB.out, HD.out, HS.out]; rfl), by go_grown⟩
  ·go_enter Tryz.func148, Tryz.ntmps148
   go_wp2_with fail
   go_ret
   exact ⟨B9 (by rw [hR.out, HB.out]; rfl), by go_grown⟩
 by_cases o9 : o = 9
 ·subst o9
  have hff := hf.2.2.2.2.2.2.2.2.1 rfl
  obtain ⟨k', hk'⟩ : ∃ n : Nat, a = n := ⟨a.toNat, by omega⟩
  subst hk'
  have hk14 : k' < 14 := by omega
  have y1 := tx k' hk14
  rw [hW] at y1
  have hR : Hid (O8 c ⟨9, k', b, d, g⟩ t = if bAt t k' then 3 else 0) := by unfold Hid; rw [hOF.out]; simp
  clear hOF tx h1 h2 h3 hf hff
  cases hb : bAt t k'
  all_goals
   rw [hb] at y1
   have HB := show Hid _ from hb
   clear hb
   go_enter Tryz.func148, Tryz.ntmps148
   go_wp2_with fail
   go_ret
   exact ⟨B9 (by rw [hR.out, HB.out]; rfl), by go_grown⟩
 by_cases o10 : o = 10
 ·subst o10
  have hff := hf.2.2.2.2.2.2.2.2.2 rfl
  obtain ⟨k', hk'⟩ : ∃ n : Nat, a = n := ⟨a.toNat, by omega⟩
  subst hk'
  have hk14 : k' < 14 := by omega
  have y1 := tx k' hk14
  rw [hW] at y1
  have hR : Hid (O8 c ⟨10, k', b, d, g⟩ t = if bAt t k' then 3 else 0) := by unfold Hid; rw [hOF.out]; simp
  clear hOF tx h1 h2 h3 hf hff
  cases hb : bAt t k'
  all_goals
   rw [hb] at y1
   have HB := show Hid _ from hb
   clear hb
   go_enter Tryz.func148, Tryz.ntmps148
   go_wp2_with fail
   go_ret
   exact ⟨B9 (by rw [hR.out, HB.out]; rfl), by go_grown⟩
 have hR : Hid (O8 c ⟨o, a, b, d, g⟩ t = 0) := by unfold Hid; rw [hOF.out]; simp [o3, o4, o5, o9, o10]
 clear hOF tx h1 h2 h3 hf
 have p3 : (o == 3) = false := by simp [o3]
 have p4 : (o == 4) = false := by simp [o4]
 have p5 : (o == 5) = false := by simp [o5]
 have p9 : (o == 9) = false := by simp [o9]
 have p10 : (o == 10) = false := by simp [o10]
 clear o3 o4 o5 o9 o10
 go_enter Tryz.func148, Tryz.ntmps148
 go_wp2_with fail
 go_ret
 exact ⟨B9 hR.out.symm, by go_grown⟩
theorem Q7 {c : i8} {x : d9} {t : List Bool} {b : Bool} (h : E4 c x t = some b) : w6 c x t = t.set x.a.toNat b := by simp [w6, h]
theorem bb0 {c : i8} {x : d9} {t : List Bool} (h : E4 c x t = none) : w6 c x t = t := by simp [w6, h]
theorem J8 {w : World} {lo hi : Nat} {g k a : Nat} {t : List Bool} (h : I8 w lo hi 4 1 (.slice (some ⟨g, 0, none⟩) 14 k) 14 (bools t)) (ha : a < 14) (b : Bool) :
  I8 (w.setCell ⟨g, a, none⟩ (.bool b)) lo hi 4 1 (.slice (some ⟨g, 0, none⟩) 14 k) 14 (bools (t.set a b)) := by
 have hl : (bools t).length = 14 := by have := h.1.1; simpa using this
 have := h.setCell (j := a) (by omega) (.bool b)
 rwa [show (bools t).set a (.bool b) = bools (t.set a b) by simp [bools]] at this
theorem aD4 (v u : Value) (c : i8) (x : d9) (t : List Bool) (w : World) (h : G6 w v c) (hx : J0 c x = true) (ht : N3 w u 14 1 (bools t)) :
  Calls Tryz.prog 110 #[v, x.v, u] w fun e w' => ∃ r, e = .returned r ∧ I8 w' w.heap.size w'.heap.size 4 1 r 14 (bools (w6 c x t)) ∧ Below w.heap.size w w' := by
 obtain ⟨v1, v2, v3, rfl, h1, h2, h3⟩ := h
 have hf := aM5 hx
 obtain ⟨o, a, b, d, g⟩ := x
 simp only at hf
 obtain ⟨W, hW⟩ : ∃ W, W = ((w.alloc (.cells #[v1, v2, v3] 36)).alloc (.cells #[.int .i64 o, .int .i64 a, .int .i64 b, .int .i64 d, .int .i64 g] 86)) := ⟨_, rfl⟩
 have B0 : Below w.heap.size w W := by rw [hW]; go_grown
 have sW : W.heap.size = w.heap.size + 1 + 1 := by rw [hW]; simp
 have L1 : H7 W w.heap.size [v1, v2, v3] := by rw [hW]; exact (H7.new w [v1, v2, v3] _).alloc _
 have L2 : H7 W (w.heap.size + 1) [.int .i64 o, .int .i64 a, .int .i64 b, .int .i64 d, .int .i64 g] := by rw [hW]; exact H7.new' (w.alloc _) [.int .i64 o, .int .i64 a, .int .i64 b, .int .i64 d, .int .i64 g] _ (by simp)
 obtain ⟨htl, tb, tof, tc, rfl, htc, htm, htb, htx⟩ := ht.bools14
 have hOF : Hid (E4 c ⟨o, a, b, d, g⟩ t = if o = 1 ∨ o = 11 then some false else if o = 2 then some (scB (iAt c.vars b)) else if o = 4 then some (scB (iAt c.arrays b) || bAt t d)
   else if o = 6 then some (bAt t d || bAt t g) else if o = 7 then some (bAt t b || bAt t d || bAt t g) else none) := rfl
 go_enter Tryz.func110, Tryz.ntmps110
 go_wp2_with fail
 rw [← hW]
 clear hW
 refine (bh0 _ t _ (by rw [htl]; exact ht.below B0) (by omega)).mono ?_
 rintro e w1 ⟨u1, rfl, o1r, b1⟩
 rw [htl] at o1r
 replace L1 := L1.below b1 L1.lt
 replace L2 := L2.below b1 L2.lt
 have B1 := B0.trans (b1.mono B0.size)
 obtain ⟨gr, kr, hvr, hg1, -, hg3, -, -, hgf, hgc⟩ := o1r.open (by omega)
 cases hvr
 rw [sW] at o1r hg1
 have s1 := B1.size
 have tx : ∀ k : Nat, k < 14 → w1.cell? ⟨tb, tof + k, none⟩ = some (.bool (bAt t k)) := fun k hk => by rw [(K0 B1).1 _ _ htb]; exact htx k hk
 clear htx ht
 have x0 := L2.cell 0
 simp only [b95] at x0
 by_cases o1 : o = 1
 ·subst o1
  have hff := hf.1 rfl
  obtain ⟨a', ha'⟩ : ∃ n : Nat, a = n := ⟨a.toNat, by omega⟩
  subst ha'
  have ha14 : a' < 14 := by omega
  have hR : Hid (w6 c ⟨1, a', b, d, g⟩ t = t.set a' false) := by unfold Hid; rw [Q7 (b := false) (by rw [hOF.out]; simp)]; simp
  have x1 := L2.cell 1
  simp only [b95, cb2] at x1
  have hf0 := hgf a'
  obtain ⟨u0, hc0⟩ : ∃ u0, w1.cell? ⟨gr, a', none⟩ = some u0 := ⟨_, hgc a' _ (H3 t a' (by omega))⟩
  clear hff hOF tx hf
  go_wp2_with fail
  go_ret
  rw [hR.out]
  exact ⟨_, rfl, J8 (o1r.wide (by omega) (by simp)) ha14 _, B1.setCell (p := ⟨gr, a', none⟩) (by show _ ≤ gr; omega) _⟩
 by_cases o11 : o = 11
 ·subst o11
  have hff := hf.2.1 rfl
  obtain ⟨a', ha'⟩ : ∃ n : Nat, a = n := ⟨a.toNat, by omega⟩
  subst ha'
  have ha14 : a' < 14 := by omega
  have hR : Hid (w6 c ⟨11, a', b, d, g⟩ t = t.set a' false) := by unfold Hid; rw [Q7 (b := false) (by rw [hOF.out]; simp)]; simp
  have x1 := L2.cell 1
  simp only [b95, cb2] at x1
  have hf0 := hgf a'
  obtain ⟨u0, hc0⟩ : ∃ u0, w1.cell? ⟨gr, a', none⟩ = some u0 := ⟨_, hgc a' _ (H3 t a' (by omega))⟩
  clear hff hOF tx hf
  go_wp2_with fail
  go_ret
  rw [hR.out]
  exact ⟨_, rfl, J8 (o1r.wide (by omega) (by simp)) ha14 _, B1.setCell (p := ⟨gr, a', none⟩) (by show _ ≤ gr; omega) _⟩
 have q1 : (o == 1) = false := by simp [o1]
 have q11 : (o == 11) = false := by simp [o11]
 by_cases o2 : o = 2
 ·subst o2
  have hff := hf.2.2.1 rfl
  clear hf
  obtain ⟨a', ha'⟩ : ∃ n : Nat, a = n := ⟨a.toNat, by omega⟩
  subst ha'
  obtain ⟨b', hb'⟩ : ∃ n : Nat, b = n := ⟨b.toNat, by omega⟩
  subst hb'
  obtain ⟨vb, vo, vc, rfl, hvc, hvm, hvn, hvb, hvx⟩ := h1.intsAt (by omega)
  have y2 := hvx b' (by omega)
  have hR : Hid (w6 c ⟨2, a', b', d, g⟩ t = t.set a' (scB (iAt c.vars b'))) := by unfold Hid; rw [Q7 (b := scB (iAt c.vars b')) (by rw [hOF.out]; simp)]; simp
  have ha14 : a' < 14 := by omega
  have ha14i : (a' : Int) < 14 := by omega
  have hf0 := hgf a'
  obtain ⟨u0, hc0⟩ : ∃ u0, w1.cell? ⟨gr, a', none⟩ = some u0 := ⟨_, hgc a' _ (H3 t a' (by omega))⟩
  have hb14 : b' < c.vars.length := by omega
  have hb14i : (b' : Int) < (c.vars.length : Int) := by omega
  clear hff hOF tx
  cases hv0 : scB (iAt c.vars b')
  ·have HV0 := show Hid _ from hv0
   clear hv0
   have ya := L2.cell 1
   have yb := L2.cell 2
   have yv := L1.cell 0
   simp only [b95, cb2] at yv ya yb
   have yw : w1.cell? ⟨vb, vo + b', none⟩ = some (.int .i64 (iAt c.vars b')) := by rw [(K0 B1).1 _ _ hvb]; exact y2
   have zya := fun X => f8 ya X
   have zyb := fun X => f8 yb X
   have zyv := fun X => f8 yv X
   have zyw := fun X => f8 yw X
   have zhc0 := fun X => f8 hc0 X
   have zf := fun X => C7 hg3 hf0 X
   have HC : Hid (∀ X, Calls Tryz.prog 142 #[.int .i64 (iAt c.vars b')] (w1.ext X) fun e w'' => e = .returned (.bool false) ∧ ∃ Y, w'' = w1.ext Y) := fun X => (B5 _ _).mono fun e w' ⟨e1, e2⟩ => ⟨by rw [e1, HV0.out], X, e2.symm⟩
   clear ya yb yv yw hc0 h1 h2 h3 y2 hvx hgc hgf
   have x0 := L2.cell 0
   simp only [b95] at x0
   go_wp2_with fail
   refine v5 11 _ rfl (by kernel_rfl) (by kernel_rfl) ?_
   simp only [List.set_cons_succ, List.set_cons_zero, R8]
   repeat (any_goals (first | go_big_quiet_step ((go_at_call 142; exact HC.out _)) | quiet_step ((go_at_call 142; exact HC.out _))))
   refine wpQuiet_nil ?_
   rintro _ ⟨X, rfl⟩
   go_wp2_with fail
   go_ret
   rw [hR.out, HV0.out]
   exact ⟨_, rfl, J8 (w := w1.ext X) ((o1r.keep (l7 w1 X) (b94 _)).wide (by omega) (by simp [World.ext])) ha14 _, (B1.trans ((l7 w1 X).mono s1)).setCell (p := ⟨gr, a', none⟩) (by show _ ≤ gr; omega) _⟩
  ·have HV0 := show Hid _ from hv0
   clear hv0
   have ya := L2.cell 1
   have yb := L2.cell 2
   have yv := L1.cell 0
   simp only [b95, cb2] at yv ya yb
   have yw : w1.cell? ⟨vb, vo + b', none⟩ = some (.int .i64 (iAt c.vars b')) := by rw [(K0 B1).1 _ _ hvb]; exact y2
   have zya := fun X => f8 ya X
   have zyb := fun X => f8 yb X
   have zyv := fun X => f8 yv X
   have zyw := fun X => f8 yw X
   have zhc0 := fun X => f8 hc0 X
   have zf := fun X => C7 hg3 hf0 X
   have HC : Hid (∀ X, Calls Tryz.prog 142 #[.int .i64 (iAt c.vars b')] (w1.ext X) fun e w'' => e = .returned (.bool true) ∧ ∃ Y, w'' = w1.ext Y) := fun X => (B5 _ _).mono fun e w' ⟨e1, e2⟩ => ⟨by rw [e1, HV0.out], X, e2.symm⟩
   clear ya yb yv yw hc0 h1 h2 h3 y2 hvx hgc hgf
   have x0 := L2.cell 0
   simp only [b95] at x0
   go_wp2_with fail
   refine v5 11 _ rfl (by kernel_rfl) (by kernel_rfl) ?_
   simp only [List.set_cons_succ, List.set_cons_zero, R8]
   repeat (any_goals (first | go_big_quiet_step ((go_at_call 142; exact HC.out _)) | quiet_step ((go_at_call 142; exact HC.out _))))
   refine wpQuiet_nil ?_
   rintro _ ⟨X, rfl⟩
   go_wp2_with fail
   go_ret
   rw [hR.out, HV0.out]
   exact ⟨_, rfl, J8 (w := w1.ext X) ((o1r.keep (l7 w1 X) (b94 _)).wide (by omega) (by simp [World.ext])) ha14 _, (B1.trans ((l7 w1 X).mono s1)).setCell (p := ⟨gr, a', none⟩) (by show _ ≤ gr; omega) _⟩
 have q2 : (o == 2) = false := by simp [o2]
 by_cases o4 : o = 4
 ·subst o4
  have hff := hf.2.2.2.2.1 rfl
  clear hf
  obtain ⟨a', ha'⟩ : ∃ n : Nat, a = n := ⟨a.toNat, by omega⟩
  subst ha'
  obtain ⟨b', hb'⟩ : ∃ n : Nat, b = n := ⟨b.toNat, by omega⟩
  subst hb'
  obtain ⟨d', hd'⟩ : ∃ n : Nat, d = n := ⟨d.toNat, by omega⟩
  subst hd'
  obtain ⟨vb, vo, vc, rfl, hvc, hvm, hvn, hvb, hvx⟩ := h2.intsAt (by omega)
  have y2 := hvx b' (by omega)
  have hR : Hid (w6 c ⟨4, a', b', d', g⟩ t = t.set a' (scB (iAt c.arrays b') || bAt t d')) := by unfold Hid; rw [Q7 (b := scB (iAt c.arrays b') || bAt t d') (by rw [hOF.out]; simp)]; simp
  have ha14 : a' < 14 := by omega
  have ha14i : (a' : Int) < 14 := by omega
  have rd := tx d' (by omega)
  have hrd14 : d' < 14 := by omega
  have hrd14i : (d' : Int) < 14 := by omega
  have hf0 := hgf a'
  obtain ⟨u0, hc0⟩ : ∃ u0, w1.cell? ⟨gr, a', none⟩ = some u0 := ⟨_, hgc a' _ (H3 t a' (by omega))⟩
  have hb14 : b' < c.arrays.length := by omega
  have hb14i : (b' : Int) < (c.arrays.length : Int) := by omega
  clear hff hOF tx
  cases hv0 : scB (iAt c.arrays b')
  ·have HV0 := show Hid _ from hv0
   clear hv0
   cases hv1 : bAt t d'
   ·have HV1 := show Hid _ from hv1
    rw [hv1] at rd
    clear hv1
    have ya := L2.cell 1
    have yb := L2.cell 2
    have yd := L2.cell 3
    have yv := L1.cell 1
    simp only [b95, cb2] at yv ya yb yd
    have yw : w1.cell? ⟨vb, vo + b', none⟩ = some (.int .i64 (iAt c.arrays b')) := by rw [(K0 B1).1 _ _ hvb]; exact y2
    have zya := fun X => f8 ya X
    have zyb := fun X => f8 yb X
    have zyd := fun X => f8 yd X
    have zyv := fun X => f8 yv X
    have zyw := fun X => f8 yw X
    have zrd := fun X => f8 rd X
    have zhc0 := fun X => f8 hc0 X
    have zf := fun X => C7 hg3 hf0 X
    have HC : Hid (∀ X, Calls Tryz.prog 142 #[.int .i64 (iAt c.arrays b')] (w1.ext X) fun e w'' => e = .returned (.bool false) ∧ ∃ Y, w'' = w1.ext Y) := fun X => (B5 _ _).mono fun e w' ⟨e1, e2⟩ => ⟨by rw [e1, HV0.out], X, e2.symm⟩
    clear ya yb yd yv yw rd hc0 h1 h2 h3 y2 hvx hgc hgf
    have x0 := L2.cell 0
    simp only [b95] at x0
    go_wp2_with fail
    refine v5 18 _ rfl (by kernel_rfl) (by kernel_rfl) ?_
    simp only [List.set_cons_succ, List.set_cons_zero, R8]
    repeat (any_goals (first | go_big_quiet_step ((go_at_call 142; exact HC.out _)) | quiet_step ((go_at_call 142; exact HC.out _))))
    refine wpQuiet_nil ?_
    rintro _ ⟨X, rfl⟩
    go_wp2_with fail
    go_ret
    rw [hR.out, HV0.out, HV1.out]
    exact ⟨_, rfl, J8 (w := w1.ext X) ((o1r.keep (l7 w1 X) (b94 _)).wide (by omega) (by simp [World.ext])) ha14 _, (B1.trans ((l7 w1 X).mono s1)).setCell (p := ⟨gr, a', none⟩) (by show _ ≤ gr; omega) _⟩
   ·have HV1 := show Hid _ from hv1
    rw [hv1] at rd
    clear hv1
    have ya := L2.cell 1
    have yb := L2.cell 2
    have yd := L2.cell 3
    have yv := L1.cell 1
    simp only [b95, cb2] at yv ya yb yd
    have yw : w1.cell? ⟨vb, vo + b', none⟩ = some (.int .i64 (iAt c.arrays b')) := by rw [(K0 B1).1 _ _ hvb]; exact y2
    have zya := fun X => f8 ya X
    have zyb := fun X => f8 yb X
    have zyd := fun X => f8 yd X
    have zyv := fun X => f8 yv X
    have zyw := fun X => f8 yw X
    have zrd := fun X => f8 rd X
    have zhc0 := fun X => f8 hc0 X
    have zf := fun X => C7 hg3 hf0 X
    have HC : Hid (∀ X, Calls Tryz.prog 142 #[.int .i64 (iAt c.arrays b')] (w1.ext X) fun e w'' => e = .returned (.bool false) ∧ ∃ Y, w'' = w1.ext Y) := fun X => (B5 _ _).mono fun e w' ⟨e1, e2⟩ => ⟨by rw [e1, HV0.out], X, e2.symm⟩
    clear ya yb yd yv yw rd hc0 h1 h2 h3 y2 hvx hgc hgf
    have x0 := L2.cell 0
    simp only [b95] at x0
    go_wp2_with fail
    refine v5 18 _ rfl (by kernel_rfl) (by kernel_rfl) ?_
    simp only [List.set_cons_succ, List.set_cons_zero, R8]
    repeat (any_goals (first | go_big_quiet_step ((go_at_call 142; exact HC.out _)) | quiet_step ((go_at_call 142; exact HC.out _))))
    refine wpQuiet_nil ?_
    rintro _ ⟨X, rfl⟩
    go_wp2_with fail
    go_ret
    rw [hR.out, HV0.out, HV1.out]
    exact ⟨_, rfl, J8 (w := w1.ext X) ((o1r.keep (l7 w1 X) (b94 _)).wide (by omega) (by simp [World.ext])) ha14 _, (B1.trans ((l7 w1 X).mono s1)).setCell (p := ⟨gr, a', none⟩) (by show _ ≤ gr; omega) _⟩
  ·have HV0 := show Hid _ from hv0
   clear hv0
   have ya := L2.cell 1
   have yb := L2.cell 2
   have yd := L2.cell 3
   have yv := L1.cell 1
   simp only [b95, cb2] at yv ya yb yd
   have yw : w1.cell? ⟨vb, vo + b', none⟩ = some (.int .i64 (iAt c.arrays b')) := by rw [(K0 B1).1 _ _ hvb]; exact y2
   have zya := fun X => f8 ya X
   have zyb := fun X => f8 yb X
   have zyd := fun X => f8 yd X
   have zyv := fun X => f8 yv X
   have zyw := fun X => f8 yw X
   have zhc0 := fun X => f8 hc0 X
   have zf := fun X => C7 hg3 hf0 X
   have HC : Hid (∀ X, Calls Tryz.prog 142 #[.int .i64 (iAt c.arrays b')] (w1.ext X) fun e w'' => e = .returned (.bool true) ∧ ∃ Y, w'' = w1.ext Y) := fun X => (B5 _ _).mono fun e w' ⟨e1, e2⟩ => ⟨by rw [e1, HV0.out], X, e2.symm⟩
   clear ya yb yd yv yw hc0 h1 h2 h3 y2 hvx hgc hgf
   have x0 := L2.cell 0
   simp only [b95] at x0
   go_wp2_with fail
   refine v5 18 _ rfl (by kernel_rfl) (by kernel_rfl) ?_
   simp only [List.set_cons_succ, List.set_cons_zero, R8]
   repeat (any_goals (first | go_big_quiet_step ((go_at_call 142; exact HC.out _)) | quiet_step ((go_at_call 142; exact HC.out _))))
   refine wpQuiet_nil ?_
   rintro _ ⟨X, rfl⟩
   go_wp2_with fail
   go_ret
   rw [hR.out, HV0.out]
   exact ⟨_, rfl, J8 (w := w1.ext X) ((o1r.keep (l7 w1 X) (b94 _)).wide (by omega) (by simp [World.ext])) ha14 _, (B1.trans ((l7 w1 X).mono s1)).setCell (p := ⟨gr, a', none⟩) (by show _ ≤ gr; omega) _⟩
 have q4 : (o == 4) = false := by simp [o4]
 by_cases o6 : o = 6
 ·subst o6
  have hff := hf.2.2.2.2.2.2.1 rfl
  clear hf
  obtain ⟨a', ha'⟩ : ∃ n : Nat, a = n := ⟨a.toNat, by omega⟩
  subst ha'
  obtain ⟨d', hd'⟩ : ∃ n : Nat, d = n := ⟨d.toNat, by omega⟩
  subst hd'
  obtain ⟨g', hg'⟩ : ∃ n : Nat, g = n := ⟨g.toNat, by omega⟩
  subst hg'
  have hR : Hid (w6 c ⟨6, a', b, d', g'⟩ t = t.set a' (bAt t d' || bAt t g')) := by unfold Hid; rw [Q7 (b := bAt t d' || bAt t g') (by rw [hOF.out]; simp)]; simp
  have ha14 : a' < 14 := by omega
  have ha14i : (a' : Int) < 14 := by omega
  have rd := tx d' (by omega)
  have hrd14 : d' < 14 := by omega
  have hrd14i : (d' : Int) < 14 := by omega
  have rg := tx g' (by omega)
  have hrg14 : g' < 14 := by omega
  have hrg14i : (g' : Int) < 14 := by omega
  have hf0 := hgf a'
  obtain ⟨u0, hc0⟩ : ∃ u0, w1.cell? ⟨gr, a', none⟩ = some u0 := ⟨_, hgc a' _ (H3 t a' (by omega))⟩
  clear hff hOF tx
  cases hv0 : bAt t d'
  ·have HV0 := show Hid _ from hv0
   rw [hv0] at rd
   clear hv0
   cases hv1 : bAt t g'
   ·have HV1 := show Hid _ from hv1
    rw [hv1] at rg
    clear hv1
    have ya := L2.cell 1
    have yd := L2.cell 3
    have yg := L2.cell 4
    simp only [b95, cb2] at  ya yd yg
    have zya := fun X => f8 ya X
    have zyd := fun X => f8 yd X
    have zyg := fun X => f8 yg X
    have zrd := fun X => f8 rd X
    have zrg := fun X => f8 rg X
    have zhc0 := fun X => f8 hc0 X
    have zf := fun X => C7 hg3 hf0 X
    clear ya yd yg rd rg hc0 h1 h2 h3 hgc hgf
    have x0 := L2.cell 0
    simp only [b95] at x0
    go_wp2_with fail
    refine v5 16 _ rfl (by kernel_rfl) (by kernel_rfl) ?_
    simp only [List.set_cons_succ, List.set_cons_zero, R8]
    repeat (any_goals (first | go_big_quiet_step ((fail)) | quiet_step ((fail))))
    refine wpQuiet_nil ?_
    rintro _ ⟨X, rfl⟩
    go_wp2_with fail
    go_ret
    rw [hR.out, HV0.out, HV1.out]
    exact ⟨_, rfl, J8 (w := w1.ext X) ((o1r.keep (l7 w1 X) (b94 _)).wide (by omega) (by simp [World.ext])) ha14 _, (B1.trans ((l7 w1 X).mono s1)).setCell (p := ⟨gr, a', none⟩) (by show _ ≤ gr; omega) _⟩
   ·have HV1 := show Hid _ from hv1
    rw [hv1] at rg
    clear hv1
    have ya := L2.cell 1
    have yd := L2.cell 3
    have yg := L2.cell 4
    simp only [b95, cb2] at  ya yd yg
    have zya := fun X => f8 ya X
    have zyd := fun X => f8 yd X
    have zyg := fun X => f8 yg X
    have zrd := fun X => f8 rd X
    have zrg := fun X => f8 rg X
    have zhc0 := fun X => f8 hc0 X
    have zf := fun X => C7 hg3 hf0 X
    clear ya yd yg rd rg hc0 h1 h2 h3 hgc hgf
    have x0 := L2.cell 0
    simp only [b95] at x0
    go_wp2_with fail
    refine v5 16 _ rfl (by kernel_rfl) (by kernel_rfl) ?_
    simp only [List.set_cons_succ, List.set_cons_zero, R8]
    repeat (any_goals (first | go_big_quiet_step ((fail)) | quiet_step ((fail))))
    refine wpQuiet_nil ?_
    rintro _ ⟨X, rfl⟩
    go_wp2_with fail
    go_ret
    rw [hR.out, HV0.out, HV1.out]
    exact ⟨_, rfl, J8 (w := w1.ext X) ((o1r.keep (l7 w1 X) (b94 _)).wide (by omega) (by simp [World.ext])) ha14 _, (B1.trans ((l7 w1 X).mono s1)).setCell (p := ⟨gr, a', none⟩) (by show _ ≤ gr; omega) _⟩
  ·have HV0 := show Hid _ from hv0
   rw [hv0] at rd
   clear hv0
   have ya := L2.cell 1
   have yd := L2.cell 3
   have yg := L2.cell 4
   simp only [b95, cb2] at  ya yd yg
   have zya := fun X => f8 ya X
   have zyd := fun X => f8 yd X
   have zyg := fun X => f8 yg X
   have zrd := fun X => f8 rd X
   have zhc0 := fun X => f8 hc0 X
   have zf := fun X => C7 hg3 hf0 X
   clear ya yd yg rd hc0 h1 h2 h3 hgc hgf
   have x0 := L2.cell 0
   simp only [b95] at x0
   go_wp2_with fail
   refine v5 16 _ rfl (by kernel_rfl) (by kernel_rfl) ?_
   simp only [List.set_cons_succ, List.set_cons_zero, R8]
   repeat (any_goals (first | go_big_quiet_step ((fail)) | quiet_step ((fail))))
   refine wpQuiet_nil ?_
   rintro _ ⟨X, rfl⟩
   go_wp2_with fail
   go_ret
   rw [hR.out, HV0.out]
   exact ⟨_, rfl, J8 (w := w1.ext X) ((o1r.keep (l7 w1 X) (b94 _)).wide (by omega) (by simp [World.ext])) ha14 _, (B1.trans ((l7 w1 X).mono s1)).setCell (p := ⟨gr, a', none⟩) (by show _ ≤ gr; omega) _⟩
 have q6 : (o == 6) = false := by simp [o6]
 by_cases o7 : o = 7
 ·subst o7
  have hff := hf.2.2.2.2.2.2.2.1 rfl
  clear hf
  obtain ⟨a', ha'⟩ : ∃ n : Nat, a = n := ⟨a.toNat, by omega⟩
  subst ha'
  obtain ⟨b', hb'⟩ : ∃ n : Nat, b = n := ⟨b.toNat, by omega⟩
  subst hb'
  obtain ⟨d', hd'⟩ : ∃ n : Nat, d = n := ⟨d.toNat, by omega⟩
  subst hd'
  obtain ⟨g', hg'⟩ : ∃ n : Nat, g = n := ⟨g.toNat, by omega⟩
  subst hg'
  have hR : Hid (w6 c ⟨7, a', b', d', g'⟩ t = t.set a' (bAt t b' || bAt t d' || bAt t g')) := by unfold Hid; rw [Q7 (b := bAt t b' || bAt t d' || bAt t g') (by rw [hOF.out]; simp)]; simp
  have ha14 : a' < 14 := by omega
  have ha14i : (a' : Int) < 14 := by omega
  have rb := tx b' (by omega)
  have hrb14 : b' < 14 := by omega
  have hrb14i : (b' : Int) < 14 := by omega
  have rd := tx d' (by omega)
  have hrd14 : d' < 14 := by omega
  have hrd14i : (d' : Int) < 14 := by omega
  have rg := tx g' (by omega)
  have hrg14 : g' < 14 := by omega
  have hrg14i : (g' : Int) < 14 := by omega
  have hf0 := hgf a'
  obtain ⟨u0, hc0⟩ : ∃ u0, w1.cell? ⟨gr, a', none⟩ = some u0 := ⟨_, hgc a' _ (H3 t a' (by omega))⟩
  clear hff hOF tx
  cases hv0 : bAt t b'
  ·have HV0 := show Hid _ from hv0
   rw [hv0] at rb
   clear hv0
   cases hv1 : bAt t d'
   ·have HV1 := show Hid _ from hv1
    rw [hv1] at rd
    clear hv1
    cases hv2 : bAt t g'
    ·have HV2 := show Hid _ from hv2
     rw [hv2] at rg
     clear hv2
     have ya := L2.cell 1
     have yb := L2.cell 2
     have yd := L2.cell 3
     have yg := L2.cell 4
     simp only [b95, cb2] at  ya yb yd yg
     have zya := fun X => f8 ya X
     have zyb := fun X => f8 yb X
     have zyd := fun X => f8 yd X
     have zyg := fun X => f8 yg X
     have zrb := fun X => f8 rb X
     have zrd := fun X => f8 rd X
     have zrg := fun X => f8 rg X
     have zhc0 := fun X => f8 hc0 X
     have zf := fun X => C7 hg3 hf0 X
     clear ya yb yd yg rb rd rg hc0 h1 h2 h3 hgc hgf
     have x0 := L2.cell 0
     simp only [b95] at x0
     go_wp2_with fail
     refine v5 23 _ rfl (by kernel_rfl) (by kernel_rfl) ?_
     simp only [List.set_cons_succ, List.set_cons_zero, R8]
     repeat (any_goals (first | go_big_quiet_step ((fail)) | quiet_step ((fail))))
     refine wpQuiet_nil ?_
     rintro _ ⟨X, rfl⟩
     go_wp2_with fail
     go_ret
     rw [hR.out, HV0.out, HV1.out, HV2.out]
     exact ⟨_, rfl, J8 (w := w1.ext X) ((o1r.keep (l7 w1 X) (b94 _)).wide (by omega) (by simp [World.ext])) ha14 _, (B1.trans ((l7 w1 X).mono s1)).setCell (p := ⟨gr, a', none⟩) (by show _ ≤ gr; omega) _⟩
    ·have HV2 := show Hid _ from hv2
     rw [hv2] at rg
     clear hv2
     have ya := L2.cell 1
     have yb := L2.cell 2
     have yd := L2.cell 3
     have yg := L2.cell 4
     simp only [b95, cb2] at  ya yb yd yg
     have zya := fun X => f8 ya X
     have zyb := fun X => f8 yb X
     have zyd := fun X => f8 yd X
     have zyg := fun X => f8 yg X
     have zrb := fun X => f8 rb X
     have zrd := fun X => f8 rd X
     have zrg := fun X => f8 rg X
     have zhc0 := fun X => f8 hc0 X
     have zf := fun X => C7 hg3 hf0 X
     clear ya yb yd yg rb rd rg hc0 h1 h2 h3 hgc hgf
     have x0 := L2.cell 0
     simp only [b95] at x0
     go_wp2_with fail
     refine v5 23 _ rfl (by kernel_rfl) (by kernel_rfl) ?_
     simp only [List.set_cons_succ, List.set_cons_zero, R8]
     repeat (any_goals (first | go_big_quiet_step ((fail)) | quiet_step ((fail))))
     refine wpQuiet_nil ?_
     rintro _ ⟨X, rfl⟩
     go_wp2_with fail
     go_ret
     rw [hR.out, HV0.out, HV1.out, HV2.out]
     exact ⟨_, rfl, J8 (w := w1.ext X) ((o1r.keep (l7 w1 X) (b94 _)).wide (by omega) (by simp [World.ext])) ha14 _, (B1.trans ((l7 w1 X).mono s1)).setCell (p := ⟨gr, a', none⟩) (by show _ ≤ gr; omega) _⟩
   ·have HV1 := show Hid _ from hv1
    rw [hv1] at rd
    clear hv1
    have ya := L2.cell 1
    have yb := L2.cell 2
    have yd := L2.cell 3
    have yg := L2.cell 4
    simp only [b95, cb2] at  ya yb yd yg
    have zya := fun X => f8 ya X
    have zyb := fun X => f8 yb X
    have zyd := fun X => f8 yd X
    have zyg := fun X => f8 yg X
    have zrb := fun X => f8 rb X
    have zrd := fun X => f8 rd X
    have zhc0 := fun X => f8 hc0 X
    have zf := fun X => C7 hg3 hf0 X
    clear ya yb yd yg rb rd hc0 h1 h2 h3 hgc hgf
    have x0 := L2.cell 0
    simp only [b95] at x0
    go_wp2_with fail
    refine v5 23 _ rfl (by kernel_rfl) (by kernel_rfl) ?_
    simp only [List.set_cons_succ, List.set_cons_zero, R8]
    repeat (any_goals (first | go_big_quiet_step ((fail)) | quiet_step ((fail))))
    refine wpQuiet_nil ?_
    rintro _ ⟨X, rfl⟩
    go_wp2_with fail
    go_ret
    rw [hR.out, HV0.out, HV1.out]
    exact ⟨_, rfl, J8 (w := w1.ext X) ((o1r.keep (l7 w1 X) (b94 _)).wide (by omega) (by simp [World.ext])) ha14 _, (B1.trans ((l7 w1 X).mono s1)).setCell (p := ⟨gr, a', none⟩) (by show _ ≤ gr; omega) _⟩
  ·have HV0 := show Hid _ from hv0
   rw [hv0] at rb
   clear hv0
   have ya := L2.cell 1
   have yb := L2.cell 2
   have yd := L2.cell 3
   have yg := L2.cell 4
   simp only [b95, cb2] at  ya yb yd yg
   have zya := fun X => f8 ya X
   have zyb := fun X => f8 yb X
   have zyd := fun X => f8 yd X
   have zyg := fun X => f8 yg X
   have zrb := fun X => f8 rb X
   have zhc0 := fun X => f8 hc0 X
   have zf := fun X => C7 hg3 hf0 X
   clear ya yb yd yg rb hc0 h1 h2 h3 hgc hgf
   have x0 := L2.cell 0
   simp only [b95] at x0
   go_wp2_with fail
   refine v5 23 _ rfl (by kernel_rfl) (by kernel_rfl) ?_
   simp only [List.set_cons_succ, List.set_cons_zero, R8]
   repeat (any_goals (first | go_big_quiet_step ((fail)) | quiet_step ((fail))))
   refine wpQuiet_nil ?_
   rintro _ ⟨X, rfl⟩
   go_wp2_with fail
   go_ret
   rw [hR.out, HV0.out]
   exact ⟨_, rfl, J8 (w := w1.ext X) ((o1r.keep (l7 w1 X) (b94 _)).wide (by omega) (by simp [World.ext])) ha14 _, (B1.trans ((l7 w1 X).mono s1)).setCell (p := ⟨gr, a', none⟩) (by show _ ≤ gr; omega) _⟩
 have q7 : (o == 7) = false := by simp [o7]
 have hR : Hid (w6 c ⟨o, a, b, d, g⟩ t = t) := by unfold Hid; rw [bb0 (by rw [hOF.out]; simp [o1, o11, o2, o4, o6, o7])]
 clear hOF tx hf o11 o2 o4 o6 o7
 go_wp2_with fail
 go_ret
 rw [hR.out]
 exact ⟨_, rfl, o1r.wide (by omega) (b94 _), B1⟩
end Go.Proofs.YthikdkjjdeehoaaGreat

namespace Go.Proofs.YthikdkjjdeehoaaGreat
set_option linter.unusedVariables false
set_option linter.unusedSimpArgs false
open Go Go.RowKit
theorem br1 {w : World} {v : Value} {m : List (List Bool)} (h : P5 w v m) : ∃ a cap, v = .slice a m.length cap ∧ m.length ≤ 9223372036854775807 ∧
  ∀ i, i < m.length → ∃ b off a' c', a = some ⟨b, off, none⟩ ∧ b < w.heap.size ∧ w.cell? ⟨b, off + i, none⟩ = some (.slice a' (rowAt m i).length c') ∧ N3 w (.slice a' (rowAt m i).length c') (rowAt m i).length 1 (bools (rowAt m i)) := by
 obtain ⟨a, cap, h1, h2, h3⟩ := h.open
 refine ⟨a, cap, h1, h2, fun i hi => ?_⟩
 rw [P9 hi]
 exact h3 i hi
theorem aD7 (v u : Value) (c : i8) (m : List (List Bool)) (w : World) (hc : E3 c = true) (h : G6 w v c) (hm : P5 w u m) (hl : m.length = c.list.length) (hr : m.all ap4 = true) :
  Calls Tryz.prog 73 #[v, u] w fun e w' => e = .returned (.tuple #[.int .i64 (P1 c m).1, .int .i64 (P1 c m).2]) ∧ Below w.heap.size w w' := by
 have hrow := h
 obtain ⟨v1, v2, v3, rfl, h1, h2, h3⟩ := h
 obtain ⟨W, hW⟩ : ∃ W, W = w.alloc (.cells #[v1, v2, v3] 36) := ⟨_, rfl⟩
 have B0 : Below w.heap.size w W := by rw [hW]; go_grown
 have L1 : H7 W w.heap.size [v1, v2, v3] := by rw [hW]; exact (H7.new w [v1, v2, v3] _)
 obtain ⟨a3, k3, rfl, hk3, hm3, -, hc3⟩ := h3.ins
 obtain ⟨am, km, rfl, hmm, hmc⟩ := br1 hm
 have hn4 := (C0 hc).2.2.1
 go_enter Tryz.func73, Tryz.ntmps73
 go_wp2_with fail
 rw [← hW]
 clear hW
 go_loopw [6, 7, 8, 11] (fun _ _ _ i wr => ∃ k : Nat, k ≤ m.length ∧ i = .int .i64 k ∧ P3 c m k = false ∧ Below W.heap.size W wr) (fun _ _ _ i _ => m.length - (intOf i).toNat)
 case atStart => exact ⟨0, cb1 _, rfl, rfl, Below.refl _ _⟩
 case round =>
  obtain ⟨k, hk, rfl, ha, hb⟩ := hrel
  have HA := show Hid _ from ha
  clear ha
  replace L1 := L1.below hb L1.lt
  have BW := B0.trans (hb.mono B0.size)
  by_cases hlt : k < m.length
  ·have hltc : k < c.list.length := by omega
   obtain ⟨b, off, rfl, hb3, i0, i1, i2, i3, i4⟩ := hc3 k hltc
   obtain ⟨bm, om, a', c', rfl, hbm, xm, hrm⟩ := hmc k hlt
   have hx := (C0 hc).2.2.2.1 k hltc
   have HB : Hid (badAt c m k = (decide (0 < (rowAt m k).length) && decide (O8 c (F4 c k) (rowAt m k) ≠ 0))) := rfl
   rw [an6 hltc] at HB
   have HF := show Hid (P3 c m k = false → badAt c m k = true → P1 c m = (O8 c (F4 c k) (rowAt m k), (k : Int))) from fun g1 g2 => a72 hlt g1 g2
   rw [an6 hltc] at HF
   have HS := show Hid _ from ba4 c m k
   have hlr := T9 hr k
   rw [← (K0 BW).1 _ _ hb3] at i0 i1 i2 i3 i4
   rw [← (K0 BW).1 _ _ hbm] at xm
   replace hrm := hrm.below BW
   generalize rowAt m k = r at *
   generalize c.list[k] = x at *
   clear hc3 hmc hr
   have x0 := L1.cell 0
   have x1 := L1.cell 1
   have x2 := L1.cell 2
   simp only [b95, cb2] at x0 x1 x2
   by_cases h0 : r.length = 0
   ·have q0 : ((r.length : Int) == 0) = true := by simp [h0]
    have HN := show Hid (P3 c m (k + 1) = false) from by unfold Hid; rw [HS.out, HA.out, HB.out]; simp [h0]
    clear HF HB hlr h0
    go_wp2_with fail
    exact ⟨⟨k + 1, by omega, by go_num, HN.out, hb⟩, by simp [intOf]; omega⟩
   ·have h14 : r.length = 14 := by omega
    have q0 : ((r.length : Int) == 0) = false := by rw [h14]; rfl
    have hrr : N3 wr (.slice a' r.length c') 14 1 (bools r) := by rw [h14] at hrm ⊢; exact hrm
    have z0 := fun X => f8 x0 X
    have z1 := fun X => f8 x1 X
    have z2 := fun X => f8 x2 X
    have j0 := fun X => f8 i0 X
    have j1 := fun X => f8 i1 X
    have j2 := fun X => f8 i2 X
    have j3 := fun X => f8 i3 X
    have j4 := fun X => f8 i4 X
    have hl14 : (r.length : Int) ≤ 14 := by omega
    have HC : Hid (∀ X, Calls Tryz.prog 148 #[.agg #[v1, v2, .slice (some ⟨b, off, none⟩) c.list.length k3], x.v, .slice a' r.length c'] (wr.ext X) fun e w'' => e = .returned (.int .i64 (O8 c x r)) ∧ ∃ Y, w'' = wr.ext Y) :=
     fun X => Calls.ext_of' (bf8 _ _ c x r _ ((hrow.below BW).below (l7 _ X)) hx (hrr.below (l7 _ X)))
    by_cases ho : O8 c x r = 0
    ·have qo : (O8 c x r != 0) = false := by simp [ho]
     have HN := show Hid (P3 c m (k + 1) = false) from by unfold Hid; rw [HS.out, HA.out, HB.out]; simp [ho]
     clear HF HB hlr h0 ho hrr hrm h14 x0 x1 x2 i0 i1 i2 i3 i4
     go_wp2_with fail
     refine r9 (by kernel_rfl) (by kernel_rfl) ?_
     repeat (any_goals (first | go_big_quiet_step ((go_at_call 148; exact HC.out _)) | quiet_step ((go_at_call 148; exact HC.out _))))
     refine wpQuiet_nil ?_
     rintro _ ⟨X, rfl⟩
     have hbX := hb.trans ((l7 wr X).mono hb.size)
     go_wp2_with fail
     exact ⟨⟨k + 1, by omega, by go_num, HN.out, hbX⟩, by simp [intOf]; omega⟩
    ·have qo : (O8 c x r != 0) = true := by simp [ho]
     have HN := show Hid (P1 c m = (O8 c x r, (k : Int))) from HF.out HA.out (by rw [HB.out]; simp [ho]; omega)
     clear HF HB hlr h0 ho hrr hrm h14 x0 x1 x2 i0 i1 i2 i3 i4
     go_wp2_with fail
     refine r9 (by kernel_rfl) (by kernel_rfl) ?_
     repeat (any_goals (first | go_big_quiet_step ((go_at_call 148; exact HC.out _)) | quiet_step ((go_at_call 148; exact HC.out _))))
     refine wpQuiet_nil ?_
     rintro _ ⟨X, rfl⟩
     have hbX := hb.trans ((l7 wr X).mono hb.size)
     go_wp2_with fail
     go_ret2
     exact ⟨by rw [HN.out]; rfl, B0.trans (hbX.mono B0.size)⟩
  ·have e : k = m.length := by omega
   subst e
   have HN := show Hid _ from aC2 HA.out
   clear hc3 hmc
   go_wp2_with fail
   go_ret2
   exact ⟨by rw [HN.out]; rfl, BW⟩
theorem a64 (x : d9) (w : World) :
  Calls Tryz.prog 179 #[x.v] w fun e w' => e = .returned (.int .i64 (F9 x)) ∧ Below w.heap.size w w' := by
 obtain ⟨x0, x1, x2, x3, x4⟩ := x
 by_cases h8 : x0 = 8
 ·have HN := show Hid (F9 ⟨x0, x1, x2, x3, x4⟩ = x1) from by simp [Hid, F9, h8]
  have q8 : (x0 == 8) = true := by simp [h8]
  clear h8
  go_enter Tryz.func179, Tryz.ntmps179
  go_wp2_with fail
  go_ret
  exact ⟨B9 HN.out.symm, by go_grown⟩
 ·have q8 : (x0 == 8) = false := by simp [h8]
  by_cases h9 : x0 = 9 ∨ x0 = 10
  ·have HN := show Hid (F9 ⟨x0, x1, x2, x3, x4⟩ = x2) from by simp [Hid, F9, h8, h9]
   have h9' : (x0 == 9) = true ∨ ((x0 == 9) = false ∧ (x0 == 10) = true) := by
    rcases h9 with h9 | h9
    ·left; simp [h9]
    ·right; simp [h9]
   clear h8 h9
   rcases h9' with q9 | ⟨q9, q10⟩
   all_goals
    go_enter Tryz.func179, Tryz.ntmps179
    go_wp2_with fail
    go_ret
    exact ⟨B9 HN.out.symm, by go_grown⟩
  ·have HN := show Hid (F9 ⟨x0, x1, x2, x3, x4⟩ = -1) from by simp [Hid, F9, h8, h9]
   have q9 : (x0 == 9) = false := by simp; omega
   have q10 : (x0 == 10) = false := by simp; omega
   clear h8 h9
   go_enter Tryz.func179, Tryz.ntmps179
   go_wp2_with fail
   go_ret
   exact ⟨B9 HN.out.symm, by go_grown⟩
theorem aD6 (v : Value) (c : i8) (i : Nat) (w : World) (h : G6 w v c) (hi : i < c.list.length) :
    Calls Tryz.prog 111 #[v, .int .i64 i] w fun e w' => ∃ u, e = .returned u ∧ I8 w' w.heap.size w'.heap.size 3 1 u (ak8 c.list[i] i).length (ints (ak8 c.list[i] i)) ∧ Below w.heap.size w w' := by
  obtain ⟨v1, v2, v3, rfl, h1, h2, h3⟩ := h
  obtain ⟨a3, k3, rfl, hk3, hm3, -, hc3⟩ := h3.ins
  obtain ⟨W, hW⟩ : ∃ W, W = (w.alloc (.cells #[v1, v2, .slice a3 c.list.length k3] 36)) := ⟨_, rfl⟩
  have B0 : Below w.heap.size w W := by rw [hW]; go_grown
  have L1 : H7 W w.heap.size [v1, v2, .slice a3 c.list.length k3] := by rw [hW]; exact (H7.new w [v1, v2, .slice a3 c.list.length k3] _)
  have sW : W.heap.size = w.heap.size + 1 := by rw [hW]; simp
  obtain ⟨b, off, rfl, hb3, i0, i1, i2, i3, i4⟩ := hc3 i hi
  rw [← (K0 B0).1 _ _ hb3] at i0 i1 i2 i3 i4
  have x2 := L1.cell 2
  simp at x2
  generalize c.list[i] = x at *
  clear hc3 h3 h1 h2
  go_enter Tryz.func111, Tryz.ntmps111
  rw [hW] at x2 i0 i1 i2 i3 i4
  go_wp2_with fail
  rw [← hW]
  clear x2 i0 i1 i2 i3 i4 hW
  have s0 := B0.size
  have L2 := H7.new W [.int .i64 x.op, .int .i64 x.a, .int .i64 x.b, .int .i64 x.c, .int .i64 x.d] 86
  have B1 : Below w.heap.size w (W.alloc (.cells #[.int .i64 x.op, .int .i64 x.a, .int .i64 x.b, .int .i64 x.c, .int .i64 x.d] 86)) := B0.trans (Below.mono (by go_grown : Below W.heap.size W _) s0)
  generalize W.alloc (.cells #[.int .i64 x.op, .int .i64 x.a, .int .i64 x.b, .int .i64 x.c, .int .i64 x.d] 86) = W1 at *
  rw [sW] at L2
  clear B0 s0 sW
  have s1 := B1.size
  refine (a64 x _).mono ?_
  rintro e w1 ⟨rfl, b1⟩
  replace L2 := L2.below b1 L2.lt
  have B2 := B1.trans (b1.mono s1)
  have s2 := B2.size
  have HN : Hid (ak8 x i = (if 0 ≤ F9 x then [F9 x] else []) ++ (if x.op ≠ 8 ∧ x.op ≠ 13 then [(i : Int) + 1] else [])) := rfl
  generalize F9 x = tg at *
  have c0 := L2.cell 0
  simp only [b95] at c0
  by_cases ht : 0 ≤ tg
  · have HT := show Hid _ from ht
    go_wp2_with (first | (at_builtin; refine Y9 rfl _ _ rfl Tryz.underlying23 bn3 rfl (by omega) rfl (World.ownsRow_nil _ w1.heap.size _ _) rfl (aK0 w1 (.int .i64 tg) _ rfl) (fun u hu => by simp at hu; subst hu; rfl) (by omega) (by omega) (by simp) ?_; rintro a1 q1 w2 o2 b2 - -; have b2' := ((Below.refl w1.heap.size w1).alloc (b94 _) _).trans b2; replace L2 := L2.below b2' L2.lt; have B3 := B2.trans (b2'.mono s2); have s3 := b2'.size; have d0 := L2.cell 0; simp only [b95] at d0; clear b2) | (at_builtin; refine Y9 rfl _ _ rfl Tryz.underlying23 bn3 rfl (by omega) rfl (o2.alloc _) rfl (aK0 w2 (.int .i64 ((i : Int) + 1)) _ rfl) (fun u hu => by simp at hu; subst hu; rfl) (by omega) (by omega) (by simp; omega) ?_; rintro a2 q2 w3 o3 b3 - -; have b3' := ((Below.refl w1.heap.size w2).alloc s3 _).trans b3; have B4 := B3.trans (Below.mono (b3' : Below w1.heap.size w2 w3) s2)))
    all_goals go_ret
    all_goals simp only [bne_iff_ne, ne_eq, bne_eq_false_iff_eq] at *
    all_goals first
      | (have e : ak8 x i = [tg, (i : Int) + 1] := by
           rw [HN.out, if_pos HT.out]; clear HN HT; simp; omega
         rw [e]; exact ⟨_, rfl, I8.mk' (M5 o3 s2), B4⟩)
      | (have e : ak8 x i = [tg] := by
           rw [HN.out, if_pos HT.out]; clear HN HT; simp; omega
         rw [e]; exact ⟨_, rfl, I8.mk' (M5 o2 s2), B3⟩)
  · have HT := show Hid (¬ 0 ≤ tg) from ht
    go_wp2_with ((at_builtin; refine Y9 rfl _ _ rfl Tryz.underlying23 bn3 rfl (by omega) rfl (World.ownsRow_nil _ w1.heap.size _ _) rfl (aK0 w1 (.int .i64 ((i : Int) + 1)) _ rfl) (fun u hu => by simp at hu; subst hu; rfl) (by omega) (by omega) (by simp) ?_; rintro a1 q1 w2 o2 b2 - -; have b2' := ((Below.refl w1.heap.size w1).alloc (b94 _) _).trans b2; have B3 := B2.trans (b2'.mono s2)))
    all_goals go_ret
    all_goals simp only [bne_iff_ne, ne_eq, bne_eq_false_iff_eq] at *
    all_goals first
      | (have e : ak8 x i = [(i : Int) + 1] := by
           rw [HN.out, if_neg (by have := HT.out; omega)]; clear HN HT; simp; omega
         rw [e]; exact ⟨_, rfl, I8.mk' (M5 o2 s2), B3⟩)
      | (have e : ak8 x i = [] := by
           rw [HN.out, if_neg (by have := HT.out; omega)]; clear HN HT; simp; omega
         rw [e]; exact ⟨_, rfl, ⟨World.ownsRow_nil _ _ _ _, fun g hg => by cases hg⟩, B2⟩)
theorem ay7 (v : Value) (c : i8) (hc : E3 c = true) (t : Int) (w : World) (h : G6 w v c) (h0 : 0 ≤ t) (h1 : t < c.list.length) :
  Calls Tryz.prog 111 #[v, .int .i64 t] w fun e w' => ∃ u ns, e = .returned u ∧ ns.length ≤ 2 ∧ (∀ x, x ∈ ns ↔ x ∈ nx c t) ∧ I8 w' w.heap.size w'.heap.size 3 1 u ns.length (ints ns) ∧ Below w.heap.size w w' := by
 obtain ⟨i, rfl⟩ : ∃ i : Nat, t = i := ⟨t.toNat, by omega⟩
 have hi : i < c.list.length := by omega
 have e : nx c i = ap5 c.list[i] i := bB3 (t := (i : Int)) hi
 rw [e]
 refine (aD6 v c i w h hi).mono fun _ _ ⟨u, h1, h2, h3⟩ => ⟨u, _, h1, bs0 _ _, fun x => br9 ((C0 hc).2.2.2.1 i hi) _ _, h2, h3⟩
end Go.Proofs.YthikdkjjdeehoaaGreat

namespace Go.Proofs.YthikdkjjdeehoaaGreat
set_option linter.unusedVariables false
set_option linter.unusedSimpArgs false
open Go Go.RowKit
theorem bO1 {w : World} {b b' o b2 o2 : Nat} {x y z i0 i1 i2 i3 i4 u : Value} (L : H7 w b [x, y, z]) (hb' : b' < w.heap.size) (h0 : w.cell? ⟨b', o, none⟩ = some i0) (h1 : w.cell? ⟨b', o + 1, none⟩ = some i1) (h2 : w.cell? ⟨b', o + 2, none⟩ = some i2) (h3 : w.cell? ⟨b', o + 3, none⟩ = some i3) (h4 : w.cell? ⟨b', o + 4, none⟩ = some i4)
  (hb2 : b2 < w.heap.size) (hu : w.cell? ⟨b2, o2, none⟩ = some u) : ∀ W', Below w.heap.size w W' → Below w.heap.size w W' ∧ (W'.cell? ⟨b, 0, none⟩ = some x ∧ W'.cell? ⟨b, 1, none⟩ = some y ∧ W'.cell? ⟨b, 2, none⟩ = some z) ∧
  (W'.cell? ⟨b', o, none⟩ = some i0 ∧ W'.cell? ⟨b', o + 1, none⟩ = some i1 ∧ W'.cell? ⟨b', o + 2, none⟩ = some i2 ∧ W'.cell? ⟨b', o + 3, none⟩ = some i3 ∧ W'.cell? ⟨b', o + 4, none⟩ = some i4) ∧ W'.cell? ⟨b2, o2, none⟩ = some u := by
 intro W' hb
 have e := (K0 hb).1
 exact ⟨hb, bF6 L W' hb, ⟨(e _ _ hb').trans h0, (e _ _ hb').trans h1, (e _ _ hb').trans h2, (e _ _ hb').trans h3, (e _ _ hb').trans h4⟩, (e _ _ hb2).trans hu⟩
end Go.Proofs.YthikdkjjdeehoaaGreat

namespace Go.Proofs.YthikdkjjdeehoaaGreat
set_option linter.unusedVariables false
set_option linter.unusedSimpArgs false
open Go Go.RowKit
theorem aD5 (v : Value) (c : i8) (hc : E3 c = true) (w : World) (h : G6 w v c) :
  Calls Tryz.prog 74 #[v] w fun e w' => ∃ g m, e = .returned (.slice (some ⟨g, 0, none⟩) m.length m.length) ∧ M6 c m ∧ E6 w' w.heap.size w'.heap.size g m ∧ Below w.heap.size w w' := by
 have hrow := h
 obtain ⟨v1, v2, v3, rfl, h1, h2, h3⟩ := h
 obtain ⟨a3, k3, rfl, -, hm3, -, hc3⟩ := h3.ins
 obtain ⟨W, hW⟩ : ∃ W, W = (w.alloc (.cells #[v1, v2, .slice a3 c.list.length k3] 36)) := ⟨_, rfl⟩
 have B0 : Below w.heap.size w W := by rw [hW]; go_grown
 have sW : W.heap.size = w.heap.size + 1 := by rw [hW]; simp
 have L1 : H7 W w.heap.size [v1, v2, .slice a3 c.list.length k3] := by rw [hW]; exact (H7.new w [v1, v2, .slice a3 c.list.length k3] _)
 obtain ⟨-, hn1, hn2, -, -⟩ := C0 hc
 have hmk := aL5 (P := Tryz.prog) (t := 53) Tryz.underlying53 bU4 rfl (by omega) c.list.length (by omega) hm3
 have hmk2 : ∀ w, (Instr.makeSlice 57 (.int .i64 14) (.int .i64 14)).run Tryz.prog w = _ := aL5 (P := Tryz.prog) (t := 57) Tryz.underlying57 bR0 rfl (by omega) 14 (by omega) (by omega)
 rw [show (Value.slice none 0 0).cells.toList = [Value.slice none 0 0] from rfl, aK1] at hmk
 rw [show (Value.bool false).cells.toList = [Value.bool false] from rfl, aK1] at hmk2
 obtain ⟨f0, ⟨u0, p0⟩, hS⟩ := bs5 W c.list.length hn1 hm3
 rw [sW] at f0 p0 hS
 have hfr := @bs6
 have x2 := L1.cell 2
 simp at x2
 generalize cb8 14 (Value.bool false) = z14 at *
 generalize cb8 c.list.length (Value.slice none 0 0) = zn at *
 have HFR := show Hid _ from @hfr
 clear hfr
 rw [hW] at x2 f0 p0
 go_enter Tryz.func74, Tryz.ntmps74
 go_wp2_with fail
 rw [← hW]
 rw [World.setCell_alloc_past _ _ _ _ (by simp [sW]), World.setCell_alloc_at _ _ _ _ _ sW.symm] at hS
 clear x2 hmk f0 p0 hW
 obtain ⟨W2, hW2⟩ : ∃ W2, W2 = (W.alloc (.cells (zn.setIfInBounds 0 (.slice (some ⟨w.heap.size + 1 + 1, 0, none⟩) 14 14)) 57)).alloc (.cells z14 4) := ⟨_, rfl⟩
 rw [← hW2] at hS ⊢
 have B2 : Below w.heap.size w W2 := by rw [hW2]; exact B0.trans (Below.mono (by go_grown : Below W.heap.size W _) B0.size)
 have s2 : W2.heap.size = w.heap.size + 1 + 1 + 1 := by rw [hW2]; simp [sW]
 replace L1 : H7 W2 w.heap.size [v1, v2, .slice a3 c.list.length k3] := by rw [hW2]; exact (L1.alloc _).alloc _
 clear hW2 B0 sW
 have HI := show Hid _ from hc3
 clear hc3
 obtain ⟨G, hG⟩ : ∃ G, G = w.heap.size + 1 := ⟨_, rfl⟩
 rw [← hG] at hS s2 ⊢
 have HG := show Hid _ from hG
 clear hG
 have hst := Low.start hn1
 go_loopw [4, 5, 6, 7, 9, 10, 11] (fun ch _ _ _ _ _ _ wr => ∃ (m : List (List Bool)) (f : Bool), ch = .bool f ∧ E6 wr G wr.heap.size G m ∧ Low c m ∧ (f = false → M6 c m) ∧ H7 wr w.heap.size [v1, v2, .slice a3 c.list.length k3] ∧ Below w.heap.size w wr)
  (fun ch _ _ _ _ _ _ wr => 2 * aB9 wr (.slice (some ⟨G, 0, none⟩) c.list.length c.list.length) + (match ch with | .bool true => 1 | _ => 0))
 case atStart => exact ⟨_, true, rfl, hS.wide (b94 _) (by omega), hst, (fun h => by cases h), L1, B2⟩
 case round =>
  obtain ⟨m, f, rfl, hS, hlow, hf, hL, hb⟩ := hrel
  clear hst B2 L1
  have hml : m.length = c.list.length := hlow.len
  cases f
  ·have HL := show Hid _ from hf rfl
   clear hf
   go_wp2_with fail
   go_ret
   exact ⟨G, m, by rw [hml]; rfl, HL.out, hS.wide (by have := HG.out; omega) (b94 _), hb⟩
  clear hf
  have hpot : Hid (aB9 wr (.slice (some ⟨G, 0, none⟩) c.list.length c.list.length) = pot m) := by have := hS.pot; rw [hml] at this; exact this
  obtain ⟨P0, hP0⟩ : ∃ n, n = pot m := ⟨_, rfl⟩
  have hps := aE3.start hlow
  rw [← hP0] at hps hpot
  clear hP0 hlow
  go_wp2_with fail
  go_loopw [4, 5, 6, 7, 9, 10, 11, 22] (fun ch _ _ _ _ _ _ i wr => ∃ (m : List (List Bool)) (f : Bool) (k : Nat), ch = .bool f ∧ i = .int .i64 k ∧ k ≤ c.list.length ∧ E6 wr G wr.heap.size G m ∧ aE3 c m P0 f k ∧ H7 wr w.heap.size [v1, v2, .slice a3 c.list.length k3] ∧ Below w.heap.size w wr)
   (fun _ _ _ _ _ _ _ i _ => c.list.length - (intOf i).toNat)
  case atStart => exact ⟨m, false, 0, rfl, rfl, cb1 _, hS, hps, hL, hb⟩
  case round =>
   obtain ⟨m, f, k, rfl, rfl, hk, hS, hi, hL, hb⟩ := hrel
   have hml : m.length = c.list.length := hi.low.len
   have HI' := show Hid _ from hi
   clear hi hps
   by_cases hlt : k < c.list.length
   ·have hkm : k < m.length := by omega
    have hro := T9 HI'.out.low.ok k
    by_cases h0 : (rowAt m k).length = 0
    ·have xm := hS.2 k hkm h0
     have hnil := fun w => Lib.run_eql_slice_nil (P := Tryz.prog) w 57 4 none 0 0 0 0 Tryz.underlying57
     simp only [Option.isNone_none] at hnil
     have HN := show Hid _ from HI'.out.skip h0
     clear h0 hro
     go_wp2_with fail
     exact ⟨⟨m, f, k + 1, rfl, by go_num, by omega, hS, HN.out, hL, hb⟩, by simp [intOf]; omega⟩
    ·have h14 : (rowAt m k).length = 14 := by omega
     obtain ⟨gy, cy, xm, -, -, hgy, -, -, -, -, -, hrr⟩ := hS.at14 hkm h14
     have hnil := fun w => Lib.run_eql_slice_nil (P := Tryz.prog) w 57 4 (some ⟨gy, 0, none⟩) 14 cy 0 0 Tryz.underlying57
     simp only [Option.isNone_some] at hnil
     obtain ⟨b, off, rfl, hb3, i0, i1, i2, i3, i4⟩ := HI.out k hlt
     have hins := (C0 hc).2.2.2.1 k hlt
     rw [← (K0 hb).1 _ _ hb3] at i0 i1 i2 i3 i4
     have hcx := bO1 hL (cd2 hb3 hb.size) i0 i1 i2 i3 i4 hS.lt.2.2 xm
     have HCELLS := show Hid _ from hcx
     have HENT := show Hid (∀ ns : List Int, (∀ y, y ∈ ns ↔ y ∈ nx c k) → KInv c m P0 f k (w6 c c.list[k] (rowAt m k)) ns 0) from by
      intro ns hns
      have := HI'.out.enter hkm h14 hns
      rw [an6 hlt] at this
      exact this
     have HFL := show Hid ((w6 c c.list[k] (rowAt m k)).length = 14) from by unfold Hid; rw [P4, h14]
     have hb0 := (Below.refl wr.heap.size wr).drew
     obtain ⟨z, hz⟩ : ∃ z, z = c.list[k] := ⟨_, rfl⟩
     rw [← hz] at i0 i1 i2 i3 i4 HCELLS HENT HFL hins
     clear hcx h14 h0 hro hz
     have hki : (k : Int) < c.list.length := by omega
     go_wp2_with fail
     go_region_held3 (fun W' => Below wr.heap.size wr W' ∧ (W'.cell? ⟨w.heap.size, 0, none⟩ = some v1 ∧ W'.cell? ⟨w.heap.size, 1, none⟩ = some v2 ∧ W'.cell? ⟨w.heap.size, 2, none⟩ = some (.slice (some ⟨b, off, none⟩) c.list.length k3)) ∧
       (W'.cell? ⟨b, off + k * 5, none⟩ = some (.int .i64 z.op) ∧ W'.cell? ⟨b, off + k * 5 + 1, none⟩ = some (.int .i64 z.a) ∧ W'.cell? ⟨b, off + k * 5 + 2, none⟩ = some (.int .i64 z.b) ∧ W'.cell? ⟨b, off + k * 5 + 3, none⟩ = some (.int .i64 z.c) ∧ W'.cell? ⟨b, off + k * 5 + 4, none⟩ = some (.int .i64 z.d)) ∧
       W'.cell? ⟨G, k, none⟩ = some (.slice (some ⟨gy, 0, none⟩) 14 cy))
      (exact HCELLS.out _ (by assumption))
      (first | (go_at_call 110; refine (aD4 _ _ c z (rowAt m k) _ (hrow.below (U3 (by assumption) hb (b94 _))) hins (hrr.below (by assumption))).mono ?_; rintro e w7 ⟨u3, rfl, o3, b7⟩; have q7 := U3 b7 hb0 (b94 _); obtain ⟨a9, c9, rfl⟩ := o3.form))
     obtain ⟨F, hF⟩ : ∃ F, F = w6 c z (rowAt m k) := ⟨_, rfl⟩
     rw [← hF] at HENT HFL o3
     have hb7 := hb.trans (q7.mono hb.size)
     obtain ⟨hS7, hS7b⟩ := hS.next q7
     have hL7 := hL.below q7 hL.lt
     have o7 : I8 w7 wr.heap.size w7.heap.size 4 1 (.slice a9 14 c9) 14 (bools F) := o3
     have hA7 : G2 w7 G m (.slice a9 14 c9) := fun b e hm => by have h1 := (o7.lt b e).1; have h2 := (hS.blk (hS7b b hm)).2.2; omega
     have q7s := q7.size
     have y0 := hL7.cell 0
     have y1 := hL7.cell 1
     have y2 := hL7.cell 2
     simp only [b95, cb2] at y0 y1 y2
     clear o3 b7 i0 i1 i2 i3 i4 xm hrr hF hL hnil
     go_wp2_with fail
     refine (ay7 _ c hc k _ (hrow.below hb7) (by omega) (by omega)).mono ?_
     rintro e w8 ⟨u8, ns, rfl, hnl, hnm, o8, b8⟩
     obtain ⟨a10, c10, rfl⟩ := o8.form
     have hb8 := hb7.trans (b8.mono hb7.size)
     obtain ⟨hS8, hS8b⟩ := hS7.next b8
     have hL8 := hL7.below b8 hL7.lt
     have t8 : I8 w8 w.heap.size w8.heap.size 4 1 (.slice a9 14 c9) 14 (bools F) := (o7.keep b8 (b94 _)).wide hb.size b8.size
     have hA8 := hA7.next hS7 b8
     have n8 : I8 w8 w.heap.size w8.heap.size 3 1 (.slice a10 ns.length c10) ns.length (ints ns) := o8.wide hb7.size (b94 _)
     have hN8 : G2 w8 G m (.slice a10 ns.length c10) := fun b e hm => by have h1 := (o8.lt b e).1; have h2 := (hS7.blk (hS8b b hm)).2.2; omega
     have hsz8 : wr.heap.size ≤ w8.heap.size := cb5 q7s b8.size
     have hnx : ∀ y ∈ ns, 0 ≤ y ∧ y < c.list.length := fun y hy => bB2 hc (by omega) ((hnm y).1 hy)
     have HNX := show Hid _ from hnx
     have HNM := show Hid _ from hnm
     have HKI := show Hid _ from HENT.out ns hnm
     clear hnx hnm o7 o8 b8 q7 HCELLS hS hS7 hS7b hS8b hL7 hb7 y0 y1 y2 hb0 hb hA7 HENT HI'
     go_wp2_with fail
     go_loopw [4, 9, 10, 11, 41] (fun ch _ _ _ i wr => ∃ (m : List (List Bool)) (f : Bool) (j : Nat), ch = .bool f ∧ i = .int .i64 j ∧ j ≤ ns.length ∧ E6 wr G wr.heap.size G m ∧ KInv c m P0 f k F ns j ∧
       I8 wr w.heap.size w8.heap.size 4 1 (.slice a9 14 c9) 14 (bools F) ∧ G2 wr G m (.slice a9 14 c9) ∧ I8 wr w.heap.size w8.heap.size 3 1 (.slice a10 ns.length c10) ns.length (ints ns) ∧ G2 wr G m (.slice a10 ns.length c10) ∧
       H7 wr w.heap.size [v1, v2, .slice (some ⟨b, off, none⟩) c.list.length k3] ∧ Below w.heap.size w wr ∧ w8.heap.size ≤ wr.heap.size)
      (fun _ _ _ _ i _ => ns.length - (intOf i).toNat)
     case atStart => exact ⟨m, f, 0, rfl, rfl, cb1 _, hS8.wide (b94 _) hsz8, HKI.out, t8, hA8, n8, hN8, hL8, hb8, b94 _⟩
     case round =>
      obtain ⟨m, f, j, rfl, rfl, hj, hS, hi, ht, hA, hn, hN, hL, hb, hs8⟩ := hrel
      have hml : m.length = c.list.length := hi.low.len
      have HKI2 := show Hid _ from hi
      have HA := show Hid _ from hA
      have HN := show Hid _ from hN
      clear hi hA hN hS8 t8 hA8 n8 hN8 hL8 hb8 HKI
      by_cases hjl : j < ns.length
      ·obtain ⟨y0, y1⟩ := HNX.out ns[j] (ca5 hjl)
       obtain ⟨y, hy⟩ : ∃ y : Nat, ns[j] = y := ⟨ns[j].toNat, by omega⟩
       obtain ⟨gu, hgu, pu⟩ : ∃ gu, a10 = some ⟨gu, 0, none⟩ ∧ wr.cell? ⟨gu, j, none⟩ = some (.int .i64 ns[j]) := by
        obtain ⟨g, cap', hv, -, -, -, -, -, -, hcc⟩ := hn.open (by omega)
        cases hv
        exact ⟨g, rfl, hcc j _ (by simp [ints, hjl])⟩
       subst hgu
       rw [hy] at pu y0 y1
       have HY := show Hid _ from hy
       have hyl : y < c.list.length := by omega
       have hyli : (y : Int) < c.list.length := by omega
       have hym : y < m.length := by omega
       have hro := T9 HKI2.out.low.ok y
       clear hy
       have hstep : ∀ (W9 : World) (m9 : List (List Bool)) (f9 : Bool), E6 W9 G W9.heap.size G m9 → ax0 c m9 P0 f9 k F ns j y 0 → I8 W9 w.heap.size w8.heap.size 4 1 (.slice a9 14 c9) 14 (bools F) → G2 W9 G m9 (.slice a9 14 c9) →
         I8 W9 w.heap.size w8.heap.size 3 1 (.slice (some ⟨gu, 0, none⟩) ns.length c10) ns.length (ints ns) → G2 W9 G m9 (.slice (some ⟨gu, 0, none⟩) ns.length c10) → H7 W9 w.heap.size [v1, v2, .slice (some ⟨b, off, none⟩) c.list.length k3] → Below w.heap.size w W9 → w8.heap.size ≤ W9.heap.size →
         ∃ (q : Nat), q = 0 ∧ q ≤ 14 ∧ E6 W9 G W9.heap.size G m9 ∧ ax0 c m9 P0 f9 k F ns j y q ∧ I8 W9 w.heap.size w8.heap.size 4 1 (.slice a9 14 c9) 14 (bools F) ∧ G2 W9 G m9 (.slice a9 14 c9) ∧
         I8 W9 w.heap.size w8.heap.size 3 1 (.slice (some ⟨gu, 0, none⟩) ns.length c10) ns.length (ints ns) ∧ G2 W9 G m9 (.slice (some ⟨gu, 0, none⟩) ns.length c10) ∧ H7 W9 w.heap.size [v1, v2, .slice (some ⟨b, off, none⟩) c.list.length k3] ∧ Below w.heap.size w W9 ∧ w8.heap.size ≤ W9.heap.size :=
        fun W9 m9 f9 e1 e2 e3 e4 e5 e6 e7 e8 e9 => ⟨0, rfl, cb1 _, e1, e2, e3, e4, e5, e6, e7, e8, e9⟩
       by_cases h0 : (rowAt m y).length = 0
       case pos =>
        have xm := hS.2 y hym h0
        have hnil := fun w => Lib.run_eql_slice_nil (P := Tryz.prog) w 57 4 none 0 0 0 0 Tryz.underlying57
        simp only [Option.isNone_none] at hnil
        obtain ⟨g1, ⟨u9, g2⟩, g3, g4⟩ := HFR.out hS hym
        have hlt := hS.lt
        have e5 := g4 _ HA.out fun b e => (ht.lt b e).2.2
        have e6 := g4 _ HN.out fun b e => (hn.lt b e).2.2
        have e3 : I8 ((wr.setCell ⟨G, y, none⟩ (.slice (some ⟨wr.heap.size, 0, none⟩) 14 14)).alloc (.cells z14 4)) w.heap.size w8.heap.size 4 1 (.slice a9 14 c9) 14 (bools F) := (Y5 ht HA.out (.inl rfl)).keep (by go_grown : Below wr.heap.size _ _) hs8
        have e4 : I8 ((wr.setCell ⟨G, y, none⟩ (.slice (some ⟨wr.heap.size, 0, none⟩) 14 14)).alloc (.cells z14 4)) w.heap.size w8.heap.size 3 1 (.slice (some ⟨gu, 0, none⟩) ns.length c10) ns.length (ints ns) := (Y5 hn HN.out (.inl rfl)).keep (by go_grown : Below wr.heap.size _ _) hs8
        have e7 : H7 ((wr.setCell ⟨G, y, none⟩ (.slice (some ⟨wr.heap.size, 0, none⟩) 14 14)).alloc (.cells z14 4)) w.heap.size [v1, v2, .slice (some ⟨b, off, none⟩) c.list.length k3] := (hL.other (p := ⟨G, y, none⟩) (by show w.heap.size ≠ G; have := HG.out; omega) _).alloc _
        have e8 : Below w.heap.size w ((wr.setCell ⟨G, y, none⟩ (.slice (some ⟨wr.heap.size, 0, none⟩) 14 14)).alloc (.cells z14 4)) := (hb.setCell (p := ⟨G, y, none⟩) (by show w.heap.size ≤ G; have := HG.out; omega) _).alloc (by have := hb.size; simpa using this) _
        have e9 : ((wr.setCell ⟨G, y, none⟩ (.slice (some ⟨wr.heap.size, 0, none⟩) 14 14)).alloc (.cells z14 4)).heap.size = wr.heap.size + 1 := by simp
        have HFRESH := show Hid _ from HKI2.out.fresh hjl HY.out hym h0
        clear hro h0
        go_wp2_with fail
        obtain ⟨W9, hW9⟩ : ∃ W9, W9 = ((wr.setCell ⟨G, y, none⟩ (.slice (some ⟨wr.heap.size, 0, none⟩) 14 14)).alloc (.cells z14 4)) := ⟨_, rfl⟩
        rw [← hW9] at g3 e3 e4 e5 e6 e7 e8 e9 ⊢
        have hgo := hstep W9 _ true (g3.wide (b94 _) (by omega)) HFRESH.out e3 e5 e4 e6 e7 e8 (by omega)
        clear hW9 g3 e3 e4 e5 e6 e7 e8 g1 g2 g4 xm hnil hS ht hn hL hb HKI2 HA HN hstep HFRESH
        obtain ⟨q0, hq0, hq1, hS, hi, ht, hA, hn, hN, hL, hb, hs9⟩ := hgo
        generalize m.set y (b82 14 false) = m at *
        go_loopw [4, 10, 11, 56] (fun ch _ _ i wr => ∃ (m : List (List Bool)) (f : Bool) (q : Nat), ch = .bool f ∧ i = .int .i64 q ∧ q ≤ 14 ∧ E6 wr G wr.heap.size G m ∧ ax0 c m P0 f k F ns j y q ∧ I8 wr w.heap.size w8.heap.size 4 1 (.slice a9 14 c9) 14 (bools F) ∧ G2 wr G m (.slice a9 14 c9) ∧
          I8 wr w.heap.size w8.heap.size 3 1 (.slice (some ⟨gu, 0, none⟩) ns.length c10) ns.length (ints ns) ∧ G2 wr G m (.slice (some ⟨gu, 0, none⟩) ns.length c10) ∧ H7 wr w.heap.size [v1, v2, .slice (some ⟨b, off, none⟩) c.list.length k3] ∧ Below w.heap.size w wr ∧ w8.heap.size ≤ wr.heap.size)
         (fun _ _ _ i _ => 14 - (intOf i).toNat)
        case atStart => exact ⟨m, _, 0, rfl, rfl, cb1 _, hS, by rw [hq0] at hi; exact hi, ht, hA, hn, hN, hL, hb, hs9⟩
        case round =>
         clear hS hi ht hA hn hN hL hb hs9 hq0 hq1
         obtain ⟨m, f, q, rfl, rfl, hq, hS, hi, ht, hA, hn, hN, hL, hb, hs8⟩ := hrel
         have hml : m.length = c.list.length := hi.low.len
         have hym : y < m.length := by omega
         have HBI := show Hid _ from hi
         have HA := show Hid _ from hA
         have HN := show Hid _ from hN
         clear hi hA hN
         by_cases hql : q < 14
         ·obtain ⟨gt, ct, hv, -, -, -, -, -, -, gc⟩ := ht.open (by omega)
          cases hv
          have hft : F.length = 14 := HBI.out.tl
          have xt := gc q _ (H3 _ q (by omega))
          have hfe : F[q]'(by omega) = F.getD q false := by simp [show q < F.length by omega]
          rw [hfe] at xt
          obtain ⟨gy, cy, xm, gy1, -, gy3, gy4, -, -, gyf, gyx, -⟩ := hS.at14 hym HBI.out.row
          have xb := gyx q hql
          have xf := gyf q
          have hqi : (q : Int) < 14 := by omega
          have hb14 := show Hid (aw9 wr G m gy) from .inr ⟨y, _, hym, xm, rfl⟩
          have HPUT := show Hid _ from fun h1 h0 => HBI.out.put hjl HY.out hym hql h1 h0
          have HKEEP := show Hid _ from HBI.out.keep (q := q)
          clear gc hfe gyf gyx hft
          cases htq : F.getD q false
          ·have HK := show Hid _ from HKEEP.out (by rw [htq]; intro h; cases h)
           rw [htq] at xt
           clear htq
           go_wp2_with fail
           exact ⟨⟨m, f, q + 1, rfl, by go_num, by omega, hS, HK.out, ht, HA.out, hn, HN.out, hL, hb, hs8⟩, by simp [intOf]; omega⟩
          ·cases hrq : (rowAt m y).getD q false
           ·have HP := show Hid _ from HPUT.out htq hrq
            rw [htq] at xt
            rw [hrq] at xb
            clear htq hrq
            go_wp2_with fail
            exact ⟨⟨_, true, q + 1, rfl, by go_num, by omega, (hS.setBit hym xm HBI.out.row hql true).wide (b94 _) (by simp), HP.out, Y5 ht HA.out hb14.out, G2.setBit HA.out gy4, Y5 hn HN.out hb14.out, G2.setBit HN.out gy4,
             hL.other (p := ⟨gy, q, none⟩) (by show w.heap.size ≠ gy; have := HG.out; omega) _, hb.setCell (p := ⟨gy, q, none⟩) (by show w.heap.size ≤ gy; have := HG.out; omega) _, by simpa using hs8⟩, by simp [intOf]; omega⟩
           ·have HK := show Hid _ from HKEEP.out (fun _ => hrq)
            rw [htq] at xt
            rw [hrq] at xb
            clear htq hrq
            go_wp2_with fail
            exact ⟨⟨m, f, q + 1, rfl, by go_num, by omega, hS, HK.out, ht, HA.out, hn, HN.out, hL, hb, hs8⟩, by simp [intOf]; omega⟩
         ·have hqn : q = 14 := by omega
          subst hqn
          have HD := show Hid _ from HBI.out.done hjl HY.out (b94 _)
          go_wp2_with fail
          exact ⟨⟨m, f, j + 1, rfl, by go_num, by omega, hS, HD.out, ht, HA.out, hn, HN.out, hL, hb, hs8⟩, by simp [intOf]; omega⟩
       case neg =>
        have h14 : (rowAt m y).length = 14 := by omega
        obtain ⟨gy, cy, xm, -⟩ := hS.at14 hym h14
        have hnil := fun w => Lib.run_eql_slice_nil (P := Tryz.prog) w 57 4 (some ⟨gy, 0, none⟩) 14 cy 0 0 Tryz.underlying57
        simp only [Option.isNone_some] at hnil
        have hgo := hstep wr m f hS (HKI2.out.bits h14) ht HA.out hn HN.out hL hb hs8
        clear hro h0 h14 hS ht hn hL hb HKI2 HA HN hstep
        go_wp2_with fail
        clear xm hnil
        obtain ⟨q0, hq0, hq1, hS, hi, ht, hA, hn, hN, hL, hb, hs9⟩ := hgo
        go_loopw [4, 10, 11, 56] (fun ch _ _ i wr => ∃ (m : List (List Bool)) (f : Bool) (q : Nat), ch = .bool f ∧ i = .int .i64 q ∧ q ≤ 14 ∧ E6 wr G wr.heap.size G m ∧ ax0 c m P0 f k F ns j y q ∧ I8 wr w.heap.size w8.heap.size 4 1 (.slice a9 14 c9) 14 (bools F) ∧ G2 wr G m (.slice a9 14 c9) ∧
          I8 wr w.heap.size w8.heap.size 3 1 (.slice (some ⟨gu, 0, none⟩) ns.length c10) ns.length (ints ns) ∧ G2 wr G m (.slice (some ⟨gu, 0, none⟩) ns.length c10) ∧ H7 wr w.heap.size [v1, v2, .slice (some ⟨b, off, none⟩) c.list.length k3] ∧ Below w.heap.size w wr ∧ w8.heap.size ≤ wr.heap.size)
         (fun _ _ _ i _ => 14 - (intOf i).toNat)
        case atStart => exact ⟨m, _, 0, rfl, rfl, cb1 _, hS, by rw [hq0] at hi; exact hi, ht, hA, hn, hN, hL, hb, hs9⟩
        case round =>
         clear hS hi ht hA hn hN hL hb hs9 hq0 hq1
         obtain ⟨m, f, q, rfl, rfl, hq, hS, hi, ht, hA, hn, hN, hL, hb, hs8⟩ := hrel
         have hml : m.length = c.list.length := hi.low.len
         have hym : y < m.length := by omega
         have HBI := show Hid _ from hi
         have HA := show Hid _ from hA
         have HN := show Hid _ from hN
         clear hi hA hN
         by_cases hql : q < 14
         ·obtain ⟨gt, ct, hv, -, -, -, -, -, -, gc⟩ := ht.open (by omega)
          cases hv
          have hft : F.length = 14 := HBI.out.tl
          have xt := gc q _ (H3 _ q (by omega))
          have hfe : F[q]'(by omega) = F.getD q false := by simp [show q < F.length by omega]
          rw [hfe] at xt
          obtain ⟨gy, cy, xm, gy1, -, gy3, gy4, -, -, gyf, gyx, -⟩ := hS.at14 hym HBI.out.row
          have xb := gyx q hql
          have xf := gyf q
          have hqi : (q : Int) < 14 := by omega
          have hb14 := show Hid (aw9 wr G m gy) from .inr ⟨y, _, hym, xm, rfl⟩
          have HPUT := show Hid _ from fun h1 h0 => HBI.out.put hjl HY.out hym hql h1 h0
          have HKEEP := show Hid _ from HBI.out.keep (q := q)
          clear gc hfe gyf gyx hft
          cases htq : F.getD q false
          ·have HK := show Hid _ from HKEEP.out (by rw [htq]; intro h; cases h)
           rw [htq] at xt
           clear htq
           go_wp2_with fail
           exact ⟨⟨m, f, q + 1, rfl, by go_num, by omega, hS, HK.out, ht, HA.out, hn, HN.out, hL, hb, hs8⟩, by simp [intOf]; omega⟩
          ·cases hrq : (rowAt m y).getD q false
           ·have HP := show Hid _ from HPUT.out htq hrq
            rw [htq] at xt
            rw [hrq] at xb
            clear htq hrq
            go_wp2_with fail
            exact ⟨⟨_, true, q + 1, rfl, by go_num, by omega, (hS.setBit hym xm HBI.out.row hql true).wide (b94 _) (by simp), HP.out, Y5 ht HA.out hb14.out, G2.setBit HA.out gy4, Y5 hn HN.out hb14.out, G2.setBit HN.out gy4,
             hL.other (p := ⟨gy, q, none⟩) (by show w.heap.size ≠ gy; have := HG.out; omega) _, hb.setCell (p := ⟨gy, q, none⟩) (by show w.heap.size ≤ gy; have := HG.out; omega) _, by simpa using hs8⟩, by simp [intOf]; omega⟩
           ·have HK := show Hid _ from HKEEP.out (fun _ => hrq)
            rw [htq] at xt
            rw [hrq] at xb
            clear htq hrq
            go_wp2_with fail
            exact ⟨⟨m, f, q + 1, rfl, by go_num, by omega, hS, HK.out, ht, HA.out, hn, HN.out, hL, hb, hs8⟩, by simp [intOf]; omega⟩
         ·have hqn : q = 14 := by omega
          subst hqn
          have HD := show Hid _ from HBI.out.done hjl HY.out (b94 _)
          go_wp2_with fail
          exact ⟨⟨m, f, j + 1, rfl, by go_num, by omega, hS, HD.out, ht, HA.out, hn, HN.out, hL, hb, hs8⟩, by simp [intOf]; omega⟩
      ·have hjn : j = ns.length := by omega
       have HP := show Hid _ from HKI2.out.done (by omega) HNM.out
       subst hjn
       go_wp2_with fail
       exact ⟨⟨m, f, k + 1, rfl, by go_num, by omega, hS, HP.out, hL, hb⟩, by simp [intOf]; omega⟩
   ·have hkn : k = c.list.length := by omega
    subst hkn
    have hpn : Hid (aB9 wr (.slice (some ⟨G, 0, none⟩) c.list.length c.list.length) = pot m) := by have := hS.pot; rw [hml] at this; exact this
    have hle := HI'.out.le
    have hlt' := HI'.out.lt
    have hdn : f = false → M6 c m := fun e => by have := HI'.out; rw [e] at this; exact this.done (by omega)
    have HD := show Hid _ from hdn
    have HLT := show Hid _ from hlt'
    clear hdn hlt'
    go_wp2_with fail
    refine ⟨⟨m, f, rfl, hS, HI'.out.low, HD.out, hL, hb⟩, ?_⟩
    show 2 * aB9 _ _ + _ < 2 * aB9 _ _ + _
    rw [hpn.out, hpot.out]
    cases f
    ·have := HI'.out.le
     show 2 * pot m + 0 < 2 * P0 + 1
     omega
    ·have := HLT.out rfl
     show 2 * pot m + 1 < 2 * P0 + 1
     omega
noncomputable def aM2 (c : i8) : List (List Bool) := open Classical in if h : ∃ m, M6 c m then h.choose else []
theorem a56 {c : i8} {m : List (List Bool)} (h : M6 c m) : m = aM2 c := by
 have hx : ∃ m, M6 c m := ⟨m, h⟩
 unfold aM2
 rw [dif_pos hx]
 exact aY6 h hx.choose_spec
noncomputable def aE0 (c : i8) : Int × Int := if E3 c = true then P1 c (aM2 c) else (5, -1)
theorem aM9 (v : Value) (c : i8) (w : World) (h : G6 w v c) :
  Calls Tryz.prog 25 #[v] w fun e w' => e = .returned (.tuple #[.int .i64 (aE0 c).1, .int .i64 (aE0 c).2]) ∧ Below w.heap.size w w' := by
 have hrow := h
 obtain ⟨v1, v2, v3, rfl, h1, h2, h3⟩ := h
 obtain ⟨W, hW⟩ : ∃ W, W = w.alloc (.cells #[v1, v2, v3] 36) := ⟨_, rfl⟩
 have B0 : Below w.heap.size w W := by rw [hW]; go_grown
 have L1 : H7 W w.heap.size [v1, v2, v3] := by rw [hW]; exact (H7.new w [v1, v2, v3] _)
 have HT : Hid (aE0 c = if E3 c = true then P1 c (aM2 c) else (5, -1)) := rfl
 have x0 := L1.cell 0
 have x1 := L1.cell 1
 have x2 := L1.cell 2
 simp only [b95, cb2] at x0 x1 x2
 rw [hW] at x0 x1 x2
 go_enter Tryz.func25, Tryz.ntmps25
 go_wp2_with fail
 rw [← hW]
 clear hW x0 x1 x2
 refine (aM8 _ c _ (hrow.below B0)).mono ?_
 rintro e w1 ⟨rfl, b1⟩
 replace L1 := L1.below b1 L1.lt
 have B1 := B0.trans (b1.mono B0.size)
 clear b1 B0
 cases hc : E3 c
 ·have HC := show Hid (aE0 c = (5, -1)) from by unfold Hid; rw [HT.out, hc]; simp
  clear hc HT
  go_wp2_with fail
  go_ret2
  exact ⟨by rw [HC.out]; rfl, B1⟩
 have HC := show Hid _ from hc
 have HT' := show Hid (aE0 c = P1 c (aM2 c)) from by unfold Hid; rw [HT.out, hc]; simp
 clear hc HT
 have hS : ∀ W', Below w1.heap.size w1 W' → Below w1.heap.size w1 W' ∧ (W'.cell? ⟨w.heap.size, 0, none⟩ = some v1 ∧ W'.cell? ⟨w.heap.size, 1, none⟩ = some v2 ∧ W'.cell? ⟨w.heap.size, 2, none⟩ = some v3) :=
  fun W' hb => ⟨hb, bF6 L1 W' hb⟩
 have HS := show Hid _ from hS
 have hb0 := (Below.refl w1.heap.size w1).drew
 clear hS
 go_wp2_with fail
 go_region_held3 (fun W' => Below w1.heap.size w1 W' ∧ (W'.cell? ⟨w.heap.size, 0, none⟩ = some v1 ∧ W'.cell? ⟨w.heap.size, 1, none⟩ = some v2 ∧ W'.cell? ⟨w.heap.size, 2, none⟩ = some v3))
  (exact HS.out _ (by assumption))
  (first | (go_at_call 74; refine (aD5 _ c HC.out _ (hrow.below (U3 (by assumption) B1 (b94 _)))).mono ?_; rintro e w7 ⟨G, m, rfl, hlm, hM, b7⟩; have q7 := U3 b7 hb0 (b94 _)) | (go_at_call 73; refine (aD7 _ _ c m _ HC.out (hrow.below (U3 (by assumption) B1 (b94 _))) hM.1.row hlm.1.1 hlm.1.2.1).mono ?_; rintro e w8 ⟨rfl, b8⟩; have q8 := U3 b8 q7 (b94 _)))
 all_goals go_wp2_with fail
 all_goals go_ret2
 all_goals exact ⟨by rw [HT'.out, ← a56 hlm]; rfl, B1.trans (q8.mono B1.size)⟩
theorem bL1 {P : Program} {f : FuncId} {args : List AV} {S : List It} {x y : Value} (h : ∀ (φ : Nat → Prop) (w : World) (ρ : Nat → Value), (∀ i d, x6 S i = .dat d → RD w φ d (ρ i)) → Calls P f (AV.vals ρ args).toArray w fun e w' => e = .returned (.tuple #[x, y]) ∧ Below w.heap.size w w') : m7.ok P (N1 f args S (.tup [.v x, .v y])) := by
 intro ι φ ψ w0 w F ρ M
 refine (h (FrF φ (t4 F ρ (x6 S))) w ρ fun i d hi => M.datAt hi).mono ?_
 rintro e w' ⟨rfl, hb⟩
 exact ⟨ρ, fun _ _ => rfl, rfl, M.call hb⟩
theorem a07 (v ar : List Int) (l : List d9) : m7.ok Tryz.prog (N1 25 [.agg [.ref 0, .ref 1, .ref 2]] [.dat (.ints v), .dat (.ints ar), .dat (.instrs l)] (.tup [iA (aE0 ⟨v, ar, l⟩).1, iA (aE0 ⟨v, ar, l⟩).2])) :=
 bL1 fun φ w ρ h => aM9 _ ⟨v, ar, l⟩ w ⟨ρ 0, ρ 1, ρ 2, rfl, z8.row (h 0 _ rfl), z8.row (h 1 _ rfl), z8.row (h 2 _ rfl)⟩
abbrev p8 (o : Int) (fs : List Int) : d9 := ⟨o, (fs ++ [0, 0, 0, 0]).getD 0 0, (fs ++ [0, 0, 0, 0]).getD 1 0, (fs ++ [0, 0, 0, 0]).getD 2 0, (fs ++ [0, 0, 0, 0]).getD 3 0⟩
theorem aw5 (o x y z u : Int) (fs : List Int) (hf : 4 ≤ fs.length) : m7.ok Tryz.prog (N1 198 [.agg [iA o, iA x, iA y, iA z, iA u], .ref 0] [dI fs] (.agg [iA o, iA (fs.getD 0 0), iA (fs.getD 1 0), iA (fs.getD 2 0), iA (fs.getD 3 0)])) := by
 refine H8 20 Tryz.func198 [dI fs] [(0, .agg [iA o, iA x, iA y, iA z, iA u]), (1, .ref 0)] fun G => ?_; refine wp_seq (m5 G i7 [0, 1, 9] [dI fs, .box [iA o, iA x, iA y, iA z, iA u], .box [iA 0, iA 0, iA 0, iA 0, iA 0]] [(1, .ref 0), (2, .ptr 1 0), (4, .ptr 2 0)] fun G => b0 (wp_seq (R5 G i7 [0, 1, 0, 4, 12, 0, 32, 96, 0, 256, 768, 0, 2048, 6144, 16383, 32767] [0, 2] [dI fs, .box [iA o, iA (fs.getD 0 0), iA (fs.getD 1 0), iA (fs.getD 2 0), iA (fs.getD 3 0)]] [(4, .ptr 1 0)] (iX 0 0 fs.length (iX 1 1 fs.length (iX 2 2 fs.length (iX 3 3 fs.length [])))) (iK (by omega) (iK (by omega) (iK (by omega) (iK (by omega) b91)))) fun G => b0 (wp_ret ?_)))); exact Q9 G [0]
theorem b65 (fs : List Int) : 4 ≤ (((fs ++ [0, 0, 0, 0]).take 4).drop 0).length := by simp
abbrev ai8 (fs : List Int) := List.drop 0 (b88 (Int.toNat 4) (fs ++ ([0] ++ ([0] ++ ([0] ++ ([0] ++ []))))))
theorem U2 (o : Int) (fs : List Int) (hf : fs.length ≤ 4) (l : List d9) (fr : List Int) (ow ct : Int) (q1 : l.length ≤ 8000000) (q2 : fr.length ≤ 8000000) : m7.ok Tryz.prog ⟨145, [.ptr 0 0, iA o, .ref 3], [.box [.ref 1, .ref 2, iA ow, iA ct], rN l, rI fr, rI fs], [.box [.ref 4, .ref 5, iA ow, iA ct], .dead, .dead, .dead, rN (l ++ [p8 o fs]), rI (fr ++ [ow])], .tup []⟩ := by
 refine H8 35 Tryz.func145 [.box [.ref 1, .ref 2, iA ow, iA ct], .row 86 (D.instrs l), .row 3 (D.ints fr), .row 3 (D.ints fs)] [(0, .ptr 0 0), (1, iA o), (2, .ref 3)] fun G => ?_; refine wp_seq (R5 G (t5 11 [84] (aw5 o 0 0 0 0 (List.drop 0 (b88 (Int.toNat 4) (fs ++ ([0] ++ ([0] ++ ([0] ++ ([0] ++ []))))))) (by exact b65 fs))) [0, 0, 2, 6, 14, 0, 32, 0, 0, 384, 896, 2016, 4064, 8190, 16383, 32767, 65535] [0, 1, 2, 3, 108] [.box [.ref 4, .ref 2, iA ow, iA ct], .dead, .row 3 (D.ints fr), .dead, .row 86 (D.instrs (l ++ ([d9.mk o ((ai8 fs).getD 0 0) ((ai8 fs).getD 1 0) ((ai8 fs).getD 2 0) ((ai8 fs).getD 3 0)] ++ [])))] [(0, .ptr 0 0)] (aP (fs.length + 4) 8 (((0 : Int) ≤ 4) :: (((4 : Int) ≤ ((fs ++ ([(0 : Int)] ++ ([(0 : Int)] ++ ([(0 : Int)] ++ ([(0 : Int)] ++ []))))).length : Int)) :: (aP (l.length + 1) 40 [])))) (aK (by omega) ⟨(by omega), ⟨(by simp only [b83, b84, b86]; omega), (aK (by omega) b91)⟩⟩) fun G => b0 (R5 G i7 [0, 0, 2, 6, 14, 0, 32, 96, 224, 480, 1022, 2047, 4095, 8191] [0, 1, 2, 3, 4, 85] [.box [.ref 4, .ref 5, iA ow, iA ct], .dead, .dead, .dead, .row 86 (D.instrs (l ++ ([d9.mk o ((ai8 fs).getD 0 0) ((ai8 fs).getD 1 0) ((ai8 fs).getD 2 0) ((ai8 fs).getD 3 0)] ++ []))), .row 3 (D.ints (fr ++ ([ow] ++ [])))] [] (aP (fr.length + 1) 8 []) (aK (by omega) b91) fun G => ?_)); exact aq6 G (rg 6) (by show _ = mR (rg 6) [.box [.ref 4, .ref 5, iA ow, iA ct], .dead, .dead, .dead, .row 86 (D.instrs (l ++ [p8 o fs])), .row 3 (D.ints (fr ++ [ow]))]; have e1 : (l ++ [p8 o fs] : List d9) = (l ++ ([d9.mk o ((List.drop 0 (b88 (Int.toNat 4) (fs ++ ([0] ++ ([0] ++ ([0] ++ ([0] ++ []))))))).getD 0 0) ((List.drop 0 (b88 (Int.toNat 4) (fs ++ ([0] ++ ([0] ++ ([0] ++ ([0] ++ []))))))).getD 1 0) ((List.drop 0 (b88 (Int.toNat 4) (fs ++ ([0] ++ ([0] ++ ([0] ++ ([0] ++ []))))))).getD 2 0) ((List.drop 0 (b88 (Int.toNat 4) (fs ++ ([0] ++ ([0] ++ ([0] ++ ([0] ++ []))))))).getD 3 0)] ++ [])) := (by simp); (first | rw [e1] | simp only [e1]) <;> rfl)
theorem n6.sel {ι : Type} {φ ψ : Nat → Prop} {w0 w : World} {F : ι → Rs} {ρ : Nat → Value} {S S1 : List It} {js : List Nat} (M : n6 φ ψ w0 w (t4 F ρ (x6 S))) (hn : js.Nodup) (hl : js.length = S1.length) (hS : js.map (x6 S) = S1.map (It.ren (nth js))) : n6 φ ψ w0 w (t4 F (fun i => ρ (nth js i)) (x6 S1)) := by
 refine M.map (fun k : ι ⊕ Nat => (match k with | .inl i => some (.inl i) | .inr i => if i < js.length then some (.inr (nth js i)) else none : Option (ι ⊕ Nat))) ?_ ?_
 ·intro k k' x h1 h2
  match k, k' with
  | .inl i, .inl i' => simp at h1 h2; rw [← h1] at h2; simpa using h2.symm
  | .inl i, .inr j => simp only at h1 h2; cases h1; split at h2 <;> simp at h2
  | .inr j, .inl i => simp only at h1 h2; cases h2; split at h1 <;> simp at h1
  | .inr j, .inr j' =>
   simp at h1 h2
   obtain ⟨f1, f2⟩ := h1
   obtain ⟨g1, g2⟩ := h2
   rw [← f2] at g2
   have hj := Sum.inr.inj g2
   have e1 := b89 f1
   have e2 := b89 g1
   rw [O9 e2, O9 e1] at hj
   have := (List.getElem?_inj f1 hn).1 (e1.trans (by rw [← hj]; exact e2.symm))
   rw [this]
 ·intro k
  match k with
  | .inl i => exact .inl ⟨_, rfl, rfl⟩
  | .inr i =>
   by_cases hlt : i < js.length
   ·refine .inl ⟨.inr (nth js i), by simp [hlt], ?_⟩
    have h1 := congrArg (·[i]?) hS
    have hlt' : i < S1.length := by omega
    simp only [List.getElem?_map, b89 hlt, b89 hlt', Option.map_some, Option.some.injEq] at h1
    simp only [t4]
    rw [aL8 hlt', O9 (b89 hlt), h1, ← It.res_ren, O9 (b89 hlt)]
   ·refine .inr ?_
    simp only [t4]
    rw [F3 (by omega)]
    rfl
theorem m7.nilArg {P : Program} {f : FuncId} {args args0 : List AV} {pre post post' : List It} {res res' : AV} {e : TypeId} {d : D} (hc : m7.ok P ⟨f, args0, pre ++ [.row e d], post, res⟩) (k : Nat) (js : List Nat) (hd : D.nil k = some d) (ha : args = AV.denL false pre.length args0) (hid : (al1 pre.length (AV.idsL args) && pre.all (fun x => al1 pre.length x.ids) && nodupB js && natEq js.length post'.length && b06 pre.length js) = true) (hS : js.map (x6 post) = post'.map (It.ren (nth js))) (hr : res = res'.ren (nth js)) : m7.ok P ⟨f, args, pre, post', res'⟩ := by
 intro ι φ ψ w0 w F ρ M
 simp only [b85, natEq, beq_iff_eq] at hid
 obtain ⟨⟨⟨⟨h1, h2⟩, h3⟩, h4⟩, h5⟩ := hid
 have hz := D.nil_len hd
 have hvals := (AV.vals_den (ρ := ρ) (t := false) (n := pre.length) (z := .slice none 0 0) (by simp) args0 (by rw [← ha]; exact Q4 h1)).1
 have hlt : ∀ j, j < pre.length → x6 (pre ++ [.row e d]) j = x6 pre j := fun j hj => by simp [x6, b90, cb9 hj]
 have hids : ∀ j, ∀ i ∈ (x6 pre j).ids, i < pre.length := fun j => by
  by_cases hj : j < pre.length
  ·rw [aL8 hj]
   exact Q4 (b93.1 h2 _ (ca5 hj))
  ·rw [F3 (by omega)]; intro i hi; cases hi
 have M1 : n6 φ ψ w0 w (t4 F (fun j => if j = pre.length then .slice none 0 0 else ρ j) (x6 (pre ++ [.row e d]))) := by
  refine n6.put M (.inr pre.length) (fun k hk => ?_) (D8.refl _ _) ?_ ?_
  ·cases k with
   | inl i => rfl
   | inr j =>
    simp only [t4]
    rcases Nat.lt_trichotomy j pre.length with h | h | h
    ·rw [hlt j h]
     exact It.res_congr _ (fun i hi => if_neg (by have := hids j i hi; omega)) (.inr (.inr (if_neg (by omega))))
    ·exact absurd (by rw [h]) hk
    ·rw [F3 (show (pre ++ [It.row e d]).length ≤ j by simp; omega), F3 (show pre.length ≤ j by omega)]; rfl
  ·have : x6 (pre ++ [.row e d]) pre.length = .row e d := by simp [x6, b90]
   simp only [t4, this, It.res, if_true]
   refine ⟨fun xs => RW.nice d xs, [], ?_, RW.nil hz _⟩
   rw [hz]; exact World.ownsRow_nil _ _ _ _
  ·intro g hg
   have : x6 (pre ++ [.row e d]) pre.length = .row e d := by simp [x6, b90]
   simp only [t4, this, It.res, if_true] at hg
   cases hg
 have h := hc ι φ ψ w0 w F _ M1
 simp only [hvals, ← ha] at h
 refine h.mono ?_
 rintro x w' ⟨ρ2, g1, rfl, M2⟩
 have hk : ∀ i, i < pre.length → nth js i = i := fun i hi => by
  have := b93.1 h5 i (cc6.2 hi)
  simp only [b85, natEq, beq_iff_eq] at this
  exact this.1
 refine ⟨fun i => ρ2 (nth js i), fun i hi => ?_, ?_, M2.sel (aK9 h3) h4 hS⟩
 ·have hi : i < pre.length := hi
  simp only [hk i hi]
  rw [g1 i (by simp; omega), if_neg (by omega)]
 ·show Ending.returned (res.val ρ2) = .returned (res'.val _)
  rw [hr, AV.val_ren]
theorem bO8 (o : Int) (l : List d9) (fr : List Int) (ow ct : Int) (q1 : l.length ≤ 8000000) (q2 : fr.length ≤ 8000000) : m7.ok Tryz.prog ⟨145, [.ptr 0 0, iA o, .v (.slice none 0 0)], [.box [.ref 1, .ref 2, iA ow, iA ct], rN l, rI fr], [.box [.ref 3, .ref 4, iA ow, iA ct], .dead, .dead, rN (l ++ [⟨o, 0, 0, 0, 0⟩]), rI (fr ++ [ow])], .tup []⟩ :=
 m7.nilArg (pre := [.box [.ref 1, .ref 2, iA ow, iA ct], rN l, rI fr]) (U2 o [] (cb1 _) l fr ow ct q1 q2) 1 [0, 1, 2, 4, 5] rfl rfl rfl rfl rfl
abbrev ixC (l : List d9) (fr : List Int) (ow ct : Int) (e : d7) (reg : Int) : m7 := ⟨197, [.ptr 0 0, eA e 3, iA reg], [.box [.ref 1, .ref 2, iA ow, iA ct], rN l, rI fr, dE e.kids], [.box [.ref 4, .ref 5, iA ow, iA ct], .dead, .dead, dE e.kids, rN (l ++ b6 e reg), rI (fr ++ b82 (b6 e reg).length ow)], .tup []⟩
abbrev ac1 (e : d7) (l : List d9) (fr : List Int) (ow : Int) (ct : Int) (reg : Int) : List It := [.box [.ref 4, .ref 5, iA ow, iA ct], .dead, .dead, dE e.kids, .row 86 (D.instrs (l ++ b6 e reg)), .row 3 (D.ints (fr ++ b82 (b6 e reg).length ow))]
abbrev ax2 (e : d7) (reg : Int) (r0 : List (Nat × AV)) : List (Nat × AV) := (0, .ptr 0 0) :: (2, iA reg) :: (4, .ptr 4 0) :: (27, .ref 3) :: (28, iA (e.kids.length : Int)) :: r0
abbrev aq0 (e : d7) (ow : Int) (ct : Int) (r0 : List It) : List It := .box [.ref 5, .ref 6, iA ow, iA ct] :: .dead :: .dead :: dE e.kids :: .box (eL e 3) :: r0
theorem bJ5 (e : d7) (ih : ∀ (u : d7), u ∈ e.kids → ∀ (l : List d9) (fr : List Int) (ow ct reg : Int), 0 ≤ reg → reg + F0 u ≤ 2000000 → l.length + F0 u ≤ 5000000 → fr.length = l.length → m7.ok Tryz.prog (ixC l fr ow ct u reg)) (l : List d9) (fr : List Int) (ow ct reg : Int) (r0 : 0 ≤ reg) (r1 : reg + F0 e ≤ 2000000) (r2 : l.length + F0 e ≤ 5000000) (r3 : fr.length = l.length) : m7.ok Tryz.prog (ixC l fr ow ct e reg) := by
  refine H8 72 Tryz.func197 [.box [.ref 1, .ref 2, iA ow, iA ct], .row 86 (D.instrs l), .row 3 (D.ints fr), dE e.kids] [(0, .ptr 0 0), (1, eA e 3), (2, iA reg)] fun G => ?_
  have hlen : e.kids.length ≤ F0 e := by cases e; exact at6 _
  refine wp_seq (m5 G i7 (rg 5) [.box [.ref 1, .ref 2, iA ow, iA ct], .row 86 (D.instrs l), .row 3 (D.ints fr), dE e.kids, .box (eL e 3)] [(0, .ptr 0 0), (2, iA reg), (4, .ptr 4 0)] fun G => b0 (wp_seq (wp_seq (l8 G i7 [(9, iA e.kind)] fun G => b0 (wp_block (wp_seq (l8 G i7 [(10, bA (e.kind == 1))] fun G => b0 (T1 G (fun h0 q0 => ?_) fun h0 q0 => ?_))))))))
  ·
   refine wp_seq (l8 G i7 [(18, bA (e.kind == 2))] fun G => b0 (T1 G (fun h1 q1 => ?_) fun h1 q1 => ?_))
   ·
    refine wp_skip (r7 (b0 (wp_seq (wp_seq (K8 G i7 (ax2 e reg [(29, iA 0)]) fun G => b0 (wp_block ?_)))))); obtain ⟨ρ, G⟩ := G.shift 1 5 [.box [.ref 5, .ref 2, iA ow, iA ct], .dead, .row 3 (D.ints fr), dE e.kids, .box (eL e 3), .row 86 (D.instrs l)] (ax2 e reg [(29, iA 0)]); obtain ⟨ρ, G⟩ := G.shift 2 6 (aq0 e ow ct [.row 86 (D.instrs l), .row 3 (D.ints fr)]) (ax2 e reg [(29, iA 0)]); replace G := G.as (aq0 e ow ct [.row 86 (D.instrs (l ++ k6 (b88 0 e.kids) reg)), .row 3 (D.ints (fr ++ b82 (k6 (b88 0 e.kids) reg).length ow))]) (ax2 e reg [(29, iA 0)]) (by have e1 : (l ++ k6 (b88 0 e.kids) reg : List d9) = (l) := a85.symm; have e2 : (fr ++ b82 (k6 (b88 0 e.kids) reg).length ow : List Int) = (fr) := aT9.symm; (first | rw [e1, e2] | simp only [e1, e2]) <;> rfl) (by kernel_rfl); refine y9 (κ := Nat) (fun k => k ≤ e.kids.length) (fun k => e.kids.length - k) (fun k => [.box [.ref 5, .ref 6, iA ow, iA ct], .dead, .dead, dE e.kids, .box (eL e 3), .row 86 (.instrs (l ++ k6 (e.kids.take k) reg)), .row 3 (.ints (fr ++ b82 (k6 (e.kids.take k) reg).length ow))]) (fun k => [(0, .ptr 0 0), (2, iA reg), (4, .ptr 4 0), (27, .ref 3), (28, iA (e.kids.length : Int)), (29, iA k)]) 0 (by simp [h0, h1]) (x8.at G _ _) ?_; clear G; intro k ρ a w hp G; replace G := x8.at G (aq0 e ow ct [.row 86 (D.instrs (l ++ k6 (b88 k e.kids) reg)), .row 3 (D.ints (fr ++ b82 (k6 (b88 k e.kids) reg).length ow))]) (ax2 e reg [(29, iA k)]); refine wp_seq (l8 G i7 [(30, bA (decide ((k : Int) < e.kids.length)))] fun G => b0 (wp_seq (rcD G (fun h2 q2 => ?_) fun h2 q2 => ?_)))
    ·
     refine wp_exit (y7 (y7 (y6 (b0 (wp_seq (l8 G i7 [(42, iA e.kind)] fun G => b0 (wp_block (wp_seq (l8 G i7 [(52, bA (e.kind == 3))] fun G => b0 (T1 G (fun h3 q3 => ?_) fun h3 q3 => ?_))))))))))
     ·
      refine wp_seq (l8 G i7 [(61, bA (e.kind == 11))] fun G => b0 (T1 G (fun h4 q4 => ?_) fun h4 q4 => ?_))
      · refine U0 G (t5 8 [0, 5, 6, 63] (U2 6 ([reg] ++ ([e.kind] ++ ([reg] ++ ([reg + 1] ++ [])))) (by simp [h0, h1, h2, h3, h4]) (l ++ k6 (b88 k e.kids) reg) (fr ++ b82 (k6 (b88 k e.kids) reg).length ow) ow ct (by have := H2 (k := k) (reg := reg) r2; have := N0 (e := e) (n := ow) (k := k) (reg := reg) r3; omega) (by have := H2 (k := k) (reg := reg) r2; have := N0 (e := e) (n := ow) (k := k) (reg := reg) r3; omega))) [0, 1, 2, 3, 71, 72] [.box [.ref 4, .ref 5, iA ow, iA ct], .dead, .dead, dE e.kids, .row 86 (D.instrs (l ++ k6 (b88 k e.kids) reg ++ [p8 6 ([reg] ++ ([e.kind] ++ ([reg] ++ ([reg + 1] ++ []))))])), .row 3 (D.ints (fr ++ b82 (k6 (b88 k e.kids) reg).length ow ++ [ow]))] [] [wO (reg + 1)] (o1 (by omega)) fun G => r7 ?_; exact aq6 G (rg 6) (by show _ = mR (rg 6) (ac1 e l fr ow ct reg); unfold ac1; have e1 : (l ++ b6 e reg : List d9) = (l ++ k6 (b88 k e.kids) reg ++ [p8 6 ([reg] ++ ([e.kind] ++ ([reg] ++ ([reg + 1] ++ []))))]) := (az7 (by omega) (by omega) (by omega) (la0 (by omega) (by omega))); have e2 : (fr ++ b82 (b6 e reg).length ow : List Int) = (fr ++ b82 (k6 (b88 k e.kids) reg).length ow ++ [ow]) := (ao4 (by omega) (by omega) (by omega)); (first | rw [e1, e2] | simp only [e1, e2]) <;> rfl)
      · refine U0 G (t5 8 [0, 5, 6, 63] (U2 7 ([reg] ++ ([reg] ++ ([reg + 1] ++ ([reg + 2] ++ [])))) (by simp [h0, h1, h2, h3, h4]) (l ++ k6 (b88 k e.kids) reg) (fr ++ b82 (k6 (b88 k e.kids) reg).length ow) ow ct (by have := H2 (k := k) (reg := reg) r2; have := N0 (e := e) (n := ow) (k := k) (reg := reg) r3; omega) (by have := H2 (k := k) (reg := reg) r2; have := N0 (e := e) (n := ow) (k := k) (reg := reg) r3; omega))) [0, 1, 2, 3, 71, 72] [.box [.ref 4, .ref 5, iA ow, iA ct], .dead, .dead, dE e.kids, .row 86 (D.instrs (l ++ k6 (b88 k e.kids) reg ++ [p8 7 ([reg] ++ ([reg] ++ ([reg + 1] ++ ([reg + 2] ++ []))))])), .row 3 (D.ints (fr ++ b82 (k6 (b88 k e.kids) reg).length ow ++ [ow]))] [] [wO (reg + 1), wO (reg + 2)] (o2 (by omega)) fun G => r7 ?_; exact aq6 G (rg 6) (by show _ = mR (rg 6) (ac1 e l fr ow ct reg); unfold ac1; have e1 : (l ++ b6 e reg : List d9) = (l ++ k6 (b88 k e.kids) reg ++ [p8 7 ([reg] ++ ([reg] ++ ([reg + 1] ++ ([reg + 2] ++ []))))]) := (az7 (by omega) (by omega) (by omega) (b03 (by omega))); have e2 : (fr ++ b82 (b6 e reg).length ow : List Int) = (fr ++ b82 (k6 (b88 k e.kids) reg).length ow ++ [ow]) := (ao4 (by omega) (by omega) (by omega)); (first | rw [e1, e2] | simp only [e1, e2]) <;> rfl)
     · refine m5 G (t5 6 [0, 5, 6, 47] (U2 4 ([reg] ++ ([e.value] ++ ([reg] ++ []))) (by simp [h0, h1, h2, h3]) (l ++ k6 (b88 k e.kids) reg) (fr ++ b82 (k6 (b88 k e.kids) reg).length ow) ow ct (by have := H2 (k := k) (reg := reg) r2; have := N0 (e := e) (n := ow) (k := k) (reg := reg) r3; omega) (by have := H2 (k := k) (reg := reg) r2; have := N0 (e := e) (n := ow) (k := k) (reg := reg) r3; omega))) [0, 1, 2, 3, 55, 56] [.box [.ref 4, .ref 5, iA ow, iA ct], .dead, .dead, dE e.kids, .row 86 (D.instrs (l ++ k6 (b88 k e.kids) reg ++ [p8 4 ([reg] ++ ([e.value] ++ ([reg] ++ [])))])), .row 3 (D.ints (fr ++ b82 (k6 (b88 k e.kids) reg).length ow ++ [ow]))] [] fun G => r7 ?_; exact aq6 G (rg 6) (by show _ = mR (rg 6) (ac1 e l fr ow ct reg); unfold ac1; have e1 : (l ++ b6 e reg : List d9) = (l ++ k6 (b88 k e.kids) reg ++ [p8 4 ([reg] ++ ([e.value] ++ ([reg] ++ [])))]) := (az7 (by omega) (by omega) (by omega) (la3 (by omega))); have e2 : (fr ++ b82 (b6 e reg).length ow : List Int) = (fr ++ b82 (k6 (b88 k e.kids) reg).length ow ++ [ow]) := (ao4 (by omega) (by omega) (by omega)); (first | rw [e1, e2] | simp only [e1, e2]) <;> rfl)
    · refine wp_skip (b0 (wp_seq (wp_block (wp_seq (U0 G i7 [0, 1, 2, 3, 4, 5, 6, 23, 31] (aq0 e ow ct [.row 86 (D.instrs (l ++ k6 (b88 k e.kids) reg)), .row 3 (D.ints (fr ++ b82 (k6 (b88 k e.kids) reg).length ow)), dE (e.kids.getD k b81).kids, .box (eL (e.kids.getD k b81) 7)]) [(0, .ptr 0 0), (2, iA reg), (4, .ptr 4 0), (6, iA k), (7, .ptr 8 0), (27, .ref 3), (28, iA (e.kids.length : Int)), (29, iA k)] (iX k k e.kids.length []) (iK (by have := H2 (k := k) (reg := reg) r2; have := N0 (e := e) (n := ow) (k := k) (reg := reg) r3; omega) b91) fun G => b0 (U0 G (t5 5 [0, 5, 6, 7] (ih (e.kids.getD k b81) (av1 (by omega)) (l ++ k6 (b88 k e.kids) reg) (fr ++ b82 (k6 (b88 k e.kids) reg).length ow) ow ct (reg + (k : Int)) (by have := H2 (k := k) (reg := reg) r2; have := N0 (e := e) (n := ow) (k := k) (reg := reg) r3; omega) ((bF2 r0 r1 (by omega)).2) (bF3 r2 (by omega)) (N0 r3))) [0, 1, 2, 3, 4, 49, 50] (aq0 e ow ct [.row 86 (D.instrs (l ++ k6 (b88 k e.kids) reg ++ b6 (e.kids.getD k b81) (reg + (k : Int)))), .row 3 (D.ints (fr ++ b82 (k6 (b88 k e.kids) reg).length ow ++ b82 (b6 (e.kids.getD k b81) (reg + (k : Int))).length ow))]) (ax2 e reg [(29, iA k)]) [wO (reg + (k : Int))] (o1 (by omega)) fun G => r7 (b0 (K7 G i7 [(29, iA ((k : Int) + 1))] [wO ((k : Int) + 1)] (o1 (by omega)) fun G => b0 ?_)))))))); exact rxn G (k + 1) (by have := H2 (k := k) (reg := reg) r2; have := N0 (e := e) (n := ow) (k := k) (reg := reg) r3; omega) (by have := H2 (k := k) (reg := reg) r2; have := N0 (e := e) (n := ow) (k := k) (reg := reg) r3; omega) (rg 7) (by have e1 : (l ++ k6 (b88 (k + 1) e.kids) reg : List d9) = (l ++ k6 (b88 k e.kids) reg ++ b6 (e.kids.getD k b81) (reg + (k : Int))) := (bo7 (by omega)); have e2 : (fr ++ b82 (k6 (b88 (k + 1) e.kids) reg).length ow : List Int) = (fr ++ b82 (k6 (b88 k e.kids) reg).length ow ++ b82 (b6 (e.kids.getD k b81) (reg + (k : Int))).length ow) := (a86 (by omega)); (first | rw [e1, e2] | simp only [e1, e2]) <;> rfl)
   · refine wp_seq (m5 G (t5 5 [0, 1, 2, 37] (U2 2 ([reg] ++ ([e.value] ++ [])) (by simp [h0, h1]) l fr ow ct (by omega) (by omega))) [0, 1, 2, 3, 4, 45, 46] (aq0 e ow ct [.row 86 (D.instrs (l ++ [p8 2 ([reg] ++ ([e.value] ++ []))])), .row 3 (D.ints (fr ++ [ow]))]) [(0, .ptr 0 0), (2, iA reg), (4, .ptr 4 0)] fun G => b0 (wp_ret (B7 (m8 ?_)))); exact Q9 G [0, 1, 2, 3, 5, 6] (by show _ = mR [0, 1, 2, 3, 5, 6] (ac1 e l fr ow ct reg); unfold ac1; rw [ce2 (by omega)] <;> rfl)
  · refine wp_seq (m5 G (t5 5 [0, 1, 2, 37] (U2 1 ([reg] ++ ([e.value] ++ [])) (by simp [h0]) l fr ow ct (by omega) (by omega))) [0, 1, 2, 3, 4, 45, 46] (aq0 e ow ct [.row 86 (D.instrs (l ++ [p8 1 ([reg] ++ ([e.value] ++ []))])), .row 3 (D.ints (fr ++ [ow]))]) [(0, .ptr 0 0), (2, iA reg), (4, .ptr 4 0)] fun G => b0 (wp_ret (B7 (m8 ?_)))); exact Q9 G [0, 1, 2, 3, 5, 6] (by show _ = mR [0, 1, 2, 3, 5, 6] (ac1 e l fr ow ct reg); unfold ac1; rw [ce1 (by omega)] <;> rfl)
theorem bp3 (e : d7) : ∀ (l : List d9) (fr : List Int) (ow ct reg : Int), 0 ≤ reg → reg + F0 e ≤ 2000000 → l.length + F0 e ≤ 5000000 → fr.length = l.length → m7.ok Tryz.prog (ixC l fr ow ct e reg) :=
 d7.ind (P := fun e => ∀ (l : List d9) (fr : List Int) (ow ct reg : Int), 0 ≤ reg → reg + F0 e ≤ 2000000 → l.length + F0 e ≤ 5000000 → fr.length = l.length → m7.ok Tryz.prog (ixC l fr ow ct e reg)) (fun k v ks ih l fr ow ct reg r0 r1 r2 r3 => bJ5 ⟨k, v, ks⟩ (fun u hu => ih u hu) l fr ow ct reg r0 r1 r2 r3) e
mutual
def nmS : b5 → Int
 | ⟨k, _, _, _, _, b, e⟩ => if k = 4 then 1 + nmB b else if k = 1 then 1 else if k = 5 then 1 else if k = 2 then 1 else 1 + nmB b + nmB e
def nmB : List b5 → Int
 | [] => 0
 | s :: r => nmS s + nmB r
end
mutual
def owS : b5 → Int → Int
 | ⟨k, _, _, _, _, b, e⟩, ct => if k = 3 then owB e (ct + 1 + nmB b) ct else ct
def owB : List b5 → Int → Int → Int
 | [], _, ow => ow
 | s :: r, ct, _ => owB r (ct + nmS s) (owS s ct)
end
mutual
theorem bV8 : ∀ (s : b5) (d : Int) (x : D3), (N9 s d x).2.2 = x.2.2 + nmS s
 | ⟨k, t, i, v, c, b, e⟩, d, x => by
  rw [N9, nmS]
  split
  ·have h := ah2 b (d + 1) (s9 (x.1, x.2.1, x.2.2 + 1) x.2.2 [⟨1, 9 + d, c, 0, 0⟩])
   simp only [s9] at h ⊢
   omega
  ·split
   ·simp only [s9]
   ·split
    ·simp only [s9]
    ·split
     ·simp only [s9]
     ·simp only
      generalize hy : s9 (x.1, x.2.1, x.2.2 + 1) x.2.2 (b6 v 0) = y
      have hy1 : y.2.2 = x.2.2 + 1 := by rw [← hy]; rfl
      have h1 := ah2 b (d + 1) (s9 y x.2.2 [⟨9, 0, 0, 0, 0⟩])
      generalize l9 b (d + 1) (s9 y x.2.2 [⟨9, 0, 0, 0, 0⟩]) = z at h1 ⊢
      have h2 := ah2 e (d + 1) (ak3 (s9 z x.2.2 [⟨8, 0, 0, 0, 0⟩]).1 y.1.length ((s9 z x.2.2 [⟨8, 0, 0, 0, 0⟩]).1.length : Int), (s9 z x.2.2 [⟨8, 0, 0, 0, 0⟩]).2)
      simp only [s9] at h1 h2 ⊢
      omega
theorem ah2 : ∀ (ss : List b5) (d : Int) (x : D3), (l9 ss d x).2.2 = x.2.2 + nmB ss
 | [], _, x => by simp [l9, nmB]
 | s :: r, d, x => by
  have h1 := bV8 s d x
  have h2 := ah2 r d (N9 s d x)
  rw [l9, nmB]
  omega
end
mutual
theorem bZ7 : ∀ s : b5, 0 ≤ nmS s ∧ nmS s ≤ nS s
 | ⟨k, t, i, v, c, b, e⟩ => by
  have h1 := bm6 b
  have h2 := bm6 e
  rw [nmS, nS]
  (repeat' split) <;> omega
theorem bm6 : ∀ ss : List b5, 0 ≤ nmB ss ∧ nmB ss ≤ E9 ss
 | [] => by simp [nmB, E9]
 | s :: r => by
  have h1 := bZ7 s
  have h2 := bm6 r
  rw [nmB, E9]
  omega
end
theorem v6 (ss : List b5) (d : Int) (x : D3) : (l9 ss d x).2.1.length = x.2.1.length + A6 ss := (F5 ss d x).2
theorem bd9 (l m : List b5) (ct ow : Int) : owB (l ++ m) ct ow = owB m (ct + nmB l) (owB l ct ow) := by
 induction l generalizing ct ow with
 | nil => simp [owB, nmB]
 | cons s r ih => simp only [List.cons_append, owB, nmB]; rw [ih]; congr 1; omega
theorem a47 {ss : List b5} {k : Nat} {ct ow : Int} (hk : k < ss.length) : owB (ss.take (k + 1)) ct ow = owS (ss.getD k b81) (ct + nmB (ss.take k)) := by
 rw [n9 _ _ hk, bd9, p6 hk]
 simp [owB]
section
variable {ss : List b5} {k : Nat} {d ct ow : Int} {l : List d9} {fr : List Int}
abbrev XC (ss : List b5) (k : Nat) (d : Int) (l : List d9) (fr : List Int) (ct : Int) : D3 := l9 (ss.take k) d (l, fr, ct)
theorem bK6 (hk : k < ss.length) (k3 : ¬ (ss.getD k b81).kind = 3) : owB (ss.take (k + 1)) ct ow = (XC ss k d l fr ct).2.2 := by
 rw [a47 hk, ah2]
 generalize ss.getD k b81 = s at *
 obtain ⟨kd, tg, ix, vl, cn, bd, el⟩ := s
 have k3 : ¬ kd = 3 := k3
 rw [owS, if_neg k3]
theorem b51 (hk : k < ss.length) (k3 : (ss.getD k b81).kind = 3) : owB (ss.take (k + 1)) ct ow = owB (ss.getD k b81).els (w3C (XC ss k d l fr ct).1 (XC ss k d l fr ct).2.1 (XC ss k d l fr ct).2.2 d (ss.getD k b81)).2.2 (XC ss k d l fr ct).2.2 := by
 rw [a47 hk, w3C, ah2, ah2]
 generalize ss.getD k b81 = s at *
 obtain ⟨kd, tg, ix, vl, cn, bd, el⟩ := s
 have k3 : kd = 3 := k3
 rw [owS, if_pos k3]
 rfl
theorem b50 (hk : ss.length ≤ k) : owB ss ct ow = owB (ss.take k) ct ow := by rw [b98 hk]
theorem xt (r1 : l.length + 4 * p7 ss ≤ 5000000) (hk : k < ss.length) : (XC ss k d l fr ct).1.length + F0 (ss.getD k b81).value ≤ 5000000 ∧ (0 : Int) + F0 (ss.getD k b81).value ≤ 2000000 ∧ ((XC ss k d l fr ct).1 ++ b6 (ss.getD k b81).value 0).length + F0 (ss.getD k b81).index ≤ 5000000 ∧ (1 : Int) + F0 (ss.getD k b81).index ≤ 2000000 ∧ ((XC ss k d l fr ct).1 ++ b6 (ss.getD k b81).value 0 ++ b6 (ss.getD k b81).index 1).length + 4 ≤ 5000010 := bR4 (a04 r1 hk)
theorem xl (r1 : l.length + 4 * p7 ss ≤ 5000000) (hk : k < ss.length) : (XC ss k d l fr ct).1.length + (4 + 4 * (F0 (ss.getD k b81).index + F0 (ss.getD k b81).value + p7 (ss.getD k b81).body + p7 (ss.getD k b81).els)) ≤ 5000000 := by
 have h := a04 (d := d) (fr := fr) (at0 := ct) r1 hk
 generalize ss.getD k b81 = s at *
 cases s; exact h
theorem xn (r5 : 0 ≤ ct) (r6 : ct + E9 ss ≤ 5000000) (hk : k < ss.length) : 0 ≤ (XC ss k d l fr ct).2.2 ∧ (XC ss k d l fr ct).2.2 + (1 + E9 (ss.getD k b81).body + E9 (ss.getD k b81).els) ≤ 5000000 := by
 have h := bh2 (d := d) (l := l) (fr := fr) r6 hk
 rw [ak9] at h
 have h1 := bh3 (ss := ss) (k := k) (d := d) (l := l) (fr := fr) r5
 refine ⟨h1, ?_⟩
 have h2 : ((1 + E9 (ss.getD k b81).body + E9 (ss.getD k b81).els : Nat) : Int) = 1 + E9 (ss.getD k b81).body + E9 (ss.getD k b81).els := by omega
 rw [h2] at h
 exact h
theorem b76 {lk : List d9} {fk : List Int} {ck : Int} (hlk : lk = (l9 (ss.take k) d (l, fr, ct)).1) (hfk : fk = (l9 (ss.take k) d (l, fr, ct)).2.1) (hck : ck = (l9 (ss.take k) d (l, fr, ct)).2.2) (r1 : l.length + 4 * p7 ss ≤ 5000000) (r2 : fr.length = l.length) (r5 : 0 ≤ ct) (r6 : ct + E9 ss ≤ 5000000) (hk : k < ss.length) :
  lk.length + (4 + 4 * (F0 (ss.getD k b81).index + F0 (ss.getD k b81).value + p7 (ss.getD k b81).body + p7 (ss.getD k b81).els)) ≤ 5000000 ∧ fk.length = lk.length ∧ (b6 (ss.getD k b81).value 0).length ≤ 1 + F0 (ss.getD k b81).value ∧ (b6 (ss.getD k b81).index 1).length ≤ 1 + F0 (ss.getD k b81).index ∧ A6 (ss.getD k b81).body ≤ 4 * p7 (ss.getD k b81).body ∧ 0 ≤ ck ∧ ck + (1 + E9 (ss.getD k b81).body + E9 (ss.getD k b81).els) ≤ 5000000 ∧ 0 ≤ nmB (ss.getD k b81).body ∧ nmB (ss.getD k b81).body ≤ E9 (ss.getD k b81).body := by
 subst hlk hfk hck
 have g6 := xn (d := d) (l := l) (fr := fr) r5 r6 hk
 have g7 := bm6 (ss.getD k b81).body
 exact ⟨xl r1 hk, bF9 r2, Q6 _ _, Q6 _ _, O2 _, g6.1, g6.2, g7.1, g7.2⟩
end
abbrev itC (l : List d9) (fr : List Int) (ow ct : Int) (ss : List b5) (d : Int) : m7 := ⟨144, [.ptr 0 0, .ref 3, iA d], [.box [.ref 1, .ref 2, iA ow, iA ct], rN l, rI fr, dT ss], [.box [.ref 4, .ref 5, iA (owB ss ct ow), iA (l9 ss d (l, fr, ct)).2.2], .dead, .dead, dT ss, rN (l9 ss d (l, fr, ct)).1, rI (l9 ss d (l, fr, ct)).2.1], .tup []⟩
abbrev Y8 (ss : List b5) (d : Int) (lk : List d9) (fk : List Int) (ck : Int) (k : Nat) := l9 (ss.getD k b81).els (d + 1) (((l9 (ss.getD k b81).body (d + 1) (lk ++ b6 (ss.getD k b81).value 0 ++ [p8 9 ([0] ++ ([0] ++ []))], fk ++ b82 (b6 (ss.getD k b81).value 0).length ck ++ [ck], ck + 1)).fst ++ [p8 8 ([0] ++ [])]).set (lk ++ b6 (ss.getD k b81).value 0).length (d9.mk (((l9 (ss.getD k b81).body (d + 1) (lk ++ b6 (ss.getD k b81).value 0 ++ [p8 9 ([0] ++ ([0] ++ []))], fk ++ b82 (b6 (ss.getD k b81).value 0).length ck ++ [ck], ck + 1)).fst ++ [p8 8 ([0] ++ [])]).getD (lk ++ b6 (ss.getD k b81).value 0).length b81).op (((l9 (ss.getD k b81).body (d + 1) (lk ++ b6 (ss.getD k b81).value 0 ++ [p8 9 ([0] ++ ([0] ++ []))], fk ++ b82 (b6 (ss.getD k b81).value 0).length ck ++ [ck], ck + 1)).fst ++ [p8 8 ([0] ++ [])]).getD (lk ++ b6 (ss.getD k b81).value 0).length b81).a (((l9 (ss.getD k b81).body (d + 1) (lk ++ b6 (ss.getD k b81).value 0 ++ [p8 9 ([0] ++ ([0] ++ []))], fk ++ b82 (b6 (ss.getD k b81).value 0).length ck ++ [ck], ck + 1)).fst ++ [p8 8 ([0] ++ [])]).length : Int) (((l9 (ss.getD k b81).body (d + 1) (lk ++ b6 (ss.getD k b81).value 0 ++ [p8 9 ([0] ++ ([0] ++ []))], fk ++ b82 (b6 (ss.getD k b81).value 0).length ck ++ [ck], ck + 1)).fst ++ [p8 8 ([0] ++ [])]).getD (lk ++ b6 (ss.getD k b81).value 0).length b81).c (((l9 (ss.getD k b81).body (d + 1) (lk ++ b6 (ss.getD k b81).value 0 ++ [p8 9 ([0] ++ ([0] ++ []))], fk ++ b82 (b6 (ss.getD k b81).value 0).length ck ++ [ck], ck + 1)).fst ++ [p8 8 ([0] ++ [])]).getD (lk ++ b6 (ss.getD k b81).value 0).length b81).d), (l9 (ss.getD k b81).body (d + 1) (lk ++ b6 (ss.getD k b81).value 0 ++ [p8 9 ([0] ++ ([0] ++ []))], fk ++ b82 (b6 (ss.getD k b81).value 0).length ck ++ [ck], ck + 1)).snd.fst ++ [ck], (l9 (ss.getD k b81).body (d + 1) (lk ++ b6 (ss.getD k b81).value 0 ++ [p8 9 ([0] ++ ([0] ++ []))], fk ++ b82 (b6 (ss.getD k b81).value 0).length ck ++ [ck], ck + 1)).snd.snd)
abbrev A8 (ss : List b5) (d : Int) (lk : List d9) (fk : List Int) (ck : Int) (k : Nat) := l9 (ss.getD k b81).body (d + 1) (lk ++ b6 (ss.getD k b81).value 0 ++ [p8 9 ([0] ++ ([0] ++ []))], fk ++ b82 (b6 (ss.getD k b81).value 0).length ck ++ [ck], ck + 1)
abbrev af2 (ss : List b5) (d : Int) (lk : List d9) (fk : List Int) (ck : Int) (k : Nat) := l9 (ss.getD k b81).body (d + 1) (lk ++ [p8 1 ([9 + d] ++ ([(ss.getD k b81).count] ++ []))], fk ++ [ck], ck + 1)
abbrev V5 (ss : List b5) (k : Nat) : It := dE (ss.getD k b81).index.kids
abbrev V4 (ss : List b5) (k : Nat) : It := dE (ss.getD k b81).value.kids
abbrev aH6 (ss : List b5) (lk : List d9) (k : Nat) : AV := iA ((lk ++ b6 (ss.getD k b81).value 0).length : Int)
abbrev af1 (ss : List b5) (k : Nat) : It := .box (sL (ss.getD k b81) 4)
abbrev aH5 (ck : Int) : It := .box [.ref 9, .ref 10, iA ck, iA (ck + 1)]
theorem a37 (nv na dd : Nat) (B : Int) (hB : B ≤ 101) (ss : List b5) (hs : ss.all (i9 nv na (dd + 1)) = true)
    (ih : ∀ (tt : List b5) (l : List d9) (fr : List Int) (ow ct d : Int), 0 < ss.length → tt.all (i9 nv na dd) = true → l.length + 4 * p7 tt ≤ 5000000 → fr.length = l.length → 0 ≤ d → d + dd ≤ B → 0 ≤ ct → ct + E9 tt ≤ 5000000 → m7.ok Tryz.prog (itC l fr ow ct tt d))
    (l : List d9) (fr : List Int) (ow ct d : Int) (r1 : l.length + 4 * p7 ss ≤ 5000000) (r2 : fr.length = l.length) (r3 : 0 ≤ d) (r4 : d + (dd + 1) ≤ B) (r5 : 0 ≤ ct) (r6 : ct + E9 ss ≤ 5000000) : m7.ok Tryz.prog (itC l fr ow ct ss d) := by
  refine H8 160 Tryz.func144 [.box [.ref 1, .ref 2, iA ow, iA ct], .row 86 (D.instrs l), .row 3 (D.ints fr), dT ss] [(0, .ptr 0 0), (1, .ref 3), (2, iA d)] fun G => ?_; have hl := Z1 ss; refine wp_seq (K8 G i7 [(0, .ptr 0 0), (2, iA d), (13, .ref 3), (14, iA (ss.length : Int)), (15, iA 0)] fun G => b0 (wp_block ?_)); have Gx := G.shift 1 4 [.box [.ref 4, .ref 2, iA ow, iA ct], .dead, .row 3 (D.ints fr), dT ss, .row 86 (D.instrs l)] [(0, .ptr 0 0), (2, iA d), (13, .ref 3), (14, iA (ss.length : Int)), (15, iA 0)]; clear G; obtain ⟨ρ, G⟩ := Gx; have Gx := G.shift 2 5 [.box [.ref 4, .ref 5, iA ow, iA ct], .dead, .dead, dT ss, .row 86 (D.instrs l), .row 3 (D.ints fr)] [(0, .ptr 0 0), (2, iA d), (13, .ref 3), (14, iA (ss.length : Int)), (15, iA 0)]; clear G; obtain ⟨ρ, G⟩ := Gx; refine y9 (κ := Nat) (fun k => k ≤ ss.length) (fun k => ss.length - k) (fun k => [.box [.ref 4, .ref 5, iA (owB (ss.take k) ct ow), iA (l9 (ss.take k) d (l, fr, ct)).2.2], .dead, .dead, dT ss, .row 86 (.instrs (l9 (ss.take k) d (l, fr, ct)).1), .row 3 (.ints (l9 (ss.take k) d (l, fr, ct)).2.1)]) (fun k => [(0, .ptr 0 0), (2, iA d), (13, .ref 3), (14, iA (ss.length : Int)), (15, iA k)]) 0 (by simp [hs]) (x8.at G _ _) ?_; clear G; intro k ρ a w hp G; replace G := x8.at G [.box [.ref 4, .ref 5, iA (owB (b88 k ss) ct ow), iA (l9 (b88 k ss) d (l, fr, ct)).snd.snd], .dead, .dead, dT ss, .row 86 (D.instrs (l9 (b88 k ss) d (l, fr, ct)).fst), .row 3 (D.ints (l9 (b88 k ss) d (l, fr, ct)).snd.fst)] [(0, .ptr 0 0), (2, iA d), (13, .ref 3), (14, iA (ss.length : Int)), (15, iA k)]; obtain ⟨lk, hlk⟩ : ∃ x, x = (l9 (ss.take k) d (l, fr, ct)).1 := ⟨_, rfl⟩; obtain ⟨fk, hfk⟩ : ∃ x, x = (l9 (ss.take k) d (l, fr, ct)).2.1 := ⟨_, rfl⟩; obtain ⟨ck, hck⟩ : ∃ x, x = (l9 (ss.take k) d (l, fr, ct)).2.2 := ⟨_, rfl⟩; obtain ⟨wk, hwk⟩ : ∃ x, x = owB (ss.take k) ct ow := ⟨_, rfl⟩; rw [← hlk, ← hfk, ← hck, ← hwk] at G; have hg := b76 hlk hfk hck r1 r2 r5 r6; refine wp_seq (K8 G i7 [(0, .ptr 0 0), (2, iA d), (13, .ref 3), (14, iA (ss.length : Int)), (15, iA k), (16, bA (decide ((k : Int) < ss.length)))] fun G => b0 (wp_seq (rcD G (fun h0 q0 => ?_) fun h0 q0 => ?_)))
  · refine wp_exit (y7 (y7 (y6 ?_))); exact aq6 G (rg 6) (by show _ = mR (rg 6) [.box [.ref 4, .ref 5, iA (owB ss ct ow), iA (l9 ss d (l, fr, ct)).snd.snd], .dead, .dead, dT ss, .row 86 (D.instrs (l9 ss d (l, fr, ct)).fst), .row 3 (D.ints (l9 ss d (l, fr, ct)).snd.fst)]; have e1 : (owB ss ct ow : Int) = (wk) := (by subst hlk hfk hck hwk; exact b50 (by omega)); have e2 : ((l9 ss d (l, fr, ct)).snd.snd : Int) = (ck) := (by subst hlk hfk hck hwk; exact congrArg (fun x : D3 => x.2.2) (a05 (by omega) _)); have e3 : ((l9 ss d (l, fr, ct)).fst : List d9) = (lk) := (by subst hlk hfk hck hwk; exact congrArg Prod.fst (a05 (by omega) _)); have e4 : ((l9 ss d (l, fr, ct)).snd.fst : List Int) = (fk) := (by subst hlk hfk hck hwk; exact congrArg (fun x : D3 => x.2.1) (a05 (by omega) _)); (first | rw [e1, e2, e3, e4] | simp only [e1, e2, e3, e4]) <;> rfl)
  ·
   refine wp_skip (b0 (wp_seq (wp_block (wp_seq (U0 G i7 [0, 1, 2, 3, 4, 5, 14, 15, 16, 17, 22] [.box [.ref 4, .ref 5, iA wk, iA ck], .dead, .dead, dT ss, .row 86 (D.instrs lk), .row 3 (D.ints fk), V5 ss k, V4 ss k, dT (ss.getD k b81).body, dT (ss.getD k b81).els, .box (sL (ss.getD k b81) 6)] [(0, .ptr 0 0), (2, iA d), (7, .ptr 10 0), (13, .ref 3), (14, iA (ss.length : Int)), (15, iA k)] (iX k k ss.length []) (iK (by have g := hg (by omega); omega) b91) fun G => b0 (wp_seq (l8 G i7 [(8, iA ck)] fun G => b0 (wp_seq (U0 G i7 (rg 11) [.box [.ref 4, .ref 5, iA wk, iA (ck + 1)], .dead, .dead, dT ss, .row 86 (D.instrs lk), .row 3 (D.ints fk), V5 ss k, V4 ss k, dT (ss.getD k b81).body, dT (ss.getD k b81).els, .box (sL (ss.getD k b81) 6)] [(0, .ptr 0 0), (2, iA d), (7, .ptr 10 0), (8, iA ck), (13, .ref 3), (14, iA (ss.length : Int)), (15, iA k)] [wO (ck + 1)] ⟨(by have g := hg (by omega); exact w64 (by omega) (by omega)), b91⟩ fun G => b0 (wp_seq (m5 G i7 (rg 11) [.box [.ref 4, .ref 5, iA ck, iA (ck + 1)], .dead, .dead, dT ss, .row 86 (D.instrs lk), .row 3 (D.ints fk), V5 ss k, V4 ss k, dT (ss.getD k b81).body, dT (ss.getD k b81).els, .box (sL (ss.getD k b81) 6)] [(0, .ptr 0 0), (2, iA d), (7, .ptr 10 0), (8, iA ck), (13, .ref 3), (14, iA (ss.length : Int)), (15, iA k)] fun G => b0 (wp_seq (wp_seq (l8 G i7 [(36, bA ((ss.getD k b81).kind != 4))] fun G => b0 (rcN G (fun h1 q1 => ?_) fun h1 q1 => ?_)))))))))))))))
   ·
    refine wp_skip (b0 (wp_seq (l8 G i7 [(42, iA (ss.getD k b81).kind)] fun G => b0 (wp_block (wp_seq (K8 G i7 [(0, .ptr 0 0), (2, iA d), (7, .ptr 10 0), (8, iA ck), (13, .ref 3), (14, iA (ss.length : Int)), (15, iA k), (42, iA (ss.getD k b81).kind), (43, bA ((ss.getD k b81).kind == 1))] fun G => b0 ?_)))))); cases h2 : ((ss.getD k b81).kind == 1)
    ·
     have q2 := ne_of_beq_false h2; refine rF G _ h2 (wp_seq (K8 G i7 [(0, .ptr 0 0), (2, iA d), (7, .ptr 10 0), (8, iA ck), (13, .ref 3), (14, iA (ss.length : Int)), (15, iA k), (42, iA (ss.getD k b81).kind), (50, bA ((ss.getD k b81).kind == 5))] fun G => b0 ?_)); cases h3 : ((ss.getD k b81).kind == 5)
     ·
      have q3 := ne_of_beq_false h3; refine rF G _ h3 (wp_seq (K8 G i7 [(0, .ptr 0 0), (2, iA d), (7, .ptr 10 0), (8, iA ck), (13, .ref 3), (14, iA (ss.length : Int)), (15, iA k), (42, iA (ss.getD k b81).kind), (60, bA ((ss.getD k b81).kind == 2))] fun G => b0 ?_)); cases h4 : ((ss.getD k b81).kind == 2)
      ·
       have q4 := ne_of_beq_false h4; refine rF G _ h4 (wp_seq (K8 G i7 [(0, .ptr 0 0), (2, iA d), (7, .ptr 10 0), (8, iA ck), (13, .ref 3), (14, iA (ss.length : Int)), (15, iA k), (42, iA (ss.getD k b81).kind), (71, bA ((ss.getD k b81).kind == 3))] fun G => b0 ?_)); cases h5 : ((ss.getD k b81).kind == 3)
       ·
        have q5 := ne_of_beq_false h5; refine rF G _ h5 (wp_seq (K8 G i7 [(0, .ptr 0 0), (2, iA d), (7, .ptr 10 0), (8, iA ck), (13, .ref 3), (14, iA (ss.length : Int)), (15, iA k), (129, bA ((ss.getD k b81).kind == 4))] fun G => b0 ?_)); cases h6 : ((ss.getD k b81).kind == 4)
        · have q6 := ne_of_beq_false h6; exact False.elim (by exact absurd ((av5 hs (show k < ss.length by omega)).1.symm.trans (V2 (by omega))) (by decide))
        ·
         have q6 := eq_of_beq h6; refine rT G _ h6 (wp_seq (K7 G i7 [(11, iA (9 + d))] [wO ((9 : Int) + d)] ⟨(by have g := hg (by omega); exact w64 (by omega) (by omega)), b91⟩ fun G => b0 (wp_seq (m5 G (t5 5 [0, 4, 5, 43] (U2 1 ([9 + d] ++ ([(ss.getD k b81).count] ++ [])) (by simp [hs, h0, h1, h2, h3, h4, h5, h6]) lk fk ck (ck + 1) (by have g := hg (by omega); omega) (by have g := hg (by omega); omega))) [0, 1, 2, 3, 6, 7, 8, 9, 10, 51, 52] [aH5 ck, .dead, .dead, dT ss, V5 ss k, V4 ss k, dT (ss.getD k b81).body, dT (ss.getD k b81).els, af1 ss k, .row 86 (D.instrs (lk ++ [p8 1 ([9 + d] ++ ([(ss.getD k b81).count] ++ []))])), .row 3 (D.ints (fk ++ [ck]))] [(0, .ptr 0 0), (2, iA d), (7, .ptr 8 0), (8, iA ck), (11, iA (9 + d)), (13, .ref 3), (14, iA (ss.length : Int)), (15, iA k)] fun G => b0 (wp_seq (l8 G i7 [(12, iA ((lk ++ [p8 1 ([9 + d] ++ ([(ss.getD k b81).count] ++ []))]).length : Int))] fun G => b0 (wp_seq (U0 G (t5 5 [0, 9, 10, 6] (ih ((ss.getD k b81).body) (lk ++ [p8 1 ([9 + d] ++ ([(ss.getD k b81).count] ++ []))]) (fk ++ [ck]) ck (ck + 1) (d + 1) (by have g := hg (by omega); omega) (by subst hlk hfk hck hwk; exact (av5 hs (by omega)).2.1) (by have g := hg (by omega); simp only [t3, v6, b83, b84, b86, b87, b97]; omega) (by have g := hg (by omega); simp only [t3, v6, b83, b84, b86, b87, b97]; omega) (by have g := hg (by omega); omega) (by have g := hg (by omega); omega) (by have g := hg (by omega); omega) (by have g := hg (by omega); omega))) [0, 1, 2, 3, 51, 52] [.box [.ref 4, .ref 5, iA (owB (ss.getD k b81).body (ck + 1) ck), iA (af2 ss d lk fk ck k).snd.snd], .dead, .dead, dT ss, .row 86 (D.instrs (af2 ss d lk fk ck k).fst), .row 3 (D.ints (af2 ss d lk fk ck k).snd.fst)] [(0, .ptr 0 0), (2, iA d), (8, iA ck), (11, iA (9 + d)), (12, iA ((lk ++ [p8 1 ([9 + d] ++ ([(ss.getD k b81).count] ++ []))]).length : Int)), (13, .ref 3), (14, iA (ss.length : Int)), (15, iA k)] [wO (d + 1)] ⟨(by have g := hg (by omega); exact w64 (by omega) (by omega)), b91⟩ fun G => b0 (wp_seq (m5 G i7 (rg 6) [.box [.ref 4, .ref 5, iA ck, iA (af2 ss d lk fk ck k).snd.snd], .dead, .dead, dT ss, .row 86 (D.instrs (af2 ss d lk fk ck k).fst), .row 3 (D.ints (af2 ss d lk fk ck k).snd.fst)] [(0, .ptr 0 0), (2, iA d), (11, iA (9 + d)), (12, iA ((lk ++ [p8 1 ([9 + d] ++ ([(ss.getD k b81).count] ++ []))]).length : Int)), (13, .ref 3), (14, iA (ss.length : Int)), (15, iA k)] fun G => b0 (m5 G (t5 4 [0, 4, 5, 30] (U2 10 ([9 + d] ++ ([((lk ++ [p8 1 ([9 + d] ++ ([(ss.getD k b81).count] ++ []))]).length : Int)] ++ [])) (by simp [hs, h0, h1, h2, h3, h4, h5, h6]) ((l9 (ss.getD k b81).body (d + 1) (lk ++ [p8 1 ([9 + d] ++ ([(ss.getD k b81).count] ++ []))], fk ++ [ck], ck + 1)).fst) ((l9 (ss.getD k b81).body (d + 1) (lk ++ [p8 1 ([9 + d] ++ ([(ss.getD k b81).count] ++ []))], fk ++ [ck], ck + 1)).snd.fst) ck ((l9 (ss.getD k b81).body (d + 1) (lk ++ [p8 1 ([9 + d] ++ ([(ss.getD k b81).count] ++ []))], fk ++ [ck], ck + 1)).snd.snd) (by have g := hg (by omega); simp only [t3, v6, b83, b84, b86, b87, b97]; omega) (by have g := hg (by omega); simp only [t3, v6, b83, b84, b86, b87, b97]; omega))) [0, 1, 2, 3, 38, 39] [.box [.ref 4, .ref 5, iA ck, iA (af2 ss d lk fk ck k).snd.snd], .dead, .dead, dT ss, .row 86 (D.instrs ((af2 ss d lk fk ck k).fst ++ [p8 10 ([9 + d] ++ ([((lk ++ [p8 1 ([9 + d] ++ ([(ss.getD k b81).count] ++ []))]).length : Int)] ++ []))])), .row 3 (D.ints ((af2 ss d lk fk ck k).snd.fst ++ [ck]))] [(0, .ptr 0 0), (2, iA d), (13, .ref 3), (14, iA (ss.length : Int)), (15, iA k)] fun G => ?_)))))))))))
         refine r7 (r7 (b0 (K7 G i7 [(15, iA ((k : Int) + 1))] [wO ((k : Int) + 1)] ⟨(by have g := hg (by omega); exact w64 (by omega) (by omega)), b91⟩ fun G => b0 ?_))); exact rxn G (k + 1) (by have g := hg (by omega); omega) (by have g := hg (by omega); omega) (rg 6) (by have e1 : (owB (b88 (k + 1) ss) ct ow : Int) = (ck) := (by subst hlk hfk hck hwk; exact bK6 (by omega) (by omega)); subst hlk hfk hck hwk; have h9 := (V3 (show k < ss.length by omega)).trans (cm4 (l := (l9 (ss.take k) d (l, fr, ct)).1) (fr := (l9 (ss.take k) d (l, fr, ct)).2.1) (at0 := (l9 (ss.take k) d (l, fr, ct)).2.2) (d := d) (s := ss.getD k b81) (by omega)); rw [e1, h9] <;> rfl)
       · have q5 := eq_of_beq h5; exact False.elim (by exact absurd ((av5 hs (show k < ss.length by omega)).1.symm.trans (V2 (by omega))) (by decide))
      · have q4 := eq_of_beq h4; exact False.elim (by exact absurd ((av5 hs (show k < ss.length by omega)).1.symm.trans (V2 (by omega))) (by decide))
     · have q3 := eq_of_beq h3; exact False.elim (by exact absurd ((av5 hs (show k < ss.length by omega)).1.symm.trans (V2 (by omega))) (by decide))
    · have q2 := eq_of_beq h2; exact False.elim (by exact absurd ((av5 hs (show k < ss.length by omega)).1.symm.trans (V2 (by omega))) (by decide))
   ·
    refine m5 G (t5 3 [0, 4, 5, 7] (bp3 ((ss.getD k b81).value) lk fk ck (ck + 1) 0 (by simp [hs, h0, h1]) (by have g := hg (by omega); omega) (by subst hlk hfk hck hwk; exact (xt r1 (by omega)).1) (by have g := hg (by omega); omega))) [0, 1, 2, 3, 6, 7, 8, 9, 10, 35, 36] [aH5 ck, .dead, .dead, dT ss, V5 ss k, V4 ss k, dT (ss.getD k b81).body, dT (ss.getD k b81).els, af1 ss k, .row 86 (D.instrs (lk ++ b6 (ss.getD k b81).value 0)), .row 3 (D.ints (fk ++ b82 (b6 (ss.getD k b81).value 0).length ck))] [(0, .ptr 0 0), (2, iA d), (7, .ptr 8 0), (8, iA ck), (13, .ref 3), (14, iA (ss.length : Int)), (15, iA k)] fun G => b0 (wp_seq (l8 G i7 [(42, iA (ss.getD k b81).kind)] fun G => b0 (wp_block (wp_seq (l8 G i7 [(43, bA ((ss.getD k b81).kind == 1))] fun G => b0 (T1 G (fun h7 q7 => ?_) fun h7 q7 => ?_))))))
    ·
     refine wp_seq (l8 G i7 [(50, bA ((ss.getD k b81).kind == 5))] fun G => b0 (T1 G (fun h8 q8 => ?_) fun h8 q8 => ?_))
     ·
      refine wp_seq (l8 G i7 [(60, bA ((ss.getD k b81).kind == 2))] fun G => b0 (T1 G (fun h9 q9 => ?_) fun h9 q9 => ?_))
      ·
       refine wp_seq (K8 G i7 [(0, .ptr 0 0), (2, iA d), (7, .ptr 8 0), (8, iA ck), (13, .ref 3), (14, iA (ss.length : Int)), (15, iA k), (42, iA (ss.getD k b81).kind), (71, bA ((ss.getD k b81).kind == 3))] fun G => b0 ?_); cases h10 : ((ss.getD k b81).kind == 3)
       · have q10 := ne_of_beq_false h10; exact False.elim (by exact absurd ((av5 hs (show k < ss.length by omega)).1.symm.trans (V2 (by omega))) (by decide))
       ·
        have q10 := eq_of_beq h10; refine rT G _ h10 (wp_seq (l8 G i7 [(9, aH6 ss lk k)] fun G => b0 (wp_seq (m5 G (t5 2 [0, 9, 10, 19] (U2 9 ([0] ++ ([0] ++ [])) (by simp [hs, h0, h1, h7, h8, h9, h10]) (lk ++ b6 (ss.getD k b81).value 0) (fk ++ b82 (b6 (ss.getD k b81).value 0).length ck) ck (ck + 1) (by have g := hg (by omega); simp only [t3, v6, b83, b84, b86, b87, b97]; omega) (by have g := hg (by omega); simp only [t3, v6, b83, b84, b86, b87, b97]; omega))) [0, 1, 2, 3, 4, 5, 6, 7, 8, 27, 28] [aH5 ck, .dead, .dead, dT ss, V5 ss k, V4 ss k, dT (ss.getD k b81).body, dT (ss.getD k b81).els, af1 ss k, .row 86 (D.instrs (lk ++ b6 (ss.getD k b81).value 0 ++ [p8 9 ([0] ++ ([0] ++ []))])), .row 3 (D.ints (fk ++ b82 (b6 (ss.getD k b81).value 0).length ck ++ [ck]))] [(0, .ptr 0 0), (2, iA d), (7, .ptr 8 0), (8, iA ck), (9, aH6 ss lk k), (13, .ref 3), (14, iA (ss.length : Int)), (15, iA k)] fun G => b0 (wp_seq (U0 G (t5 5 [0, 9, 10, 6] (ih ((ss.getD k b81).body) (lk ++ b6 (ss.getD k b81).value 0 ++ [p8 9 ([0] ++ ([0] ++ []))]) (fk ++ b82 (b6 (ss.getD k b81).value 0).length ck ++ [ck]) ck (ck + 1) (d + 1) (by have g := hg (by omega); omega) (by subst hlk hfk hck hwk; exact (av5 hs (by omega)).2.1) (by have g := hg (by omega); simp only [t3, v6, b83, b84, b86, b87, b97]; omega) (by have g := hg (by omega); simp only [t3, v6, b83, b84, b86, b87, b97]; omega) (by have g := hg (by omega); omega) (by have g := hg (by omega); omega) (by have g := hg (by omega); omega) (by have g := hg (by omega); omega))) [0, 1, 2, 3, 4, 5, 6, 7, 8, 51, 52] [.box [.ref 9, .ref 10, iA (owB (ss.getD k b81).body (ck + 1) ck), iA (A8 ss d lk fk ck k).snd.snd], .dead, .dead, dT ss, V5 ss k, V4 ss k, dT (ss.getD k b81).body, dT (ss.getD k b81).els, af1 ss k, .row 86 (D.instrs (A8 ss d lk fk ck k).fst), .row 3 (D.ints (A8 ss d lk fk ck k).snd.fst)] [(0, .ptr 0 0), (2, iA d), (7, .ptr 8 0), (8, iA ck), (9, aH6 ss lk k), (13, .ref 3), (14, iA (ss.length : Int)), (15, iA k)] [wO (d + 1)] ⟨(by have g := hg (by omega); exact w64 (by omega) (by omega)), b91⟩ fun G => b0 (wp_seq (m5 G i7 (rg 11) [.box [.ref 9, .ref 10, iA ck, iA (A8 ss d lk fk ck k).snd.snd], .dead, .dead, dT ss, V5 ss k, V4 ss k, dT (ss.getD k b81).body, dT (ss.getD k b81).els, af1 ss k, .row 86 (D.instrs (A8 ss d lk fk ck k).fst), .row 3 (D.ints (A8 ss d lk fk ck k).snd.fst)] [(0, .ptr 0 0), (2, iA d), (7, .ptr 8 0), (9, aH6 ss lk k), (13, .ref 3), (14, iA (ss.length : Int)), (15, iA k)] fun G => b0 (wp_seq (l8 G i7 [(10, iA ((A8 ss d lk fk ck k).fst.length : Int))] fun G => b0 (wp_seq (m5 G (t5 2 [0, 9, 10, 19] (U2 8 ([0] ++ []) (by simp [hs, h0, h1, h7, h8, h9, h10]) ((l9 (ss.getD k b81).body (d + 1) (lk ++ b6 (ss.getD k b81).value 0 ++ [p8 9 ([0] ++ ([0] ++ []))], fk ++ b82 (b6 (ss.getD k b81).value 0).length ck ++ [ck], ck + 1)).fst) ((l9 (ss.getD k b81).body (d + 1) (lk ++ b6 (ss.getD k b81).value 0 ++ [p8 9 ([0] ++ ([0] ++ []))], fk ++ b82 (b6 (ss.getD k b81).value 0).length ck ++ [ck], ck + 1)).snd.fst) ck ((l9 (ss.getD k b81).body (d + 1) (lk ++ b6 (ss.getD k b81).value 0 ++ [p8 9 ([0] ++ ([0] ++ []))], fk ++ b82 (b6 (ss.getD k b81).value 0).length ck ++ [ck], ck + 1)).snd.snd) (by have g := hg (by omega); simp only [t3, v6, b83, b84, b86, b87, b97]; omega) (by have g := hg (by omega); simp only [t3, v6, b83, b84, b86, b87, b97]; omega))) [0, 1, 2, 3, 4, 5, 6, 7, 8, 27, 28] [.box [.ref 9, .ref 10, iA ck, iA (A8 ss d lk fk ck k).snd.snd], .dead, .dead, dT ss, V5 ss k, V4 ss k, dT (ss.getD k b81).body, dT (ss.getD k b81).els, af1 ss k, .row 86 (D.instrs ((A8 ss d lk fk ck k).fst ++ [p8 8 ([0] ++ [])])), .row 3 (D.ints ((A8 ss d lk fk ck k).snd.fst ++ [ck]))] [(0, .ptr 0 0), (2, iA d), (7, .ptr 8 0), (9, aH6 ss lk k), (10, iA ((A8 ss d lk fk ck k).fst.length : Int)), (13, .ref 3), (14, iA (ss.length : Int)), (15, iA k)] fun G => ?_))))))))))))
        refine b0 (wp_seq (R5 G i7 [0, 1, 3, 7, 0, 0, 32, 96, 224, 480, 1023, 2047, 4095] (rg 11) [.box [.ref 9, .ref 10, iA ck, iA (A8 ss d lk fk ck k).snd.snd], .dead, .dead, dT ss, V5 ss k, V4 ss k, dT (ss.getD k b81).body, dT (ss.getD k b81).els, af1 ss k, .row 86 (D.instrs (((A8 ss d lk fk ck k).fst ++ [p8 8 ([0] ++ [])]).set (lk ++ b6 (ss.getD k b81).value 0).length (d9.mk (((A8 ss d lk fk ck k).fst ++ [p8 8 ([0] ++ [])]).getD (lk ++ b6 (ss.getD k b81).value 0).length b81).op (((A8 ss d lk fk ck k).fst ++ [p8 8 ([0] ++ [])]).getD (lk ++ b6 (ss.getD k b81).value 0).length b81).a (((A8 ss d lk fk ck k).fst ++ [p8 8 ([0] ++ [])]).length : Int) (((A8 ss d lk fk ck k).fst ++ [p8 8 ([0] ++ [])]).getD (lk ++ b6 (ss.getD k b81).value 0).length b81).c (((A8 ss d lk fk ck k).fst ++ [p8 8 ([0] ++ [])]).getD (lk ++ b6 (ss.getD k b81).value 0).length b81).d))), .row 3 (D.ints ((A8 ss d lk fk ck k).snd.fst ++ [ck]))] [(0, .ptr 0 0), (2, iA d), (7, .ptr 8 0), (10, iA ((A8 ss d lk fk ck k).fst.length : Int)), (13, .ref 3), (14, iA (ss.length : Int)), (15, iA k)] [(0 : Int) ≤ ((lk ++ b6 (ss.getD k b81).value (0 : Int)).length : Int), ((lk ++ b6 (ss.getD k b81).value (0 : Int)).length : Int) < (((l9 (ss.getD k b81).body (d + 1) (lk ++ b6 (ss.getD k b81).value (0 : Int) ++ [p8 (9 : Int) ([(0 : Int)] ++ ([(0 : Int)] ++ []))], fk ++ b82 (b6 (ss.getD k b81).value (0 : Int)).length ck ++ [ck], ck + 1)).fst ++ [p8 (8 : Int) ([(0 : Int)] ++ [])]).length : Int), (lk ++ b6 (ss.getD k b81).value (0 : Int)).length < ((l9 (ss.getD k b81).body (d + 1) (lk ++ b6 (ss.getD k b81).value (0 : Int) ++ [p8 (9 : Int) ([(0 : Int)] ++ ([(0 : Int)] ++ []))], fk ++ b82 (b6 (ss.getD k b81).value (0 : Int)).length ck ++ [ck], ck + 1)).fst ++ [p8 (8 : Int) ([(0 : Int)] ++ [])]).length] ⟨(by have g := hg (by omega); omega), (by have g := hg (by omega); simp only [t3, v6, b83, b84, b86, b87, b97]; omega), (by have g := hg (by omega); simp only [t3, v6, b83, b84, b86, b87, b97]; omega), b91⟩ fun G => b0 (wp_seq (U0 G (t5 5 [0, 9, 10, 7] (ih ((ss.getD k b81).els) (((l9 (ss.getD k b81).body (d + 1) (lk ++ b6 (ss.getD k b81).value 0 ++ [p8 9 ([0] ++ ([0] ++ []))], fk ++ b82 (b6 (ss.getD k b81).value 0).length ck ++ [ck], ck + 1)).fst ++ [p8 8 ([0] ++ [])]).set (lk ++ b6 (ss.getD k b81).value 0).length (d9.mk (((l9 (ss.getD k b81).body (d + 1) (lk ++ b6 (ss.getD k b81).value 0 ++ [p8 9 ([0] ++ ([0] ++ []))], fk ++ b82 (b6 (ss.getD k b81).value 0).length ck ++ [ck], ck + 1)).fst ++ [p8 8 ([0] ++ [])]).getD (lk ++ b6 (ss.getD k b81).value 0).length b81).op (((l9 (ss.getD k b81).body (d + 1) (lk ++ b6 (ss.getD k b81).value 0 ++ [p8 9 ([0] ++ ([0] ++ []))], fk ++ b82 (b6 (ss.getD k b81).value 0).length ck ++ [ck], ck + 1)).fst ++ [p8 8 ([0] ++ [])]).getD (lk ++ b6 (ss.getD k b81).value 0).length b81).a (((l9 (ss.getD k b81).body (d + 1) (lk ++ b6 (ss.getD k b81).value 0 ++ [p8 9 ([0] ++ ([0] ++ []))], fk ++ b82 (b6 (ss.getD k b81).value 0).length ck ++ [ck], ck + 1)).fst ++ [p8 8 ([0] ++ [])]).length : Int) (((l9 (ss.getD k b81).body (d + 1) (lk ++ b6 (ss.getD k b81).value 0 ++ [p8 9 ([0] ++ ([0] ++ []))], fk ++ b82 (b6 (ss.getD k b81).value 0).length ck ++ [ck], ck + 1)).fst ++ [p8 8 ([0] ++ [])]).getD (lk ++ b6 (ss.getD k b81).value 0).length b81).c (((l9 (ss.getD k b81).body (d + 1) (lk ++ b6 (ss.getD k b81).value 0 ++ [p8 9 ([0] ++ ([0] ++ []))], fk ++ b82 (b6 (ss.getD k b81).value 0).length ck ++ [ck], ck + 1)).fst ++ [p8 8 ([0] ++ [])]).getD (lk ++ b6 (ss.getD k b81).value 0).length b81).d)) ((l9 (ss.getD k b81).body (d + 1) (lk ++ b6 (ss.getD k b81).value 0 ++ [p8 9 ([0] ++ ([0] ++ []))], fk ++ b82 (b6 (ss.getD k b81).value 0).length ck ++ [ck], ck + 1)).snd.fst ++ [ck]) ck ((l9 (ss.getD k b81).body (d + 1) (lk ++ b6 (ss.getD k b81).value 0 ++ [p8 9 ([0] ++ ([0] ++ []))], fk ++ b82 (b6 (ss.getD k b81).value 0).length ck ++ [ck], ck + 1)).snd.snd) (d + 1) (by have g := hg (by omega); omega) (by subst hlk hfk hck hwk; exact (av5 hs (by omega)).2.2) (by have g := hg (by omega); simp only [t3, v6, b83, b84, b86, b87, b97]; omega) (by have g := hg (by omega); simp only [t3, v6, b83, b84, b86, b87, b97]; omega) (by have g := hg (by omega); omega) (by have g := hg (by omega); omega) (by have g := hg (by omega); simp only [ah2]; omega) (by have g := hg (by omega); simp only [ah2]; omega))) [0, 1, 2, 3, 51, 52] [.box [.ref 4, .ref 5, iA (owB (ss.getD k b81).els (A8 ss d lk fk ck k).snd.snd ck), iA (Y8 ss d lk fk ck k).snd.snd], .dead, .dead, dT ss, .row 86 (D.instrs (Y8 ss d lk fk ck k).fst), .row 3 (D.ints (Y8 ss d lk fk ck k).snd.fst)] [(0, .ptr 0 0), (2, iA d), (10, iA ((A8 ss d lk fk ck k).fst.length : Int)), (13, .ref 3), (14, iA (ss.length : Int)), (15, iA k)] [wO (d + 1)] ⟨(by have g := hg (by omega); exact w64 (by omega) (by omega)), b91⟩ fun G => ?_))))
        refine b0 (R5 G i7 [0, 1, 3, 7, 0, 0, 32, 96, 224, 480, 1023, 2047, 4095] (rg 6) [.box [.ref 4, .ref 5, iA (owB (ss.getD k b81).els (A8 ss d lk fk ck k).snd.snd ck), iA (Y8 ss d lk fk ck k).snd.snd], .dead, .dead, dT ss, .row 86 (D.instrs ((Y8 ss d lk fk ck k).fst.set (A8 ss d lk fk ck k).fst.length (d9.mk ((Y8 ss d lk fk ck k).fst.getD (A8 ss d lk fk ck k).fst.length b81).op ((Y8 ss d lk fk ck k).fst.length : Int) ((Y8 ss d lk fk ck k).fst.getD (A8 ss d lk fk ck k).fst.length b81).b ((Y8 ss d lk fk ck k).fst.getD (A8 ss d lk fk ck k).fst.length b81).c ((Y8 ss d lk fk ck k).fst.getD (A8 ss d lk fk ck k).fst.length b81).d))), .row 3 (D.ints (Y8 ss d lk fk ck k).snd.fst)] [(0, .ptr 0 0), (2, iA d), (13, .ref 3), (14, iA (ss.length : Int)), (15, iA k)] [(0 : Int) ≤ ((l9 (ss.getD k b81).body (d + 1) (lk ++ b6 (ss.getD k b81).value (0 : Int) ++ [p8 (9 : Int) ([(0 : Int)] ++ ([(0 : Int)] ++ []))], fk ++ b82 (b6 (ss.getD k b81).value (0 : Int)).length ck ++ [ck], ck + 1)).fst.length : Int), ((l9 (ss.getD k b81).body (d + 1) (lk ++ b6 (ss.getD k b81).value (0 : Int) ++ [p8 (9 : Int) ([(0 : Int)] ++ ([(0 : Int)] ++ []))], fk ++ b82 (b6 (ss.getD k b81).value (0 : Int)).length ck ++ [ck], ck + 1)).fst.length : Int) < ((l9 (ss.getD k b81).els (d + 1) (((l9 (ss.getD k b81).body (d + 1) (lk ++ b6 (ss.getD k b81).value (0 : Int) ++ [p8 (9 : Int) ([(0 : Int)] ++ ([(0 : Int)] ++ []))], fk ++ b82 (b6 (ss.getD k b81).value (0 : Int)).length ck ++ [ck], ck + 1)).fst ++ [p8 (8 : Int) ([(0 : Int)] ++ [])]).set (lk ++ b6 (ss.getD k b81).value (0 : Int)).length (d9.mk (((l9 (ss.getD k b81).body (d + 1) (lk ++ b6 (ss.getD k b81).value (0 : Int) ++ [p8 (9 : Int) ([(0 : Int)] ++ ([(0 : Int)] ++ []))], fk ++ b82 (b6 (ss.getD k b81).value (0 : Int)).length ck ++ [ck], ck + 1)).fst ++ [p8 (8 : Int) ([(0 : Int)] ++ [])]).getD (lk ++ b6 (ss.getD k b81).value (0 : Int)).length b81).op (((l9 (ss.getD k b81).body (d + 1) (lk ++ b6 (ss.getD k b81).value (0 : Int) ++ [p8 (9 : Int) ([(0 : Int)] ++ ([(0 : Int)] ++ []))], fk ++ b82 (b6 (ss.getD k b81).value (0 : Int)).length ck ++ [ck], ck + 1)).fst ++ [p8 (8 : Int) ([(0 : Int)] ++ [])]).getD (lk ++ b6 (ss.getD k b81).value (0 : Int)).length b81).a (((l9 (ss.getD k b81).body (d + 1) (lk ++ b6 (ss.getD k b81).value (0 : Int) ++ [p8 (9 : Int) ([(0 : Int)] ++ ([(0 : Int)] ++ []))], fk ++ b82 (b6 (ss.getD k b81).value (0 : Int)).length ck ++ [ck], ck + 1)).fst ++ [p8 (8 : Int) ([(0 : Int)] ++ [])]).length : Int) (((l9 (ss.getD k b81).body (d + 1) (lk ++ b6 (ss.getD k b81).value (0 : Int) ++ [p8 (9 : Int) ([(0 : Int)] ++ ([(0 : Int)] ++ []))], fk ++ b82 (b6 (ss.getD k b81).value (0 : Int)).length ck ++ [ck], ck + 1)).fst ++ [p8 (8 : Int) ([(0 : Int)] ++ [])]).getD (lk ++ b6 (ss.getD k b81).value (0 : Int)).length b81).c (((l9 (ss.getD k b81).body (d + 1) (lk ++ b6 (ss.getD k b81).value (0 : Int) ++ [p8 (9 : Int) ([(0 : Int)] ++ ([(0 : Int)] ++ []))], fk ++ b82 (b6 (ss.getD k b81).value (0 : Int)).length ck ++ [ck], ck + 1)).fst ++ [p8 (8 : Int) ([(0 : Int)] ++ [])]).getD (lk ++ b6 (ss.getD k b81).value (0 : Int)).length b81).d), (l9 (ss.getD k b81).body (d + 1) (lk ++ b6 (ss.getD k b81).value (0 : Int) ++ [p8 (9 : Int) ([(0 : Int)] ++ ([(0 : Int)] ++ []))], fk ++ b82 (b6 (ss.getD k b81).value (0 : Int)).length ck ++ [ck], ck + 1)).snd.fst ++ [ck], (l9 (ss.getD k b81).body (d + 1) (lk ++ b6 (ss.getD k b81).value (0 : Int) ++ [p8 (9 : Int) ([(0 : Int)] ++ ([(0 : Int)] ++ []))], fk ++ b82 (b6 (ss.getD k b81).value (0 : Int)).length ck ++ [ck], ck + 1)).snd.snd)).fst.length : Int), (l9 (ss.getD k b81).body (d + 1) (lk ++ b6 (ss.getD k b81).value (0 : Int) ++ [p8 (9 : Int) ([(0 : Int)] ++ ([(0 : Int)] ++ []))], fk ++ b82 (b6 (ss.getD k b81).value (0 : Int)).length ck ++ [ck], ck + 1)).fst.length < (l9 (ss.getD k b81).els (d + 1) (((l9 (ss.getD k b81).body (d + 1) (lk ++ b6 (ss.getD k b81).value (0 : Int) ++ [p8 (9 : Int) ([(0 : Int)] ++ ([(0 : Int)] ++ []))], fk ++ b82 (b6 (ss.getD k b81).value (0 : Int)).length ck ++ [ck], ck + 1)).fst ++ [p8 (8 : Int) ([(0 : Int)] ++ [])]).set (lk ++ b6 (ss.getD k b81).value (0 : Int)).length (d9.mk (((l9 (ss.getD k b81).body (d + 1) (lk ++ b6 (ss.getD k b81).value (0 : Int) ++ [p8 (9 : Int) ([(0 : Int)] ++ ([(0 : Int)] ++ []))], fk ++ b82 (b6 (ss.getD k b81).value (0 : Int)).length ck ++ [ck], ck + 1)).fst ++ [p8 (8 : Int) ([(0 : Int)] ++ [])]).getD (lk ++ b6 (ss.getD k b81).value (0 : Int)).length b81).op (((l9 (ss.getD k b81).body (d + 1) (lk ++ b6 (ss.getD k b81).value (0 : Int) ++ [p8 (9 : Int) ([(0 : Int)] ++ ([(0 : Int)] ++ []))], fk ++ b82 (b6 (ss.getD k b81).value (0 : Int)).length ck ++ [ck], ck + 1)).fst ++ [p8 (8 : Int) ([(0 : Int)] ++ [])]).getD (lk ++ b6 (ss.getD k b81).value (0 : Int)).length b81).a (((l9 (ss.getD k b81).body (d + 1) (lk ++ b6 (ss.getD k b81).value (0 : Int) ++ [p8 (9 : Int) ([(0 : Int)] ++ ([(0 : Int)] ++ []))], fk ++ b82 (b6 (ss.getD k b81).value (0 : Int)).length ck ++ [ck], ck + 1)).fst ++ [p8 (8 : Int) ([(0 : Int)] ++ [])]).length : Int) (((l9 (ss.getD k b81).body (d + 1) (lk ++ b6 (ss.getD k b81).value (0 : Int) ++ [p8 (9 : Int) ([(0 : Int)] ++ ([(0 : Int)] ++ []))], fk ++ b82 (b6 (ss.getD k b81).value (0 : Int)).length ck ++ [ck], ck + 1)).fst ++ [p8 (8 : Int) ([(0 : Int)] ++ [])]).getD (lk ++ b6 (ss.getD k b81).value (0 : Int)).length b81).c (((l9 (ss.getD k b81).body (d + 1) (lk ++ b6 (ss.getD k b81).value (0 : Int) ++ [p8 (9 : Int) ([(0 : Int)] ++ ([(0 : Int)] ++ []))], fk ++ b82 (b6 (ss.getD k b81).value (0 : Int)).length ck ++ [ck], ck + 1)).fst ++ [p8 (8 : Int) ([(0 : Int)] ++ [])]).getD (lk ++ b6 (ss.getD k b81).value (0 : Int)).length b81).d), (l9 (ss.getD k b81).body (d + 1) (lk ++ b6 (ss.getD k b81).value (0 : Int) ++ [p8 (9 : Int) ([(0 : Int)] ++ ([(0 : Int)] ++ []))], fk ++ b82 (b6 (ss.getD k b81).value (0 : Int)).length ck ++ [ck], ck + 1)).snd.fst ++ [ck], (l9 (ss.getD k b81).body (d + 1) (lk ++ b6 (ss.getD k b81).value (0 : Int) ++ [p8 (9 : Int) ([(0 : Int)] ++ ([(0 : Int)] ++ []))], fk ++ b82 (b6 (ss.getD k b81).value (0 : Int)).length ck ++ [ck], ck + 1)).snd.snd)).fst.length] ⟨(by simp [hs, h0, h1, h7, h8, h9, h10]), (by have g := hg (by omega); simp only [t3, v6, b83, b84, b86, b87, b97]; omega), (by have g := hg (by omega); simp only [t3, v6, b83, b84, b86, b87, b97]; omega), b91⟩ fun G => ?_)
        refine r7 (r7 (b0 (K7 G i7 [(15, iA ((k : Int) + 1))] [wO ((k : Int) + 1)] ⟨(by have g := hg (by omega); exact w64 (by omega) (by omega)), b91⟩ fun G => b0 ?_))); exact rxn G (k + 1) (by have g := hg (by omega); omega) (by have g := hg (by omega); omega) (rg 6) (by have e1 : (owB (b88 (k + 1) ss) ct ow : Int) = (owB (ss.getD k b81).els (l9 (ss.getD k b81).body (d + 1) (lk ++ b6 (ss.getD k b81).value 0 ++ [p8 9 ([0] ++ ([0] ++ []))], fk ++ b82 (b6 (ss.getD k b81).value 0).length ck ++ [ck], ck + 1)).snd.snd ck) := (by subst hlk hfk hck hwk; exact b51 (by omega) (by omega)); subst hlk hfk hck hwk; have h9 := (V3 (show k < ss.length by omega)).trans (cm3 (l := (l9 (ss.take k) d (l, fr, ct)).1) (fr := (l9 (ss.take k) d (l, fr, ct)).2.1) (at0 := (l9 (ss.take k) d (l, fr, ct)).2.2) (d := d) (s := ss.getD k b81) (by omega)); rw [e1, h9] <;> rfl)
      · refine wp_seq (m5 G (t5 3 [0, 9, 10, 4] (bp3 ((ss.getD k b81).index) (lk ++ b6 (ss.getD k b81).value 0) (fk ++ b82 (b6 (ss.getD k b81).value 0).length ck) ck (ck + 1) 1 (by simp [hs, h0, h1, h7, h8, h9]) (by have g := hg (by omega); omega) (by subst hlk hfk hck hwk; exact (xt r1 (by omega)).2.2.1) (by have g := hg (by omega); simp only [t3, v6, b83, b84, b86, b87, b97]; omega))) [0, 1, 2, 3, 4, 5, 6, 7, 8, 35, 36] [aH5 ck, .dead, .dead, dT ss, V5 ss k, V4 ss k, dT (ss.getD k b81).body, dT (ss.getD k b81).els, af1 ss k, .row 86 (D.instrs (lk ++ b6 (ss.getD k b81).value 0 ++ b6 (ss.getD k b81).index 1)), .row 3 (D.ints (fk ++ b82 (b6 (ss.getD k b81).value 0).length ck ++ b82 (b6 (ss.getD k b81).index 1).length ck))] [(0, .ptr 0 0), (2, iA d), (7, .ptr 8 0), (13, .ref 3), (14, iA (ss.length : Int)), (15, iA k)] fun G => b0 (m5 G (t5 4 [0, 9, 10, 35] (U2 5 ([(ss.getD k b81).target] ++ ([1] ++ ([0] ++ []))) (by simp [hs, h0, h1, h7, h8, h9]) (lk ++ b6 (ss.getD k b81).value 0 ++ b6 (ss.getD k b81).index 1) (fk ++ b82 (b6 (ss.getD k b81).value 0).length ck ++ b82 (b6 (ss.getD k b81).index 1).length ck) ck (ck + 1) (by have g := hg (by omega); simp only [t3, v6, b83, b84, b86, b87, b97]; omega) (by have g := hg (by omega); simp only [t3, v6, b83, b84, b86, b87, b97]; omega))) [0, 1, 2, 3, 43, 44] [.box [.ref 4, .ref 5, iA ck, iA (ck + 1)], .dead, .dead, dT ss, .row 86 (D.instrs (lk ++ b6 (ss.getD k b81).value 0 ++ b6 (ss.getD k b81).index 1 ++ [p8 5 ([(ss.getD k b81).target] ++ ([1] ++ ([0] ++ [])))])), .row 3 (D.ints (fk ++ b82 (b6 (ss.getD k b81).value 0).length ck ++ b82 (b6 (ss.getD k b81).index 1).length ck ++ [ck]))] [(0, .ptr 0 0), (2, iA d), (13, .ref 3), (14, iA (ss.length : Int)), (15, iA k)] fun G => r7 (r7 (b0 (K7 G i7 [(15, iA ((k : Int) + 1))] [wO ((k : Int) + 1)] ⟨(by have g := hg (by omega); exact w64 (by omega) (by omega)), b91⟩ fun G => b0 ?_))))); exact rxn G (k + 1) (by have g := hg (by omega); omega) (by have g := hg (by omega); omega) (rg 6) (by have e1 : (owB (b88 (k + 1) ss) ct ow : Int) = (ck) := (by subst hlk hfk hck hwk; exact bK6 (by omega) (by omega)); subst hlk hfk hck hwk; have h9 := (V3 (show k < ss.length by omega)).trans (cm2 (l := (l9 (ss.take k) d (l, fr, ct)).1) (fr := (l9 (ss.take k) d (l, fr, ct)).2.1) (at0 := (l9 (ss.take k) d (l, fr, ct)).2.2) (d := d) (s := ss.getD k b81) (by omega)); rw [e1, h9] <;> rfl)
     · refine wp_seq (m5 G (t5 2 [0, 9, 10, 19] (U2 11 ([0] ++ []) (by simp [hs, h0, h1, h7, h8]) (lk ++ b6 (ss.getD k b81).value 0) (fk ++ b82 (b6 (ss.getD k b81).value 0).length ck) ck (ck + 1) (by have g := hg (by omega); simp only [t3, v6, b83, b84, b86, b87, b97]; omega) (by have g := hg (by omega); simp only [t3, v6, b83, b84, b86, b87, b97]; omega))) [0, 1, 2, 3, 4, 5, 6, 7, 8, 27, 28] [aH5 ck, .dead, .dead, dT ss, V5 ss k, V4 ss k, dT (ss.getD k b81).body, dT (ss.getD k b81).els, af1 ss k, .row 86 (D.instrs (lk ++ b6 (ss.getD k b81).value 0 ++ [p8 11 ([0] ++ [])])), .row 3 (D.ints (fk ++ b82 (b6 (ss.getD k b81).value 0).length ck ++ [ck]))] [(0, .ptr 0 0), (2, iA d), (7, .ptr 8 0), (13, .ref 3), (14, iA (ss.length : Int)), (15, iA k)] fun G => b0 (m5 G (t5 4 [0, 9, 10, 35] (U2 3 ([(ss.getD k b81).target] ++ ([0] ++ [])) (by simp [hs, h0, h1, h7, h8]) (lk ++ b6 (ss.getD k b81).value 0 ++ [p8 11 ([0] ++ [])]) (fk ++ b82 (b6 (ss.getD k b81).value 0).length ck ++ [ck]) ck (ck + 1) (by have g := hg (by omega); simp only [t3, v6, b83, b84, b86, b87, b97]; omega) (by have g := hg (by omega); simp only [t3, v6, b83, b84, b86, b87, b97]; omega))) [0, 1, 2, 3, 43, 44] [.box [.ref 4, .ref 5, iA ck, iA (ck + 1)], .dead, .dead, dT ss, .row 86 (D.instrs (lk ++ b6 (ss.getD k b81).value 0 ++ [p8 11 ([0] ++ [])] ++ [p8 3 ([(ss.getD k b81).target] ++ ([0] ++ []))])), .row 3 (D.ints (fk ++ b82 (b6 (ss.getD k b81).value 0).length ck ++ [ck] ++ [ck]))] [(0, .ptr 0 0), (2, iA d), (13, .ref 3), (14, iA (ss.length : Int)), (15, iA k)] fun G => r7 (r7 (b0 (K7 G i7 [(15, iA ((k : Int) + 1))] [wO ((k : Int) + 1)] ⟨(by have g := hg (by omega); exact w64 (by omega) (by omega)), b91⟩ fun G => b0 ?_))))); exact rxn G (k + 1) (by have g := hg (by omega); omega) (by have g := hg (by omega); omega) (rg 6) (by have e1 : (owB (b88 (k + 1) ss) ct ow : Int) = (ck) := (by subst hlk hfk hck hwk; exact bK6 (by omega) (by omega)); subst hlk hfk hck hwk; have h9 := (V3 (show k < ss.length by omega)).trans (cm5 (l := (l9 (ss.take k) d (l, fr, ct)).1) (fr := (l9 (ss.take k) d (l, fr, ct)).2.1) (at0 := (l9 (ss.take k) d (l, fr, ct)).2.2) (d := d) (s := ss.getD k b81) (by omega)); rw [e1, h9] <;> rfl)
    · refine m5 G (t5 4 [0, 9, 10, 35] (U2 3 ([(ss.getD k b81).target] ++ ([0] ++ [])) (by simp [hs, h0, h1, h7]) (lk ++ b6 (ss.getD k b81).value 0) (fk ++ b82 (b6 (ss.getD k b81).value 0).length ck) ck (ck + 1) (by have g := hg (by omega); simp only [t3, v6, b83, b84, b86, b87, b97]; omega) (by have g := hg (by omega); simp only [t3, v6, b83, b84, b86, b87, b97]; omega))) [0, 1, 2, 3, 43, 44] [.box [.ref 4, .ref 5, iA ck, iA (ck + 1)], .dead, .dead, dT ss, .row 86 (D.instrs (lk ++ b6 (ss.getD k b81).value 0 ++ [p8 3 ([(ss.getD k b81).target] ++ ([0] ++ []))])), .row 3 (D.ints (fk ++ b82 (b6 (ss.getD k b81).value 0).length ck ++ [ck]))] [(0, .ptr 0 0), (2, iA d), (13, .ref 3), (14, iA (ss.length : Int)), (15, iA k)] fun G => r7 (r7 (b0 (K7 G i7 [(15, iA ((k : Int) + 1))] [wO ((k : Int) + 1)] ⟨(by have g := hg (by omega); exact w64 (by omega) (by omega)), b91⟩ fun G => b0 ?_))); exact rxn G (k + 1) (by have g := hg (by omega); omega) (by have g := hg (by omega); omega) (rg 6) (by have e1 : (owB (b88 (k + 1) ss) ct ow : Int) = (ck) := (by subst hlk hfk hck hwk; exact bK6 (by omega) (by omega)); subst hlk hfk hck hwk; have h9 := (V3 (show k < ss.length by omega)).trans (cm1 (l := (l9 (ss.take k) d (l, fr, ct)).1) (fr := (l9 (ss.take k) d (l, fr, ct)).2.1) (at0 := (l9 (ss.take k) d (l, fr, ct)).2.2) (d := d) (s := ss.getD k b81) (by omega)); rw [e1, h9] <;> rfl)
theorem bn0 (nv na : Nat) : ∀ (dd : Nat) (tt : List b5) (l : List d9) (fr : List Int) (ow ct d : Int), tt.all (i9 nv na dd) = true → l.length + 4 * p7 tt ≤ 5000000 → fr.length = l.length → 0 ≤ d → d + dd ≤ 100 → 0 ≤ ct → ct + E9 tt ≤ 5000000 → m7.ok Tryz.prog (itC l fr ow ct tt d)
 | 0, tt, l, fr, ow, ct, d, hs, r1, r2, r3, r4, r5, r6 => by
  have h0 : tt = [] := by
   cases tt with
   | nil => rfl
   | cons a r => simp [i9] at hs
  subst h0
  exact a37 nv na 0 101 (by omega) [] rfl (fun _ _ _ _ _ _ h => absurd h (by simp)) l fr ow ct d r1 r2 r3 (by omega) r5 r6
 | dd + 1, tt, l, fr, ow, ct, d, hs, r1, r2, r3, r4, r5, r6 =>
  a37 nv na dd 100 (by omega) tt hs (fun tt l fr ow ct d _ h1 h2 h3 h4 h5 h6 h7 => bn0 nv na dd tt l fr ow ct d h1 h2 h3 h4 h5 h6 h7) l fr ow ct d r1 r2 r3 (by omega) r5 r6
def cvP (p : f7) : List Int := if W0 p = true then p.vars else []
def caP (p : f7) : List Int := if W0 p = true then p.arrays else []
theorem bV4 {p : f7} (h : W0 p = true) : cvP p = p.vars := if_pos h
theorem bV5 {p : f7} (h : W0 p = false) : cvP p = [] := if_neg (by rw [h]; decide)
theorem bW1 {p : f7} (h : W0 p = true) : caP p = p.arrays := if_pos h
theorem bW2 {p : f7} (h : W0 p = false) : caP p = [] := if_neg (by rw [h]; decide)
abbrev aU7 (p : f7) : List It := [dI p.vars, dI p.arrays, dT p.body, .row 3 (D.ints (cvP p)), .row 3 (D.ints (caP p)), .row 86 (D.instrs (J5 p).fst)]
abbrev aU3 (p : f7) (r0 : List It) : List It := .row 86 (D.instrs (J5 p).fst) :: .row 3 (D.ints (J5 p).snd.fst) :: .box [.ref 5, .ref 6, iA (J5 p).snd.snd] :: r0
theorem aA2 (p : f7) (hb : p.size ≤ 1048576) : m7.ok Tryz.prog ⟨23, [pA 0], pS p, pS p ++ [rI (cvP p), rI (caP p), rN (J5 p).1], .tup [.agg [.ref 3, .ref 4, .ref 5], bA (W0 p)]⟩ := by
 refine H8 25 Tryz.func23 [dI p.vars, dI p.arrays, dT p.body] [(0, pA 0)] fun G => ?_
 have hb1 : p.vars.length ≤ 1048576 ∧ p.arrays.length ≤ 1048576 ∧ p7 p.body ≤ 1048576 := by unfold f7.size at hb; omega
 refine wp_seq (m5 G i7 [0, 1, 2, 3, 11] [dI p.vars, dI p.arrays, dT p.body, .box (pL 0), .box [.v (.slice none 0 0), .v (.slice none 0 0), .v (.slice none 0 0)]] [(1, .ptr 3 0), (2, .ptr 4 0), (3, bA false)] fun G => b0 (wp_seq (m5 G (t5 1 [0, 1, 2] (a92 p hb1.2.2)) [0, 1, 2, 3, 4, 13, 14, 45] (dI p.vars :: dI p.arrays :: dT p.body :: .box (pL 0) :: .box [.v (.slice none 0 0), .v (.slice none 0 0), .v (.slice none 0 0)] :: (aU3 p [])) [(1, .ptr 3 0), (2, .ptr 4 0), (3, bA false), (4, .ptr 7 0), (5, bA (W0 p))] fun G => b0 (wp_seq (wp_seq (l8 G i7 [(12, .v (.bool !W0 p))] fun G => b0 ?_)))))); cases h0 : (!W0 p)
 ·have q0 : (W0 p) = true := (Eq.mp (ca0 _) h0); refine rF G _ h0 (wp_skip (b0 (wp_seq (R5 G i7 [0, 0, 2, 7, 0, 0, 32, 127, 0, 256, 1023, 2047, 4095] [0, 1, 2, 4, 5, 32, 64] [dI p.vars, dI p.arrays, dT p.body, .box [.ref 5, .ref 6, .ref 4], .row 86 (D.instrs (J5 p).fst), .row 3 (D.ints ([] ++ p.vars)), .row 3 (D.ints ([] ++ p.arrays))] [(2, .ptr 3 0), (3, bA true)] (aP ((0 : Nat) + p.vars.length) 8 (aP ((0 : Nat) + p.arrays.length) 8 [])) (aK (by omega) (aK (by omega) b91)) fun G => b0 (wp_ret ?_))))); exact X8 (.tup [.agg [.ref 5, .ref 6, .ref 4], bA true]) G [0, 1, 2, 5, 6, 4] (by have e1 : (W0 p : Bool) = (true) := (by assumption); (first | rw [e1] | simp only [e1]) <;> rfl) (by show _ = mR [0, 1, 2, 5, 6, 4] (aU7 p); unfold aU7; have e2 : (caP p : List Int) = ([] ++ p.arrays) := (by rw [bW1 (by with_reducible assumption)]; rfl); rw [e2, bV4 (by with_reducible assumption)] <;> rfl)
 ·have q0 : (W0 p) = false := (Eq.mp (b99 _) h0); refine rT G _ h0 (wp_seq (K8 G i7 [(1, .ptr 3 0), (2, .ptr 4 0), (3, bA false), (4, .ptr 7 0)] fun G => b0 (wp_ret (m8 ?_)))); obtain ⟨ρ, G⟩ := G.nil 8 3 (.ints []) 1 (dI p.vars :: dI p.arrays :: dT p.body :: .box (pL 0) :: .box [.ref 8, .v (.slice none 0 0), .v (.slice none 0 0)] :: (aU3 p [])) [(1, .ptr 3 0), (2, .ptr 4 0), (3, bA false), (4, .ptr 7 0)]; obtain ⟨ρ, G⟩ := G.nil 9 3 (.ints []) 1 (dI p.vars :: dI p.arrays :: dT p.body :: .box (pL 0) :: .box [.ref 8, .ref 9, .v (.slice none 0 0)] :: (aU3 p [.row 3 (D.ints [])])) [(1, .ptr 3 0), (2, .ptr 4 0), (3, bA false), (4, .ptr 7 0)]; obtain ⟨ρ, G⟩ := G.nil 10 86 (.instrs []) 5 (dI p.vars :: dI p.arrays :: dT p.body :: .box (pL 0) :: .box (pL 8) :: (aU3 p [.row 3 (D.ints []), .row 3 (D.ints [])])) [(1, .ptr 3 0), (2, .ptr 4 0), (3, bA false), (4, .ptr 7 0)]; exact X8 (.tup [pA 8, bA false]) G [0, 1, 2, 8, 9, 10] (by have e1 : (W0 p : Bool) = (false) := (by assumption); (first | rw [e1] | simp only [e1]) <;> rfl) (by show _ = mR [0, 1, 2, 8, 9, 10] (aU7 p); unfold aU7; have e2 : (caP p : List Int) = ([]) := (by rw [bW2 (by with_reducible assumption)]; done); have e3 : ((J5 p).fst : List d9) = ([]) := (by rw [ar8 (by with_reducible assumption)]; done); rw [e2, e3, bV5 (by with_reducible assumption)] <;> rfl)
theorem bt8 (p : f7) (hp : n4 p = true) (hb : p7 p.body ≤ 1048576) : m7.ok Tryz.prog (itC [] [] 0 0 p.body 0) :=
 bn0 _ _ 5 p.body [] [] 0 0 0 (by simp only [n4, S6, b85, decide_eq_true_eq] at hp; exact hp.1.2) (by simp only [b86]; omega) rfl (by omega) (by omega) (by omega) (by have := aL1 p.body; omega)
theorem a80 (p : f7) (hp : n4 p = false) : m7.ok Tryz.prog ⟨69, [pA 0], pS p, pS p, .tup [.v (.pointer none), bA false]⟩ := by
 refine H8 26 Tryz.func69 [dI p.vars, dI p.arrays, dT p.body] [(0, pA 0)] fun G => ?_; refine wp_seq (m5 G i7 (rg 4) [dI p.vars, dI p.arrays, dT p.body, .box (pL 0)] [(1, .ptr 3 0), (2, .v (.pointer none)), (3, bA false)] fun G => b0 (wp_seq (wp_seq (l8 G (t5 1 [0, 1, 2] (W3 p)) [(7, .v (.bool !n4 p))] fun G => b0 (rT G (!n4 p) (by rw [hp]; rfl) (wp_seq (l8 G i7 [] fun G => b0 (wp_ret (m8 ?_))))))))); exact Q9 G [0, 1, 2]
theorem a79 (p : f7) (hp : n4 p = true) (hb : p7 p.body ≤ 1048576) : m7.ok Tryz.prog ⟨69, [pA 0], pS p, pS p ++ [.box [.ref 4, .ref 5, iA (-1), iA (J6 p).2.2], rN (J6 p).1, rI (J6 p).2.1], .tup [.ptr 3 0, bA (decide (((J6 p).1.length : Int) ≤ 400))]⟩ := by
 have hit := bt8 p hp hb; refine H8 26 Tryz.func69 [dI p.vars, dI p.arrays, dT p.body] [(0, pA 0)] fun G => ?_; have hcb := aT8 p hb; refine wp_seq (m5 G i7 (rg 4) [dI p.vars, dI p.arrays, dT p.body, .box (pL 0)] [(1, .ptr 3 0), (2, .v (.pointer none)), (3, bA false)] fun G => b0 (wp_seq (wp_seq (l8 G (t5 1 [0, 1, 2] (W3 p)) [(7, .v (.bool !n4 p))] fun G => b0 (rF G (!n4 p) (by rw [hp]; rfl) (wp_skip (b0 (wp_seq (m5 G i7 [0, 1, 2, 3, 12] [dI p.vars, dI p.arrays, dT p.body, .box (pL 0), .box [.v (.slice none 0 0), .v (.slice none 0 0), iA 0, iA 0]] [(1, .ptr 3 0), (2, .v (.pointer none)), (3, bA false), (4, .ptr 4 0)] fun G => b0 (wp_seq ?_)))))))))); obtain ⟨ρ, G⟩ := G.nil 5 86 (.instrs []) 5 [dI p.vars, dI p.arrays, dT p.body, .box (pL 0), .box [.ref 5, .v (.slice none 0 0), iA 0, iA 0]] [(1, .ptr 3 0), (2, .v (.pointer none)), (3, bA false), (4, .ptr 4 0)]; obtain ⟨ρ, G⟩ := G.nil 6 3 (.ints []) 1 [dI p.vars, dI p.arrays, dT p.body, .box (pL 0), .box [.ref 5, .ref 6, iA 0, iA 0], .row 86 (D.instrs [])] [(1, .ptr 3 0), (2, .v (.pointer none)), (3, bA false), (4, .ptr 4 0)]; refine m5 G (t5 3 [4, 5, 6, 2] hit) [0, 1, 2, 4, 31, 32] [dI p.vars, dI p.arrays, dT p.body, .box [.ref 4, .ref 5, iA (owB p.body 0 0), iA (l9 p.body 0 ([], [], 0)).snd.snd], .row 86 (D.instrs (l9 p.body 0 ([], [], 0)).fst), .row 3 (D.ints (l9 p.body 0 ([], [], 0)).snd.fst)] [(2, .v (.pointer none)), (3, bA false), (4, .ptr 3 0)] fun G => b0 (wp_seq (m5 G i7 (rg 6) [dI p.vars, dI p.arrays, dT p.body, .box [.ref 4, .ref 5, iA (-1), iA (l9 p.body 0 ([], [], 0)).snd.snd], .row 86 (D.instrs (l9 p.body 0 ([], [], 0)).fst), .row 3 (D.ints (l9 p.body 0 ([], [], 0)).snd.fst)] [(2, .v (.pointer none)), (3, bA false), (4, .ptr 3 0)] fun G => b0 (wp_seq (m5 G (t5 1 [3, 4, 5] (bO8 13 ((l9 p.body 0 ([], [], 0)).fst) ((l9 p.body 0 ([], [], 0)).snd.fst) (-1) ((l9 p.body 0 ([], [], 0)).snd.snd) (by omega) (by omega))) [0, 1, 2, 3, 14, 15] [dI p.vars, dI p.arrays, dT p.body, .box [.ref 4, .ref 5, iA (-1), iA (l9 p.body 0 ([], [], 0)).snd.snd], .row 86 (D.instrs ((l9 p.body 0 ([], [], 0)).fst ++ [d9.mk 13 0 0 0 0])), .row 3 (D.ints ((l9 p.body 0 ([], [], 0)).snd.fst ++ [-1]))] [(2, .v (.pointer none)), (3, bA false), (4, .ptr 3 0)] fun G => b0 (wp_seq (bK2 G i7 [0, 0, 2, 6, 14, 30, 62, 1, 255] [(2, .ptr 3 0), (3, bA (decide ((((l9 p.body 0 ([], [], 0)).fst ++ [d9.mk 13 0 0 0 0]).length : Int) ≤ 400)))] fun G => b0 (wp_ret ?_))))))); exact Q9 G (rg 6)
theorem by9 (p : f7) (hp : n4 p = false) : m7.ok Tryz.prog ⟨22, [pA 0], pS p, pS p ++ [rI (cvP p), rI (caP p), rN (J5 p).1], .tup [.agg [.ref 3, .ref 4, .ref 5], bA (W0 p)]⟩ := by
 have hcf := a80 p hp; refine H8 25 Tryz.func22 [dI p.vars, dI p.arrays, dT p.body] [(0, pA 0)] fun G => ?_; refine wp_seq (m5 G i7 [0, 1, 2, 3, 11] [dI p.vars, dI p.arrays, dT p.body, .box (pL 0), .box [.v (.slice none 0 0), .v (.slice none 0 0), .v (.slice none 0 0)]] [(1, .ptr 3 0), (2, .ptr 4 0), (3, bA false)] fun G => b0 (wp_seq (l8 G (t5 1 [0, 1, 2] hcf) [(4, .v (.pointer none)), (5, bA false)] fun G => b0 (wp_seq (wp_seq (l8 G i7 [(12, bA true)] fun G => b0 (rT G true (by kernel_rfl) (wp_seq (K8 G i7 [(1, .ptr 3 0), (2, .ptr 4 0), (3, bA false), (4, .v (.pointer none))] fun G => b0 (wp_ret (m8 ?_))))))))))); obtain ⟨ρ, G⟩ := G.nil 5 3 (.ints []) 1 [dI p.vars, dI p.arrays, dT p.body, .box (pL 0), .box [.ref 5, .v (.slice none 0 0), .v (.slice none 0 0)]] [(1, .ptr 3 0), (2, .ptr 4 0), (3, bA false), (4, .v (.pointer none))]; obtain ⟨ρ, G⟩ := G.nil 6 3 (.ints []) 1 [dI p.vars, dI p.arrays, dT p.body, .box (pL 0), .box [.ref 5, .ref 6, .v (.slice none 0 0)], .row 3 (D.ints [])] [(1, .ptr 3 0), (2, .ptr 4 0), (3, bA false), (4, .v (.pointer none))]; obtain ⟨ρ, G⟩ := G.nil 7 86 (.instrs []) 5 [dI p.vars, dI p.arrays, dT p.body, .box (pL 0), .box (pL 5), .row 3 (D.ints []), .row 3 (D.ints [])] [(1, .ptr 3 0), (2, .ptr 4 0), (3, bA false), (4, .v (.pointer none))]; exact X8 (.tup [pA 5, bA false]) G [0, 1, 2, 5, 6, 7] (by have e1 : (W0 p : Bool) = (false) := (aq9 hp); (first | rw [e1] | simp only [e1]) <;> rfl) (by show _ = mR [0, 1, 2, 5, 6, 7] [dI p.vars, dI p.arrays, dT p.body, .row 3 (D.ints (cvP p)), .row 3 (D.ints (caP p)), .row 86 (D.instrs (J5 p).fst)]; have e2 : (caP p : List Int) = ([]) := (by rw [bW2 (aq9 hp)]; done); have e3 : ((J5 p).fst : List d9) = ([]) := (by rw [ar8 (aq9 hp)]; done); rw [e2, e3, bV5 (aq9 hp)] <;> rfl)
abbrev aU8 (p : f7) : List It := [dI p.vars, dI p.arrays, dT p.body, .row 3 (D.ints (cvP p)), .row 3 (D.ints (caP p)), .row 86 (D.instrs (J5 p).fst)]
abbrev aU4 (p : f7) (r0 : List It) : List It := .box [.ref 6, .ref 7, iA (-1), iA (J6 p).snd.snd] :: .row 86 (D.instrs (J6 p).fst) :: .row 3 (D.ints (J6 p).snd.fst) :: r0
theorem by8 (p : f7) (hp : n4 p = true) (hb : p.size ≤ 1048576) : m7.ok Tryz.prog ⟨22, [pA 0], pS p, pS p ++ [rI (cvP p), rI (caP p), rN (J5 p).1], .tup [.agg [.ref 3, .ref 4, .ref 5], bA (W0 p)]⟩ := by
 have hb1 : p.vars.length ≤ 1048576 ∧ p.arrays.length ≤ 1048576 ∧ p7 p.body ≤ 1048576 := by unfold f7.size at hb; omega
 have hct := a79 p hp hb1.2.2; refine H8 25 Tryz.func22 [dI p.vars, dI p.arrays, dT p.body] [(0, pA 0)] fun G => ?_; refine wp_seq (m5 G i7 [0, 1, 2, 3, 11] [dI p.vars, dI p.arrays, dT p.body, .box (pL 0), .box [.v (.slice none 0 0), .v (.slice none 0 0), .v (.slice none 0 0)]] [(1, .ptr 3 0), (2, .ptr 4 0), (3, bA false)] fun G => b0 (wp_seq (m5 G (t5 1 [0, 1, 2] hct) [0, 1, 2, 3, 4, 13, 14, 15] (dI p.vars :: dI p.arrays :: dT p.body :: .box (pL 0) :: .box [.v (.slice none 0 0), .v (.slice none 0 0), .v (.slice none 0 0)] :: (aU4 p [])) [(1, .ptr 3 0), (2, .ptr 4 0), (3, bA false), (4, .ptr 5 0), (5, bA (decide (((J6 p).fst.length : Int) ≤ 400)))] fun G => b0 (wp_seq (wp_seq (l8 G i7 [(12, .v (.bool !decide (((J6 p).fst.length : Int) ≤ 400)))] fun G => b0 ?_)))))); cases h0 : (!decide (((J6 p).fst.length : Int) ≤ 400))
 ·have q0 : ((J6 p).fst.length : Int) ≤ 400 := (fun hq => of_decide_eq_true hq) (Eq.mp (ca0 _) h0); refine rF G _ h0 (wp_skip (b0 (wp_seq (aX4 G (B8 ⟨[(2, _, [0]), (5, _, [1])], [], []⟩ (b9 (aC5 p.vars (by omega)) (b9 (aC5 p.arrays (by omega)) d8)) b91) [0, 1, 3, 0, 8, 31, 0, 64, 192, 448, 1023, 2047, 4095] [0, 1, 2, 4, 6, 24, 48] [dI p.vars, dI p.arrays, dT p.body, .box [.ref 5, .ref 6, .ref 4], .row 86 (D.instrs (J6 p).fst), .row 3 (D.ints p.vars), .row 3 (D.ints p.arrays)] [(2, .ptr 3 0), (3, bA true)] fun G => b0 (wp_ret ?_))))); exact X8 (.tup [.agg [.ref 5, .ref 6, .ref 4], bA true]) G [0, 1, 2, 5, 6, 4] (by have e1 : (W0 p : Bool) = (true) := (aK7 hp (by omega)); (first | rw [e1] | simp only [e1]) <;> rfl) (by show _ = mR [0, 1, 2, 5, 6, 4] (aU8 p); unfold aU8; have e2 : (caP p : List Int) = (p.arrays) := (by rw [bW1 (aK7 hp (by omega))]; done); have e3 : ((J5 p).fst : List d9) = ((J6 p).fst) := (by rw [a01 (aK7 hp (by omega))]; done); rw [e2, e3, bV4 (aK7 hp (by omega))] <;> rfl)
 ·have q0 : ¬ (((J6 p).fst.length : Int) ≤ 400) := (fun hq => of_decide_eq_false hq) (Eq.mp (b99 _) h0); refine rT G _ h0 (wp_seq (K8 G i7 [(1, .ptr 3 0), (2, .ptr 4 0), (3, bA false), (4, .ptr 5 0)] fun G => b0 (wp_ret (m8 ?_)))); obtain ⟨ρ, G⟩ := G.nil 8 3 (.ints []) 1 (dI p.vars :: dI p.arrays :: dT p.body :: .box (pL 0) :: .box [.ref 8, .v (.slice none 0 0), .v (.slice none 0 0)] :: (aU4 p [])) [(1, .ptr 3 0), (2, .ptr 4 0), (3, bA false), (4, .ptr 5 0)]; obtain ⟨ρ, G⟩ := G.nil 9 3 (.ints []) 1 (dI p.vars :: dI p.arrays :: dT p.body :: .box (pL 0) :: .box [.ref 8, .ref 9, .v (.slice none 0 0)] :: (aU4 p [.row 3 (D.ints [])])) [(1, .ptr 3 0), (2, .ptr 4 0), (3, bA false), (4, .ptr 5 0)]; obtain ⟨ρ, G⟩ := G.nil 10 86 (.instrs []) 5 (dI p.vars :: dI p.arrays :: dT p.body :: .box (pL 0) :: .box (pL 8) :: (aU4 p [.row 3 (D.ints []), .row 3 (D.ints [])])) [(1, .ptr 3 0), (2, .ptr 4 0), (3, bA false), (4, .ptr 5 0)]; exact X8 (.tup [pA 8, bA false]) G [0, 1, 2, 8, 9, 10] (by have e1 : (W0 p : Bool) = (false) := (aK8 (by omega)); (first | rw [e1] | simp only [e1]) <;> rfl) (by show _ = mR [0, 1, 2, 8, 9, 10] (aU8 p); unfold aU8; have e2 : (caP p : List Int) = ([]) := (by rw [bW2 (aK8 (by omega))]; done); have e3 : ((J5 p).fst : List d9) = ([]) := (by rw [ar8 (aK8 (by omega))]; done); rw [e2, e3, bV5 (aK8 (by omega))] <;> rfl)
theorem aw6 (p : f7) (hb : p.size ≤ 1048576) : m7.ok Tryz.prog ⟨22, [pA 0], pS p, pS p ++ [rI (cvP p), rI (caP p), rN (J5 p).1], .tup [.agg [.ref 3, .ref 4, .ref 5], bA (W0 p)]⟩ := by
 cases hp : n4 p with
 | true => exact by8 p hp hb
 | false => exact by9 p hp
def av7 {α : Type} (f : α → Bool) (l : List α) : Int := match l.findIdx? f with
 | some i => i
 | none => -1
theorem bt2 {α : Type} {f : α → Bool} {l : List α} {k : Nat} {z : α} (hk : k < l.length) (h : (l.take k).any f = false) (hf : f (l.getD k z) = true) : av7 f l = k := by
 have : l.findIdx? f = some k := by
  rw [List.findIdx?_eq_some_iff_getElem]
  rw [p6 hk] at hf
  refine ⟨hk, hf, fun j hj => ?_⟩
  rw [List.any_eq_false] at h
  have hm : l[j] ∈ l.take k := List.mem_take_iff_getElem.2 ⟨j, by omega, rfl⟩
  exact h _ hm
 unfold av7; rw [this]
theorem a74 {α : Type} {f : α → Bool} {l : List α} (h : l.any f = false) : av7 f l = -1 := by
 have : l.findIdx? f = none := by
  rw [List.findIdx?_eq_none_iff]
  intro x hx
  rw [List.any_eq_false] at h
  simpa using h x hx
 unfold av7; rw [this]
theorem bt3 {α : Type} (f : α → Bool) (l : List α) : decide (av7 f l ≥ 0) = l.any f := by
 cases h : l.any f
 ·rw [a74 h]; rfl
 ·unfold av7
  cases h2 : l.findIdx? f with
  | none =>
   rw [List.findIdx?_eq_none_iff] at h2
   obtain ⟨x, hx, hf⟩ := List.any_eq_true.1 h
   rw [h2 x hx] at hf; cases hf
  | some i => simp
theorem bD7 {α : Type} {l : List α} {k : Nat} {z : α} (h : k < l.length) : l.getD k z ∈ l := by rw [p6 h]; exact ca5 h
def okS (nv na d : Nat) (e : d7) : Prop := (e.kind = 0 ∧ e.kids = []) ∨ m6 nv na d e = true
theorem aY1 {nv na d k : Nat} {e : d7} (h : okS nv na (d + 1) e) (hk : k < e.kids.length) : m6 nv na d (e.kids.getD k b81) = true := by
 rcases h with h | h
 ·rw [h.2] at hk; simp at hk
 ·exact ac5 h hk
theorem bL2 {nv na d : Nat} {e x : d7} (h : okS nv na (d + 1) e) (hk : x ∈ e.kids) : okS nv na d x := by
 obtain ⟨i, hi, rfl⟩ := List.mem_iff_getElem.1 hk
 have := aY1 h hi
 rw [p6 hi] at this
 exact .inr this
theorem an0 {nv na d : Nat} {e : d7} (h : okS nv na (d + 1) e) (k : e.kind = 3) : 0 < e.kids.length := by
 rcases h with h | h
 ·omega
 ·exact aW7 h k
theorem bS3 {vs ars : List Int} {d : Nat} {e : d7} (k : ¬ e.kind = 3) : v7 vs ars (d + 1) e = e.kids.any (v7 vs ars d) := by rw [v7]; simp [k]
theorem bJ1 {vs ars : List Int} {d : Nat} {e : d7} (k : (i5 (n5 vs ars d (e.kids.getD 0 b81)) && decide (n5 vs ars d (e.kids.getD 0 b81) % 2 = 1)) = false) : v7 vs ars (d + 1) e = e.kids.any (v7 vs ars d) := by rw [v7, k]; simp
abbrev bq8 (p : f7) (d : Nat) (e : d7) : m7 := N1 143 [pA 0, eA e 3] (pS p ++ eS e) (bA (v7 p.vars p.arrays d e))
theorem bO7 (p : f7) (d : Nat) (l : List d7) (ih : ∀ (e : d7), e ∈ l → m7.ok Tryz.prog (bq8 p d e)) : m7.ok Tryz.prog (N1 238 [.ref 3, .bm 143 [pA 0]] (pS p ++ [.dat (.exprs l)]) (iA (av7 (v7 p.vars p.arrays d) l))) := by
  refine H8 19 Tryz.func238 [dI p.vars, dI p.arrays, dT p.body, dE l] [(0, .ref 3), (1, .bm 143 [pA 0])] fun G => ?_; have hlen : l.length ≤ 9223372036854775807 := G.len 3 (d := .exprs l) (by kernel_rfl); refine wp_seq (K8 G i7 [(0, .ref 3), (1, .bm 143 [pA 0]), (4, iA 0)] fun G => b0 (wp_seq (wp_seq (K8 G i7 [(0, .ref 3), (1, .bm 143 [pA 0]), (4, iA 0), (7, iA (l.length : Int)), (8, iA 0)] fun G => b0 (wp_block ?_))))); refine y9 (κ := Nat) (fun k => k ≤ l.length ∧ (l.take k).any (v7 p.vars p.arrays d) = false) (fun k => l.length - k) (fun k => [dI p.vars, dI p.arrays, dT p.body, dE l]) (fun k => [(0, .ref 3), (1, .bm 143 [pA 0]), (4, iA 0), (7, iA (l.length : Int)), (8, iA k)]) 0 (⟨cb1 _, rfl⟩) (x8.at G _ _) ?_; clear G; intro k ρ a w hp G; refine wp_seq (l8 G i7 [(9, bA (decide ((k : Int) < l.length)))] fun G => b0 (wp_seq (rcD G (fun h0 q0 => ?_) fun h0 q0 => ?_)))
  · refine wp_exit (y7 (y7 (y6 (b0 (wp_seq (l8 G i7 [(4, iA (-1))] fun G => b0 (wp_ret ?_))))))); exact P7 (-1) G (rg 4) (a74 (aP3 hp.2 (by omega)))
  ·
   refine wp_skip (b0 (wp_seq (wp_block (wp_seq (l8 G i7 [(5, iA k)] fun G => b0 (wp_seq (K7 G (t5 5 [0, 1, 2, 36] (ih (l.getD k b81) (bD7 (by omega)))) [(16, bA (v7 p.vars p.arrays d (l.getD k b81)))] (iX k k l.length []) (iK (by have hp := hp; omega) b91) fun G => b0 (rcB G (fun h1 => ?_) fun h1 => ?_))))))))
   · refine wp_skip (r7 (b0 (K7 G i7 [(8, iA ((k : Int) + 1))] [wO ((k : Int) + 1)] (o1 (by omega)) fun G => b0 ?_))); exact rxn G (k + 1) (⟨by omega, aP2 hp.2 (by omega) (by assumption)⟩) (by have hp := hp; omega) (rg 4)
   · refine wp_seq (l8 G i7 [(4, iA k)] fun G => b0 (wp_ret (B7 (m8 (m8 (B7 (m8 ?_))))))); exact P7 ((k : Int)) G (rg 4) (bt2 (by omega) hp.2 (by assumption))
theorem ba0 (p : f7) (d : Nat) (l : List d7) (ih : ∀ (e : d7), e ∈ l → m7.ok Tryz.prog (bq8 p d e)) : m7.ok Tryz.prog (N1 196 [.ref 3, .bm 143 [pA 0]] (pS p ++ [.dat (.exprs l)]) (bA (l.any (v7 p.vars p.arrays d)))) := by
 have hfind := bO7 p d l ih; refine H8 9 Tryz.func196 [dI p.vars, dI p.arrays, dT p.body, dE l] [(0, .ref 3), (1, .bm 143 [pA 0])] fun G => ?_; refine wp_seq (l8 G i7 [(4, bA false)] fun G => b0 (wp_seq (l8 G (t5 2 (rg 4) hfind) [(4, bA (decide (av7 (v7 p.vars p.arrays d) l ≥ 0)))] fun G => b0 (wp_ret ?_)))); exact H6 (decide (av7 (v7 p.vars p.arrays d) l ≥ 0)) G (rg 4) ((bt3 _ _).symm)
theorem ap8 (p : f7) (d : Nat) (e : d7) (ih : ∀ (x : d7), x ∈ e.kids → m7.ok Tryz.prog (bq8 p d x)) (he : okS p.vars.length p.arrays.length (d + 1) e) : m7.ok Tryz.prog (bq8 p (d + 1) e) := by
  have hcon := ba0 p d e.kids ih; refine H8 24 Tryz.func143 [dI p.vars, dI p.arrays, dT p.body, dE e.kids] [(0, pA 0), (1, eA e 3)] fun G => ?_; have hl := a90 p d; refine wp_seq (m5 G i7 [0, 1, 2, 3, 4, 12] [dI p.vars, dI p.arrays, dT p.body, dE e.kids, .box (pL 0), .box (eL e 3)] [(2, .ptr 4 0), (3, .ptr 5 0), (4, bA false)] fun G => b0 (wp_seq ?_)); cases h0 : (e.kind == 3)
  · have q0 := ne_of_beq_false h0; refine aX4 G (B8 ⟨[(17, _, (rg 4))], [(e.kind == 3, false), (false, false)], us [(4, 10, 0), (1011, 1011, 0), (13, 17, 1), (1018, 1018, 1)]⟩ (b9 hcon d8) ⟨(by assumption), (by kernel_rfl), b91⟩) [0, 1, 3, 7, 15, 15, 47, 111, 239, 511, 1023, 2047, 4095, 8191, 16383, 8191, 40959, 131071, 262143, 524287] (rg 4) [dI p.vars, dI p.arrays, dT p.body, dE e.kids] [(4, bA (e.kids.any (v7 p.vars p.arrays d)))] fun G => b0 (wp_ret ?_); exact H6 (e.kids.any (v7 p.vars p.arrays d)) G (rg 4) (bS3 (by assumption))
  ·
   have q0 := eq_of_beq h0; cases h1 : (i5 (n5 p.vars p.arrays d (e.kids.getD (0 : Nat) b81)) && decide (n5 p.vars p.arrays d (e.kids.getD (0 : Nat) b81) % (2 : Int) = 1))
   · have q1 : ((i5 (n5 p.vars p.arrays d (e.kids.getD 0 b81))) = false) ∨ (¬ (n5 p.vars p.arrays d (e.kids.getD 0 b81) % 2 = 1)) := Or.imp (fun hq => (hq)) (fun hq => of_decide_eq_false hq) (cb4.1 h1); refine R5 G (B8 ⟨[(9, _, [0, 1, 2, 70]), (10, _, []), (17, _, (rg 4))], [(e.kind == 3, true), (i5 (n5 p.vars p.arrays d (e.kids.getD (0 : Nat) b81)) && decide (n5 p.vars p.arrays d (e.kids.getD (0 : Nat) b81) % (2 : Int) = 1), false)], us [(4, 10, 0), (1011, 1011, 0), (13, 17, 1), (1018, 1018, 1)]⟩ (b9 (hl (e.kids.getD 0 b81) (aY1 he (an0 he (by assumption)))) (b9 (L5 (n5 p.vars p.arrays d (e.kids.getD 0 b81))) (b9 hcon d8))) ⟨(by assumption), (by assumption), b91⟩) [0, 1, 3, 7, 15, 15, 47, 111, 239, 511, 1023, 2047, 4095, 8191, 16383, 8191, 40959, 131071, 262143, 524287] (rg 4) [dI p.vars, dI p.arrays, dT p.body, dE e.kids] [(4, bA (e.kids.any (v7 p.vars p.arrays d)))] (iX 0 0 e.kids.length []) (iK (by have := an0 he (by assumption); omega) b91) fun G => b0 (wp_ret ?_); exact H6 (e.kids.any (v7 p.vars p.arrays d)) G (rg 4) (bJ1 (by assumption))
   · have q1 : ((i5 (n5 p.vars p.arrays d (e.kids.getD 0 b81))) = true) ∧ (n5 p.vars p.arrays d (e.kids.getD 0 b81) % 2 = 1) := And.imp (fun hq => (hq)) (fun hq => of_decide_eq_true hq) (cb6.1 h1); refine R5 G (B8 ⟨[(9, _, [0, 1, 2, 70]), (10, _, [])], [(e.kind == 3, true), (i5 (n5 p.vars p.arrays d (e.kids.getD (0 : Nat) b81)) && decide (n5 p.vars p.arrays d (e.kids.getD (0 : Nat) b81) % (2 : Int) = 1), true)], us [(4, 10, 0), (1011, 1011, 0), (13, 17, 1), (1018, 1018, 1)]⟩ (b9 (hl (e.kids.getD 0 b81) (aY1 he (an0 he (by assumption)))) (b9 (L5 (n5 p.vars p.arrays d (e.kids.getD 0 b81))) d8)) ⟨(by assumption), (by assumption), b91⟩) [0, 1, 3, 7, 15, 15, 47, 111, 239, 511, 1023, 2047, 4095, 8191, 16383, 8191, 40959, 131071, 262143, 524287] (rg 4) [dI p.vars, dI p.arrays, dT p.body, dE e.kids] [(4, bA true)] (iX 0 0 e.kids.length []) (iK (by have := an0 he (by assumption); omega) b91) fun G => b0 (wp_ret ?_); exact H6 true G (rg 4) (by4 (by assumption) (by assumption))
theorem aQ2 (p : f7) : ∀ (d : Nat) (e : d7), okS p.vars.length p.arrays.length d e → m7.ok Tryz.prog (bq8 p d e) := by
 intro d
 induction d with
 | zero =>
  intro e h
  have h0 : e.kind = 0 ∧ e.kids = [] := h.resolve_right (by simp [m6])
  have := ap8 p 0 e (fun x hx => by rw [h0.2] at hx; cases hx) (.inl h0)
  have e1 : v7 p.vars p.arrays 1 e = v7 p.vars p.arrays 0 e := by rw [v7, v7, h0.2]; simp [h0.1]
  unfold bq8 at this ⊢
  rw [cc3, e1] at this
  exact this
 | succ d ih => intro e h; exact ap8 p d e (fun x hx => ih x (bL2 h hx)) h
theorem ah4 (p : f7) (e : d7) (he : okS p.vars.length p.arrays.length 5 e) : m7.ok Tryz.prog (N1 143 [pA 0, eA e 3] (pS p ++ eS e) (bA (v7 p.vars p.arrays 5 e))) := aQ2 p 5 e he
section
variable {p : f7} {s : b5}
theorem il3 (k : s.kind = 3) (h : (i5 (l5 p s.value) && decide (l5 p s.value % 2 = 1)) = true) : aa1 p s = 3 := by rw [aa1, if_pos ⟨k, (show aD0 _ = true from h)⟩]
theorem ili (k : s.kind = 2) (h : (i5 (l5 p s.index) && decide (l5 p s.index % 2 = 1)) = true) : aa1 p s = 4 := by
 rw [aa1, if_neg (by omega), if_pos (.inl ⟨k, (show aD0 _ = true from h)⟩)]
theorem ilv (h3 : ¬ s.kind = 3 ∨ (i5 (l5 p s.value) && decide (l5 p s.value % 2 = 1)) = false) (h : v7 p.vars p.arrays 5 s.value = true) : aa1 p s = 4 := by
 rw [aa1, if_neg (by rintro ⟨a, b⟩; exact h3.elim (fun h => h a) (fun h => Bool.false_ne_true (h.symm.trans b))), if_pos (.inr h)]
theorem il0 (h3 : ¬ s.kind = 3 ∨ (i5 (l5 p s.value) && decide (l5 p s.value % 2 = 1)) = false) (h2 : ¬ s.kind = 2 ∨ (i5 (l5 p s.index) && decide (l5 p s.index % 2 = 1)) = false) (h : v7 p.vars p.arrays 5 s.value = false) : aa1 p s = 0 := by
 rw [aa1, if_neg (by rintro ⟨a, b⟩; exact h3.elim (fun h => h a) (fun h => Bool.false_ne_true (h.symm.trans b))), if_neg]
 rintro (⟨a, b⟩ | b)
 ·rcases h2 with h | h
  ·exact h a
  ·exact Bool.false_ne_true (h.symm.trans b)
 ·rw [h] at b; cases b
end
abbrev aG9 (p : f7) (s : b5) (r0 : List It) : List It := dI p.vars :: dI p.arrays :: dT p.body :: dE s.index.kids :: dE s.value.kids :: dT s.body :: dT s.els :: r0
theorem bW3 (p : f7) (s : b5) (cx : Int) (h : D5 p.vars.length p.arrays.length s = true) (hv : okS p.vars.length p.arrays.length 5 s.value) : m7.ok Tryz.prog (N1 68 [pA 0, sA s 3, iA cx] (pS p ++ sS s) (iA (aa1 p s))) := by
  refine H8 35 Tryz.func68 (aG9 p s []) [(0, pA 0), (1, sA s 3), (2, iA cx)] fun G => ?_; refine wp_seq (m5 G i7 [0, 1, 2, 3, 4, 5, 6, 7, 15] (aG9 p s [.box (pL 0), .box (sL s 3)]) [(3, .ptr 7 0), (4, .ptr 8 0), (6, iA 0)] fun G => b0 (wp_seq (wp_block (wp_seq ?_)))); cases h0 : (s.kind == 3)
  ·
   have q0 := ne_of_beq_false h0; refine l8 G (X3 (fc h0 fz) (us [(4, 8, 0), (1009, 1009, 0)])) [(7, bA false)] fun G => b0 (rF G false (by kernel_rfl) (wp_seq ?_)); cases h1 : (s.kind == 2)
   ·
    have q1 := ne_of_beq_false h1; refine m5 G (B8 ⟨[(14, _, [0, 1, 2, 4])], [(s.kind == 2, false), (false, false)], us [(4, 8, 0), (1009, 1009, 0), (11, 14, 1), (1015, 1015, 1)]⟩ (b9 (ah4 p s.value (by assumption)) d8) ⟨(by assumption), (by kernel_rfl), b91⟩) (rg 7) (aG9 p s []) [(6, iA 0), (18, bA (v7 p.vars p.arrays 5 s.value))] fun G => b0 (rcB G (fun h2 => ?_) fun h2 => ?_)
    · refine wp_skip (r7 (b0 (wp_seq (l8 G i7 [] fun G => b0 (wp_ret ?_))))); exact P7 0 G (rg 7) (il0 (by exact .inl (by omega)) (by exact .inl (by omega)) (by with_reducible assumption))
    · refine wp_seq (l8 G i7 [(6, iA 4)] fun G => b0 (wp_ret (B7 (m8 ?_)))); exact P7 4 G (rg 7) (ilv (by exact .inl (by omega)) (by with_reducible assumption))
   ·
    have q1 := eq_of_beq h1; cases h3 : (i5 (l5 p s.index) && decide (l5 p s.index % (2 : Int) = 1))
    ·
     have q3 : ((i5 (l5 p s.index)) = false) ∨ (¬ (l5 p s.index % 2 = 1)) := Or.imp (fun hq => (hq)) (fun hq => of_decide_eq_false hq) (cb4.1 h3); refine m5 G (B8 ⟨[(7, _, (rg 4)), (8, _, []), (14, _, [0, 1, 2, 4])], [(s.kind == 2, true), (i5 (l5 p s.index) && decide (l5 p s.index % (2 : Int) = 1), false)], us [(4, 8, 0), (1009, 1009, 0), (11, 14, 1), (1015, 1015, 1)]⟩ (b9 (Y3 p s.index (ae3 h (by assumption))) (b9 (L5 (l5 p s.index)) (b9 (ah4 p s.value (by assumption)) d8))) ⟨(by assumption), (by assumption), b91⟩) (rg 7) (aG9 p s []) [(6, iA 0), (18, bA (v7 p.vars p.arrays 5 s.value))] fun G => b0 (rcB G (fun h4 => ?_) fun h4 => ?_)
     · refine wp_skip (r7 (b0 (wp_seq (l8 G i7 [] fun G => b0 (wp_ret ?_))))); exact P7 0 G (rg 7) (il0 (by exact .inl (by omega)) (by exact .inr (by with_reducible assumption)) (by with_reducible assumption))
     · refine wp_seq (l8 G i7 [(6, iA 4)] fun G => b0 (wp_ret (B7 (m8 ?_)))); exact P7 4 G (rg 7) (ilv (by exact .inl (by omega)) (by with_reducible assumption))
    · have q3 : ((i5 (l5 p s.index)) = true) ∧ (l5 p s.index % 2 = 1) := And.imp (fun hq => (hq)) (fun hq => of_decide_eq_true hq) (cb6.1 h3); refine m5 G (B8 ⟨[(7, _, (rg 4)), (8, _, [])], [(s.kind == 2, true), (i5 (l5 p s.index) && decide (l5 p s.index % (2 : Int) = 1), true)], us [(4, 8, 0), (1009, 1009, 0), (11, 14, 1), (1015, 1015, 1)]⟩ (b9 (Y3 p s.index (ae3 h (by assumption))) (b9 (L5 (l5 p s.index)) d8)) ⟨(by assumption), (by assumption), b91⟩) (rg 7) (aG9 p s []) [(6, iA 0), (18, bA true)] fun G => b0 (rT G true (by kernel_rfl) (wp_seq (l8 G i7 [(6, iA 4)] fun G => b0 (wp_ret (B7 (m8 ?_)))))); exact P7 4 G (rg 7) (ili (by with_reducible assumption) (by with_reducible assumption))
  ·
   have q0 := eq_of_beq h0; refine K8 G (B8 ⟨[(7, _, [0, 1, 2, 4]), (8, _, [])], [(s.kind == 3, true)], us [(4, 8, 0), (1009, 1009, 0)]⟩ (b9 (Y3 p s.value (v9 h (by omega))) (b9 (L5 (l5 p s.value)) d8)) ⟨(by assumption), b91⟩) [(3, .ptr 7 0), (4, .ptr 8 0), (6, iA 0), (7, bA (i5 (l5 p s.value) && decide (l5 p s.value % 2 = 1)))] fun G => b0 ?_; cases h5 : (i5 (l5 p s.value) && decide (l5 p s.value % (2 : Int) = 1))
   ·
    have q5 : ((i5 (l5 p s.value)) = false) ∨ (¬ (l5 p s.value % 2 = 1)) := Or.imp (fun hq => (hq)) (fun hq => of_decide_eq_false hq) (cb4.1 h5); refine rF G _ h5 (wp_seq ?_); cases h6 : (s.kind == 2)
    ·
     have q6 := ne_of_beq_false h6; refine m5 G (B8 ⟨[(14, _, [0, 1, 2, 4])], [(s.kind == 2, false), (false, false)], us [(4, 8, 0), (1009, 1009, 0), (11, 14, 1), (1015, 1015, 1)]⟩ (b9 (ah4 p s.value (by assumption)) d8) ⟨(by assumption), (by kernel_rfl), b91⟩) (rg 7) (aG9 p s []) [(6, iA 0), (18, bA (v7 p.vars p.arrays 5 s.value))] fun G => b0 (rcB G (fun h7 => ?_) fun h7 => ?_)
     · refine wp_skip (r7 (b0 (wp_seq (l8 G i7 [] fun G => b0 (wp_ret ?_))))); exact P7 0 G (rg 7) (il0 (by exact .inr (by with_reducible assumption)) (by exact .inl (by omega)) (by with_reducible assumption))
     · refine wp_seq (l8 G i7 [(6, iA 4)] fun G => b0 (wp_ret (B7 (m8 ?_)))); exact P7 4 G (rg 7) (ilv (by exact .inr (by with_reducible assumption)) (by with_reducible assumption))
    · have q6 := eq_of_beq h6; exact False.elim (by omega)
   · have q5 : ((i5 (l5 p s.value)) = true) ∧ (l5 p s.value % 2 = 1) := And.imp (fun hq => (hq)) (fun hq => of_decide_eq_true hq) (cb6.1 h5); refine rT G _ h5 (wp_seq (m5 G i7 (rg 7) (aG9 p s []) [(6, iA 3)] fun G => b0 (wp_ret (B7 (m8 ?_))))); exact P7 3 G (rg 7) (il3 (by with_reducible assumption) (by with_reducible assumption))
end Go.Proofs.YthikdkjjdeehoaaGreat
