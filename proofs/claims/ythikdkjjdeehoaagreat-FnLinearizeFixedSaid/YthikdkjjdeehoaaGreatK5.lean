/-
  Texts of this claim, part 5: what the functions on the way do, and plain laws. Conditions: as each statement says.
-/
import Derived.Test.YthikdkjjdeehoaaGreatK4
set_option maxRecDepth 100000
set_option maxHeartbeats 16000000
open Bool renaming and_eq_false_iff → ca4, and_eq_true → b86, and_eq_true_iff → ca6, not_eq_false' → b97, not_eq_true' → b95
open Inhabited renaming default → b85
open Int renaming mul_le_mul_of_nonneg_right → cc5
open List renaming all_eq_true → b93, eq_nil_of_length_eq_zero → ca0, foldl → cb6, getElem_mem → cb0, length_append → b88, length_cons → b87, length_nil → b89, length_replicate → cb1, mem_append → ca2, mem_cons → cb7, mem_cons_of_mem → ca8, mem_cons_self → ca1, mem_singleton → ca5, range → cb2, replicate → cb3, take → b96, take_of_length_le → ca3
open Nat renaming le_refl → b99, le_trans → ca7, mul_le_mul_right → cc2, zero_add → cc3, zero_le → cc1
open True renaming intro → b94

namespace Go.Proofs.YthikdkjjdeehoaaGreat
set_option linter.unusedVariables false
set_option linter.unusedSimpArgs false
open Go Go.RowKit
theorem bB7 (ars : List Int) (pc : Int) : ∀ (d : Nat), d ≤ 5 → ∀ (e : b5) (vs : List Int) (bd : List b6), f5 vs.length ars.length d e = true → vs.length + (1 + v7 e) ≤ 100000 → i5 bd + 40 * (1 + v7 e) ≤ 700000 → k6.ok Tryz.prog (ieC ars pc vs bd e)
 | 0, _, _, _, _, h, _, _ => by simp [f5] at h
 | d + 1, hd, e, vs, bd, h, r1, r2 => bv6 e ars pc d hd (fun u _ vs bd h r1 r2 => bB7 ars pc d (by omega) u vs bd h r1 r2) vs bd h r1 r2
theorem bE5 (ars : List Int) (pc : Int) (e : b5) (vs : List Int) (bd : List b6) (h : f5 vs.length ars.length 5 e = true) (r1 : vs.length + (1 + v7 e) ≤ 100000) (r2 : i5 bd + 40 * (1 + v7 e) ≤ 700000) : k6.ok Tryz.prog (ieC ars pc vs bd e) := bB7 ars pc 5 (b99 _) e vs bd h r1 r2
abbrev isC (ars : List Int) (m pc : Int) (vs : List Int) (bd : List b6) (t : b6) : k6 := ⟨163, [.ptr 0 0, sA t 5, iA m, iA pc, .ptr 3 0], [.box [.ref 1, .ref 2, nlA], qI vs, dI ars, .box [.ref 4], qT bd] ++ sS t, [.box [.ref 9, .ref 2, nlA], .dead, dI ars, .box [.ref 10], .dead] ++ sS t ++ [qI (r7 ars t m pc (vs, bd)).1, qT (r7 ars t m pc (vs, bd)).2], .tup []⟩
abbrev ibC (ars : List Int) (m pc : Int) (vs : List Int) (ss : List b6) : k6 := ⟨82, [.ptr 0 0, .ref 3, iA m, iA pc], [.box [.ref 1, .ref 2, nlA], qI vs, dI ars, dT ss], [.box [.ref 4, .ref 2, nlA], .dead, dI ars, dT ss, qI (i8 ars ss m pc (vs, [])).1, dT (i8 ars ss m pc (vs, [])).2], .ref 5⟩
section
variable {ars vs : List Int} {bd : List b6} {m pc : Int} {t : b6} {nv dd : Nat}
theorem b70 (hh : t7 nv ars.length t = true) (h4 : ¬ t.kind = 4) (hv : nv ≤ vs.length) (r1 : vs.length + 4 * (1 + D7 t) ≤ 90000) (r2 : i5 bd + 130 * (1 + D7 t) ≤ 600000) :
  f5 vs.length ars.length 5 t.value = true ∧ vs.length + (1 + v7 t.value) ≤ 100000 ∧ i5 bd + 40 * (1 + v7 t.value) ≤ 700000 ∧ nv ≤ (b8 ars pc t.value (vs, bd)).1.1.length ∧ (b8 ars pc t.value (vs, bd)).1.1.length ≤ 100000 ∧ (b8 ars pc t.value (vs, bd)).1.2.length + 10 ≤ 700000 ∧ f5 (b8 ars pc t.value (vs, bd)).1.1.length ars.length 5 (b8 ars pc t.value (vs, bd)).2 = true := by
 have hsz : D7 t = v7 t.index + v7 t.value + i5 t.body + i5 t.els := by cases t; rfl
 have hsh := x4 (na := ars.length) hv 5 _ (n5 hh h4)
 obtain ⟨g, g2, -⟩ := Y7 ars pc ars.length 5 t.value (vs, bd) hsh
 have a : vs.length ≤ (b8 ars pc t.value (vs, bd)).1.1.length := g.lo
 have b : (b8 ars pc t.value (vs, bd)).1.1.length ≤ vs.length + (1 + v7 t.value) := g.hi
 have c : i5 (b8 ars pc t.value (vs, bd)).1.2 ≤ i5 bd + 40 * (1 + v7 t.value) := g.st
 have h5 := C3 (b8 ars pc t.value (vs, bd)).1.2
 exact ⟨hsh, by omega, by omega, by omega, by omega, by omega, g2⟩
theorem b10 (hh : t7 nv ars.length t = true) (h2 : t.kind = 2) {n : Nat} (hn : nv ≤ n) : f5 n ars.length 5 t.index = true := x4 hn 5 _ (ad6 hh h2).2.2
theorem aQ4 (hh : t7 nv ars.length t = true) (h3 : ¬ t.kind = 3) (h4 : ¬ t.kind = 4) (h5 : ¬ t.kind = 5) (h1 : ¬ t.kind = 1) : t.kind = 2 := by
 by_cases h2 : t.kind = 2
 ·exact h2
 ·rw [an0 ⟨h1, h2, h3, h4, h5⟩] at hh; cases hh
theorem b12 (h5 : t.kind = 5) : r7 ars t m pc (vs, bd) = ((b8 ars pc t.value (vs, bd)).1.1, (b8 ars pc t.value (vs, bd)).1.2 ++ [⟨5, t.target, ⟨0, 0, []⟩, z7 (b8 ars pc t.value (vs, bd)).2, 0, [], []⟩]) := by
 rw [show z7 (b8 ars pc t.value (vs, bd)).2 = (b8 ars pc t.value (vs, bd)).2 from b5.eta _]
 exact ln5 h5
theorem b15 (h1 : t.kind = 1) : r7 ars t m pc (vs, bd) = ((b8 ars pc t.value (vs, bd)).1.1, (b8 ars pc t.value (vs, bd)).1.2 ++ [J5 t.target (z7 (s4 m (z7 (b8 ars pc t.value (vs, bd)).2) ⟨2, t.target, []⟩))]) := by
 simp only [show ∀ e, z7 e = e from b5.eta]
 exact ln1 h1
theorem bP4 (h2 : t.kind = 2) (h : (!(d8 (b9 (b8 ars pc t.value (vs, bd)).1.1 ars 5 (z7 t.index)) && decide (b9 (b8 ars pc t.value (vs, bd)).1.1 ars 5 (z7 t.index) % 2 = 1))) = true) : r7 ars t m pc (vs, bd) = ((b8 ars pc t.value (vs, bd)).1.1, (b8 ars pc t.value (vs, bd)).1.2 ++ [⟨2, t.target, z7 t.index, z7 (s4 m (z7 (b8 ars pc t.value (vs, bd)).2) ⟨3, t.target, [z7 t.index]⟩), 0, [], []⟩]) := by
 simp only [show ∀ e, z7 e = e from b5.eta] at h ⊢
 exact bo6 h2 (by rw [b95] at h; exact h)
theorem bP3 {j : Nat} (hj : j = 4) (h2 : t.kind = 2) (h : (!(d8 (b9 (b8 ars pc t.value (vs, bd)).1.1 ars 5 (z7 t.index)) && decide (b9 (b8 ars pc t.value (vs, bd)).1.1 ars 5 (z7 t.index) % 2 = 1))) = false) : r7 ars t m pc (vs, bd) = ((b8 ars pc t.value (vs, bd)).1.1 ++ [i6 (b9 (b8 ars pc t.value (vs, bd)).1.1 ars 5 (z7 (b8 ars pc t.value (vs, bd)).2)) pc], (b8 ars pc t.value (vs, bd)).1.2 ++ [J5 ((b8 ars pc t.value (vs, bd)).1.1.length : Int) (z7 (b8 ars pc t.value (vs, bd)).2)] ++ U9 ((b8 ars pc t.value (vs, bd)).1.1.length : Int) t.target (z7 t.index) m j) := by
 subst hj
 simp only [show ∀ e, z7 e = e from b5.eta] at h ⊢
 exact bz3 h2 (by rw [b97] at h; exact h)
theorem b11 (h5 : t.kind = 5) : (r7 ars t m pc (vs, bd)).1 = (b8 ars pc t.value (vs, bd)).1.1 := by rw [b12 h5]
theorem b14 (h1 : t.kind = 1) : (r7 ars t m pc (vs, bd)).1 = (b8 ars pc t.value (vs, bd)).1.1 := by rw [b15 h1]
theorem b13 (h4 : t.kind = 4) : (r7 ars t m pc (vs, bd)).1 = (i8 ars t.body m pc (vs, [])).1 := by rw [ln4 h4]
theorem bT7 (h2 : t.kind = 2) (h : (!(d8 (b9 (b8 ars pc t.value (vs, bd)).1.1 ars 5 (z7 t.index)) && decide (b9 (b8 ars pc t.value (vs, bd)).1.1 ars 5 (z7 t.index) % 2 = 1))) = true) : (r7 ars t m pc (vs, bd)).1 = (b8 ars pc t.value (vs, bd)).1.1 := by rw [bP4 h2 h]
theorem bT6 (hh : t7 nv ars.length t = true) (h2 : t.kind = 2) {n : Nat} (hn : nv ≤ n) : f5 n ars.length 5 (z7 t.index) = true := by rw [show z7 t.index = t.index from b5.eta _]; exact b10 hh h2 hn
theorem b09 (hh : t7 nv ars.length t = true) (h1 : ¬ t.kind = 1) (h2 : ¬ t.kind = 2) (h3 : ¬ t.kind = 3) (h4 : ¬ t.kind = 4) (h5 : ¬ t.kind = 5) : False := h2 (aQ4 hh h3 h4 h5 h1)
theorem bp0 {Y : List Int} {u l : Int} (hbb : t.body.all (f6 nv ars.length dd) = true) (h1 : nv ≤ Y.length) (h2 : Y.length + 4 * i5 t.body + 4 * i5 t.els ≤ 90000) (h3 : 130 * i5 t.body ≤ 600000) : nv ≤ (i8 ars t.body u l (Y, [])).1.length ∧ (i8 ars t.body u l (Y, [])).1.length + 4 * i5 t.els ≤ 90000 ∧ (i8 ars t.body u l (Y, [])).2.length ≤ 600000 := by
 have g := ax2 ars t.body u l (Y, []) hbb h1
 have a := g.lo; have b := g.hi; have c := g.st
 have d := C3 (i8 ars t.body u l (Y, [])).2
 simp only [i5] at a b c
 omega
theorem b69 {Y : List Int} {u l : Int} (hbe : t.els.all (f6 nv ars.length dd) = true) (h1 : nv ≤ Y.length) (h3 : 130 * i5 t.els ≤ 600000) : (i8 ars t.els u l (Y, [])).2.length ≤ 600000 := by
 have g := ax2 ars t.els u l (Y, []) hbe h1
 have c := g.st
 have d := C3 (i8 ars t.els u l (Y, [])).2
 simp only [i5] at c
 omega
theorem bP2 {Y : List Int} {u l : Int} {B : List b6} {S1 S2 : b6} (hbb : t.body.all (f6 nv ars.length dd) = true) (h1 : nv ≤ Y.length) (h2 : Y.length + 4 * i5 t.body + 4 * i5 t.els ≤ 90000) (h3 : 130 * i5 t.body ≤ 600000) (h4 : B.length ≤ 700000) : (B ++ [S1] ++ [S2]).length + (i8 ars t.body u l (Y, [])).2.length ≤ 1400000 := by
 have h := (bp0 (u := u) (l := l) hbb h1 h2 h3).2.2
 simp only [b88, b87, b89]
 omega
theorem bP1 {Y : List Int} {u l u' l' : Int} {B : List b6} {S1 S2 : b6} (hbb : t.body.all (f6 nv ars.length dd) = true) (hbe : t.els.all (f6 nv ars.length dd) = true) (h1 : nv ≤ Y.length) (h2 : Y.length + 4 * i5 t.body + 4 * i5 t.els ≤ 90000) (h3 : 130 * i5 t.body ≤ 600000) (h5 : 130 * i5 t.els ≤ 600000) (h4 : B.length ≤ 700000) : (B ++ [S1] ++ [S2] ++ (i8 ars t.body u l (Y, [])).2).length + (i8 ars t.els u' l' ((i8 ars t.body u l (Y, [])).1, [])).2.length ≤ 2000000 := by
 have h := bp0 (u := u) (l := l) hbb h1 h2 h3
 have h' := b69 (u := u') (l := l') hbe h.1 h5
 simp only [b88, b87, b89]
 omega
theorem bz8 {a : Nat} (h : a ≤ 2000000) : a ≤ 9223372036854775807 := by omega
theorem bj7 {a : Nat} (h : a ≤ 2000000) : a * 152 ≤ 140737488355328 := by omega
theorem b08 (k3 : t.kind = 3) (h : (!(d8 (b9 vs ars 5 (z7 t.value)) && decide (b9 vs ars 5 (z7 t.value) % 2 = 1))) = false) : r7 ars t m pc (vs, bd) =
  ((i8 ars t.els (((b8 ars pc t.value (vs, bd)).1.1 ++ [i6 (b9 vs ars 5 (z7 t.value)) pc]).length : Int) (i6 pc (b9 vs ars 5 (z7 t.value))) ((i8 ars t.body ((b8 ars pc t.value (vs, bd)).1.1.length : Int) (i6 pc (b9 vs ars 5 (z7 t.value))) ((b8 ars pc t.value (vs, bd)).1.1 ++ [i6 (b9 vs ars 5 (z7 t.value)) pc] ++ [i6 (b9 vs ars 5 (z7 t.value)) pc], [])).1, [])).1,
   (ifN (b8 ars pc t.value (vs, bd)) m (i6 (b9 vs ars 5 (z7 t.value)) pc)).2 ++ (i8 ars t.body ((b8 ars pc t.value (vs, bd)).1.1.length : Int) (i6 pc (b9 vs ars 5 (z7 t.value))) ((b8 ars pc t.value (vs, bd)).1.1 ++ [i6 (b9 vs ars 5 (z7 t.value)) pc] ++ [i6 (b9 vs ars 5 (z7 t.value)) pc], [])).2 ++
   (i8 ars t.els (((b8 ars pc t.value (vs, bd)).1.1 ++ [i6 (b9 vs ars 5 (z7 t.value)) pc]).length : Int) (i6 pc (b9 vs ars 5 (z7 t.value))) ((i8 ars t.body ((b8 ars pc t.value (vs, bd)).1.1.length : Int) (i6 pc (b9 vs ars 5 (z7 t.value))) ((b8 ars pc t.value (vs, bd)).1.1 ++ [i6 (b9 vs ars 5 (z7 t.value)) pc] ++ [i6 (b9 vs ars 5 (z7 t.value)) pc], [])).1, [])).2) := by
 rw [bT9 k3 h, bZ6 (b9 vs ars 5 (z7 t.value)) pc]
 rw [P2 ars t.body _ _ (ifN (b8 ars pc t.value (vs, bd)) m (lbV ars vs pc t)).1, P2 ars t.els]
theorem b07 (k3 : t.kind = 3) (h : (!(d8 (b9 vs ars 5 (z7 t.value)) && decide (b9 vs ars 5 (z7 t.value) % 2 = 1))) = false) : (r7 ars t m pc (vs, bd)).1 = (i8 ars t.els (((b8 ars pc t.value (vs, bd)).1.1 ++ [i6 (b9 vs ars 5 (z7 t.value)) pc]).length : Int) (i6 pc (b9 vs ars 5 (z7 t.value))) ((i8 ars t.body ((b8 ars pc t.value (vs, bd)).1.1.length : Int) (i6 pc (b9 vs ars 5 (z7 t.value))) ((b8 ars pc t.value (vs, bd)).1.1 ++ [i6 (b9 vs ars 5 (z7 t.value)) pc] ++ [i6 (b9 vs ars 5 (z7 t.value)) pc], [])).1, [])).1 := by rw [b08 k3 h]
end
abbrev L3 (ars : List Int) (t : b6) (pc : Int) (vs : List Int) (bd : List b6) := m8 (b8 ars pc t.value (vs, bd)).snd
abbrev n7 (ars : List Int) (t : b6) (vs : List Int) := b9 vs ars 5 (m8 t.value)
abbrev aR9 (ars : List Int) (t : b6) (m : Int) (pc : Int) (vs : List Int) (bd : List b6) := s4 m (b5.mk 9 0 [b5.mk 2 ((b8 ars pc t.value (vs, bd)).fst.fst.length : Int) [], b5.mk 1 0 []]) (b5.mk 1 0 [])
abbrev av8 (ars : List Int) (t : b6) (pc : Int) (vs : List Int) (bd : List b6) := i8 ars t.body ((b8 ars pc t.value (vs, bd)).fst.fst.length : Int) (i6 pc (n7 ars t vs)) ((b8 ars pc t.value (vs, bd)).fst.fst ++ [i6 (n7 ars t vs) pc] ++ [i6 (n7 ars t vs) pc], [])
abbrev ac1 (ars : List Int) (t : b6) (m : Int) (pc : Int) (vs : List Int) (bd : List b6) := m8 (s4 m (L3 ars t pc vs bd) (b5.mk 1 0 []))
abbrev ag2 (t : b6) (m : Int) (k : Nat) := s4 m (b5.mk 9 0 (N3 (m8 t.index) (k : Int)).kids) (b5.mk 1 0 [])
abbrev V2 (ars : List Int) (t : b6) (m : Int) (pc : Int) (vs : List Int) (bd : List b6) := i8 ars t.body m (i6 pc (n7 ars t vs)) ((b8 ars pc t.value (vs, bd)).fst.fst, [])
abbrev a83 (ars : List Int) (t : b6) (m : Int) (pc : Int) (vs : List Int) (bd : List b6) := s4 m (L3 ars t pc vs bd) (b5.mk 3 t.target [m8 t.index])
abbrev a82 (ars : List Int) (t : b6) (pc : Int) (vs : List Int) (bd : List b6) := b9 (b8 ars pc t.value (vs, bd)).fst.fst ars 5 (L3 ars t pc vs bd)
abbrev av7 (ars : List Int) (t : b6) (m : Int) (pc : Int) (vs : List Int) (bd : List b6) := s4 m (L3 ars t pc vs bd) (b5.mk 2 t.target [])
abbrev ac3 (t : b6) := m8 t.index
abbrev ar7 (ars : List Int) (t : b6) (m : Int) (pc : Int) (vs : List Int) (bd : List b6) := m8 (aR9 ars t m pc vs bd)
abbrev aS1 (ars : List Int) (t : b6) (pc : Int) (vs : List Int) (bd : List b6) := i8 ars t.els (((b8 ars pc t.value (vs, bd)).fst.fst ++ [i6 (n7 ars t vs) pc]).length : Int) (i6 pc (n7 ars t vs)) ((av8 ars t pc vs bd).fst, [])
abbrev I2 (ars : List Int) (t : b6) (m : Int) (pc : Int) (vs : List Int) (bd : List b6) : List It := [.box [.ref 9, .ref 2, nlA], .dead, dI ars, .box [.ref 10], .dead, dE t.index.kids, dE t.value.kids, dT t.body, dT t.els, .row 3 (D.ints (r7 ars t m pc (vs, bd)).fst), .row 106 (D.stmts (r7 ars t m pc (vs, bd)).snd)]
abbrev I1 (ars : List Int) (t : b6) (pc : Int) (vs : List Int) (bd : List b6) : AV := iA ((b8 ars pc t.value (vs, bd)).fst.fst.length : Int)
abbrev aS0 : It := .box [.ref 10, .ref 2, .v (.slice none 0 0)]
abbrev ac2 (ars : List Int) (t : b6) (pc : Int) (vs : List Int) (bd : List b6) : It := .row 3 (D.ints ((b8 ars pc t.value (vs, bd)).fst.fst ++ [i6 (a82 ars t pc vs bd) pc]))
abbrev ar6 (ars : List Int) (t : b6) (pc : Int) (vs : List Int) (bd : List b6) : It := .box [iA (b8 ars pc t.value (vs, bd)).snd.kind, iA (b8 ars pc t.value (vs, bd)).snd.value, .ref 11]
abbrev bf9 (ars : List Int) (t : b6) (m : Int) (pc : Int) (vs : List Int) (bd : List b6) (k : Nat) : It := .row 106 (D.stmts ((b8 ars pc t.value (vs, bd)).fst.snd ++ [J5 ((b8 ars pc t.value (vs, bd)).fst.fst.length : Int) (z7 (b8 ars pc t.value (vs, bd)).snd)] ++ U9 ((b8 ars pc t.value (vs, bd)).fst.fst.length : Int) t.target (z7 t.index) m k))
abbrev aA9 (ars : List Int) (t : b6) (pc : Int) (vs : List Int) (bd : List b6) : AV := iA (((b8 ars pc t.value (vs, bd)).fst.fst ++ [i6 (n7 ars t vs) pc]).length : Int)
abbrev bf8 : It := .box [.ref 9, .ref 2, .v (.slice none 0 0)]
abbrev C2 (t : b6) (r0 : List It) : List It := .dead :: dE t.index.kids :: dE t.value.kids :: dT t.body :: dT t.els :: .box (sL t 5) :: r0
abbrev L2 (m : Int) (pc : Int) (r0 : List (Nat × AV)) : List (Nat × AV) := (0, .ptr 0 0) :: (2, iA m) :: (3, iA pc) :: (4, .ptr 3 0) :: (6, .ptr 9 0) :: r0
abbrev aR6 (ars : List Int) (t : b6) (pc : Int) (vs : List Int) (bd : List b6) (r0 : List It) : List It := bf8 :: .dead :: dI ars :: .box [.ref 10] :: .dead :: dE t.index.kids :: dE t.value.kids :: dT t.body :: dT t.els :: .row 3 (D.ints (b8 ars pc t.value (vs, bd)).fst.fst) :: r0
abbrev M6 (ars : List Int) (r0 : List It) : List It := aS0 :: .dead :: dI ars :: .box [.ref 11] :: r0
abbrev ab8 (m : Int) (r0 : List (Nat × AV)) : List (Nat × AV) := (2, iA m) :: (4, .ptr 3 0) :: (6, .ptr 9 0) :: r0
theorem bv4 (ars : List Int) (nv dd : Nat) (t : b6) (hh : t7 nv ars.length t = true) (hbb : t.body.all (f6 nv ars.length dd) = true) (hbe : t.els.all (f6 nv ars.length dd) = true)
    (hI : ∀ (tt : List b6) (m pc : Int) (vs : List Int), tt.all (f6 nv ars.length dd) = true → nv ≤ vs.length → vs.length + 4 * i5 tt ≤ 90000 → 130 * i5 tt ≤ 600000 → k6.ok Tryz.prog (ibC ars m pc vs tt))
    (m pc : Int) (vs : List Int) (bd : List b6) (hv : nv ≤ vs.length) (r1 : vs.length + 4 * (1 + D7 t) ≤ 90000) (r2 : i5 bd + 130 * (1 + D7 t) ≤ 600000) : k6.ok Tryz.prog (isC ars m pc vs bd t) := by
  refine A2 273 Tryz.func163 [.box [.ref 1, .ref 2, .v (.slice none 0 0)], .row 3 (D.ints vs), dI ars, .box [.ref 4], .row 106 (D.stmts bd), dE t.index.kids, dE t.value.kids, dT t.body, dT t.els] [(0, .ptr 0 0), (1, sA t 5), (2, iA m), (3, iA pc), (4, .ptr 3 0)] fun G => ?_
  have hsz : D7 t = v7 t.index + v7 t.value + i5 t.body + i5 t.els := by cases t; rfl
  have hl := C3 bd; refine wp_seq (k8 G d9 (rg 10) [.box [.ref 1, .ref 2, .v (.slice none 0 0)], .row 3 (D.ints vs), dI ars, .box [.ref 4], .row 106 (D.stmts bd), dE t.index.kids, dE t.value.kids, dT t.body, dT t.els, .box (sL t 5)] (L2 m pc []) fun G => b7 (wp_seq (wp_seq (C9 G d9 (L2 m pc [(20, bA (t.kind == 4))]) fun G => b7 ?_)))); cases h0 : (t.kind == 4)
  ·
   have q0 := ne_of_beq_false h0; have hg := b70 (pc := pc) (bd := bd) hh (by omega) hv r1 r2; refine rF G _ h0 (wp_skip (b7 (wp_seq (bn8 G (s6 6 [1, 2, 6] (k6.lend (aj2 vs ars t.value.kind t.value.value t.value.kids (by rw [b5.eta]; exact hg.1)) [.row 3])) [0, 1, 3, 7, 0, 16, 63, 127] [(10, iA (n7 ars t vs))] fun G => b7 (wp_seq (k8 G (s6 5 [0, 1, 2, 3, 4, 6] (bE5 ars pc t.value vs bd hg.1 hg.2.1 hg.2.2.1)) [0, 1, 2, 3, 4, 5, 6, 7, 8, 9, 50, 51, 52, 58] (M6 ars (C2 t [.row 3 (D.ints (b8 ars pc t.value (vs, bd)).fst.fst), .row 106 (D.stmts (b8 ars pc t.value (vs, bd)).fst.snd), dE (b8 ars pc t.value (vs, bd)).snd.kids, .box [iA (b8 ars pc t.value (vs, bd)).snd.kind, iA (b8 ars pc t.value (vs, bd)).snd.value, .ref 12]])) (L2 m pc [(10, iA (n7 ars t vs)), (11, .ptr 13 0)]) fun G => b7 (wp_seq (l5 G d9 [(52, iA t.kind)] fun G => b7 (wp_block (wp_seq (l5 G d9 [(53, bA (t.kind == 1))] fun G => b7 (P9 G (fun h1 q1 => ?_) fun h1 q1 => ?_))))))))))))
   ·
    refine wp_seq (l5 G d9 [(72, bA (t.kind == 5))] fun G => b7 (P9 G (fun h2 q2 => ?_) fun h2 q2 => ?_))
    ·
     refine wp_seq (l5 G d9 [(86, bA (t.kind == 2))] fun G => b7 (P9 G (fun h3 q3 => ?_) fun h3 q3 => ?_))
     ·
      refine wp_seq (C9 G d9 (L2 m pc [(10, iA (n7 ars t vs)), (11, .ptr 13 0), (172, bA (t.kind == 3))]) fun G => b7 ?_); cases h4 : (t.kind == 3)
      · have q4 := ne_of_beq_false h4; exact False.elim (b09 hh (by omega) (by omega) (by omega) (by omega) (by omega))
      ·
       have q4 := eq_of_beq h4; have hb3 := bJ7 (pc := pc) (bd := bd) hh (by omega) hv r1 r2; refine rT G _ h4 (wp_seq (wp_seq (l5 G (s6 1 [] (A6 (b9 vs ars 5 (m8 t.value)))) [(176, .v (.bool !(d8 (n7 ars t vs) && decide (b9 vs ars 5 (m8 t.value) % 2 = 1))))] fun G => b7 ?_))); cases h5 : (!(d8 (b9 vs ars (5 : Nat) (m8 t.value)) && decide (b9 vs ars (5 : Nat) (m8 t.value) % (2 : Int) = 1)))
       ·
        have q5 : ((d8 (b9 vs ars 5 (m8 t.value))) = true) ∧ (b9 vs ars 5 (m8 t.value) % 2 = 1) := (fun hq => And.imp (fun hq => (hq)) (fun hq => of_decide_eq_true hq) (ca6.1 hq)) (Eq.mp (b97 _) h5); refine rF G _ h5 (wp_skip (b7 (wp_seq (k8 G (s6 4 [0, 10, 2] (aD2 ((b8 ars pc t.value (vs, bd)).fst.fst) ars (i6 (n7 ars t vs) pc) (by omega))) [0, 1, 2, 3, 4, 5, 6, 7, 8, 9, 11, 12, 13, 46] (.box [.ref 13, .ref 2, .v (.slice none 0 0)] :: .dead :: dI ars :: .box [.ref 10] :: (C2 t [.row 106 (D.stmts (b8 ars pc t.value (vs, bd)).fst.snd), dE (b8 ars pc t.value (vs, bd)).snd.kids, ar6 ars t pc vs bd, .row 3 (D.ints ((b8 ars pc t.value (vs, bd)).fst.fst ++ [i6 (n7 ars t vs) pc]))])) (L2 m pc [(10, iA (n7 ars t vs)), (11, .ptr 12 0), (16, I1 ars t pc vs bd)]) fun G => b7 (wp_seq (G2 G (t6 (l8 6 [] (K9 0) (l8 7 [11, 62] (aj1 m ((b8 ars pc t.value (vs, bd)).snd.kind) ((b8 ars pc t.value (vs, bd)).snd.value) 1 0 ((b8 ars pc t.value (vs, bd)).snd.kids) ([])) (l8 8 [70] (V1 (((b8 ars pc t.value (vs, bd)).fst.fst.length : Int)) ((s4 m (L3 ars t pc vs bd) (b5.mk 1 0 [])).kind) ((s4 m (L3 ars t pc vs bd) (b5.mk 1 0 [])).value) ((s4 m (L3 ars t pc vs bd) (b5.mk 1 0 [])).kids)) t5))) fz []) [0, 1, 3, 0, 0, 0, 0, 112, 248, 7, 0, 2047, 4095, 8191, 4095, 20479] [0, 1, 2, 3, 4, 5, 6, 7, 8, 9, 13, 102] (M6 ars (C2 t [.row 3 (D.ints ((b8 ars pc t.value (vs, bd)).fst.fst ++ [i6 (n7 ars t vs) pc])), .row 106 (D.stmts (((b8 ars pc t.value (vs, bd)).fst.snd ++ ([b6.mk 0 0 (b5.mk 0 0 []) (b5.mk 0 0 []) 0 [] []] ++ [])).set (b8 ars pc t.value (vs, bd)).fst.snd.length (b6.mk 1 ((b8 ars pc t.value (vs, bd)).fst.fst.length : Int) (b5.mk 0 0 []) (ac1 ars t m pc vs bd) 0 [] [])))])) (L2 m pc [(10, iA (n7 ars t vs)), (16, I1 ars t pc vs bd)]) (aP ((b8 ars pc t.value (vs, bd)).fst.snd.length + ([b6.mk (0 : Int) (0 : Int) (b5.mk (0 : Int) (0 : Int) []) (b5.mk (0 : Int) (0 : Int) []) (0 : Int) [] []] ++ []).length) 152 (((0 : Int) ≤ ((b8 ars pc t.value (vs, bd)).fst.snd.length : Int)) :: ((((b8 ars pc t.value (vs, bd)).fst.snd.length : Int) < (((b8 ars pc t.value (vs, bd)).fst.snd ++ ([b6.mk (0 : Int) (0 : Int) (b5.mk (0 : Int) (0 : Int) []) (b5.mk (0 : Int) (0 : Int) []) (0 : Int) [] []] ++ [])).length : Int)) :: (((b8 ars pc t.value (vs, bd)).fst.snd.length < ((b8 ars pc t.value (vs, bd)).fst.snd ++ ([b6.mk (0 : Int) (0 : Int) (b5.mk (0 : Int) (0 : Int) []) (b5.mk (0 : Int) (0 : Int) []) (0 : Int) [] []] ++ [])).length) :: [])))) (aK (by simp only [b88, b87, b89, y5]; omega) ⟨(by simp [hh, hbb, hbe, h0, h1, h2, h3, h4, h5]), ⟨(by simp only [b88, b87, b89, y5]; omega), ⟨(by simp [hh, hbb, hbe, h0, h1, h2, h3, h4, h5]), b94⟩⟩⟩) fun G => ?_))))))
        replace G := G.sE 11; replace G := s5.at G (M6 ars (C2 t [.row 3 (D.ints ((b8 ars pc t.value (vs, bd)).fst.fst ++ [i6 (n7 ars t vs) pc])), .row 106 (D.stmts ((b8 ars pc t.value (vs, bd)).fst.snd ++ [b6.mk 1 ((b8 ars pc t.value (vs, bd)).fst.fst.length : Int) (b5.mk 0 0 []) (ac1 ars t m pc vs bd) 0 [] []]))])) (L2 m pc [(10, iA (n7 ars t vs)), (16, I1 ars t pc vs bd)]); refine b7 (wp_seq (k8 G (s6 4 [0, 10, 2] (aD2 ((b8 ars pc t.value (vs, bd)).fst.fst ++ [i6 (n7 ars t vs) pc]) ars (i6 (n7 ars t vs) pc) (by simp only [b88, b87, b89, y5]; omega))) [0, 1, 2, 3, 4, 5, 6, 7, 8, 9, 11, 44] (.box [.ref 11, .ref 2, .v (.slice none 0 0)] :: .dead :: dI ars :: .box [.ref 10] :: (C2 t [.row 106 (D.stmts ((b8 ars pc t.value (vs, bd)).fst.snd ++ [b6.mk 1 ((b8 ars pc t.value (vs, bd)).fst.fst.length : Int) (b5.mk 0 0 []) (ac1 ars t m pc vs bd) 0 [] []])), .row 3 (D.ints ((b8 ars pc t.value (vs, bd)).fst.fst ++ [i6 (n7 ars t vs) pc] ++ [i6 (n7 ars t vs) pc]))])) (L2 m pc [(10, iA (n7 ars t vs)), (16, I1 ars t pc vs bd), (17, aA9 ars t pc vs bd)]) fun G => b7 (wp_seq (G2 G (t6 (l8 6 [] (P5 (((b8 ars pc t.value (vs, bd)).fst.fst.length : Int))) (l8 7 [] (K9 0) (l8 8 [60, 68] (bd6 9 2 (((b8 ars pc t.value (vs, bd)).fst.fst.length : Int)) 1 0 ([]) ([])) (l8 9 [] (K9 0) (l8 10 [76, 84] (aj1 m 9 0 1 0 ([b5.mk 2 ((b8 ars pc t.value (vs, bd)).fst.fst.length : Int) [], b5.mk 1 0 []]) ([])) (l8 11 [92] (V1 ((((b8 ars pc t.value (vs, bd)).fst.fst ++ [i6 (n7 ars t vs) pc]).length : Int)) ((aR9 ars t m pc vs bd).kind) ((aR9 ars t m pc vs bd).value) ((aR9 ars t m pc vs bd).kids)) t5)))))) fz []) [0, 1, 3, 0, 0, 0, 32, 96, 224, 480, 1008, 2040, 7, 0, 16383, 32767, 65535, 32767, 163839] [0, 1, 2, 3, 4, 5, 6, 7, 8, 9, 11, 124] (M6 ars (C2 t [.row 3 (D.ints ((b8 ars pc t.value (vs, bd)).fst.fst ++ [i6 (n7 ars t vs) pc] ++ [i6 (n7 ars t vs) pc])), .row 106 (D.stmts (((b8 ars pc t.value (vs, bd)).fst.snd ++ [b6.mk 1 ((b8 ars pc t.value (vs, bd)).fst.fst.length : Int) (b5.mk 0 0 []) (ac1 ars t m pc vs bd) 0 [] []] ++ ([b6.mk 0 0 (b5.mk 0 0 []) (b5.mk 0 0 []) 0 [] []] ++ [])).set ((b8 ars pc t.value (vs, bd)).fst.snd ++ [b6.mk 1 ((b8 ars pc t.value (vs, bd)).fst.fst.length : Int) (b5.mk 0 0 []) (ac1 ars t m pc vs bd) 0 [] []]).length (b6.mk 1 (((b8 ars pc t.value (vs, bd)).fst.fst ++ [i6 (n7 ars t vs) pc]).length : Int) (b5.mk 0 0 []) (ar7 ars t m pc vs bd) 0 [] [])))])) [(0, .ptr 0 0), (3, iA pc), (4, .ptr 3 0), (6, .ptr 9 0), (10, iA (n7 ars t vs)), (16, I1 ars t pc vs bd), (17, aA9 ars t pc vs bd)] (aP (((b8 ars pc t.value (vs, bd)).fst.snd ++ [b6.mk (1 : Int) ((b8 ars pc t.value (vs, bd)).fst.fst.length : Int) (b5.mk (0 : Int) (0 : Int) []) (m8 (s4 m (b5.mk (b8 ars pc t.value (vs, bd)).snd.kind (b8 ars pc t.value (vs, bd)).snd.value (b8 ars pc t.value (vs, bd)).snd.kids) (b5.mk (1 : Int) (0 : Int) []))) (0 : Int) [] []]).length + ([b6.mk (0 : Int) (0 : Int) (b5.mk (0 : Int) (0 : Int) []) (b5.mk (0 : Int) (0 : Int) []) (0 : Int) [] []] ++ []).length) 152 (((0 : Int) ≤ (((b8 ars pc t.value (vs, bd)).fst.snd ++ [b6.mk (1 : Int) ((b8 ars pc t.value (vs, bd)).fst.fst.length : Int) (b5.mk (0 : Int) (0 : Int) []) (m8 (s4 m (b5.mk (b8 ars pc t.value (vs, bd)).snd.kind (b8 ars pc t.value (vs, bd)).snd.value (b8 ars pc t.value (vs, bd)).snd.kids) (b5.mk (1 : Int) (0 : Int) []))) (0 : Int) [] []]).length : Int)) :: (((((b8 ars pc t.value (vs, bd)).fst.snd ++ [b6.mk (1 : Int) ((b8 ars pc t.value (vs, bd)).fst.fst.length : Int) (b5.mk (0 : Int) (0 : Int) []) (m8 (s4 m (b5.mk (b8 ars pc t.value (vs, bd)).snd.kind (b8 ars pc t.value (vs, bd)).snd.value (b8 ars pc t.value (vs, bd)).snd.kids) (b5.mk (1 : Int) (0 : Int) []))) (0 : Int) [] []]).length : Int) < (((b8 ars pc t.value (vs, bd)).fst.snd ++ [b6.mk (1 : Int) ((b8 ars pc t.value (vs, bd)).fst.fst.length : Int) (b5.mk (0 : Int) (0 : Int) []) (m8 (s4 m (b5.mk (b8 ars pc t.value (vs, bd)).snd.kind (b8 ars pc t.value (vs, bd)).snd.value (b8 ars pc t.value (vs, bd)).snd.kids) (b5.mk (1 : Int) (0 : Int) []))) (0 : Int) [] []] ++ ([b6.mk (0 : Int) (0 : Int) (b5.mk (0 : Int) (0 : Int) []) (b5.mk (0 : Int) (0 : Int) []) (0 : Int) [] []] ++ [])).length : Int)) :: ((((b8 ars pc t.value (vs, bd)).fst.snd ++ [b6.mk (1 : Int) ((b8 ars pc t.value (vs, bd)).fst.fst.length : Int) (b5.mk (0 : Int) (0 : Int) []) (m8 (s4 m (b5.mk (b8 ars pc t.value (vs, bd)).snd.kind (b8 ars pc t.value (vs, bd)).snd.value (b8 ars pc t.value (vs, bd)).snd.kids) (b5.mk (1 : Int) (0 : Int) []))) (0 : Int) [] []]).length < ((b8 ars pc t.value (vs, bd)).fst.snd ++ [b6.mk (1 : Int) ((b8 ars pc t.value (vs, bd)).fst.fst.length : Int) (b5.mk (0 : Int) (0 : Int) []) (m8 (s4 m (b5.mk (b8 ars pc t.value (vs, bd)).snd.kind (b8 ars pc t.value (vs, bd)).snd.value (b8 ars pc t.value (vs, bd)).snd.kids) (b5.mk (1 : Int) (0 : Int) []))) (0 : Int) [] []] ++ ([b6.mk (0 : Int) (0 : Int) (b5.mk (0 : Int) (0 : Int) []) (b5.mk (0 : Int) (0 : Int) []) (0 : Int) [] []] ++ [])).length) :: [])))) (aK (by simp only [b88, b87, b89, y5]; omega) ⟨(by simp only [b88, b87, b89, y5]; omega), ⟨(by simp [hh, hbb, hbe, h0, h1, h2, h3, h4, h5]), ⟨(by simp [hh, hbb, hbe, h0, h1, h2, h3, h4, h5]), b94⟩⟩⟩) fun G => ?_))))
        replace G := G.sE 11; replace G := s5.at G (M6 ars (C2 t [.row 3 (D.ints ((b8 ars pc t.value (vs, bd)).fst.fst ++ [i6 (n7 ars t vs) pc] ++ [i6 (n7 ars t vs) pc])), .row 106 (D.stmts ((b8 ars pc t.value (vs, bd)).fst.snd ++ [b6.mk 1 ((b8 ars pc t.value (vs, bd)).fst.fst.length : Int) (b5.mk 0 0 []) (ac1 ars t m pc vs bd) 0 [] []] ++ [b6.mk 1 (((b8 ars pc t.value (vs, bd)).fst.fst ++ [i6 (n7 ars t vs) pc]).length : Int) (b5.mk 0 0 []) (ar7 ars t m pc vs bd) 0 [] []]))])) [(0, .ptr 0 0), (3, iA pc), (4, .ptr 3 0), (6, .ptr 9 0), (10, iA (n7 ars t vs)), (16, I1 ars t pc vs bd), (17, aA9 ars t pc vs bd)]; refine b7 (wp_seq (G2 G (s6 11 [0, 10, 2, 7] (hI t.body (((b8 ars pc t.value (vs, bd)).fst.fst.length : Int)) (i6 pc (n7 ars t vs)) ((b8 ars pc t.value (vs, bd)).fst.fst ++ [i6 (n7 ars t vs) pc] ++ [i6 (n7 ars t vs) pc]) (by assumption) (by simp only [b88, b87, b89, y5]; omega) (by simp only [b88, b87, b89, y5]; omega) (by omega))) [0, 0, 2, 6, 0, 0, 32, 0, 0, 0, 768, 2032, 4094, 8191, 16383] [0, 1, 2, 3, 4, 5, 6, 7, 8, 9, 100, 108] (M6 ars (C2 t [.row 3 (D.ints (av8 ars t pc vs bd).fst), .row 106 (D.stmts ((b8 ars pc t.value (vs, bd)).fst.snd ++ [b6.mk 1 ((b8 ars pc t.value (vs, bd)).fst.fst.length : Int) (b5.mk 0 0 []) (ac1 ars t m pc vs bd) 0 [] []] ++ [b6.mk 1 (((b8 ars pc t.value (vs, bd)).fst.fst ++ [i6 (n7 ars t vs) pc]).length : Int) (b5.mk 0 0 []) (ar7 ars t m pc vs bd) 0 [] []] ++ (av8 ars t pc vs bd).snd))])) [(0, .ptr 0 0), (3, iA pc), (4, .ptr 3 0), (6, .ptr 9 0), (10, iA (n7 ars t vs)), (17, aA9 ars t pc vs bd)] [((b8 ars pc t.value (vs, bd)).fst.snd ++ [b6.mk (1 : Int) ((b8 ars pc t.value (vs, bd)).fst.fst.length : Int) (b5.mk (0 : Int) (0 : Int) []) (m8 (s4 m (b5.mk (b8 ars pc t.value (vs, bd)).snd.kind (b8 ars pc t.value (vs, bd)).snd.value (b8 ars pc t.value (vs, bd)).snd.kids) (b5.mk (1 : Int) (0 : Int) []))) (0 : Int) [] []] ++ [b6.mk (1 : Int) (((b8 ars pc t.value (vs, bd)).fst.fst ++ [i6 (b9 vs ars (5 : Nat) (m8 t.value)) pc]).length : Int) (b5.mk (0 : Int) (0 : Int) []) (m8 (s4 m (b5.mk (9 : Int) (0 : Int) [b5.mk (2 : Int) ((b8 ars pc t.value (vs, bd)).fst.fst.length : Int) [], b5.mk (1 : Int) (0 : Int) []]) (b5.mk (1 : Int) (0 : Int) []))) (0 : Int) [] []]).length + (i8 ars t.body ((b8 ars pc t.value (vs, bd)).fst.fst.length : Int) (i6 pc (b9 vs ars (5 : Nat) (m8 t.value))) ((b8 ars pc t.value (vs, bd)).fst.fst ++ [i6 (b9 vs ars (5 : Nat) (m8 t.value)) pc] ++ [i6 (b9 vs ars (5 : Nat) (m8 t.value)) pc], [])).snd.length ≤ (9223372036854775807 : Nat), (((b8 ars pc t.value (vs, bd)).fst.snd ++ [b6.mk (1 : Int) ((b8 ars pc t.value (vs, bd)).fst.fst.length : Int) (b5.mk (0 : Int) (0 : Int) []) (m8 (s4 m (b5.mk (b8 ars pc t.value (vs, bd)).snd.kind (b8 ars pc t.value (vs, bd)).snd.value (b8 ars pc t.value (vs, bd)).snd.kids) (b5.mk (1 : Int) (0 : Int) []))) (0 : Int) [] []] ++ [b6.mk (1 : Int) (((b8 ars pc t.value (vs, bd)).fst.fst ++ [i6 (b9 vs ars (5 : Nat) (m8 t.value)) pc]).length : Int) (b5.mk (0 : Int) (0 : Int) []) (m8 (s4 m (b5.mk (9 : Int) (0 : Int) [b5.mk (2 : Int) ((b8 ars pc t.value (vs, bd)).fst.fst.length : Int) [], b5.mk (1 : Int) (0 : Int) []]) (b5.mk (1 : Int) (0 : Int) []))) (0 : Int) [] []]).length + (i8 ars t.body ((b8 ars pc t.value (vs, bd)).fst.fst.length : Int) (i6 pc (b9 vs ars (5 : Nat) (m8 t.value))) ((b8 ars pc t.value (vs, bd)).fst.fst ++ [i6 (b9 vs ars (5 : Nat) (m8 t.value)) pc] ++ [i6 (b9 vs ars (5 : Nat) (m8 t.value)) pc], [])).snd.length) * (152 : Nat) ≤ (140737488355328 : Nat)] ⟨(bz8 (ca7 (bP2 hbb (by simp only [b88, b87, b89]; omega) (by simp only [b88, b87, b89]; omega) (by omega) (by omega)) (by decide))), (bj7 (ca7 (bP2 hbb (by simp only [b88, b87, b89]; omega) (by simp only [b88, b87, b89]; omega) (by omega) (by omega)) (by decide))), b94⟩ fun G => ?_))
        refine b7 (G2 G (s6 11 [0, 10, 2, 8] (hI t.els ((((b8 ars pc t.value (vs, bd)).fst.fst ++ [i6 (n7 ars t vs) pc]).length : Int)) (i6 pc (n7 ars t vs)) ((av8 ars t pc vs bd).fst) (by assumption) ((bp0 hbb (by simp only [b88, b87, b89]; omega) (by simp only [b88, b87, b89]; omega) (by omega)).1) ((bp0 hbb (by simp only [b88, b87, b89]; omega) (by simp only [b88, b87, b89]; omega) (by omega)).2.1) (by omega))) [0, 0, 2, 6, 0, 0, 32, 0, 0, 0, 768, 2032, 4094, 8191, 16383] [0, 1, 2, 3, 4, 5, 6, 7, 8, 100, 108] [bf8, .dead, dI ars, .box [.ref 10], .dead, dE t.index.kids, dE t.value.kids, dT t.body, dT t.els, .row 3 (D.ints (aS1 ars t pc vs bd).fst), .row 106 (D.stmts ((b8 ars pc t.value (vs, bd)).fst.snd ++ [b6.mk 1 ((b8 ars pc t.value (vs, bd)).fst.fst.length : Int) (b5.mk 0 0 []) (ac1 ars t m pc vs bd) 0 [] []] ++ [b6.mk 1 (((b8 ars pc t.value (vs, bd)).fst.fst ++ [i6 (n7 ars t vs) pc]).length : Int) (b5.mk 0 0 []) (ar7 ars t m pc vs bd) 0 [] []] ++ (av8 ars t pc vs bd).snd ++ (aS1 ars t pc vs bd).snd))] [] [((b8 ars pc t.value (vs, bd)).fst.snd ++ [b6.mk (1 : Int) ((b8 ars pc t.value (vs, bd)).fst.fst.length : Int) (b5.mk (0 : Int) (0 : Int) []) (m8 (s4 m (b5.mk (b8 ars pc t.value (vs, bd)).snd.kind (b8 ars pc t.value (vs, bd)).snd.value (b8 ars pc t.value (vs, bd)).snd.kids) (b5.mk (1 : Int) (0 : Int) []))) (0 : Int) [] []] ++ [b6.mk (1 : Int) (((b8 ars pc t.value (vs, bd)).fst.fst ++ [i6 (b9 vs ars (5 : Nat) (m8 t.value)) pc]).length : Int) (b5.mk (0 : Int) (0 : Int) []) (m8 (s4 m (b5.mk (9 : Int) (0 : Int) [b5.mk (2 : Int) ((b8 ars pc t.value (vs, bd)).fst.fst.length : Int) [], b5.mk (1 : Int) (0 : Int) []]) (b5.mk (1 : Int) (0 : Int) []))) (0 : Int) [] []] ++ (i8 ars t.body ((b8 ars pc t.value (vs, bd)).fst.fst.length : Int) (i6 pc (b9 vs ars (5 : Nat) (m8 t.value))) ((b8 ars pc t.value (vs, bd)).fst.fst ++ [i6 (b9 vs ars (5 : Nat) (m8 t.value)) pc] ++ [i6 (b9 vs ars (5 : Nat) (m8 t.value)) pc], [])).snd).length + (i8 ars t.els (((b8 ars pc t.value (vs, bd)).fst.fst ++ [i6 (b9 vs ars (5 : Nat) (m8 t.value)) pc]).length : Int) (i6 pc (b9 vs ars (5 : Nat) (m8 t.value))) ((i8 ars t.body ((b8 ars pc t.value (vs, bd)).fst.fst.length : Int) (i6 pc (b9 vs ars (5 : Nat) (m8 t.value))) ((b8 ars pc t.value (vs, bd)).fst.fst ++ [i6 (b9 vs ars (5 : Nat) (m8 t.value)) pc] ++ [i6 (b9 vs ars (5 : Nat) (m8 t.value)) pc], [])).fst, [])).snd.length ≤ (9223372036854775807 : Nat), (((b8 ars pc t.value (vs, bd)).fst.snd ++ [b6.mk (1 : Int) ((b8 ars pc t.value (vs, bd)).fst.fst.length : Int) (b5.mk (0 : Int) (0 : Int) []) (m8 (s4 m (b5.mk (b8 ars pc t.value (vs, bd)).snd.kind (b8 ars pc t.value (vs, bd)).snd.value (b8 ars pc t.value (vs, bd)).snd.kids) (b5.mk (1 : Int) (0 : Int) []))) (0 : Int) [] []] ++ [b6.mk (1 : Int) (((b8 ars pc t.value (vs, bd)).fst.fst ++ [i6 (b9 vs ars (5 : Nat) (m8 t.value)) pc]).length : Int) (b5.mk (0 : Int) (0 : Int) []) (m8 (s4 m (b5.mk (9 : Int) (0 : Int) [b5.mk (2 : Int) ((b8 ars pc t.value (vs, bd)).fst.fst.length : Int) [], b5.mk (1 : Int) (0 : Int) []]) (b5.mk (1 : Int) (0 : Int) []))) (0 : Int) [] []] ++ (i8 ars t.body ((b8 ars pc t.value (vs, bd)).fst.fst.length : Int) (i6 pc (b9 vs ars (5 : Nat) (m8 t.value))) ((b8 ars pc t.value (vs, bd)).fst.fst ++ [i6 (b9 vs ars (5 : Nat) (m8 t.value)) pc] ++ [i6 (b9 vs ars (5 : Nat) (m8 t.value)) pc], [])).snd).length + (i8 ars t.els (((b8 ars pc t.value (vs, bd)).fst.fst ++ [i6 (b9 vs ars (5 : Nat) (m8 t.value)) pc]).length : Int) (i6 pc (b9 vs ars (5 : Nat) (m8 t.value))) ((i8 ars t.body ((b8 ars pc t.value (vs, bd)).fst.fst.length : Int) (i6 pc (b9 vs ars (5 : Nat) (m8 t.value))) ((b8 ars pc t.value (vs, bd)).fst.fst ++ [i6 (b9 vs ars (5 : Nat) (m8 t.value)) pc] ++ [i6 (b9 vs ars (5 : Nat) (m8 t.value)) pc], [])).fst, [])).snd.length) * (152 : Nat) ≤ (140737488355328 : Nat)] ⟨(bz8 (bP1 hbb hbe (by simp only [b88, b87, b89]; omega) (by simp only [b88, b87, b89]; omega) (by omega) (by omega) (by omega))), (bj7 (bP1 hbb hbe (by simp only [b88, b87, b89]; omega) (by simp only [b88, b87, b89]; omega) (by omega) (by omega) (by omega))), b94⟩ fun G => ?_)
        refine m6 ?_; exact ax1 G (rg 11) (by show _ = mR (rg 11) (I2 ars t m pc vs bd); unfold I2; have e1 : ((r7 ars t m pc (vs, bd)).fst : List Int) = ((i8 ars t.els (((b8 ars pc t.value (vs, bd)).fst.fst ++ [i6 (b9 vs ars 5 (m8 t.value)) pc]).length : Int) (i6 pc (b9 vs ars 5 (m8 t.value))) ((i8 ars t.body ((b8 ars pc t.value (vs, bd)).fst.fst.length : Int) (i6 pc (b9 vs ars 5 (m8 t.value))) ((b8 ars pc t.value (vs, bd)).fst.fst ++ [i6 (b9 vs ars 5 (m8 t.value)) pc] ++ [i6 (b9 vs ars 5 (m8 t.value)) pc], [])).fst, [])).fst) := (b07 (by omega) (by with_reducible assumption)); have e2 : ((r7 ars t m pc (vs, bd)).snd : List b6) = ((b8 ars pc t.value (vs, bd)).fst.snd ++ [b6.mk 1 ((b8 ars pc t.value (vs, bd)).fst.fst.length : Int) (b5.mk 0 0 []) (ac1 ars t m pc vs bd) 0 [] []] ++ [b6.mk 1 (((b8 ars pc t.value (vs, bd)).fst.fst ++ [i6 (n7 ars t vs) pc]).length : Int) (b5.mk 0 0 []) (ar7 ars t m pc vs bd) 0 [] []] ++ (av8 ars t pc vs bd).snd ++ (aS1 ars t pc vs bd).snd) := (congrArg Prod.snd (b08 (by omega) (by with_reducible assumption))); (first | rw [e1, e2] | simp only [e1, e2]) <;> rfl)
       ·
        have q5 : ((d8 (b9 vs ars 5 (m8 t.value))) = false) ∨ (¬ (b9 vs ars 5 (m8 t.value) % 2 = 1)) := (fun hq => Or.imp (fun hq => (hq)) (fun hq => of_decide_eq_false hq) (ca4.1 hq)) (Eq.mp (b95 _) h5); refine rT G _ h5 (wp_seq (k8 G (s6 7 [0, 10, 2, 7] (hI t.body m (i6 pc (n7 ars t vs)) ((b8 ars pc t.value (vs, bd)).fst.fst) (by assumption) (by omega) (by omega) (by omega))) [0, 1, 2, 3, 4, 5, 6, 7, 8, 9, 11, 12, 13, 70, 71] (.box [.ref 13, .ref 2, .v (.slice none 0 0)] :: .dead :: dI ars :: .box [.ref 10] :: (C2 t [.row 106 (D.stmts (b8 ars pc t.value (vs, bd)).fst.snd), dE (b8 ars pc t.value (vs, bd)).snd.kids, ar6 ars t pc vs bd, .row 3 (D.ints (V2 ars t m pc vs bd).fst), dT (V2 ars t m pc vs bd).snd])) (L2 m pc [(10, iA (n7 ars t vs)), (11, .ptr 12 0), (15, .ref 14)]) fun G => b7 (wp_seq (G2 G (s6 12 [0, 13, 2, 8] (hI t.els m (i6 pc (n7 ars t vs)) ((V2 ars t m pc vs bd).fst) (by assumption) ((bp0 hbb (by omega) (by omega) (by omega)).1) ((bp0 hbb (by omega) (by omega) (by omega)).2.1) (by omega))) [0, 1, 3, 0, 0, 0, 0, 64, 0, 0, 0, 1536, 4064, 8184, 7, 0, 65535, 131071, 262143, 131071, 655359] [0, 1, 2, 3, 4, 5, 6, 7, 8, 9, 11, 12, 111, 143] (.box [.ref 12, .ref 2, .v (.slice none 0 0)] :: .dead :: dI ars :: .box [.ref 13] :: (C2 t [dE (b8 ars pc t.value (vs, bd)).snd.kids, .box [iA (b8 ars pc t.value (vs, bd)).snd.kind, iA (b8 ars pc t.value (vs, bd)).snd.value, .ref 10], .row 3 (D.ints (i8 ars t.els m (i6 pc (n7 ars t vs)) ((V2 ars t m pc vs bd).fst, [])).fst), .row 106 (D.stmts (((b8 ars pc t.value (vs, bd)).fst.snd ++ ([b6.mk 0 0 (b5.mk 0 0 []) (b5.mk 0 0 []) 0 [] []] ++ [])).set (b8 ars pc t.value (vs, bd)).fst.snd.length (b6.mk 3 0 (b5.mk 0 0 []) (L3 ars t pc vs bd) 0 (V2 ars t m pc vs bd).snd (i8 ars t.els m (i6 pc (n7 ars t vs)) ((V2 ars t m pc vs bd).fst, [])).snd)))])) (L2 m pc [(10, iA (n7 ars t vs)), (11, .ptr 11 0)]) (aP ((b8 ars pc t.value (vs, bd)).fst.snd.length + ([b6.mk (0 : Int) (0 : Int) (b5.mk (0 : Int) (0 : Int) []) (b5.mk (0 : Int) (0 : Int) []) (0 : Int) [] []] ++ []).length) 152 (((0 : Int) ≤ ((b8 ars pc t.value (vs, bd)).fst.snd.length : Int)) :: ((((b8 ars pc t.value (vs, bd)).fst.snd.length : Int) < (((b8 ars pc t.value (vs, bd)).fst.snd ++ ([b6.mk (0 : Int) (0 : Int) (b5.mk (0 : Int) (0 : Int) []) (b5.mk (0 : Int) (0 : Int) []) (0 : Int) [] []] ++ [])).length : Int)) :: (((b8 ars pc t.value (vs, bd)).fst.snd.length < ((b8 ars pc t.value (vs, bd)).fst.snd ++ ([b6.mk (0 : Int) (0 : Int) (b5.mk (0 : Int) (0 : Int) []) (b5.mk (0 : Int) (0 : Int) []) (0 : Int) [] []] ++ [])).length) :: [])))) (aK (by simp only [b88, b87, b89, y5]; omega) ⟨(by simp [hh, hbb, hbe, h0, h1, h2, h3, h4, h5]), ⟨(by simp only [b88, b87, b89, y5]; omega), ⟨(by simp [hh, hbb, hbe, h0, h1, h2, h3, h4, h5]), b94⟩⟩⟩) fun G => ?_))))
        replace G := G.sE 13; replace G := s5.at G (.box [.ref 12, .ref 2, .v (.slice none 0 0)] :: .dead :: dI ars :: .box [.ref 13] :: (C2 t [dE (b8 ars pc t.value (vs, bd)).snd.kids, .box [iA (b8 ars pc t.value (vs, bd)).snd.kind, iA (b8 ars pc t.value (vs, bd)).snd.value, .ref 10], .row 3 (D.ints (i8 ars t.els m (i6 pc (n7 ars t vs)) ((V2 ars t m pc vs bd).fst, [])).fst), .row 106 (D.stmts ((b8 ars pc t.value (vs, bd)).fst.snd ++ [b6.mk 3 0 (b5.mk 0 0 []) (L3 ars t pc vs bd) 0 (V2 ars t m pc vs bd).snd (i8 ars t.els m (i6 pc (n7 ars t vs)) ((V2 ars t m pc vs bd).fst, [])).snd]))])) (L2 m pc [(10, iA (n7 ars t vs)), (11, .ptr 11 0)]); refine b7 (wp_ret (l7 (A0 ?_))); exact F2 G [0, 1, 2, 3, 4, 5, 6, 7, 8, 12, 13] (by show _ = mR [0, 1, 2, 3, 4, 5, 6, 7, 8, 12, 13] (I2 ars t m pc vs bd); unfold I2; have e1 : ((r7 ars t m pc (vs, bd)).fst : List Int) = ((i8 ars t.els m (i6 pc (b9 vs ars 5 (m8 t.value))) ((i8 ars t.body m (i6 pc (b9 vs ars 5 (m8 t.value))) ((b8 ars pc t.value (vs, bd)).fst.fst, [])).fst, [])).fst) := (bP6 (by omega) (by with_reducible assumption)); have e2 : ((r7 ars t m pc (vs, bd)).snd : List b6) = ((b8 ars pc t.value (vs, bd)).fst.snd ++ [b6.mk 3 0 (b5.mk 0 0 []) (L3 ars t pc vs bd) 0 (V2 ars t m pc vs bd).snd (i8 ars t.els m (i6 pc (n7 ars t vs)) ((V2 ars t m pc vs bd).fst, [])).snd]) := (congrArg Prod.snd (bU0 (by omega) (by with_reducible assumption))); (first | rw [e1, e2] | simp only [e1, e2]) <;> rfl)
     ·
      refine wp_seq (wp_seq (bn8 G (t6 (l8 6 [10, 2, 5] (k6.lend (aj2 ((b8 ars pc t.value (vs, bd)).fst.fst) ars t.index.kind t.index.value t.index.kids (bT6 hh (aQ4 hh (by omega) (by omega) (by omega) (by omega)) hg.2.2.2.1)) [.row 3]) (l8 7 [] (A6 (b9 (b8 ars pc t.value (vs, bd)).fst.fst ars 5 (ac3 t))) t5)) fz []) [0, 1, 3, 7, 0, 16, 63, 127, 255] [(96, .v (.bool !(d8 (b9 (b8 ars pc t.value (vs, bd)).fst.fst ars 5 (ac3 t)) && decide (b9 (b8 ars pc t.value (vs, bd)).fst.fst ars 5 (ac3 t) % 2 = 1))))] fun G => b7 ?_)); cases h6 : (!(d8 (b9 (b8 ars pc t.value (vs, bd)).fst.fst ars (5 : Nat) (m8 t.index)) && decide (b9 (b8 ars pc t.value (vs, bd)).fst.fst ars (5 : Nat) (m8 t.index) % (2 : Int) = 1)))
      ·
       have q6 : ((d8 (b9 (b8 ars pc t.value (vs, bd)).fst.fst ars 5 (m8 t.index))) = true) ∧ (b9 (b8 ars pc t.value (vs, bd)).fst.fst ars 5 (m8 t.index) % 2 = 1) := (fun hq => And.imp (fun hq => (hq)) (fun hq => of_decide_eq_true hq) (ca6.1 hq)) (Eq.mp (b97 _) h6); refine rF G _ h6 (wp_skip (b7 (wp_seq (P1 G (t6 (l8 6 [10, 2, 12] (k6.lend (aj2 ((b8 ars pc t.value (vs, bd)).fst.fst) ars ((b8 ars pc t.value (vs, bd)).snd.kind) ((b8 ars pc t.value (vs, bd)).snd.value) ((b8 ars pc t.value (vs, bd)).snd.kids) (by rw [b5.eta]; exact hg.2.2.2.2.2.2)) [.row 3]) (l8 9 [0, 10, 2] (aD2 ((b8 ars pc t.value (vs, bd)).fst.fst) ars (i6 (a82 ars t pc vs bd) pc) (by omega)) t5)) fz []) [0, 0, 2, 6, 14, 0, 62, 0, 254, 511, 1023] [0, 1, 2, 3, 4, 5, 6, 7, 8, 9, 11, 12, 13, 86] (.box [.ref 13, .ref 2, .v (.slice none 0 0)] :: .dead :: dI ars :: .box [.ref 10] :: (C2 t [.row 106 (D.stmts (b8 ars pc t.value (vs, bd)).fst.snd), dE (b8 ars pc t.value (vs, bd)).snd.kids, ar6 ars t pc vs bd, ac2 ars t pc vs bd])) (ab8 m [(11, .ptr 12 0), (12, I1 ars t pc vs bd)]) fun G => b7 (wp_seq (G2 G (s6 5 [11] (V1 (((b8 ars pc t.value (vs, bd)).fst.fst.length : Int)) ((b8 ars pc t.value (vs, bd)).snd.kind) ((b8 ars pc t.value (vs, bd)).snd.value) ((b8 ars pc t.value (vs, bd)).snd.kids))) [0, 1, 3, 0, 0, 24, 7, 0, 255, 511, 1023, 511, 2559] [0, 1, 2, 3, 4, 5, 6, 7, 8, 9, 13, 78] (M6 ars (C2 t [ac2 ars t pc vs bd, .row 106 (D.stmts (((b8 ars pc t.value (vs, bd)).fst.snd ++ ([b6.mk 0 0 (b5.mk 0 0 []) (b5.mk 0 0 []) 0 [] []] ++ [])).set (b8 ars pc t.value (vs, bd)).fst.snd.length (b6.mk 1 ((b8 ars pc t.value (vs, bd)).fst.fst.length : Int) (b5.mk 0 0 []) (L3 ars t pc vs bd) 0 [] [])))])) (ab8 m [(12, I1 ars t pc vs bd)]) (aP ((b8 ars pc t.value (vs, bd)).fst.snd.length + ([b6.mk (0 : Int) (0 : Int) (b5.mk (0 : Int) (0 : Int) []) (b5.mk (0 : Int) (0 : Int) []) (0 : Int) [] []] ++ []).length) 152 (((0 : Int) ≤ ((b8 ars pc t.value (vs, bd)).fst.snd.length : Int)) :: ((((b8 ars pc t.value (vs, bd)).fst.snd.length : Int) < (((b8 ars pc t.value (vs, bd)).fst.snd ++ ([b6.mk (0 : Int) (0 : Int) (b5.mk (0 : Int) (0 : Int) []) (b5.mk (0 : Int) (0 : Int) []) (0 : Int) [] []] ++ [])).length : Int)) :: (((b8 ars pc t.value (vs, bd)).fst.snd.length < ((b8 ars pc t.value (vs, bd)).fst.snd ++ ([b6.mk (0 : Int) (0 : Int) (b5.mk (0 : Int) (0 : Int) []) (b5.mk (0 : Int) (0 : Int) []) (0 : Int) [] []] ++ [])).length) :: [])))) (aK (by simp only [b88, b87, b89, y5]; omega) ⟨(by simp [hh, hbb, hbe, h0, h1, h2, h3, h6]), ⟨(by simp only [b88, b87, b89, y5]; omega), ⟨(by simp [hh, hbb, hbe, h0, h1, h2, h3, h6]), b94⟩⟩⟩) fun G => ?_))))))
       replace G := G.sE 11; replace G := s5.at G (M6 ars (C2 t [ac2 ars t pc vs bd, .row 106 (D.stmts ((b8 ars pc t.value (vs, bd)).fst.snd ++ [b6.mk 1 ((b8 ars pc t.value (vs, bd)).fst.fst.length : Int) (b5.mk 0 0 []) (L3 ars t pc vs bd) 0 [] []]))])) (ab8 m [(12, I1 ars t pc vs bd)]); refine b7 (wp_seq (C9 G d9 (ab8 m [(12, I1 ars t pc vs bd), (139, iA 0)]) fun G => b7 (wp_block ?_))); replace G := G.as (.box [.ref 10, .ref 2, .v (.slice none 0 0)] :: .dead :: dI ars :: .box [.ref 11] :: (C2 t [.row 3 (D.ints ((b8 ars pc t.value (vs, bd)).fst.fst ++ [i6 (b9 (b8 ars pc t.value (vs, bd)).fst.fst ars 5 (m8 (b8 ars pc t.value (vs, bd)).snd)) pc])), .row 106 (D.stmts ((b8 ars pc t.value (vs, bd)).fst.snd ++ [J5 ((b8 ars pc t.value (vs, bd)).fst.fst.length : Int) (z7 (b8 ars pc t.value (vs, bd)).snd)] ++ U9 ((b8 ars pc t.value (vs, bd)).fst.fst.length : Int) t.target (z7 t.index) m 0))])) (ab8 m [(12, iA ((b8 ars pc t.value (vs, bd)).fst.fst.length : Int)), (139, iA 0)]) (by have e1 : ((b8 ars pc t.value (vs, bd)).fst.snd ++ [J5 ((b8 ars pc t.value (vs, bd)).fst.fst.length : Int) (z7 (b8 ars pc t.value (vs, bd)).snd)] ++ U9 ((b8 ars pc t.value (vs, bd)).fst.fst.length : Int) t.target (z7 t.index) m 0 : List b6) = ((b8 ars pc t.value (vs, bd)).fst.snd ++ [b6.mk 1 ((b8 ars pc t.value (vs, bd)).fst.fst.length : Int) (b5.mk 0 0 []) (m8 (b8 ars pc t.value (vs, bd)).snd) 0 [] []]) := (by simp only [U9, List.append_nil]; done); (first | rw [e1] | simp only [e1]) <;> rfl) (by kernel_rfl); refine o9 (κ := Nat) (fun k => k ≤ 4) (fun k => 4 - k) (fun k => [.box [.ref 10, .ref 2, .v (.slice none 0 0)], .dead, dI ars, .box [.ref 11], .dead, dE t.index.kids, dE t.value.kids, dT t.body, dT t.els, .box (sL t 5), .row 3 (D.ints ((b8 ars pc t.value (vs, bd)).fst.fst ++ [i6 (b9 (b8 ars pc t.value (vs, bd)).fst.fst ars 5 (m8 (b8 ars pc t.value (vs, bd)).snd)) pc])), .row 106 (.stmts ((b8 ars pc t.value (vs, bd)).1.2 ++ [J5 ((b8 ars pc t.value (vs, bd)).1.1.length : Int) (z7 (b8 ars pc t.value (vs, bd)).2)] ++ U9 ((b8 ars pc t.value (vs, bd)).1.1.length : Int) t.target (z7 t.index) m k))]) (fun k => [(2, iA m), (4, .ptr 3 0), (6, .ptr 9 0), (12, iA ((b8 ars pc t.value (vs, bd)).fst.fst.length : Int)), (139, iA k)]) 0 (by simp [hh, hbb, hbe, h0, h1, h2, h3, h6]) (s5.at G _ _) ?_; clear G; intro k ρ a w hp G; replace G := s5.at G (M6 ars (C2 t [ac2 ars t pc vs bd, bf9 ars t m pc vs bd k])) (ab8 m [(12, I1 ars t pc vs bd), (139, iA k)]); refine wp_seq (l5 G d9 [(140, bA (decide ((k : Int) < 4)))] fun G => b7 (wp_seq (O0 G (fun h7 q7 => ?_) fun h7 q7 => ?_)))
       · refine wp_exit (o5 (o5 (n9 (m6 ?_)))); exact ax1 G [0, 1, 2, 3, 4, 5, 6, 7, 8, 10, 11] (by show _ = mR [0, 1, 2, 3, 4, 5, 6, 7, 8, 10, 11] (I2 ars t m pc vs bd); unfold I2; have e1 : ((r7 ars t m pc (vs, bd)).fst : List Int) = ((b8 ars pc t.value (vs, bd)).fst.fst ++ [i6 (a82 ars t pc vs bd) pc]) := (congrArg Prod.fst (bP3 (show k = 4 by omega) (aQ4 hh (by omega) (by omega) (by omega) (by omega)) (by with_reducible assumption))); have e2 : ((r7 ars t m pc (vs, bd)).snd : List b6) = ((b8 ars pc t.value (vs, bd)).fst.snd ++ [J5 ((b8 ars pc t.value (vs, bd)).fst.fst.length : Int) (z7 (b8 ars pc t.value (vs, bd)).snd)] ++ U9 ((b8 ars pc t.value (vs, bd)).fst.fst.length : Int) t.target (z7 t.index) m k) := (congrArg Prod.snd (bP3 (show k = 4 by omega) (aQ4 hh (by omega) (by omega) (by omega) (by omega)) (by with_reducible assumption))); (first | rw [e1, e2] | simp only [e1, e2]) <;> rfl)
       ·
        refine wp_skip (b7 (wp_seq (wp_block (wp_seq (l5 G d9 [(13, iA k)] fun G => b7 (wp_seq (k8 G (t6 (l8 4 [5] (bE4 t.index.kind t.index.value t.index.kids ((k : Int))) (l8 5 [] (K9 0) (l8 6 [44, 52] (aj1 m 9 0 1 0 ((N3 (ac3 t) (k : Int)).kids) ([])) t5))) fz []) [0, 1, 2, 3, 4, 5, 6, 7, 8, 9, 10, 11, 60, 68] (M6 ars (C2 t [ac2 ars t pc vs bd, bf9 ars t m pc vs bd k, dE (ag2 t m k).kids, .box [iA (ag2 t m k).kind, iA (ag2 t m k).value, .ref 12]])) (ab8 m [(12, I1 ars t pc vs bd), (13, iA k), (14, .ptr 13 0), (139, iA k)]) fun G => b7 (G2 G (t6 (l8 6 [] (K9 ((k : Int))) (l8 9 [] (P5 (((b8 ars pc t.value (vs, bd)).fst.fst.length : Int))) (l8 13 [] (K9 ((k : Int))) (l8 14 [118] (al9 t.target 1 ((k : Int)) ([])) (l8 15 [12, 86, 126] (aL0 ((ag2 t m k).kind) ((ag2 t m k).value) 2 (((b8 ars pc t.value (vs, bd)).fst.fst.length : Int)) 3 t.target ((ag2 t m k).kids) ([]) ([b5.mk 1 (k : Int) []])) t5))))) fz []) [0, 1, 3, 0, 8, 0, 32, 0, 0, 352, 0, 1024, 0, 4960, 16224, 32736, 65528, 7, 0, 524287, 1048575, 2097151, 1048575, 5242879] [0, 1, 2, 3, 4, 5, 6, 7, 8, 9, 10, 166] (M6 ars (C2 t [ac2 ars t pc vs bd, .row 106 (D.stmts (((b8 ars pc t.value (vs, bd)).fst.snd ++ [J5 ((b8 ars pc t.value (vs, bd)).fst.fst.length : Int) (z7 (b8 ars pc t.value (vs, bd)).snd)] ++ U9 ((b8 ars pc t.value (vs, bd)).fst.fst.length : Int) t.target (z7 t.index) m k ++ ([b6.mk 0 0 (b5.mk 0 0 []) (b5.mk 0 0 []) 0 [] []] ++ [])).set ((b8 ars pc t.value (vs, bd)).fst.snd ++ [J5 ((b8 ars pc t.value (vs, bd)).fst.fst.length : Int) (z7 (b8 ars pc t.value (vs, bd)).snd)] ++ U9 ((b8 ars pc t.value (vs, bd)).fst.fst.length : Int) t.target (z7 t.index) m k).length (b6.mk 2 t.target (b5.mk 1 (k : Int) []) (b5.mk 11 0 [m8 (ag2 t m k), b5.mk 2 ((b8 ars pc t.value (vs, bd)).fst.fst.length : Int) [], b5.mk 3 t.target [b5.mk 1 (k : Int) []]]) 0 [] [])))])) (ab8 m [(12, I1 ars t pc vs bd), (139, iA k)]) (aP (((b8 ars pc t.value (vs, bd)).fst.snd ++ [J5 ((b8 ars pc t.value (vs, bd)).fst.fst.length : Int) (z7 (b8 ars pc t.value (vs, bd)).snd)] ++ U9 ((b8 ars pc t.value (vs, bd)).fst.fst.length : Int) t.target (z7 t.index) m k).length + ([b6.mk (0 : Int) (0 : Int) (b5.mk (0 : Int) (0 : Int) []) (b5.mk (0 : Int) (0 : Int) []) (0 : Int) [] []] ++ []).length) 152 (((0 : Int) ≤ (((b8 ars pc t.value (vs, bd)).fst.snd ++ [J5 ((b8 ars pc t.value (vs, bd)).fst.fst.length : Int) (z7 (b8 ars pc t.value (vs, bd)).snd)] ++ U9 ((b8 ars pc t.value (vs, bd)).fst.fst.length : Int) t.target (z7 t.index) m k).length : Int)) :: (((((b8 ars pc t.value (vs, bd)).fst.snd ++ [J5 ((b8 ars pc t.value (vs, bd)).fst.fst.length : Int) (z7 (b8 ars pc t.value (vs, bd)).snd)] ++ U9 ((b8 ars pc t.value (vs, bd)).fst.fst.length : Int) t.target (z7 t.index) m k).length : Int) < (((b8 ars pc t.value (vs, bd)).fst.snd ++ [J5 ((b8 ars pc t.value (vs, bd)).fst.fst.length : Int) (z7 (b8 ars pc t.value (vs, bd)).snd)] ++ U9 ((b8 ars pc t.value (vs, bd)).fst.fst.length : Int) t.target (z7 t.index) m k ++ ([b6.mk (0 : Int) (0 : Int) (b5.mk (0 : Int) (0 : Int) []) (b5.mk (0 : Int) (0 : Int) []) (0 : Int) [] []] ++ [])).length : Int)) :: ((((b8 ars pc t.value (vs, bd)).fst.snd ++ [J5 ((b8 ars pc t.value (vs, bd)).fst.fst.length : Int) (z7 (b8 ars pc t.value (vs, bd)).snd)] ++ U9 ((b8 ars pc t.value (vs, bd)).fst.fst.length : Int) t.target (z7 t.index) m k).length < ((b8 ars pc t.value (vs, bd)).fst.snd ++ [J5 ((b8 ars pc t.value (vs, bd)).fst.fst.length : Int) (z7 (b8 ars pc t.value (vs, bd)).snd)] ++ U9 ((b8 ars pc t.value (vs, bd)).fst.fst.length : Int) t.target (z7 t.index) m k ++ ([b6.mk (0 : Int) (0 : Int) (b5.mk (0 : Int) (0 : Int) []) (b5.mk (0 : Int) (0 : Int) []) (0 : Int) [] []] ++ [])).length) :: [])))) (aK (by simp only [b88, b87, b89, y5]; omega) ⟨(by simp only [b88, b87, b89, y5]; omega), ⟨(by simp only [b88, b87, b89, y5]; omega), ⟨(by simp [hh, hbb, hbe, h0, h1, h2, h3, h6, h7]), b94⟩⟩⟩) fun G => ?_))))))))
        replace G := G.sE 11; replace G := s5.at G (M6 ars (C2 t [ac2 ars t pc vs bd, .row 106 (D.stmts ((b8 ars pc t.value (vs, bd)).fst.snd ++ [J5 ((b8 ars pc t.value (vs, bd)).fst.fst.length : Int) (z7 (b8 ars pc t.value (vs, bd)).snd)] ++ U9 ((b8 ars pc t.value (vs, bd)).fst.fst.length : Int) t.target (z7 t.index) m k ++ [b6.mk 2 t.target (b5.mk 1 (k : Int) []) (b5.mk 11 0 [m8 (ag2 t m k), b5.mk 2 ((b8 ars pc t.value (vs, bd)).fst.fst.length : Int) [], b5.mk 3 t.target [b5.mk 1 (k : Int) []]]) 0 [] []]))])) (ab8 m [(12, I1 ars t pc vs bd), (139, iA k)]); refine m6 (b7 (E2 G d9 [(139, iA ((k : Int) + 1))] [wO ((k : Int) + 1)] (o1 (by omega)) fun G => b7 ?_)); exact M8 G (k + 1) (by omega) (by omega) (rg 12) (by have e1 : ((b8 ars pc t.value (vs, bd)).fst.snd ++ [J5 ((b8 ars pc t.value (vs, bd)).fst.fst.length : Int) (z7 (b8 ars pc t.value (vs, bd)).snd)] ++ U9 ((b8 ars pc t.value (vs, bd)).fst.fst.length : Int) t.target (z7 t.index) m (k + 1) : List b6) = ((b8 ars pc t.value (vs, bd)).fst.snd ++ [J5 ((b8 ars pc t.value (vs, bd)).fst.fst.length : Int) (z7 (b8 ars pc t.value (vs, bd)).snd)] ++ U9 ((b8 ars pc t.value (vs, bd)).fst.fst.length : Int) t.target (z7 t.index) m k ++ [b6.mk 2 t.target (b5.mk 1 (k : Int) []) (b5.mk 11 0 [m8 (s4 m (b5.mk 9 0 (N3 (b5.mk t.index.kind t.index.value t.index.kids) (k : Int)).kids) (b5.mk 1 0 [])), b5.mk 2 ((b8 ars pc t.value (vs, bd)).fst.fst.length : Int) [], b5.mk 3 t.target [b5.mk 1 (k : Int) []]]) 0 [] []]) := bY2; (first | rw [e1] | simp only [e1]) <;> rfl)
      · have q6 : ((d8 (b9 (b8 ars pc t.value (vs, bd)).fst.fst ars 5 (m8 t.index))) = false) ∨ (¬ (b9 (b8 ars pc t.value (vs, bd)).fst.fst ars 5 (m8 t.index) % 2 = 1)) := (fun hq => Or.imp (fun hq => (hq)) (fun hq => of_decide_eq_false hq) (ca4.1 hq)) (Eq.mp (b95 _) h6); refine rT G _ h6 (wp_seq (G2 G (t6 (l8 13 [5] (al9 t.target t.index.kind t.index.value t.index.kids) (l8 14 [12, 118] (aj1 m ((b8 ars pc t.value (vs, bd)).snd.kind) ((b8 ars pc t.value (vs, bd)).snd.value) 3 t.target ((b8 ars pc t.value (vs, bd)).snd.kids) ([m8 t.index])) t5)) fz []) [0, 1, 3, 0, 8, 0, 32, 0, 0, 0, 512, 0, 2048, 7680, 16256, 32760, 7, 0, 262143, 524287, 1048575, 524287, 2621439] [0, 1, 2, 3, 4, 5, 6, 7, 8, 9, 10, 12, 13, 158] (aS0 :: .dead :: dI ars :: .box [.ref 13] :: (C2 t [.row 3 (D.ints (b8 ars pc t.value (vs, bd)).fst.fst), dE (b8 ars pc t.value (vs, bd)).snd.kids, ar6 ars t pc vs bd, .row 106 (D.stmts (((b8 ars pc t.value (vs, bd)).fst.snd ++ ([b6.mk 0 0 (b5.mk 0 0 []) (b5.mk 0 0 []) 0 [] []] ++ [])).set (b8 ars pc t.value (vs, bd)).fst.snd.length (b6.mk 2 t.target (ac3 t) (m8 (a83 ars t m pc vs bd)) 0 [] [])))])) (L2 m pc [(11, .ptr 12 0)]) (aP ((b8 ars pc t.value (vs, bd)).fst.snd.length + ([b6.mk (0 : Int) (0 : Int) (b5.mk (0 : Int) (0 : Int) []) (b5.mk (0 : Int) (0 : Int) []) (0 : Int) [] []] ++ []).length) 152 (((0 : Int) ≤ ((b8 ars pc t.value (vs, bd)).fst.snd.length : Int)) :: ((((b8 ars pc t.value (vs, bd)).fst.snd.length : Int) < (((b8 ars pc t.value (vs, bd)).fst.snd ++ ([b6.mk (0 : Int) (0 : Int) (b5.mk (0 : Int) (0 : Int) []) (b5.mk (0 : Int) (0 : Int) []) (0 : Int) [] []] ++ [])).length : Int)) :: (((b8 ars pc t.value (vs, bd)).fst.snd.length < ((b8 ars pc t.value (vs, bd)).fst.snd ++ ([b6.mk (0 : Int) (0 : Int) (b5.mk (0 : Int) (0 : Int) []) (b5.mk (0 : Int) (0 : Int) []) (0 : Int) [] []] ++ [])).length) :: [])))) (aK (by simp only [b88, b87, b89, y5]; omega) ⟨(by simp [hh, hbb, hbe, h0, h1, h2, h3, h6]), ⟨(by simp only [b88, b87, b89, y5]; omega), ⟨(by simp [hh, hbb, hbe, h0, h1, h2, h3, h6]), b94⟩⟩⟩) fun G => ?_)); replace G := G.sE 13; replace G := s5.at G (aS0 :: .dead :: dI ars :: .box [.ref 13] :: (C2 t [.row 3 (D.ints (b8 ars pc t.value (vs, bd)).fst.fst), dE (b8 ars pc t.value (vs, bd)).snd.kids, ar6 ars t pc vs bd, .row 106 (D.stmts ((b8 ars pc t.value (vs, bd)).fst.snd ++ [b6.mk 2 t.target (ac3 t) (m8 (a83 ars t m pc vs bd)) 0 [] []]))])) (L2 m pc [(11, .ptr 12 0)]); refine b7 (wp_ret (l7 (A0 ?_))); exact F2 G [0, 1, 2, 3, 4, 5, 6, 7, 8, 10, 13] (by show _ = mR [0, 1, 2, 3, 4, 5, 6, 7, 8, 10, 13] (I2 ars t m pc vs bd); unfold I2; have e1 : ((r7 ars t m pc (vs, bd)).fst : List Int) = ((b8 ars pc t.value (vs, bd)).fst.fst) := ((bT7 (aQ4 hh (by omega) (by omega) (by omega) (by omega)) (by with_reducible assumption))); have e2 : ((r7 ars t m pc (vs, bd)).snd : List b6) = ((b8 ars pc t.value (vs, bd)).fst.snd ++ [b6.mk 2 t.target (ac3 t) (m8 (a83 ars t m pc vs bd)) 0 [] []]) := (congrArg Prod.snd (bP4 (aQ4 hh (by omega) (by omega) (by omega) (by omega)) (by with_reducible assumption))); (first | rw [e1, e2] | simp only [e1, e2]) <;> rfl)
    · refine G2 G d9 [0, 1, 3, 0, 8, 0, 56, 7, 0, 511, 1023, 2047, 1023, 5119] [0, 1, 2, 3, 4, 5, 6, 7, 8, 10, 86] (aR6 ars t pc vs bd [.row 106 (D.stmts (((b8 ars pc t.value (vs, bd)).fst.snd ++ ([b6.mk 0 0 (b5.mk 0 0 []) (b5.mk 0 0 []) 0 [] []] ++ [])).set (b8 ars pc t.value (vs, bd)).fst.snd.length (b6.mk 5 t.target (b5.mk 0 0 []) (L3 ars t pc vs bd) 0 [] [])))]) [] (aP ((b8 ars pc t.value (vs, bd)).fst.snd.length + ([b6.mk (0 : Int) (0 : Int) (b5.mk (0 : Int) (0 : Int) []) (b5.mk (0 : Int) (0 : Int) []) (0 : Int) [] []] ++ []).length) 152 (((0 : Int) ≤ ((b8 ars pc t.value (vs, bd)).fst.snd.length : Int)) :: ((((b8 ars pc t.value (vs, bd)).fst.snd.length : Int) < (((b8 ars pc t.value (vs, bd)).fst.snd ++ ([b6.mk (0 : Int) (0 : Int) (b5.mk (0 : Int) (0 : Int) []) (b5.mk (0 : Int) (0 : Int) []) (0 : Int) [] []] ++ [])).length : Int)) :: (((b8 ars pc t.value (vs, bd)).fst.snd.length < ((b8 ars pc t.value (vs, bd)).fst.snd ++ ([b6.mk (0 : Int) (0 : Int) (b5.mk (0 : Int) (0 : Int) []) (b5.mk (0 : Int) (0 : Int) []) (0 : Int) [] []] ++ [])).length) :: [])))) (aK (by simp only [b88, b87, b89, y5]; omega) ⟨(by simp [hh, hbb, hbe, h0, h1, h2]), ⟨(by simp only [b88, b87, b89, y5]; omega), ⟨(by simp [hh, hbb, hbe, h0, h1, h2]), b94⟩⟩⟩) fun G => ?_; replace G := G.sE 10; replace G := s5.at G (aR6 ars t pc vs bd [.row 106 (D.stmts ((b8 ars pc t.value (vs, bd)).fst.snd ++ [b6.mk 5 t.target (b5.mk 0 0 []) (L3 ars t pc vs bd) 0 [] []]))]) []; refine m6 ?_; exact ax1 G (rg 11) (by show _ = mR (rg 11) (I2 ars t m pc vs bd); unfold I2; have e1 : ((r7 ars t m pc (vs, bd)).fst : List Int) = ((b8 ars pc t.value (vs, bd)).fst.fst) := (b11 (by omega)); have e2 : ((r7 ars t m pc (vs, bd)).snd : List b6) = ((b8 ars pc t.value (vs, bd)).fst.snd ++ [b6.mk 5 t.target (b5.mk 0 0 []) (L3 ars t pc vs bd) 0 [] []]) := (congrArg Prod.snd (b12 (by omega))); (first | rw [e1, e2] | simp only [e1, e2]) <;> rfl)
   · refine G2 G (t6 (l8 9 [] (P5 t.target) (l8 10 [12, 86] (aj1 m ((b8 ars pc t.value (vs, bd)).snd.kind) ((b8 ars pc t.value (vs, bd)).snd.value) 2 t.target ((b8 ars pc t.value (vs, bd)).snd.kids) ([])) (l8 11 [94] (V1 t.target ((av7 ars t m pc vs bd).kind) ((av7 ars t m pc vs bd).value) ((av7 ars t m pc vs bd).kids)) t5))) fz []) [0, 1, 3, 0, 8, 0, 0, 0, 128, 384, 992, 2040, 7, 0, 16383, 32767, 65535, 32767, 163839] [0, 1, 2, 3, 4, 5, 6, 7, 8, 10, 126] (aR6 ars t pc vs bd [.row 106 (D.stmts (((b8 ars pc t.value (vs, bd)).fst.snd ++ ([b6.mk 0 0 (b5.mk 0 0 []) (b5.mk 0 0 []) 0 [] []] ++ [])).set (b8 ars pc t.value (vs, bd)).fst.snd.length (b6.mk 1 t.target (b5.mk 0 0 []) (m8 (av7 ars t m pc vs bd)) 0 [] [])))]) [] (aP ((b8 ars pc t.value (vs, bd)).fst.snd.length + ([b6.mk (0 : Int) (0 : Int) (b5.mk (0 : Int) (0 : Int) []) (b5.mk (0 : Int) (0 : Int) []) (0 : Int) [] []] ++ []).length) 152 (((0 : Int) ≤ ((b8 ars pc t.value (vs, bd)).fst.snd.length : Int)) :: ((((b8 ars pc t.value (vs, bd)).fst.snd.length : Int) < (((b8 ars pc t.value (vs, bd)).fst.snd ++ ([b6.mk (0 : Int) (0 : Int) (b5.mk (0 : Int) (0 : Int) []) (b5.mk (0 : Int) (0 : Int) []) (0 : Int) [] []] ++ [])).length : Int)) :: (((b8 ars pc t.value (vs, bd)).fst.snd.length < ((b8 ars pc t.value (vs, bd)).fst.snd ++ ([b6.mk (0 : Int) (0 : Int) (b5.mk (0 : Int) (0 : Int) []) (b5.mk (0 : Int) (0 : Int) []) (0 : Int) [] []] ++ [])).length) :: [])))) (aK (by simp only [b88, b87, b89, y5]; omega) ⟨(by simp [hh, hbb, hbe, h0, h1]), ⟨(by simp only [b88, b87, b89, y5]; omega), ⟨(by simp [hh, hbb, hbe, h0, h1]), b94⟩⟩⟩) fun G => ?_; replace G := G.sE 10; replace G := s5.at G (aR6 ars t pc vs bd [.row 106 (D.stmts ((b8 ars pc t.value (vs, bd)).fst.snd ++ [b6.mk 1 t.target (b5.mk 0 0 []) (m8 (av7 ars t m pc vs bd)) 0 [] []]))]) []; refine m6 ?_; exact ax1 G (rg 11) (by show _ = mR (rg 11) (I2 ars t m pc vs bd); unfold I2; have e1 : ((r7 ars t m pc (vs, bd)).fst : List Int) = ((b8 ars pc t.value (vs, bd)).fst.fst) := (b14 (by omega)); have e2 : ((r7 ars t m pc (vs, bd)).snd : List b6) = ((b8 ars pc t.value (vs, bd)).fst.snd ++ [b6.mk 1 t.target (b5.mk 0 0 []) (m8 (av7 ars t m pc vs bd)) 0 [] []]) := (congrArg Prod.snd (b15 (by omega))); (first | rw [e1, e2] | simp only [e1, e2]) <;> rfl)
  · have q0 := eq_of_beq h0; refine rT G _ h0 (wp_seq (G2 G (s6 10 [0, 1, 2, 7] (hI t.body m pc vs (by assumption) (by assumption) (by omega) (by omega))) [0, 1, 3, 0, 8, 0, 0, 64, 0, 0, 992, 2040, 7, 0, 16383, 32767, 65535, 32767, 163839] [0, 1, 2, 3, 4, 5, 6, 7, 8, 9, 90, 122] (M6 ars (C2 t [.row 3 (D.ints (i8 ars t.body m pc (vs, [])).fst), .row 106 (D.stmts ((bd ++ ([b6.mk 0 0 (b5.mk 0 0 []) (b5.mk 0 0 []) 0 [] []] ++ [])).set bd.length (b6.mk 4 0 (b5.mk 0 0 []) (b5.mk 0 0 []) t.count (i8 ars t.body m pc (vs, [])).snd [])))])) (L2 m pc []) (aP (bd.length + ([b6.mk (0 : Int) (0 : Int) (b5.mk (0 : Int) (0 : Int) []) (b5.mk (0 : Int) (0 : Int) []) (0 : Int) [] []] ++ []).length) 152 (((0 : Int) ≤ bd.length) :: (((bd.length : Int) < ((bd ++ ([b6.mk (0 : Int) (0 : Int) (b5.mk (0 : Int) (0 : Int) []) (b5.mk (0 : Int) (0 : Int) []) (0 : Int) [] []] ++ [])).length : Int)) :: ((bd.length < (bd ++ ([b6.mk (0 : Int) (0 : Int) (b5.mk (0 : Int) (0 : Int) []) (b5.mk (0 : Int) (0 : Int) []) (0 : Int) [] []] ++ [])).length) :: [])))) (aK (by simp only [b88, b87, b89, y5]; omega) ⟨(by simp [hh, hbb, hbe, h0]), ⟨(by simp only [b88, b87, b89, y5]; omega), ⟨(by simp [hh, hbb, hbe, h0]), b94⟩⟩⟩) fun G => ?_)); replace G := G.sE 11; replace G := s5.at G (M6 ars (C2 t [.row 3 (D.ints (i8 ars t.body m pc (vs, [])).fst), .row 106 (D.stmts (bd ++ [b6.mk 4 0 (b5.mk 0 0 []) (b5.mk 0 0 []) t.count (i8 ars t.body m pc (vs, [])).snd []]))])) (L2 m pc []); refine b7 (wp_ret (l7 ?_)); exact F2 G [0, 1, 2, 3, 4, 5, 6, 7, 8, 10, 11] (by show _ = mR [0, 1, 2, 3, 4, 5, 6, 7, 8, 10, 11] (I2 ars t m pc vs bd); unfold I2; have e1 : ((r7 ars t m pc (vs, bd)).fst : List Int) = ((i8 ars t.body m pc (vs, [])).fst) := (b13 (by omega)); have e2 : ((r7 ars t m pc (vs, bd)).snd : List b6) = (bd ++ [b6.mk 4 0 (b5.mk 0 0 []) (b5.mk 0 0 []) t.count (i8 ars t.body m pc (vs, [])).snd []]) := (congrArg Prod.snd (ln4 (by omega))); (first | rw [e1, e2] | simp only [e1, e2]) <;> rfl)
abbrev aE3 (ss : List b6) (m : Int) (pc : Int) (r0 : List (Nat × AV)) : List (Nat × AV) := (0, .ptr 0 0) :: (2, iA m) :: (3, iA pc) :: (8, .v (.slice none 0 0)) :: (9, .ptr 4 0) :: (12, .ref 3) :: (13, iA (ss.length : Int)) :: r0
theorem aP4 (ars : List Int) (nv dd : Nat) (ss : List b6) (hs : ss.all (f6 nv ars.length (dd + 1)) = true)
  (hS : ∀ (t : b6), t7 nv ars.length t = true → t.body.all (f6 nv ars.length dd) = true → t.els.all (f6 nv ars.length dd) = true → 0 < ss.length → ∀ (m pc : Int) (vs : List Int) (bd : List b6), nv ≤ vs.length → vs.length + 4 * (1 + D7 t) ≤ 90000 → i5 bd + 130 * (1 + D7 t) ≤ 600000 → k6.ok Tryz.prog (isC ars m pc vs bd t))
  (m pc : Int) (vs : List Int) (hv : nv ≤ vs.length) (r1 : vs.length + 4 * i5 ss ≤ 90000) (r2 : i5 ([] : List b6) + 130 * i5 ss ≤ 600000) : k6.ok Tryz.prog (ibC ars m pc vs ss) := by
 refine A2 25 Tryz.func82 [.box [.ref 1, .ref 2, .v (.slice none 0 0)], .row 3 (D.ints vs), dI ars, dT ss] [(0, .ptr 0 0), (1, .ref 3), (2, iA m), (3, iA pc)] fun G => ?_; have hl := C3 ss; refine wp_seq (l5 G d9 [(8, .v (.slice none 0 0))] fun G => b7 (wp_seq (k8 G d9 (rg 5) [.box [.ref 1, .ref 2, .v (.slice none 0 0)], .row 3 (D.ints vs), dI ars, dT ss, .box [.v (.slice none 0 0)]] [(0, .ptr 0 0), (1, .ref 3), (2, iA m), (3, iA pc), (8, .v (.slice none 0 0)), (9, .ptr 4 0)] fun G => b7 (wp_seq (wp_seq (C9 G d9 (aE3 ss m pc [(14, iA 0)]) fun G => b7 (wp_block ?_))))))); obtain ⟨ρ, G⟩ := G.shift 1 5 [.box [.ref 5, .ref 2, .v (.slice none 0 0)], .dead, dI ars, dT ss, .box [.v (.slice none 0 0)], .row 3 (D.ints vs)] (aE3 ss m pc [(14, iA 0)]); obtain ⟨ρ, G⟩ := G.nil 6 106 (.stmts []) 10 [.box [.ref 5, .ref 2, .v (.slice none 0 0)], .dead, dI ars, dT ss, .box [.ref 6], .row 3 (D.ints vs)] (aE3 ss m pc [(14, iA 0)]); refine o9 (κ := Nat) (fun k => k ≤ ss.length) (fun k => ss.length - k) (fun k => [.box [.ref 5, .ref 2, .v (.slice none 0 0)], .dead, dI ars, dT ss, .box [.ref 6], .row 3 (.ints (xB ars m pc vs [] ss k).1), .row 106 (.stmts (xB ars m pc vs [] ss k).2)]) (fun k => [(0, .ptr 0 0), (2, iA m), (3, iA pc), (8, .v (.slice none 0 0)), (9, .ptr 4 0), (12, .ref 3), (13, iA (ss.length : Int)), (14, iA k)]) 0 (by simp [hs]) (s5.at G _ _) ?_; clear G; intro k ρ a w hp G; replace G := s5.at G [.box [.ref 5, .ref 2, .v (.slice none 0 0)], .dead, dI ars, dT ss, .box [.ref 6], .row 3 (D.ints (xB ars m pc vs [] ss k).fst), .row 106 (D.stmts (xB ars m pc vs [] ss k).snd)] (aE3 ss m pc [(14, iA k)]); refine wp_seq (l5 G d9 [(15, bA (decide ((k : Int) < ss.length)))] fun G => b7 (wp_seq (O0 G (fun h0 q0 => ?_) fun h0 q0 => ?_)))
 ·refine wp_exit (o5 (o5 (n9 (b7 (wp_seq (k8 G d9 [0, 1, 2, 3, 5, 6] [.box [.ref 4, .ref 2, .v (.slice none 0 0)], .dead, dI ars, dT ss, .row 3 (D.ints (xB ars m pc vs [] ss k).fst), .row 106 (D.stmts (xB ars m pc vs [] ss k).snd)] [(8, .ref 5)] fun G => b7 (wp_ret ?_))))))); obtain ⟨ρ, G⟩ := G.frz [.no, .no, .no, .no, .no, .row 106] [.box [.ref 4, .ref 2, .v (.slice none 0 0)], .dead, dI ars, dT ss, .row 3 (D.ints (xB ars m pc vs [] ss k).fst), dT (xB ars m pc vs [] ss k).snd] [(8, .ref 5)]; exact F2 G (rg 6) (by show _ = mR (rg 6) [.box [.ref 4, .ref 2, nlA], .dead, dI ars, dT ss, .row 3 (D.ints (i8 ars ss m pc (vs, [])).fst), dT (i8 ars ss m pc (vs, [])).snd]; have e1 : ((i8 ars ss m pc (vs, [])).fst : List Int) = ((xB ars m pc vs [] ss k).fst) := (congrArg Prod.fst (aT0 (by omega))); have e2 : ((i8 ars ss m pc (vs, [])).snd : List b6) = ((xB ars m pc vs [] ss k).snd) := (congrArg Prod.snd (aT0 (by omega))); (first | rw [e1, e2] | simp only [e1, e2]) <;> rfl)
 ·refine wp_skip (b7 (wp_seq (wp_block (wp_seq (O1 G d9 [0, 1, 2, 3, 4, 5, 6, 15, 16, 17, 18, 23] [.box [.ref 5, .ref 2, .v (.slice none 0 0)], .dead, dI ars, dT ss, .box [.ref 6], .row 3 (D.ints (xB ars m pc vs [] ss k).fst), .row 106 (D.stmts (xB ars m pc vs [] ss k).snd), dE (ss.getD k b85).index.kids, dE (ss.getD k b85).value.kids, dT (ss.getD k b85).body, dT (ss.getD k b85).els, .box (sL (ss.getD k b85) 7)] [(0, .ptr 0 0), (2, iA m), (3, iA pc), (8, .v (.slice none 0 0)), (9, .ptr 4 0), (11, .ptr 11 0), (12, .ref 3), (13, iA (ss.length : Int)), (14, iA k)] (iX k k ss.length []) (iK (by omega) b94) fun G => b7 (k8 G (s6 4 [0, 5, 2, 4, 6, 7, 8, 9, 10] (hS (ss.getD k b85) ((an1 hs (by omega)).1) ((an1 hs (by omega)).2.1) ((an1 hs (by omega)).2.2) (by omega) m pc ((xB ars m pc vs [] ss k).fst) ((xB ars m pc vs [] ss k).snd) ((O3 hs hv r1 r2 (by omega)).1) ((O3 hs hv r1 r2 (by omega)).2.1) ((O3 hs hv r1 r2 (by omega)).2.2))) [0, 1, 2, 3, 4, 44, 45] [.box [.ref 5, .ref 2, .v (.slice none 0 0)], .dead, dI ars, dT ss, .box [.ref 6], .row 3 (D.ints (r7 ars (ss.getD k b85) m pc (xB ars m pc vs [] ss k)).fst), .row 106 (D.stmts (r7 ars (ss.getD k b85) m pc (xB ars m pc vs [] ss k)).snd)] (aE3 ss m pc [(14, iA k)]) fun G => m6 (b7 (E2 G d9 [(14, iA ((k : Int) + 1))] [wO ((k : Int) + 1)] (o1 (by omega)) fun G => b7 ?_)))))))); exact M8 G (k + 1) (by omega) (by omega) (rg 7) (by have e1 : ((xB ars m pc vs [] ss (k + 1)).fst : List Int) = ((r7 ars (ss.getD k b85) m pc (xB ars m pc vs [] ss k)).fst) := (congrArg Prod.fst (as0 (by omega))); have e2 : ((xB ars m pc vs [] ss (k + 1)).snd : List b6) = ((r7 ars (ss.getD k b85) m pc (xB ars m pc vs [] ss k)).snd) := (congrArg Prod.snd (as0 (by omega))); (first | rw [e1, e2] | simp only [e1, e2]) <;> rfl)
theorem a41 (ars : List Int) (nv : Nat) : ∀ (dd : Nat) (tt : List b6) (m pc : Int) (vs : List Int), tt.all (f6 nv ars.length dd) = true → nv ≤ vs.length → vs.length + 4 * i5 tt ≤ 90000 → 130 * i5 tt ≤ 600000 → k6.ok Tryz.prog (ibC ars m pc vs tt)
 | 0, tt, m, pc, vs, hs, hv, r1, r2 => by
  have h0 : tt = [] := by
   cases tt with
   | nil => rfl
   | cons a r => simp [f6] at hs
  subst h0
  exact aP4 ars nv 0 [] rfl (fun _ _ _ _ h => absurd h (by simp)) m pc vs hv r1 (by simp [i5])
 | dd + 1, tt, m, pc, vs, hs, hv, r1, r2 => aP4 ars nv dd tt hs (fun t hh hbb hbe _ m pc vs bd hv r1 r2 => bv4 ars nv dd t hh hbb hbe (a41 ars nv dd) m pc vs bd hv r1 r2) m pc vs hv r1 (by simpa [i5] using r2)
theorem bq0 (p : d7) (hp : m0 p = true) : k6.ok Tryz.prog (ibC p.arrays (-1) 0 p.vars p.body) := by
 have h := aa4 hp
 exact a41 p.arrays p.vars.length 5 p.body (-1) 0 p.vars (V0 hp).2.2.2 (b99 _) (by omega) (by omega)
end Go.Proofs.YthikdkjjdeehoaaGreat

namespace Go.Proofs.YthikdkjjdeehoaaGreat
set_option linter.unusedVariables false
set_option linter.unusedSimpArgs false
open Go Go.RowKit
def au4 {α : Type} (f : α → Bool) (l : List α) : Int := match l.findIdx? f with
 | some i => i
 | none => -1
theorem bp5 {α : Type} {f : α → Bool} {l : List α} {k : Nat} {z : α} (hk : k < l.length) (h : (l.take k).any f = false) (hf : f (l.getD k z) = true) : au4 f l = k := by
 have : l.findIdx? f = some k := by
  rw [List.findIdx?_eq_some_iff_getElem]
  rw [n6 hk] at hf
  refine ⟨hk, hf, fun j hj => ?_⟩
  rw [List.any_eq_false] at h
  have hm : l[j] ∈ l.take k := List.mem_take_iff_getElem.2 ⟨j, by omega, rfl⟩
  exact h _ hm
 unfold au4; rw [this]
theorem a50 {α : Type} {f : α → Bool} {l : List α} (h : l.any f = false) : au4 f l = -1 := by
 have : l.findIdx? f = none := by
  rw [List.findIdx?_eq_none_iff]
  intro x hx
  rw [List.any_eq_false] at h
  simpa using h x hx
 unfold au4; rw [this]
theorem bp6 {α : Type} (f : α → Bool) (l : List α) : decide (au4 f l ≥ 0) = l.any f := by
 cases h : l.any f
 ·rw [a50 h]; rfl
 ·unfold au4
  cases h2 : l.findIdx? f with
  | none =>
   rw [List.findIdx?_eq_none_iff] at h2
   obtain ⟨x, hx, hf⟩ := List.any_eq_true.1 h
   rw [h2 x hx] at hf; cases hf
  | some i => simp
theorem bB9 {α : Type} {l : List α} {k : Nat} {z : α} (h : k < l.length) : l.getD k z ∈ l := by rw [n6 h]; exact cb0 h
def okS (nv na d : Nat) (e : b5) : Prop := (e.kind = 0 ∧ e.kids = []) ∨ f5 nv na d e = true
theorem aW1 {nv na d k : Nat} {e : b5} (h : okS nv na (d + 1) e) (hk : k < e.kids.length) : f5 nv na d (e.kids.getD k b85) = true := by
 rcases h with h | h
 ·rw [h.2] at hk; simp at hk
 ·exact H6 h hk
theorem bI1 {nv na d : Nat} {e x : b5} (h : okS nv na (d + 1) e) (hk : x ∈ e.kids) : okS nv na d x := by
 obtain ⟨i, hi, rfl⟩ := List.mem_iff_getElem.1 hk
 have := aW1 h hi
 rw [n6 hi] at this
 exact .inr this
theorem aB6 {nv na d : Nat} {e : b5} (h : okS nv na (d + 1) e) (k : e.kind = 3) : 0 < e.kids.length := by
 rcases h with h | h
 ·omega
 ·exact V6 h k
theorem bR3 {vs ars : List Int} {d : Nat} {e : b5} (k : ¬ e.kind = 3) : p6 vs ars (d + 1) e = e.kids.any (p6 vs ars d) := by rw [p6]; simp [k]
theorem bG6 {vs ars : List Int} {d : Nat} {e : b5} (k : (d8 (b9 vs ars d (e.kids.getD 0 b85)) && decide (b9 vs ars d (e.kids.getD 0 b85) % 2 = 1)) = false) : p6 vs ars (d + 1) e = e.kids.any (p6 vs ars d) := by rw [p6, k]; simp
abbrev bn0 (p : d7) (d : Nat) (e : b5) : k6 := F6 143 [pA 0, eA e 3] (pS p ++ eS e) (bA (p6 p.vars p.arrays d e))
theorem bL4 (p : d7) (d : Nat) (l : List b5) (ih : ∀ (e : b5), e ∈ l → k6.ok Tryz.prog (bn0 p d e)) : k6.ok Tryz.prog (F6 238 [.ref 3, .bm 143 [pA 0]] (pS p ++ [.dat (.exprs l)]) (iA (au4 (p6 p.vars p.arrays d) l))) := by
  refine A2 19 Tryz.func238 [dI p.vars, dI p.arrays, dT p.body, dE l] [(0, .ref 3), (1, .bm 143 [pA 0])] fun G => ?_; have hlen : l.length ≤ 9223372036854775807 := G.len 3 (d := .exprs l) (by kernel_rfl); refine wp_seq (C9 G d9 [(0, .ref 3), (1, .bm 143 [pA 0]), (4, iA 0)] fun G => b7 (wp_seq (wp_seq (C9 G d9 [(0, .ref 3), (1, .bm 143 [pA 0]), (4, iA 0), (7, iA (l.length : Int)), (8, iA 0)] fun G => b7 (wp_block ?_))))); refine o9 (κ := Nat) (fun k => k ≤ l.length ∧ (l.take k).any (p6 p.vars p.arrays d) = false) (fun k => l.length - k) (fun k => [dI p.vars, dI p.arrays, dT p.body, dE l]) (fun k => [(0, .ref 3), (1, .bm 143 [pA 0]), (4, iA 0), (7, iA (l.length : Int)), (8, iA k)]) 0 (⟨cc1 _, rfl⟩) (s5.at G _ _) ?_; clear G; intro k ρ a w hp G; refine wp_seq (l5 G d9 [(9, bA (decide ((k : Int) < l.length)))] fun G => b7 (wp_seq (O0 G (fun h0 q0 => ?_) fun h0 q0 => ?_)))
  · refine wp_exit (o5 (o5 (n9 (b7 (wp_seq (l5 G d9 [(4, iA (-1))] fun G => b7 (wp_ret ?_))))))); exact J9 (-1) G (rg 4) (a50 (aL9 hp.2 (by omega)))
  ·
   refine wp_skip (b7 (wp_seq (wp_block (wp_seq (l5 G d9 [(5, iA k)] fun G => b7 (wp_seq (E2 G (s6 5 [0, 1, 2, 36] (ih (l.getD k b85) (bB9 (by omega)))) [(16, bA (p6 p.vars p.arrays d (l.getD k b85)))] (iX k k l.length []) (iK (by have hp := hp; omega) b94) fun G => b7 (rcB G (fun h1 => ?_) fun h1 => ?_))))))))
   · refine wp_skip (m6 (b7 (E2 G d9 [(8, iA ((k : Int) + 1))] [wO ((k : Int) + 1)] (o1 (by omega)) fun G => b7 ?_))); exact M8 G (k + 1) (⟨by omega, aL8 hp.2 (by omega) (by assumption)⟩) (by have hp := hp; omega) (rg 4)
   · refine wp_seq (l5 G d9 [(4, iA k)] fun G => b7 (wp_ret (A0 (l7 (l7 (A0 (l7 ?_))))))); exact J9 ((k : Int)) G (rg 4) (bp5 (by omega) hp.2 (by assumption))
theorem a68 (p : d7) (d : Nat) (l : List b5) (ih : ∀ (e : b5), e ∈ l → k6.ok Tryz.prog (bn0 p d e)) : k6.ok Tryz.prog (F6 196 [.ref 3, .bm 143 [pA 0]] (pS p ++ [.dat (.exprs l)]) (bA (l.any (p6 p.vars p.arrays d)))) := by
 have hfind := bL4 p d l ih; refine A2 9 Tryz.func196 [dI p.vars, dI p.arrays, dT p.body, dE l] [(0, .ref 3), (1, .bm 143 [pA 0])] fun G => ?_; refine wp_seq (l5 G d9 [(4, bA false)] fun G => b7 (wp_seq (l5 G (s6 2 (rg 4) hfind) [(4, bA (decide (au4 (p6 p.vars p.arrays d) l ≥ 0)))] fun G => b7 (wp_ret ?_)))); exact B5 (decide (au4 (p6 p.vars p.arrays d) l ≥ 0)) G (rg 4) ((bp6 _ _).symm)
theorem an2 (p : d7) (d : Nat) (e : b5) (ih : ∀ (x : b5), x ∈ e.kids → k6.ok Tryz.prog (bn0 p d x)) (he : okS p.vars.length p.arrays.length (d + 1) e) : k6.ok Tryz.prog (bn0 p (d + 1) e) := by
  have hcon := a68 p d e.kids ih; refine A2 24 Tryz.func143 [dI p.vars, dI p.arrays, dT p.body, dE e.kids] [(0, pA 0), (1, eA e 3)] fun G => ?_; have hl := a59 p d; refine wp_seq (k8 G d9 [0, 1, 2, 3, 4, 12] [dI p.vars, dI p.arrays, dT p.body, dE e.kids, .box (pL 0), .box (eL e 3)] [(2, .ptr 4 0), (3, .ptr 5 0), (4, bA false)] fun G => b7 (wp_seq ?_)); cases h0 : (e.kind == 3)
  · have q0 := ne_of_beq_false h0; refine P1 G (t6 (l8 17 (rg 4) hcon t5) (fc h0 (fc (b := false) rfl fz)) (us [(4, 10, 0), (1011, 1011, 0), (13, 17, 1), (1018, 1018, 1)])) [0, 1, 3, 7, 15, 15, 47, 111, 239, 511, 1023, 2047, 4095, 8191, 16383, 8191, 40959, 131071, 262143, 524287] (rg 4) [dI p.vars, dI p.arrays, dT p.body, dE e.kids] [(4, bA (e.kids.any (p6 p.vars p.arrays d)))] fun G => b7 (wp_ret ?_); exact B5 (e.kids.any (p6 p.vars p.arrays d)) G (rg 4) (bR3 (by assumption))
  ·
   have q0 := eq_of_beq h0; cases h1 : (d8 (b9 p.vars p.arrays d (e.kids.getD (0 : Nat) b85)) && decide (b9 p.vars p.arrays d (e.kids.getD (0 : Nat) b85) % (2 : Int) = 1))
   · have q1 : ((d8 (b9 p.vars p.arrays d (e.kids.getD 0 b85))) = false) ∨ (¬ (b9 p.vars p.arrays d (e.kids.getD 0 b85) % 2 = 1)) := Or.imp (fun hq => (hq)) (fun hq => of_decide_eq_false hq) (ca4.1 h1); refine G2 G (t6 (l8 9 [0, 1, 2, 70] (hl (e.kids.getD 0 b85) (aW1 he (aB6 he (by assumption)))) (l8 10 [] (A6 (b9 p.vars p.arrays d (e.kids.getD 0 b85))) (l8 17 (rg 4) hcon t5))) (fc h0 (fc h1 fz)) (us [(4, 10, 0), (1011, 1011, 0), (13, 17, 1), (1018, 1018, 1)])) [0, 1, 3, 7, 15, 15, 47, 111, 239, 511, 1023, 2047, 4095, 8191, 16383, 8191, 40959, 131071, 262143, 524287] (rg 4) [dI p.vars, dI p.arrays, dT p.body, dE e.kids] [(4, bA (e.kids.any (p6 p.vars p.arrays d)))] (iX 0 0 e.kids.length []) (iK (by have := aB6 he (by assumption); omega) b94) fun G => b7 (wp_ret ?_); exact B5 (e.kids.any (p6 p.vars p.arrays d)) G (rg 4) (bG6 (by assumption))
   · have q1 : ((d8 (b9 p.vars p.arrays d (e.kids.getD 0 b85))) = true) ∧ (b9 p.vars p.arrays d (e.kids.getD 0 b85) % 2 = 1) := And.imp (fun hq => (hq)) (fun hq => of_decide_eq_true hq) (ca6.1 h1); refine G2 G (t6 (l8 9 [0, 1, 2, 70] (hl (e.kids.getD 0 b85) (aW1 he (aB6 he (by assumption)))) (l8 10 [] (A6 (b9 p.vars p.arrays d (e.kids.getD 0 b85))) t5)) (fc h0 (fc h1 fz)) (us [(4, 10, 0), (1011, 1011, 0), (13, 17, 1), (1018, 1018, 1)])) [0, 1, 3, 7, 15, 15, 47, 111, 239, 511, 1023, 2047, 4095, 8191, 16383, 8191, 40959, 131071, 262143, 524287] (rg 4) [dI p.vars, dI p.arrays, dT p.body, dE e.kids] [(4, bA true)] (iX 0 0 e.kids.length []) (iK (by have := aB6 he (by assumption); omega) b94) fun G => b7 (wp_ret ?_); exact B5 true G (rg 4) (bv0 (by assumption) (by assumption))
theorem aM9 (p : d7) : ∀ (d : Nat) (e : b5), okS p.vars.length p.arrays.length d e → k6.ok Tryz.prog (bn0 p d e) := by
 intro d
 induction d with
 | zero =>
  intro e h
  have h0 : e.kind = 0 ∧ e.kids = [] := h.resolve_right (by simp [f5])
  have := an2 p 0 e (fun x hx => by rw [h0.2] at hx; cases hx) (.inl h0)
  have e1 : p6 p.vars p.arrays 1 e = p6 p.vars p.arrays 0 e := by rw [p6, p6, h0.2]; simp [h0.1]
  unfold bn0 at this ⊢
  rw [cc3, e1] at this
  exact this
 | succ d ih => intro e h; exact an2 p d e (fun x hx => ih x (bI1 h hx)) h
theorem ae3 (p : d7) (e : b5) (he : okS p.vars.length p.arrays.length 5 e) : k6.ok Tryz.prog (F6 143 [pA 0, eA e 3] (pS p ++ eS e) (bA (p6 p.vars p.arrays 5 e))) := aM9 p 5 e he
section
variable {p : d7} {s : b6}
theorem il3 (k : s.kind = 3) (h : (d8 (i9 p s.value) && decide (i9 p s.value % 2 = 1)) = true) : W6 p s = 3 := by rw [W6, if_pos ⟨k, (show x5 _ = true from h)⟩]
theorem ili (k : s.kind = 2) (h : (d8 (i9 p s.index) && decide (i9 p s.index % 2 = 1)) = true) : W6 p s = 4 := by
 rw [W6, if_neg (by omega), if_pos (.inl ⟨k, (show x5 _ = true from h)⟩)]
theorem ilv (h3 : ¬ s.kind = 3 ∨ (d8 (i9 p s.value) && decide (i9 p s.value % 2 = 1)) = false) (h : p6 p.vars p.arrays 5 s.value = true) : W6 p s = 4 := by
 rw [W6, if_neg (by rintro ⟨a, b⟩; exact h3.elim (fun h => h a) (fun h => Bool.false_ne_true (h.symm.trans b))), if_pos (.inr h)]
theorem il0 (h3 : ¬ s.kind = 3 ∨ (d8 (i9 p s.value) && decide (i9 p s.value % 2 = 1)) = false) (h2 : ¬ s.kind = 2 ∨ (d8 (i9 p s.index) && decide (i9 p s.index % 2 = 1)) = false) (h : p6 p.vars p.arrays 5 s.value = false) : W6 p s = 0 := by
 rw [W6, if_neg (by rintro ⟨a, b⟩; exact h3.elim (fun h => h a) (fun h => Bool.false_ne_true (h.symm.trans b))), if_neg]
 rintro (⟨a, b⟩ | b)
 ·rcases h2 with h | h
  ·exact h a
  ·exact Bool.false_ne_true (h.symm.trans b)
 ·rw [h] at b; cases b
end
abbrev aE2 (p : d7) (s : b6) (r0 : List It) : List It := dI p.vars :: dI p.arrays :: dT p.body :: dE s.index.kids :: dE s.value.kids :: dT s.body :: dT s.els :: r0
theorem bV6 (p : d7) (s : b6) (cx : Int) (h : t7 p.vars.length p.arrays.length s = true) (hv : okS p.vars.length p.arrays.length 5 s.value) : k6.ok Tryz.prog (F6 68 [pA 0, sA s 3, iA cx] (pS p ++ sS s) (iA (W6 p s))) := by
  refine A2 35 Tryz.func68 (aE2 p s []) [(0, pA 0), (1, sA s 3), (2, iA cx)] fun G => ?_; refine wp_seq (k8 G d9 [0, 1, 2, 3, 4, 5, 6, 7, 15] (aE2 p s [.box (pL 0), .box (sL s 3)]) [(3, .ptr 7 0), (4, .ptr 8 0), (6, iA 0)] fun G => b7 (wp_seq (wp_block (wp_seq ?_)))); cases h0 : (s.kind == 3)
  ·
   have q0 := ne_of_beq_false h0; refine l5 G (O2 (fc h0 fz) (us [(4, 8, 0), (1009, 1009, 0)])) [(7, bA false)] fun G => b7 (rF G false (by kernel_rfl) (wp_seq ?_)); cases h1 : (s.kind == 2)
   ·
    have q1 := ne_of_beq_false h1; refine k8 G (t6 (l8 14 [0, 1, 2, 4] (ae3 p s.value (by assumption)) t5) (fc h1 (fc (b := false) rfl fz)) (us [(4, 8, 0), (1009, 1009, 0), (11, 14, 1), (1015, 1015, 1)])) (rg 7) (aE2 p s []) [(6, iA 0), (18, bA (p6 p.vars p.arrays 5 s.value))] fun G => b7 (rcB G (fun h2 => ?_) fun h2 => ?_)
    · refine wp_skip (m6 (b7 (wp_seq (l5 G d9 [] fun G => b7 (wp_ret ?_))))); exact J9 0 G (rg 7) (il0 (by exact .inl (by omega)) (by exact .inl (by omega)) (by with_reducible assumption))
    · refine wp_seq (l5 G d9 [(6, iA 4)] fun G => b7 (wp_ret (A0 (l7 ?_)))); exact J9 4 G (rg 7) (ilv (by exact .inl (by omega)) (by with_reducible assumption))
   ·
    have q1 := eq_of_beq h1; cases h3 : (d8 (i9 p s.index) && decide (i9 p s.index % (2 : Int) = 1))
    ·
     have q3 : ((d8 (i9 p s.index)) = false) ∨ (¬ (i9 p s.index % 2 = 1)) := Or.imp (fun hq => (hq)) (fun hq => of_decide_eq_false hq) (ca4.1 h3); refine k8 G (t6 (l8 7 (rg 4) (U4 p s.index (W9 h (by assumption))) (l8 8 [] (A6 (i9 p s.index)) (l8 14 [0, 1, 2, 4] (ae3 p s.value (by assumption)) t5))) (fc h1 (fc h3 fz)) (us [(4, 8, 0), (1009, 1009, 0), (11, 14, 1), (1015, 1015, 1)])) (rg 7) (aE2 p s []) [(6, iA 0), (18, bA (p6 p.vars p.arrays 5 s.value))] fun G => b7 (rcB G (fun h4 => ?_) fun h4 => ?_)
     · refine wp_skip (m6 (b7 (wp_seq (l5 G d9 [] fun G => b7 (wp_ret ?_))))); exact J9 0 G (rg 7) (il0 (by exact .inl (by omega)) (by exact .inr (by with_reducible assumption)) (by with_reducible assumption))
     · refine wp_seq (l5 G d9 [(6, iA 4)] fun G => b7 (wp_ret (A0 (l7 ?_)))); exact J9 4 G (rg 7) (ilv (by exact .inl (by omega)) (by with_reducible assumption))
    · have q3 : ((d8 (i9 p s.index)) = true) ∧ (i9 p s.index % 2 = 1) := And.imp (fun hq => (hq)) (fun hq => of_decide_eq_true hq) (ca6.1 h3); refine k8 G (t6 (l8 7 (rg 4) (U4 p s.index (W9 h (by assumption))) (l8 8 [] (A6 (i9 p s.index)) t5)) (fc h1 (fc h3 fz)) (us [(4, 8, 0), (1009, 1009, 0), (11, 14, 1), (1015, 1015, 1)])) (rg 7) (aE2 p s []) [(6, iA 0), (18, bA true)] fun G => b7 (rT G true (by kernel_rfl) (wp_seq (l5 G d9 [(6, iA 4)] fun G => b7 (wp_ret (A0 (l7 ?_)))))); exact J9 4 G (rg 7) (ili (by with_reducible assumption) (by with_reducible assumption))
  ·
   have q0 := eq_of_beq h0; refine C9 G (t6 (l8 7 [0, 1, 2, 4] (U4 p s.value (n5 h (by omega))) (l8 8 [] (A6 (i9 p s.value)) t5)) (fc h0 fz) (us [(4, 8, 0), (1009, 1009, 0)])) [(3, .ptr 7 0), (4, .ptr 8 0), (6, iA 0), (7, bA (d8 (i9 p s.value) && decide (i9 p s.value % 2 = 1)))] fun G => b7 ?_; cases h5 : (d8 (i9 p s.value) && decide (i9 p s.value % (2 : Int) = 1))
   ·
    have q5 : ((d8 (i9 p s.value)) = false) ∨ (¬ (i9 p s.value % 2 = 1)) := Or.imp (fun hq => (hq)) (fun hq => of_decide_eq_false hq) (ca4.1 h5); refine rF G _ h5 (wp_seq ?_); cases h6 : (s.kind == 2)
    ·
     have q6 := ne_of_beq_false h6; refine k8 G (t6 (l8 14 [0, 1, 2, 4] (ae3 p s.value (by assumption)) t5) (fc h6 (fc (b := false) rfl fz)) (us [(4, 8, 0), (1009, 1009, 0), (11, 14, 1), (1015, 1015, 1)])) (rg 7) (aE2 p s []) [(6, iA 0), (18, bA (p6 p.vars p.arrays 5 s.value))] fun G => b7 (rcB G (fun h7 => ?_) fun h7 => ?_)
     · refine wp_skip (m6 (b7 (wp_seq (l5 G d9 [] fun G => b7 (wp_ret ?_))))); exact J9 0 G (rg 7) (il0 (by exact .inr (by with_reducible assumption)) (by exact .inl (by omega)) (by with_reducible assumption))
     · refine wp_seq (l5 G d9 [(6, iA 4)] fun G => b7 (wp_ret (A0 (l7 ?_)))); exact J9 4 G (rg 7) (ilv (by exact .inr (by with_reducible assumption)) (by with_reducible assumption))
    · have q6 := eq_of_beq h6; exact False.elim (by omega)
   · have q5 : ((d8 (i9 p s.value)) = true) ∧ (i9 p s.value % 2 = 1) := And.imp (fun hq => (hq)) (fun hq => of_decide_eq_true hq) (ca6.1 h5); refine rT G _ h5 (wp_seq (k8 G d9 (rg 7) (aE2 p s []) [(6, iA 3)] fun G => b7 (wp_ret (A0 (l7 ?_))))); exact J9 3 G (rg 7) (il3 (by with_reducible assumption) (by with_reducible assumption))
abbrev fcB (f : Nat) (c n a : Int) : List It := [.box [iA c], .box [.bm f [pA 0]], .box [iA n], .box [iA a]]
abbrev aq4 : Nat := 67
abbrev aq3 : Nat := 68
abbrev G6 (p : d7) : b6 × Int → Int := fun x => N2 p x.1 x.2
abbrev G5 (p : d7) : b6 × Int → Int := fun x => W6 p x.1
section
variable {R : b6 × Int → Int} {c a : Int} {n : Nat} {x : b6 × Int}
theorem bY1 (h : ¬ c = 0) : (f9 R (c, a, n) x).1 = c := by unfold f9; rw [if_neg h]
theorem bY0 (h : ¬ c = 0) : (f9 R (c, a, n) x).2.1 = a := by unfold f9; rw [if_neg h]
theorem aG9 : (f9 R (c, a, n) x).2.2 = n + 1 := by unfold f9; split <;> rfl
theorem bG3 (h : c = 0) : (f9 R (c, a, n) x).1 = R x := by unfold f9; rw [if_pos h]
theorem bX9 (h : c = 0) (hr : R x = 0) : (f9 R (c, a, n) x).2.1 = a := by unfold f9; rw [if_pos h, if_pos hr]
theorem bX8 (h : c = 0) (hr : ¬ R x = 0) : (f9 R (c, a, n) x).2.1 = n := by unfold f9; rw [if_pos h, if_neg hr]
end
abbrev aO1 (p : d7) (s : b6) (cx : Int) (c : Int) (b : Int) (n : Nat) : List It := [dI p.vars, dI p.arrays, dT p.body, .box [iA (f9 (G6 p) (c, b, n) (s, cx)).fst], .box [.bm aq4 [pA 0]], .box [iA ((f9 (G6 p) (c, b, n) (s, cx)).snd.snd : Int)], .box [iA (f9 (G6 p) (c, b, n) (s, cx)).snd.fst], dE s.index.kids, dE s.value.kids, dT s.body, dT s.els]
abbrev aE1 (s : b6) (r0 : List It) : List It := dE s.index.kids :: dE s.value.kids :: dT s.body :: dT s.els :: r0
theorem bL7 (p : d7) (s : b6) (cx : Int) (c b : Int) (n : Nat) (hn : n + 1 ≤ 4000000) (h : t7 p.vars.length p.arrays.length s = true) :
    k6.ok Tryz.prog ⟨137, [sA s 7, iA cx, .ptr 3 0, .ptr 4 0, .ptr 5 0, .ptr 6 0], pS p ++ fcB aq4 c n b ++ sS s,
      pS p ++ fcB aq4 (f9 (G6 p) (c, b, n) (s, cx)).1 (f9 (G6 p) (c, b, n) (s, cx)).2.2 (f9 (G6 p) (c, b, n) (s, cx)).2.1 ++ sS s, .tup []⟩ := by
  refine A2 19 Tryz.func137 (dI p.vars :: dI p.arrays :: dT p.body :: .box [iA c] :: .box [.bm 67 [pA 0]] :: .box [iA n] :: .box [iA b] :: (aE1 s [])) [(0, sA s 7), (1, iA cx), (2, .ptr 3 0), (3, .ptr 4 0), (4, .ptr 5 0), (5, .ptr 6 0)] fun G => ?_; refine wp_seq (k8 G d9 (rg 12) (dI p.vars :: dI p.arrays :: dT p.body :: .box [iA c] :: .box [.bm 67 [pA 0]] :: .box [iA n] :: .box [iA b] :: (aE1 s [.box (sL s 7)])) [(1, iA cx), (2, .ptr 3 0), (3, .ptr 4 0), (4, .ptr 5 0), (5, .ptr 6 0), (6, .ptr 11 0)] fun G => b7 (wp_seq (wp_seq (l5 G d9 [(9, bA (c == 0))] fun G => b7 (P9 G (fun h0 q0 => ?_) fun h0 q0 => ?_)))))
  · refine wp_skip (b7 (O1 G d9 (rg 11) (dI p.vars :: dI p.arrays :: dT p.body :: .box [iA c] :: .box [.bm 67 [pA 0]] :: .box [iA ((n : Int) + 1)] :: .box [iA b] :: (aE1 s [])) [] [wO ((n : Int) + 1)] (o1 (by omega)) fun G => ?_)); exact ax1 G (rg 11) (by show _ = mR (rg 11) (aO1 p s cx c b n); unfold aO1; have e1 : ((f9 (G6 p) (c, b, n) (s, cx)).fst : Int) = (c) := (bY1 (by assumption)); have e2 : (((f9 (G6 p) (c, b, n) (s, cx)).snd.snd : Int) : Int) = ((n : Int) + 1) := (congrArg Int.ofNat aG9); have e3 : ((f9 (G6 p) (c, b, n) (s, cx)).snd.fst : Int) = (b) := (bY0 (by assumption)); (first | rw [e1, e2, e3] | simp only [e1, e2, e3]) <;> rfl)
  ·
   refine wp_seq (k8 G (s6 3 [0, 1, 2, 7, 8, 9, 10] (bV7 p s cx (by assumption))) (rg 11) (dI p.vars :: dI p.arrays :: dT p.body :: .box [iA (N2 p s cx)] :: .box [.bm 67 [pA 0]] :: .box [iA n] :: .box [iA b] :: (aE1 s [])) [(2, .ptr 3 0), (4, .ptr 5 0), (5, .ptr 6 0)] fun G => b7 (wp_seq (l5 G d9 [(15, bA (N2 p s cx != 0))] fun G => b7 (rcN G (fun h1 q1 => ?_) fun h1 q1 => ?_))))
   · refine wp_skip (b7 (O1 G d9 (rg 11) (dI p.vars :: dI p.arrays :: dT p.body :: .box [iA (N2 p s cx)] :: .box [.bm 67 [pA 0]] :: .box [iA ((n : Int) + 1)] :: .box [iA b] :: (aE1 s [])) [] [wO ((n : Int) + 1)] (o1 (by omega)) fun G => ?_)); exact ax1 G (rg 11) (by show _ = mR (rg 11) (aO1 p s cx c b n); unfold aO1; have e1 : ((f9 (G6 p) (c, b, n) (s, cx)).fst : Int) = (N2 p s cx) := (bG3 (by assumption)); have e2 : (((f9 (G6 p) (c, b, n) (s, cx)).snd.snd : Int) : Int) = ((n : Int) + 1) := (congrArg Int.ofNat aG9); have e3 : ((f9 (G6 p) (c, b, n) (s, cx)).snd.fst : Int) = (b) := (bX9 (by assumption) (by assumption)); (first | rw [e1, e2, e3] | simp only [e1, e2, e3]) <;> rfl)
   · refine k8 G d9 (rg 11) (dI p.vars :: dI p.arrays :: dT p.body :: .box [iA (N2 p s cx)] :: .box [.bm 67 [pA 0]] :: .box [iA n] :: .box [iA n] :: (aE1 s [])) [(4, .ptr 5 0)] fun G => b7 (O1 G d9 (rg 11) (dI p.vars :: dI p.arrays :: dT p.body :: .box [iA (N2 p s cx)] :: .box [.bm 67 [pA 0]] :: .box [iA ((n : Int) + 1)] :: .box [iA n] :: (aE1 s [])) [] [wO ((n : Int) + 1)] (o1 (by omega)) fun G => ?_); exact ax1 G (rg 11) (by show _ = mR (rg 11) (aO1 p s cx c b n); unfold aO1; have e1 : ((f9 (G6 p) (c, b, n) (s, cx)).fst : Int) = (N2 p s cx) := (bG3 (by assumption)); have e2 : (((f9 (G6 p) (c, b, n) (s, cx)).snd.snd : Int) : Int) = ((n : Int) + 1) := (congrArg Int.ofNat aG9); have e3 : ((f9 (G6 p) (c, b, n) (s, cx)).snd.fst : Int) = ((n : Int)) := (bX8 (by assumption) (by assumption)); (first | rw [e1, e2, e3] | simp only [e1, e2, e3]) <;> rfl)
def O4 (R : b6 × Int → Int) (p : d7) (d : Nat) (cx : Int) (ss : List b6) (c b : Int) (n k : Nat) : Int × Int × Nat := (y6 p (d + 1) cx (ss.take k)).foldl (f9 R) (c, b, n)
section
variable {R : b6 × Int → Int} {p : d7} {d : Nat} {cx : Int} {ss : List b6} {c b : Int} {n k : Nat}
theorem bp7 (hk : k < ss.length) (h : (ss.getD k b85).kind = 3) : O4 R p d cx ss c b n (k + 1) = (y6 p d (i6 cx (i9 p (ss.getD k b85).value)) (ss.getD k b85).els).foldl (f9 R) ((y6 p d (i6 cx (i9 p (ss.getD k b85).value)) (ss.getD k b85).body).foldl (f9 R) (f9 R (O4 R p d cx ss c b n k) (ss.getD k b85, cx))) := by
 unfold O4; rw [aP0 hk]; unfold D9; rw [if_pos h]
theorem b27 (hk : k < ss.length) (h : ¬ (ss.getD k b85).kind = 3) : O4 R p d cx ss c b n (k + 1) = (y6 p d cx (ss.getD k b85).els).foldl (f9 R) ((y6 p d cx (ss.getD k b85).body).foldl (f9 R) (f9 R (O4 R p d cx ss c b n k) (ss.getD k b85, cx))) := by
 unfold O4; rw [aP0 hk]; unfold D9; rw [if_neg h]
theorem ax7 (hk : ss.length ≤ k) : (y6 p (d + 1) cx ss).foldl (f9 R) (c, b, n) = O4 R p d cx ss c b n k := by unfold O4; rw [ca3 hk]
theorem bc9 : (O4 R p d cx ss c b n k).2.2 ≤ n + L8 (ss.take k) := by
 unfold O4; rw [aw8]
 have := au5 p (d + 1) cx (ss.take k)
 simp only; omega
theorem bk9 (hk : k < ss.length) (hn : n + L8 ss ≤ 4000000) : (O4 R p d cx ss c b n k).2.2 + 1 ≤ 4000000 := by
 have h1 := bc9 (R := R) (p := p) (d := d) (cx := cx) (ss := ss) (c := c) (b := b) (n := n) (k := k)
 have h2 := a72 hk
 omega
theorem aC6 (hk : k < ss.length) (hn : n + L8 ss ≤ 4000000) : (f9 R ((O4 R p d cx ss c b n k).1, (O4 R p d cx ss c b n k).2.1, (O4 R p d cx ss c b n k).2.2) (ss.getD k b85, cx)).2.2 + L8 (ss.getD k b85).body ≤ 4000000 := by
 have h1 := bc9 (R := R) (p := p) (d := d) (cx := cx) (ss := ss) (c := c) (b := b) (n := n) (k := k)
 have h2 := a72 hk
 rw [aG9]
 omega
theorem aC5 {cy : Int} (hk : k < ss.length) (hn : n + L8 ss ≤ 4000000) {σ : Int × Int × Nat} (hσ : σ.2.2 = (O4 R p d cx ss c b n k).2.2 + 1) : ((y6 p d cy (ss.getD k b85).body).foldl (f9 R) σ).2.2 + L8 (ss.getD k b85).els ≤ 4000000 := by
 have h1 := bc9 (R := R) (p := p) (d := d) (cx := cx) (ss := ss) (c := c) (b := b) (n := n) (k := k)
 have h2 := a72 hk
 rw [aw8, hσ]
 have h3 := au5 p d cy (ss.getD k b85).body
 omega
end
abbrev aF2 (p : d7) (d : Nat) (ss : List b6) (cx : Int) (c : Int) (b : Int) (n : Nat) (k : Nat) := cb6 (f9 (G6 p)) (f9 (G6 p) (O4 (G6 p) p d cx ss c b n k) (ss.getD k b85, cx)) (y6 p d (i6 cx (i9 p (ss.getD k b85).value)) (ss.getD k b85).body)
abbrev ar5 (p : d7) (d : Nat) (ss : List b6) (cx : Int) (c : Int) (b : Int) (n : Nat) (k : Nat) := cb6 (f9 (G6 p)) (f9 (G6 p) (O4 (G6 p) p d cx ss c b n k) (ss.getD k b85, cx)) (y6 p d cx (ss.getD k b85).body)
abbrev aO0 (p : d7) (d : Nat) (ss : List b6) (cx : Int) (c : Int) (b : Int) (n : Nat) (k : Nat) := cb6 (f9 (G6 p)) (aF2 p d ss cx c b n k) (y6 p d (i6 cx (i9 p (ss.getD k b85).value)) (ss.getD k b85).els)
abbrev ar4 (p : d7) (d : Nat) (ss : List b6) (cx : Int) (c : Int) (b : Int) (n : Nat) (k : Nat) := f9 (G6 p) (O4 (G6 p) p d cx ss c b n k) (ss.getD k b85, cx)
abbrev am2 : AV := .fn 137 [.ptr 3 0, .ptr 4 0, .ptr 5 0, .ptr 6 0]
abbrev bf1 (ss : List b6) (k : Nat) (r0 : List It) : List It := dT ss :: .box (pL 0) :: dE (ss.getD k b85).index.kids :: dE (ss.getD k b85).value.kids :: dT (ss.getD k b85).body :: dT (ss.getD k b85).els :: .box (sL (ss.getD k b85) 9) :: r0
abbrev aE0 (ss : List b6) (k : Nat) (r0 : List (Nat × AV)) : List (Nat × AV) := (11, .ref 7) :: (12, iA (ss.length : Int)) :: (13, iA (k : Int)) :: r0
theorem a66 (p : d7) (d : Nat) (ss : List b6) (ih : ∀ (tt : List b6) (cx : Int) (c b : Int) (n : Nat), 0 < ss.length → tt.all (f6 p.vars.length p.arrays.length d) = true → n + L8 tt ≤ 4000000 → k6.ok Tryz.prog ⟨93, [pA 0, .ref 7, iA cx, .fn 137 [.ptr 3 0, .ptr 4 0, .ptr 5 0, .ptr 6 0]], pS p ++ fcB aq4 c n b ++ [.dat (.stmts tt)],
      pS p ++ fcB aq4 ((y6 p d cx tt).foldl (f9 (G6 p)) (c, b, n)).1 ((y6 p d cx tt).foldl (f9 (G6 p)) (c, b, n)).2.2 ((y6 p d cx tt).foldl (f9 (G6 p)) (c, b, n)).2.1 ++ [.dat (.stmts tt)], .tup []⟩)
    (cx : Int) (c b : Int) (n : Nat) (hs : ss.all (f6 p.vars.length p.arrays.length (d + 1)) = true) (hn : n + L8 ss ≤ 4000000) : k6.ok Tryz.prog ⟨93, [pA 0, .ref 7, iA cx, .fn 137 [.ptr 3 0, .ptr 4 0, .ptr 5 0, .ptr 6 0]], pS p ++ fcB aq4 c n b ++ [.dat (.stmts ss)],
      pS p ++ fcB aq4 ((y6 p (d + 1) cx ss).foldl (f9 (G6 p)) (c, b, n)).1 ((y6 p (d + 1) cx ss).foldl (f9 (G6 p)) (c, b, n)).2.2 ((y6 p (d + 1) cx ss).foldl (f9 (G6 p)) (c, b, n)).2.1 ++ [.dat (.stmts ss)], .tup []⟩ := by
  refine A2 44 Tryz.func93 [dI p.vars, dI p.arrays, dT p.body, .box [iA c], .box [.bm 67 [pA 0]], .box [iA n], .box [iA b], dT ss] [(0, pA 0), (1, .ref 7), (2, iA cx), (3, am2)] fun G => ?_; have hlen : ss.length ≤ 9223372036854775807 := G.len 7 (d := .stmts ss) (by kernel_rfl); refine wp_seq (k8 G d9 (rg 9) [dI p.vars, dI p.arrays, dT p.body, .box [iA c], .box [.bm 67 [pA 0]], .box [iA n], .box [iA b], dT ss, .box (pL 0)] [(1, .ref 7), (2, iA cx), (3, am2), (4, .ptr 8 0)] fun G => b7 (wp_seq (C9 G d9 [(2, iA cx), (3, am2), (4, .ptr 8 0), (11, .ref 7), (12, iA (ss.length : Int)), (13, iA 0)] fun G => b7 (wp_block ?_)))); refine o9 (κ := Nat) (fun k => k ≤ ss.length) (fun k => ss.length - k) (fun k => [dI p.vars, dI p.arrays, dT p.body, .box [iA (O4 (G6 p) p d cx ss c b n k).1], .box [.bm 67 [pA 0]], .box [iA (O4 (G6 p) p d cx ss c b n k).2.2], .box [iA (O4 (G6 p) p d cx ss c b n k).2.1], dT ss, .box (pL 0)]) (fun k => [(2, iA cx), (3, .fn 137 [.ptr 3 0, .ptr 4 0, .ptr 5 0, .ptr 6 0]), (4, .ptr 8 0), (11, .ref 7), (12, iA (ss.length : Int)), (13, iA k)]) 0 (by simp [hs]) (s5.at G _ _) ?_; clear G; intro k ρ a w hp G; replace G := s5.at G [dI p.vars, dI p.arrays, dT p.body, .box [iA (O4 (G6 p) p d cx ss c b n k).fst], .box [.bm 67 [pA 0]], .box [iA ((O4 (G6 p) p d cx ss c b n k).snd.snd : Int)], .box [iA (O4 (G6 p) p d cx ss c b n k).snd.fst], dT ss, .box (pL 0)] ((2, iA cx) :: (3, am2) :: (4, .ptr 8 0) :: (aE0 ss k [])); refine wp_seq (l5 G d9 [(14, bA (decide ((k : Int) < ss.length)))] fun G => b7 (wp_seq (O0 G (fun h0 q0 => ?_) fun h0 q0 => ?_)))
  · refine wp_exit (o5 (o5 (n9 ?_))); exact ax1 G (rg 8) (by show _ = mR (rg 8) [dI p.vars, dI p.arrays, dT p.body, .box [iA (cb6 (f9 (G6 p)) (c, b, n) (y6 p (d + 1) cx ss)).fst], .box [.bm aq4 [pA 0]], .box [iA ((cb6 (f9 (G6 p)) (c, b, n) (y6 p (d + 1) cx ss)).snd.snd : Int)], .box [iA (cb6 (f9 (G6 p)) (c, b, n) (y6 p (d + 1) cx ss)).snd.fst], dT ss]; have e1 : ((cb6 (f9 (G6 p)) (c, b, n) (y6 p (d + 1) cx ss)).fst : Int) = ((O4 (G6 p) p d cx ss c b n k).fst) := (congrArg Prod.fst (ax7 (by omega))); have e2 : (((cb6 (f9 (G6 p)) (c, b, n) (y6 p (d + 1) cx ss)).snd.snd : Int) : Int) = (((O4 (G6 p) p d cx ss c b n k).snd.snd : Int)) := (congrArg (fun x : Int × Int × Nat => Int.ofNat x.2.2) (ax7 (by omega))); have e3 : ((cb6 (f9 (G6 p)) (c, b, n) (y6 p (d + 1) cx ss)).snd.fst : Int) = ((O4 (G6 p) p d cx ss c b n k).snd.fst) := (congrArg (fun x : Int × Int × Nat => x.2.1) (ax7 (by omega))); (first | rw [e1, e2, e3] | simp only [e1, e2, e3]) <;> rfl)
  ·
   refine wp_skip (b7 (wp_seq (wp_block (wp_seq (O1 G d9 [0, 1, 2, 3, 4, 5, 6, 7, 8, 17, 18, 19, 20, 25] (dI p.vars :: dI p.arrays :: dT p.body :: .box [iA (O4 (G6 p) p d cx ss c b n k).fst] :: .box [.bm 67 [pA 0]] :: .box [iA ((O4 (G6 p) p d cx ss c b n k).snd.snd : Int)] :: .box [iA (O4 (G6 p) p d cx ss c b n k).snd.fst] :: (bf1 ss k [])) ((2, iA cx) :: (3, am2) :: (4, .ptr 8 0) :: (9, .ptr 13 0) :: (aE0 ss k [])) (iX k k ss.length []) (iK (by omega) b94) fun G => b7 (wp_seq (k8 G (s6 3 [0, 1, 2, 3, 4, 5, 6, 9, 10, 11, 12] (bL7 p (ss.getD k b85) cx ((O4 (G6 p) p d cx ss c b n k).fst) ((O4 (G6 p) p d cx ss c b n k).snd.fst) ((O4 (G6 p) p d cx ss c b n k).snd.snd) (bk9 (by omega) hn) ((A7 hs (by omega)).1))) (rg 14) (dI p.vars :: dI p.arrays :: dT p.body :: .box [iA (ar4 p d ss cx c b n k).fst] :: .box [.bm 67 [pA 0]] :: .box [iA ((ar4 p d ss cx c b n k).snd.snd : Int)] :: .box [iA (ar4 p d ss cx c b n k).snd.fst] :: (bf1 ss k [])) ((2, iA cx) :: (3, am2) :: (4, .ptr 8 0) :: (9, .ptr 13 0) :: (aE0 ss k [])) fun G => b7 (wp_seq (l5 G d9 [(10, iA cx)] fun G => b7 (wp_seq (wp_seq (l5 G d9 [(24, bA ((ss.getD k b85).kind == 3))] fun G => b7 (P9 G (fun h1 q1 => ?_) fun h1 q1 => ?_)))))))))))))
   · refine wp_skip (b7 (wp_seq (k8 G (s6 5 [0, 1, 2, 3, 4, 5, 6, 11] (ih ((ss.getD k b85).body) cx ((ar4 p d ss cx c b n k).fst) ((ar4 p d ss cx c b n k).snd.fst) ((ar4 p d ss cx c b n k).snd.snd) (by omega) ((A7 hs (by omega)).2.1) (aC6 (by omega) hn))) (rg 14) (dI p.vars :: dI p.arrays :: dT p.body :: .box [iA (ar5 p d ss cx c b n k).fst] :: .box [.bm 67 [pA 0]] :: .box [iA ((ar5 p d ss cx c b n k).snd.snd : Int)] :: .box [iA (ar5 p d ss cx c b n k).snd.fst] :: (bf1 ss k [])) ((2, iA cx) :: (3, am2) :: (4, .ptr 8 0) :: (9, .ptr 13 0) :: (10, iA cx) :: (aE0 ss k [])) fun G => b7 (k8 G (s6 5 [0, 1, 2, 3, 4, 5, 6, 12] (ih ((ss.getD k b85).els) cx ((ar5 p d ss cx c b n k).fst) ((ar5 p d ss cx c b n k).snd.fst) ((ar5 p d ss cx c b n k).snd.snd) (by omega) ((A7 hs (by omega)).2.2) (aC5 (by omega) hn aG9))) (rg 9) [dI p.vars, dI p.arrays, dT p.body, .box [iA (cb6 (f9 (G6 p)) (ar5 p d ss cx c b n k) (y6 p d cx (ss.getD k b85).els)).fst], .box [.bm 67 [pA 0]], .box [iA ((cb6 (f9 (G6 p)) (ar5 p d ss cx c b n k) (y6 p d cx (ss.getD k b85).els)).snd.snd : Int)], .box [iA (cb6 (f9 (G6 p)) (ar5 p d ss cx c b n k) (y6 p d cx (ss.getD k b85).els)).snd.fst], dT ss, .box (pL 0)] ((2, iA cx) :: (3, am2) :: (4, .ptr 8 0) :: (aE0 ss k [])) fun G => m6 (b7 (E2 G d9 [(13, iA ((k : Int) + 1))] [wO ((k : Int) + 1)] (o1 (by omega)) fun G => b7 ?_)))))); exact M8 G (k + 1) (by omega) (by omega) (rg 9) (by have h9 := b27 (R := (G6 p)) (p := p) (d := d) (cx := cx) (ss := ss) (c := c) (b := b) (n := n) (k := k) (by omega) (by assumption); rw [h9] <;> rfl)
   · refine l5 G (s6 4 [0, 1, 2, 10] (U4 p ((ss.getD k b85).value) (n5 (A7 hs (by omega)).1 (by omega)))) [(10, iA (i6 cx (i9 p (ss.getD k b85).value)))] fun G => b7 (wp_seq (k8 G (s6 5 [0, 1, 2, 3, 4, 5, 6, 11] (ih ((ss.getD k b85).body) (i6 cx (i9 p (ss.getD k b85).value)) ((ar4 p d ss cx c b n k).fst) ((ar4 p d ss cx c b n k).snd.fst) ((ar4 p d ss cx c b n k).snd.snd) (by omega) ((A7 hs (by omega)).2.1) (aC6 (by omega) hn))) (rg 14) (dI p.vars :: dI p.arrays :: dT p.body :: .box [iA (aF2 p d ss cx c b n k).fst] :: .box [.bm 67 [pA 0]] :: .box [iA ((aF2 p d ss cx c b n k).snd.snd : Int)] :: .box [iA (aF2 p d ss cx c b n k).snd.fst] :: (bf1 ss k [])) ((2, iA cx) :: (3, am2) :: (4, .ptr 8 0) :: (9, .ptr 13 0) :: (10, iA (i6 cx (i9 p (ss.getD k b85).value))) :: (aE0 ss k [])) fun G => b7 (k8 G (s6 5 [0, 1, 2, 3, 4, 5, 6, 12] (ih ((ss.getD k b85).els) (i6 cx (i9 p (ss.getD k b85).value)) ((aF2 p d ss cx c b n k).fst) ((aF2 p d ss cx c b n k).snd.fst) ((aF2 p d ss cx c b n k).snd.snd) (by omega) ((A7 hs (by omega)).2.2) (aC5 (by omega) hn aG9))) (rg 9) [dI p.vars, dI p.arrays, dT p.body, .box [iA (aO0 p d ss cx c b n k).fst], .box [.bm 67 [pA 0]], .box [iA ((aO0 p d ss cx c b n k).snd.snd : Int)], .box [iA (aO0 p d ss cx c b n k).snd.fst], dT ss, .box (pL 0)] ((2, iA cx) :: (3, am2) :: (4, .ptr 8 0) :: (aE0 ss k [])) fun G => m6 (b7 (E2 G d9 [(13, iA ((k : Int) + 1))] [wO ((k : Int) + 1)] (o1 (by omega)) fun G => b7 ?_))))); exact M8 G (k + 1) (by omega) (by omega) (rg 9) (by have e1 : ((O4 (G6 p) p d cx ss c b n (k + 1)).fst : Int) = ((aO0 p d ss cx c b n k).fst) := (congrArg Prod.fst (bp7 (by omega) (by assumption))); have e2 : (((O4 (G6 p) p d cx ss c b n (k + 1)).snd.snd : Int) : Int) = (((aO0 p d ss cx c b n k).snd.snd : Int)) := (congrArg (fun x : Int × Int × Nat => Int.ofNat x.2.2) (bp7 (by omega) (by assumption))); have e3 : ((O4 (G6 p) p d cx ss c b n (k + 1)).snd.fst : Int) = ((aO0 p d ss cx c b n k).snd.fst) := (congrArg (fun x : Int × Int × Nat => x.2.1) (bp7 (by omega) (by assumption))); (first | rw [e1, e2, e3] | simp only [e1, e2, e3]) <;> rfl)
theorem bW1 {nv na d k : Nat} {ss : List b6} (hs : ss.all (f6 nv na (d + 1)) = true) (hk : k < ss.length) : okS nv na 5 (ss.getD k b85).value := by
 have h1 := A7 hs hk
 by_cases k4 : (ss.getD k b85).kind = 4
 ·have h0 := b93.1 hs _ (cb0 hk)
  rw [← n6 (d := b85) hk] at h0
  rw [f6, b86] at h0
  have h2 := h0.1
  unfold z6 at h2
  rw [if_pos (.inr k4), if_pos k4] at h2
  simp only [b86, decide_eq_true_eq, noneB] at h2
  exact .inl ⟨h2.2.2.1.1, ca0 h2.2.2.2⟩
 ·exact .inr (n5 h1.1 k4)
abbrev aN9 (p : d7) (s : b6) (cx : Int) (c : Int) (b : Int) (n : Nat) : List It := [dI p.vars, dI p.arrays, dT p.body, .box [iA (f9 (G5 p) (c, b, n) (s, cx)).fst], .box [.bm aq3 [pA 0]], .box [iA ((f9 (G5 p) (c, b, n) (s, cx)).snd.snd : Int)], .box [iA (f9 (G5 p) (c, b, n) (s, cx)).snd.fst], dE s.index.kids, dE s.value.kids, dT s.body, dT s.els]
abbrev aD9 (s : b6) (r0 : List It) : List It := dE s.index.kids :: dE s.value.kids :: dT s.body :: dT s.els :: r0
theorem bL6 (p : d7) (s : b6) (cx : Int) (c b : Int) (n : Nat) (hn : n + 1 ≤ 4000000) (h : t7 p.vars.length p.arrays.length s = true) (hv : okS p.vars.length p.arrays.length 5 s.value) :
    k6.ok Tryz.prog ⟨137, [sA s 7, iA cx, .ptr 3 0, .ptr 4 0, .ptr 5 0, .ptr 6 0], pS p ++ fcB aq3 c n b ++ sS s,
      pS p ++ fcB aq3 (f9 (G5 p) (c, b, n) (s, cx)).1 (f9 (G5 p) (c, b, n) (s, cx)).2.2 (f9 (G5 p) (c, b, n) (s, cx)).2.1 ++ sS s, .tup []⟩ := by
  refine A2 19 Tryz.func137 (dI p.vars :: dI p.arrays :: dT p.body :: .box [iA c] :: .box [.bm 68 [pA 0]] :: .box [iA n] :: .box [iA b] :: (aD9 s [])) [(0, sA s 7), (1, iA cx), (2, .ptr 3 0), (3, .ptr 4 0), (4, .ptr 5 0), (5, .ptr 6 0)] fun G => ?_; refine wp_seq (k8 G d9 (rg 12) (dI p.vars :: dI p.arrays :: dT p.body :: .box [iA c] :: .box [.bm 68 [pA 0]] :: .box [iA n] :: .box [iA b] :: (aD9 s [.box (sL s 7)])) [(1, iA cx), (2, .ptr 3 0), (3, .ptr 4 0), (4, .ptr 5 0), (5, .ptr 6 0), (6, .ptr 11 0)] fun G => b7 (wp_seq (wp_seq (l5 G d9 [(9, bA (c == 0))] fun G => b7 (P9 G (fun h0 q0 => ?_) fun h0 q0 => ?_)))))
  · refine wp_skip (b7 (O1 G d9 (rg 11) (dI p.vars :: dI p.arrays :: dT p.body :: .box [iA c] :: .box [.bm 68 [pA 0]] :: .box [iA ((n : Int) + 1)] :: .box [iA b] :: (aD9 s [])) [] [wO ((n : Int) + 1)] (o1 (by omega)) fun G => ?_)); exact ax1 G (rg 11) (by show _ = mR (rg 11) (aN9 p s cx c b n); unfold aN9; have e1 : ((f9 (G5 p) (c, b, n) (s, cx)).fst : Int) = (c) := (bY1 (by assumption)); have e2 : (((f9 (G5 p) (c, b, n) (s, cx)).snd.snd : Int) : Int) = ((n : Int) + 1) := (congrArg Int.ofNat aG9); have e3 : ((f9 (G5 p) (c, b, n) (s, cx)).snd.fst : Int) = (b) := (bY0 (by assumption)); (first | rw [e1, e2, e3] | simp only [e1, e2, e3]) <;> rfl)
  ·
   refine wp_seq (k8 G (s6 3 [0, 1, 2, 7, 8, 9, 10] (bV6 p s cx (by assumption) (by assumption))) (rg 11) (dI p.vars :: dI p.arrays :: dT p.body :: .box [iA (W6 p s)] :: .box [.bm 68 [pA 0]] :: .box [iA n] :: .box [iA b] :: (aD9 s [])) [(2, .ptr 3 0), (4, .ptr 5 0), (5, .ptr 6 0)] fun G => b7 (wp_seq (l5 G d9 [(15, bA (W6 p s != 0))] fun G => b7 (rcN G (fun h1 q1 => ?_) fun h1 q1 => ?_))))
   · refine wp_skip (b7 (O1 G d9 (rg 11) (dI p.vars :: dI p.arrays :: dT p.body :: .box [iA (W6 p s)] :: .box [.bm 68 [pA 0]] :: .box [iA ((n : Int) + 1)] :: .box [iA b] :: (aD9 s [])) [] [wO ((n : Int) + 1)] (o1 (by omega)) fun G => ?_)); exact ax1 G (rg 11) (by show _ = mR (rg 11) (aN9 p s cx c b n); unfold aN9; have e1 : ((f9 (G5 p) (c, b, n) (s, cx)).fst : Int) = (W6 p s) := (bG3 (by assumption)); have e2 : (((f9 (G5 p) (c, b, n) (s, cx)).snd.snd : Int) : Int) = ((n : Int) + 1) := (congrArg Int.ofNat aG9); have e3 : ((f9 (G5 p) (c, b, n) (s, cx)).snd.fst : Int) = (b) := (bX9 (by assumption) (by assumption)); (first | rw [e1, e2, e3] | simp only [e1, e2, e3]) <;> rfl)
   · refine k8 G d9 (rg 11) (dI p.vars :: dI p.arrays :: dT p.body :: .box [iA (W6 p s)] :: .box [.bm 68 [pA 0]] :: .box [iA n] :: .box [iA n] :: (aD9 s [])) [(4, .ptr 5 0)] fun G => b7 (O1 G d9 (rg 11) (dI p.vars :: dI p.arrays :: dT p.body :: .box [iA (W6 p s)] :: .box [.bm 68 [pA 0]] :: .box [iA ((n : Int) + 1)] :: .box [iA n] :: (aD9 s [])) [] [wO ((n : Int) + 1)] (o1 (by omega)) fun G => ?_); exact ax1 G (rg 11) (by show _ = mR (rg 11) (aN9 p s cx c b n); unfold aN9; have e1 : ((f9 (G5 p) (c, b, n) (s, cx)).fst : Int) = (W6 p s) := (bG3 (by assumption)); have e2 : (((f9 (G5 p) (c, b, n) (s, cx)).snd.snd : Int) : Int) = ((n : Int) + 1) := (congrArg Int.ofNat aG9); have e3 : ((f9 (G5 p) (c, b, n) (s, cx)).snd.fst : Int) = ((n : Int)) := (bX8 (by assumption) (by assumption)); (first | rw [e1, e2, e3] | simp only [e1, e2, e3]) <;> rfl)
abbrev aF1 (p : d7) (d : Nat) (ss : List b6) (cx : Int) (c : Int) (b : Int) (n : Nat) (k : Nat) := cb6 (f9 (G5 p)) (f9 (G5 p) (O4 (G5 p) p d cx ss c b n k) (ss.getD k b85, cx)) (y6 p d (i6 cx (i9 p (ss.getD k b85).value)) (ss.getD k b85).body)
abbrev ar2 (p : d7) (d : Nat) (ss : List b6) (cx : Int) (c : Int) (b : Int) (n : Nat) (k : Nat) := cb6 (f9 (G5 p)) (f9 (G5 p) (O4 (G5 p) p d cx ss c b n k) (ss.getD k b85, cx)) (y6 p d cx (ss.getD k b85).body)
abbrev aN8 (p : d7) (d : Nat) (ss : List b6) (cx : Int) (c : Int) (b : Int) (n : Nat) (k : Nat) := cb6 (f9 (G5 p)) (aF1 p d ss cx c b n k) (y6 p d (i6 cx (i9 p (ss.getD k b85).value)) (ss.getD k b85).els)
abbrev ac0 (p : d7) (d : Nat) (ss : List b6) (cx : Int) (c : Int) (b : Int) (n : Nat) (k : Nat) := f9 (G5 p) (O4 (G5 p) p d cx ss c b n k) (ss.getD k b85, cx)
abbrev Z0 : AV := .fn 137 [.ptr 3 0, .ptr 4 0, .ptr 5 0, .ptr 6 0]
abbrev bf0 (ss : List b6) (k : Nat) (r0 : List It) : List It := dT ss :: .box (pL 0) :: dE (ss.getD k b85).index.kids :: dE (ss.getD k b85).value.kids :: dT (ss.getD k b85).body :: dT (ss.getD k b85).els :: .box (sL (ss.getD k b85) 9) :: r0
abbrev aD8 (ss : List b6) (k : Nat) (r0 : List (Nat × AV)) : List (Nat × AV) := (11, .ref 7) :: (12, iA (ss.length : Int)) :: (13, iA (k : Int)) :: r0
theorem a65 (p : d7) (d : Nat) (ss : List b6) (ih : ∀ (tt : List b6) (cx : Int) (c b : Int) (n : Nat), 0 < ss.length → tt.all (f6 p.vars.length p.arrays.length d) = true → n + L8 tt ≤ 4000000 → k6.ok Tryz.prog ⟨93, [pA 0, .ref 7, iA cx, .fn 137 [.ptr 3 0, .ptr 4 0, .ptr 5 0, .ptr 6 0]], pS p ++ fcB aq3 c n b ++ [.dat (.stmts tt)],
      pS p ++ fcB aq3 ((y6 p d cx tt).foldl (f9 (G5 p)) (c, b, n)).1 ((y6 p d cx tt).foldl (f9 (G5 p)) (c, b, n)).2.2 ((y6 p d cx tt).foldl (f9 (G5 p)) (c, b, n)).2.1 ++ [.dat (.stmts tt)], .tup []⟩)
    (cx : Int) (c b : Int) (n : Nat) (hs : ss.all (f6 p.vars.length p.arrays.length (d + 1)) = true) (hn : n + L8 ss ≤ 4000000) : k6.ok Tryz.prog ⟨93, [pA 0, .ref 7, iA cx, .fn 137 [.ptr 3 0, .ptr 4 0, .ptr 5 0, .ptr 6 0]], pS p ++ fcB aq3 c n b ++ [.dat (.stmts ss)],
      pS p ++ fcB aq3 ((y6 p (d + 1) cx ss).foldl (f9 (G5 p)) (c, b, n)).1 ((y6 p (d + 1) cx ss).foldl (f9 (G5 p)) (c, b, n)).2.2 ((y6 p (d + 1) cx ss).foldl (f9 (G5 p)) (c, b, n)).2.1 ++ [.dat (.stmts ss)], .tup []⟩ := by
  refine A2 44 Tryz.func93 [dI p.vars, dI p.arrays, dT p.body, .box [iA c], .box [.bm 68 [pA 0]], .box [iA n], .box [iA b], dT ss] [(0, pA 0), (1, .ref 7), (2, iA cx), (3, Z0)] fun G => ?_; have hlen : ss.length ≤ 9223372036854775807 := G.len 7 (d := .stmts ss) (by kernel_rfl); refine wp_seq (k8 G d9 (rg 9) [dI p.vars, dI p.arrays, dT p.body, .box [iA c], .box [.bm 68 [pA 0]], .box [iA n], .box [iA b], dT ss, .box (pL 0)] [(1, .ref 7), (2, iA cx), (3, Z0), (4, .ptr 8 0)] fun G => b7 (wp_seq (C9 G d9 [(2, iA cx), (3, Z0), (4, .ptr 8 0), (11, .ref 7), (12, iA (ss.length : Int)), (13, iA 0)] fun G => b7 (wp_block ?_)))); refine o9 (κ := Nat) (fun k => k ≤ ss.length) (fun k => ss.length - k) (fun k => [dI p.vars, dI p.arrays, dT p.body, .box [iA (O4 (G5 p) p d cx ss c b n k).1], .box [.bm 68 [pA 0]], .box [iA (O4 (G5 p) p d cx ss c b n k).2.2], .box [iA (O4 (G5 p) p d cx ss c b n k).2.1], dT ss, .box (pL 0)]) (fun k => [(2, iA cx), (3, .fn 137 [.ptr 3 0, .ptr 4 0, .ptr 5 0, .ptr 6 0]), (4, .ptr 8 0), (11, .ref 7), (12, iA (ss.length : Int)), (13, iA k)]) 0 (by simp [hs]) (s5.at G _ _) ?_; clear G; intro k ρ a w hp G; replace G := s5.at G [dI p.vars, dI p.arrays, dT p.body, .box [iA (O4 (G5 p) p d cx ss c b n k).fst], .box [.bm 68 [pA 0]], .box [iA ((O4 (G5 p) p d cx ss c b n k).snd.snd : Int)], .box [iA (O4 (G5 p) p d cx ss c b n k).snd.fst], dT ss, .box (pL 0)] ((2, iA cx) :: (3, Z0) :: (4, .ptr 8 0) :: (aD8 ss k [])); refine wp_seq (l5 G d9 [(14, bA (decide ((k : Int) < ss.length)))] fun G => b7 (wp_seq (O0 G (fun h0 q0 => ?_) fun h0 q0 => ?_)))
  · refine wp_exit (o5 (o5 (n9 ?_))); exact ax1 G (rg 8) (by show _ = mR (rg 8) [dI p.vars, dI p.arrays, dT p.body, .box [iA (cb6 (f9 (G5 p)) (c, b, n) (y6 p (d + 1) cx ss)).fst], .box [.bm aq3 [pA 0]], .box [iA ((cb6 (f9 (G5 p)) (c, b, n) (y6 p (d + 1) cx ss)).snd.snd : Int)], .box [iA (cb6 (f9 (G5 p)) (c, b, n) (y6 p (d + 1) cx ss)).snd.fst], dT ss]; have e1 : ((cb6 (f9 (G5 p)) (c, b, n) (y6 p (d + 1) cx ss)).fst : Int) = ((O4 (G5 p) p d cx ss c b n k).fst) := (congrArg Prod.fst (ax7 (by omega))); have e2 : (((cb6 (f9 (G5 p)) (c, b, n) (y6 p (d + 1) cx ss)).snd.snd : Int) : Int) = (((O4 (G5 p) p d cx ss c b n k).snd.snd : Int)) := (congrArg (fun x : Int × Int × Nat => Int.ofNat x.2.2) (ax7 (by omega))); have e3 : ((cb6 (f9 (G5 p)) (c, b, n) (y6 p (d + 1) cx ss)).snd.fst : Int) = ((O4 (G5 p) p d cx ss c b n k).snd.fst) := (congrArg (fun x : Int × Int × Nat => x.2.1) (ax7 (by omega))); (first | rw [e1, e2, e3] | simp only [e1, e2, e3]) <;> rfl)
  ·
   refine wp_skip (b7 (wp_seq (wp_block (wp_seq (O1 G d9 [0, 1, 2, 3, 4, 5, 6, 7, 8, 17, 18, 19, 20, 25] (dI p.vars :: dI p.arrays :: dT p.body :: .box [iA (O4 (G5 p) p d cx ss c b n k).fst] :: .box [.bm 68 [pA 0]] :: .box [iA ((O4 (G5 p) p d cx ss c b n k).snd.snd : Int)] :: .box [iA (O4 (G5 p) p d cx ss c b n k).snd.fst] :: (bf0 ss k [])) ((2, iA cx) :: (3, Z0) :: (4, .ptr 8 0) :: (9, .ptr 13 0) :: (aD8 ss k [])) (iX k k ss.length []) (iK (by omega) b94) fun G => b7 (wp_seq (k8 G (s6 3 [0, 1, 2, 3, 4, 5, 6, 9, 10, 11, 12] (bL6 p (ss.getD k b85) cx ((O4 (G5 p) p d cx ss c b n k).fst) ((O4 (G5 p) p d cx ss c b n k).snd.fst) ((O4 (G5 p) p d cx ss c b n k).snd.snd) (bk9 (by omega) hn) ((A7 hs (by omega)).1) (bW1 hs (by omega)))) (rg 14) (dI p.vars :: dI p.arrays :: dT p.body :: .box [iA (ac0 p d ss cx c b n k).fst] :: .box [.bm 68 [pA 0]] :: .box [iA ((ac0 p d ss cx c b n k).snd.snd : Int)] :: .box [iA (ac0 p d ss cx c b n k).snd.fst] :: (bf0 ss k [])) ((2, iA cx) :: (3, Z0) :: (4, .ptr 8 0) :: (9, .ptr 13 0) :: (aD8 ss k [])) fun G => b7 (wp_seq (l5 G d9 [(10, iA cx)] fun G => b7 (wp_seq (wp_seq (l5 G d9 [(24, bA ((ss.getD k b85).kind == 3))] fun G => b7 (P9 G (fun h1 q1 => ?_) fun h1 q1 => ?_)))))))))))))
   · refine wp_skip (b7 (wp_seq (k8 G (s6 5 [0, 1, 2, 3, 4, 5, 6, 11] (ih ((ss.getD k b85).body) cx ((ac0 p d ss cx c b n k).fst) ((ac0 p d ss cx c b n k).snd.fst) ((ac0 p d ss cx c b n k).snd.snd) (by omega) ((A7 hs (by omega)).2.1) (aC6 (by omega) hn))) (rg 14) (dI p.vars :: dI p.arrays :: dT p.body :: .box [iA (ar2 p d ss cx c b n k).fst] :: .box [.bm 68 [pA 0]] :: .box [iA ((ar2 p d ss cx c b n k).snd.snd : Int)] :: .box [iA (ar2 p d ss cx c b n k).snd.fst] :: (bf0 ss k [])) ((2, iA cx) :: (3, Z0) :: (4, .ptr 8 0) :: (9, .ptr 13 0) :: (10, iA cx) :: (aD8 ss k [])) fun G => b7 (k8 G (s6 5 [0, 1, 2, 3, 4, 5, 6, 12] (ih ((ss.getD k b85).els) cx ((ar2 p d ss cx c b n k).fst) ((ar2 p d ss cx c b n k).snd.fst) ((ar2 p d ss cx c b n k).snd.snd) (by omega) ((A7 hs (by omega)).2.2) (aC5 (by omega) hn aG9))) (rg 9) [dI p.vars, dI p.arrays, dT p.body, .box [iA (cb6 (f9 (G5 p)) (ar2 p d ss cx c b n k) (y6 p d cx (ss.getD k b85).els)).fst], .box [.bm 68 [pA 0]], .box [iA ((cb6 (f9 (G5 p)) (ar2 p d ss cx c b n k) (y6 p d cx (ss.getD k b85).els)).snd.snd : Int)], .box [iA (cb6 (f9 (G5 p)) (ar2 p d ss cx c b n k) (y6 p d cx (ss.getD k b85).els)).snd.fst], dT ss, .box (pL 0)] ((2, iA cx) :: (3, Z0) :: (4, .ptr 8 0) :: (aD8 ss k [])) fun G => m6 (b7 (E2 G d9 [(13, iA ((k : Int) + 1))] [wO ((k : Int) + 1)] (o1 (by omega)) fun G => b7 ?_)))))); exact M8 G (k + 1) (by omega) (by omega) (rg 9) (by have h9 := b27 (R := (G5 p)) (p := p) (d := d) (cx := cx) (ss := ss) (c := c) (b := b) (n := n) (k := k) (by omega) (by assumption); rw [h9] <;> rfl)
   · refine l5 G (s6 4 [0, 1, 2, 10] (U4 p ((ss.getD k b85).value) (n5 (A7 hs (by omega)).1 (by omega)))) [(10, iA (i6 cx (i9 p (ss.getD k b85).value)))] fun G => b7 (wp_seq (k8 G (s6 5 [0, 1, 2, 3, 4, 5, 6, 11] (ih ((ss.getD k b85).body) (i6 cx (i9 p (ss.getD k b85).value)) ((ac0 p d ss cx c b n k).fst) ((ac0 p d ss cx c b n k).snd.fst) ((ac0 p d ss cx c b n k).snd.snd) (by omega) ((A7 hs (by omega)).2.1) (aC6 (by omega) hn))) (rg 14) (dI p.vars :: dI p.arrays :: dT p.body :: .box [iA (aF1 p d ss cx c b n k).fst] :: .box [.bm 68 [pA 0]] :: .box [iA ((aF1 p d ss cx c b n k).snd.snd : Int)] :: .box [iA (aF1 p d ss cx c b n k).snd.fst] :: (bf0 ss k [])) ((2, iA cx) :: (3, Z0) :: (4, .ptr 8 0) :: (9, .ptr 13 0) :: (10, iA (i6 cx (i9 p (ss.getD k b85).value))) :: (aD8 ss k [])) fun G => b7 (k8 G (s6 5 [0, 1, 2, 3, 4, 5, 6, 12] (ih ((ss.getD k b85).els) (i6 cx (i9 p (ss.getD k b85).value)) ((aF1 p d ss cx c b n k).fst) ((aF1 p d ss cx c b n k).snd.fst) ((aF1 p d ss cx c b n k).snd.snd) (by omega) ((A7 hs (by omega)).2.2) (aC5 (by omega) hn aG9))) (rg 9) [dI p.vars, dI p.arrays, dT p.body, .box [iA (aN8 p d ss cx c b n k).fst], .box [.bm 68 [pA 0]], .box [iA ((aN8 p d ss cx c b n k).snd.snd : Int)], .box [iA (aN8 p d ss cx c b n k).snd.fst], dT ss, .box (pL 0)] ((2, iA cx) :: (3, Z0) :: (4, .ptr 8 0) :: (aD8 ss k [])) fun G => m6 (b7 (E2 G d9 [(13, iA ((k : Int) + 1))] [wO ((k : Int) + 1)] (o1 (by omega)) fun G => b7 ?_))))); exact M8 G (k + 1) (by omega) (by omega) (rg 9) (by have e1 : ((O4 (G5 p) p d cx ss c b n (k + 1)).fst : Int) = ((aN8 p d ss cx c b n k).fst) := (congrArg Prod.fst (bp7 (by omega) (by assumption))); have e2 : (((O4 (G5 p) p d cx ss c b n (k + 1)).snd.snd : Int) : Int) = (((aN8 p d ss cx c b n k).snd.snd : Int)) := (congrArg (fun x : Int × Int × Nat => Int.ofNat x.2.2) (bp7 (by omega) (by assumption))); have e3 : ((O4 (G5 p) p d cx ss c b n (k + 1)).snd.fst : Int) = ((aN8 p d ss cx c b n k).snd.fst) := (congrArg (fun x : Int × Int × Nat => x.2.1) (bp7 (by omega) (by assumption))); (first | rw [e1, e2, e3] | simp only [e1, e2, e3]) <;> rfl)
theorem bF0 (p : d7) : ∀ (d : Nat) (ss : List b6) (cx : Int) (c b : Int) (n : Nat), ss.all (f6 p.vars.length p.arrays.length d) = true → n + L8 ss ≤ 4000000 → k6.ok Tryz.prog ⟨93, [pA 0, .ref 7, iA cx, .fn 137 [.ptr 3 0, .ptr 4 0, .ptr 5 0, .ptr 6 0]], pS p ++ fcB aq4 c n b ++ [.dat (.stmts ss)],
   pS p ++ fcB aq4 ((y6 p d cx ss).foldl (f9 (G6 p)) (c, b, n)).1 ((y6 p d cx ss).foldl (f9 (G6 p)) (c, b, n)).2.2 ((y6 p d cx ss).foldl (f9 (G6 p)) (c, b, n)).2.1 ++ [.dat (.stmts ss)], .tup []⟩ := by
 intro d
 induction d with
 | zero =>
  intro ss cx c b n hs hn
  have h0 : ss = [] := by
   cases ss with
   | nil => rfl
   | cons a r => simp [f6] at hs
  subst h0
  exact a66 p 0 [] (fun _ _ _ _ _ h => absurd h (by simp)) cx c b n rfl hn
 | succ d ih => intro ss cx c b n hs hn; exact a66 p d ss (fun tt cx c b n _ h1 h2 => ih tt cx c b n h1 h2) cx c b n hs hn
theorem bE9 (p : d7) (h : m0 p = true) : k6.ok Tryz.prog ⟨93, [pA 0, .ref 2, iA 0, .fn 137 [.ptr 3 0, .ptr 4 0, .ptr 5 0, .ptr 6 0]], pS p ++ fcB aq4 0 0 (-1),
   pS p ++ fcB aq4 ((y6 p 5 0 p.body).foldl (f9 (G6 p)) (0, -1, 0)).1 ((y6 p 5 0 p.body).foldl (f9 (G6 p)) (0, -1, 0)).2.2 ((y6 p 5 0 p.body).foldl (f9 (G6 p)) (0, -1, 0)).2.1, .tup []⟩ :=
 k6.dup (S := pS p ++ fcB aq4 0 0 (-1)) (S' := pS p ++ fcB aq4 ((y6 p 5 0 p.body).foldl (f9 (G6 p)) (0, -1, 0)).1 ((y6 p 5 0 p.body).foldl (f9 (G6 p)) (0, -1, 0)).2.2 ((y6 p 5 0 p.body).foldl (f9 (G6 p)) (0, -1, 0)).2.1) (d := .stmts p.body) (i := 2) (bF0 p 5 p.body 0 0 (-1) 0 (K0 h).1 (by have := (K0 h).2; omega)) rfl rfl rfl (fun ρ h => by simp only [AV.vals, AV.val]; rw [show ρ 7 = ρ 2 from h]) rfl
theorem be7 (p : d7) (h : m0 p = true) : k6.ok Tryz.prog (F6 66 [pA 0, .bm aq4 [pA 0]] (pS p) (.tup [iA ((y6 p 5 0 p.body).foldl (f9 (G6 p)) (0, -1, 0)).1, iA ((y6 p 5 0 p.body).foldl (f9 (G6 p)) (0, -1, 0)).2.1])) := by
 refine A2 16 Tryz.func66 [dI p.vars, dI p.arrays, dT p.body] [(0, pA 0), (1, .bm 67 [pA 0])] fun G => ?_; refine wp_seq (k8 G d9 [0, 1, 2, 3, 11] [dI p.vars, dI p.arrays, dT p.body, .box (pL 0), .box [.bm 67 [pA 0]]] [(0, pA 0), (2, .ptr 3 0), (3, .ptr 4 0), (4, iA 0), (5, iA 0)] fun G => b7 (wp_seq (k8 G d9 [0, 1, 2, 3, 4, 5, 13, 21] [dI p.vars, dI p.arrays, dT p.body, .box (pL 0), .box [.bm 67 [pA 0]], .box [iA 0], .box [iA (-1)], .box [iA 0]] [(0, pA 0), (2, .ptr 3 0), (3, .ptr 4 0), (4, iA 0), (5, iA 0), (6, .ptr 5 0), (7, .ptr 6 0), (8, .ptr 7 0)] fun G => b7 (wp_seq (k8 G (s6 4 [0, 1, 2, 5, 4, 7, 6] (bE9 p (by assumption))) [0, 1, 2, 5, 6] [dI p.vars, dI p.arrays, dT p.body, .box [iA (cb6 (f9 (G6 p)) (0, -1, 0) (y6 p 5 0 p.body)).fst], .box [iA (cb6 (f9 (G6 p)) (0, -1, 0) (y6 p 5 0 p.body)).snd.fst]] [(0, pA 0), (4, iA 0), (5, iA 0), (6, .ptr 3 0), (7, .ptr 4 0)] fun G => b7 (wp_seq (P1 G d9 [0, 0, 1, 7] [0, 1, 2] [dI p.vars, dI p.arrays, dT p.body] [(0, pA 0), (4, iA (cb6 (f9 (G6 p)) (0, -1, 0) (y6 p 5 0 p.body)).fst), (5, iA (cb6 (f9 (G6 p)) (0, -1, 0) (y6 p 5 0 p.body)).snd.fst)] fun G => b7 (wp_ret ?_)))))))); exact F2 G [0, 1, 2]
theorem bE8 (p : d7) : ∀ (d : Nat) (ss : List b6) (cx : Int) (c b : Int) (n : Nat), ss.all (f6 p.vars.length p.arrays.length d) = true → n + L8 ss ≤ 4000000 → k6.ok Tryz.prog ⟨93, [pA 0, .ref 7, iA cx, .fn 137 [.ptr 3 0, .ptr 4 0, .ptr 5 0, .ptr 6 0]], pS p ++ fcB aq3 c n b ++ [.dat (.stmts ss)],
   pS p ++ fcB aq3 ((y6 p d cx ss).foldl (f9 (G5 p)) (c, b, n)).1 ((y6 p d cx ss).foldl (f9 (G5 p)) (c, b, n)).2.2 ((y6 p d cx ss).foldl (f9 (G5 p)) (c, b, n)).2.1 ++ [.dat (.stmts ss)], .tup []⟩ := by
 intro d
 induction d with
 | zero =>
  intro ss cx c b n hs hn
  have h0 : ss = [] := by
   cases ss with
   | nil => rfl
   | cons a r => simp [f6] at hs
  subst h0
  exact a65 p 0 [] (fun _ _ _ _ _ h => absurd h (by simp)) cx c b n rfl hn
 | succ d ih => intro ss cx c b n hs hn; exact a65 p d ss (fun tt cx c b n _ h1 h2 => ih tt cx c b n h1 h2) cx c b n hs hn
theorem bE7 (p : d7) (h : m0 p = true) : k6.ok Tryz.prog ⟨93, [pA 0, .ref 2, iA 0, .fn 137 [.ptr 3 0, .ptr 4 0, .ptr 5 0, .ptr 6 0]], pS p ++ fcB aq3 0 0 (-1),
   pS p ++ fcB aq3 ((y6 p 5 0 p.body).foldl (f9 (G5 p)) (0, -1, 0)).1 ((y6 p 5 0 p.body).foldl (f9 (G5 p)) (0, -1, 0)).2.2 ((y6 p 5 0 p.body).foldl (f9 (G5 p)) (0, -1, 0)).2.1, .tup []⟩ :=
 k6.dup (S := pS p ++ fcB aq3 0 0 (-1)) (S' := pS p ++ fcB aq3 ((y6 p 5 0 p.body).foldl (f9 (G5 p)) (0, -1, 0)).1 ((y6 p 5 0 p.body).foldl (f9 (G5 p)) (0, -1, 0)).2.2 ((y6 p 5 0 p.body).foldl (f9 (G5 p)) (0, -1, 0)).2.1) (d := .stmts p.body) (i := 2) (bE8 p 5 p.body 0 0 (-1) 0 (K0 h).1 (by have := (K0 h).2; omega)) rfl rfl rfl (fun ρ h => by simp only [AV.vals, AV.val]; rw [show ρ 7 = ρ 2 from h]) rfl
theorem be6 (p : d7) (h : m0 p = true) : k6.ok Tryz.prog (F6 66 [pA 0, .bm aq3 [pA 0]] (pS p) (.tup [iA ((y6 p 5 0 p.body).foldl (f9 (G5 p)) (0, -1, 0)).1, iA ((y6 p 5 0 p.body).foldl (f9 (G5 p)) (0, -1, 0)).2.1])) := by
 refine A2 16 Tryz.func66 [dI p.vars, dI p.arrays, dT p.body] [(0, pA 0), (1, .bm 68 [pA 0])] fun G => ?_; refine wp_seq (k8 G d9 [0, 1, 2, 3, 11] [dI p.vars, dI p.arrays, dT p.body, .box (pL 0), .box [.bm 68 [pA 0]]] [(0, pA 0), (2, .ptr 3 0), (3, .ptr 4 0), (4, iA 0), (5, iA 0)] fun G => b7 (wp_seq (k8 G d9 [0, 1, 2, 3, 4, 5, 13, 21] [dI p.vars, dI p.arrays, dT p.body, .box (pL 0), .box [.bm 68 [pA 0]], .box [iA 0], .box [iA (-1)], .box [iA 0]] [(0, pA 0), (2, .ptr 3 0), (3, .ptr 4 0), (4, iA 0), (5, iA 0), (6, .ptr 5 0), (7, .ptr 6 0), (8, .ptr 7 0)] fun G => b7 (wp_seq (k8 G (s6 4 [0, 1, 2, 5, 4, 7, 6] (bE7 p (by assumption))) [0, 1, 2, 5, 6] [dI p.vars, dI p.arrays, dT p.body, .box [iA (cb6 (f9 (G5 p)) (0, -1, 0) (y6 p 5 0 p.body)).fst], .box [iA (cb6 (f9 (G5 p)) (0, -1, 0) (y6 p 5 0 p.body)).snd.fst]] [(0, pA 0), (4, iA 0), (5, iA 0), (6, .ptr 3 0), (7, .ptr 4 0)] fun G => b7 (wp_seq (P1 G d9 [0, 0, 1, 7] [0, 1, 2] [dI p.vars, dI p.arrays, dT p.body] [(0, pA 0), (4, iA (cb6 (f9 (G5 p)) (0, -1, 0) (y6 p 5 0 p.body)).fst), (5, iA (cb6 (f9 (G5 p)) (0, -1, 0) (y6 p 5 0 p.body)).snd.fst)] fun G => b7 (wp_ret ?_)))))))); exact F2 G [0, 1, 2]
theorem av1 (p : d7) (hb : i5 p.body ≤ 1048576) : k6.ok Tryz.prog (F6 19 [pA 0] (pS p) (.tup [iA (C7 p false).1, iA (C7 p false).2])) := by
 refine A2 13 Tryz.func19 [dI p.vars, dI p.arrays, dT p.body] [(0, pA 0)] fun G => ?_; refine wp_seq (k8 G d9 (rg 4) [dI p.vars, dI p.arrays, dT p.body, .box (pL 0)] [(1, .ptr 3 0), (2, iA 0), (3, iA 0)] fun G => b7 (wp_seq (wp_seq (l5 G (s6 1 [0, 1, 2] (af2 p)) [(6, .v (.bool !m0 p))] fun G => b7 ?_)))); cases h0 : (!m0 p)
 ·have q0 : (m0 p) = true := (Eq.mp (b97 _) h0); refine rF G _ h0 (wp_skip (b7 (wp_seq (k8 G (s6 3 [0, 1, 2] (be7 p (by assumption))) [0, 1, 2] [dI p.vars, dI p.arrays, dT p.body] [(2, iA (cb6 (f9 (G6 p)) (0, -1, 0) (y6 p 5 0 p.body)).fst), (3, iA (cb6 (f9 (G6 p)) (0, -1, 0) (y6 p 5 0 p.body)).snd.fst)] fun G => b7 (wp_ret ?_))))); exact X7 (.tup [iA (cb6 (f9 (G6 p)) (0, -1, 0) (y6 p 5 0 p.body)).fst, iA (cb6 (f9 (G6 p)) (0, -1, 0) (y6 p 5 0 p.body)).snd.fst]) G [0, 1, 2] (by have e1 : ((C7 p false).fst : Int) = ((cb6 (f9 (G6 p)) (0, -1, 0) (y6 p 5 0 p.body)).fst) := ((bl5 (by assumption)).1.symm); have e2 : ((C7 p false).snd : Int) = ((cb6 (f9 (G6 p)) (0, -1, 0) (y6 p 5 0 p.body)).snd.fst) := ((bl5 (by assumption)).2.symm); (first | rw [e1, e2] | simp only [e1, e2]) <;> rfl)
 ·have q0 : (m0 p) = false := (Eq.mp (b95 _) h0); refine rT G _ h0 (wp_seq (l5 G d9 [(2, iA 5), (3, iA (-1))] fun G => b7 (wp_ret (l7 ?_)))); exact X7 (.tup [iA 5, iA (-1)]) G [0, 1, 2] (by have e1 : ((C7 p false).fst : Int) = (5) := (by rw [bl3 (by assumption)]; done); have e2 : ((C7 p false).snd : Int) = (-1) := (by rw [bl3 (by assumption)]; done); (first | rw [e1, e2] | simp only [e1, e2]) <;> rfl)
theorem bV1 {p : d7} (h : (C7 p false).1 = 0) : m0 p = true := by
 unfold C7 at h
 split at h
 ·assumption
 ·cases h
theorem aj5 (p : d7) (hb : i5 p.body ≤ 1048576) : k6.ok Tryz.prog (F6 20 [pA 0] (pS p) (.tup [iA (ctR p).1, iA (ctR p).2])) := by
 refine A2 21 Tryz.func20 [dI p.vars, dI p.arrays, dT p.body] [(0, pA 0)] fun G => ?_; refine wp_seq (k8 G d9 (rg 4) [dI p.vars, dI p.arrays, dT p.body, .box (pL 0)] [(1, .ptr 3 0), (2, iA 0), (3, iA 0)] fun G => b7 (wp_seq (wp_seq (l5 G (s6 1 [0, 1, 2] (av1 p (by assumption))) [(4, iA (C7 p false).fst), (5, iA (C7 p false).snd)] fun G => b7 (wp_seq (l5 G d9 [(12, bA ((C7 p false).fst != 0))] fun G => b7 (rcN G (fun h0 q0 => ?_) fun h0 q0 => ?_)))))))
 ·refine wp_skip (b7 (wp_seq (k8 G (s6 3 [0, 1, 2] (be6 p (bV1 (by assumption)))) [0, 1, 2] [dI p.vars, dI p.arrays, dT p.body] [(2, iA (cb6 (f9 (G5 p)) (0, -1, 0) (y6 p 5 0 p.body)).fst), (3, iA (cb6 (f9 (G5 p)) (0, -1, 0) (y6 p 5 0 p.body)).snd.fst)] fun G => b7 (wp_ret ?_)))); exact X7 (.tup [iA (cb6 (f9 (G5 p)) (0, -1, 0) (y6 p 5 0 p.body)).fst, iA (cb6 (f9 (G5 p)) (0, -1, 0) (y6 p 5 0 p.body)).snd.fst]) G [0, 1, 2] (by have e1 : ((ctR p).fst : Int) = ((cb6 (f9 (G5 p)) (0, -1, 0) (y6 p 5 0 p.body)).fst) := ((congrArg Prod.fst (b34 (by assumption))).trans (bl4 (bV1 (by assumption)) (by assumption)).1.symm); have e2 : ((ctR p).snd : Int) = ((cb6 (f9 (G5 p)) (0, -1, 0) (y6 p 5 0 p.body)).snd.fst) := ((congrArg Prod.snd (b34 (by assumption))).trans (bl4 (bV1 (by assumption)) (by assumption)).2.symm); (first | rw [e1, e2] | simp only [e1, e2]) <;> rfl)
 ·refine wp_seq (l5 G d9 [(2, iA (C7 p false).fst), (3, iA (C7 p false).snd)] fun G => b7 (wp_ret (l7 ?_))); exact X7 (.tup [iA (C7 p false).fst, iA (C7 p false).snd]) G [0, 1, 2] (by have e1 : ((ctR p).fst : Int) = ((C7 p false).fst) := (by rw [b33 (by assumption)]; done); have e2 : ((ctR p).snd : Int) = ((C7 p false).snd) := (by rw [b33 (by assumption)]; done); (first | rw [e1, e2] | simp only [e1, e2]) <;> rfl)
theorem bh4 {a b : b5} (h : ¬ a = b) : B3 a b = false := by
 cases e : B3 a b
 ·rfl
 ·exact absurd ((F0 a b).1 e) h
section
variable {a b : b5} {k : Nat}
theorem sx1 (h : ¬ a.kind = b.kind) : B3 a b = false := bh4 fun e => h (by rw [e])
theorem sx2 (h : ¬ a.value = b.value) : B3 a b = false := bh4 fun e => h (by rw [e])
theorem sx3 (h : ¬ (a.kids.length : Int) = b.kids.length) : B3 a b = false := bh4 fun e => h (by rw [e])
theorem sx4 (h : B3 (a.kids.getD k b85) (b.kids.getD k b85) = false) : B3 a b = false := bh4 fun e => by
 subst e
 rw [(F0 _ _).2 rfl] at h; cases h
theorem U8 {α : Type} {l m : List α} {k : Nat} {z : α} (h : l.take k = m.take k) (h1 : k < l.length) (h2 : k < m.length) (e : l.getD k z = m.getD k z) : l.take (k + 1) = m.take (k + 1) := by
 rw [r9 _ _ h1, r9 _ _ h2, h, ← n6 (d := z) h1, ← n6 (d := z) h2, e]
theorem ag8 {α : Type} {l m : List α} {k : Nat} (h : l.take k = m.take k) (h1 : l.length ≤ k) (h2 : (l.length : Int) = m.length) : l = m := by
 rw [ca3 h1, ca3 (by omega)] at h
 exact h
theorem sx5 (h1 : a.kind = b.kind) (h2 : a.value = b.value) (h3 : (a.kids.length : Int) = b.kids.length) (h : a.kids.take k = b.kids.take k) (hk : a.kids.length ≤ k) : B3 a b = true := by
 refine (F0 _ _).2 ?_
 rw [← b5.eta a, ← b5.eta b, h1, h2, ag8 h hk h3]
end
abbrev sxC (a b : b5) : k6 := F6 259 [eA a 0, eA b 1] [dE a.kids, dE b.kids] (bA (B3 a b))
theorem bG8 (x y : b5) (ih : ∀ (u : b5), u ∈ x.kids → ∀ (v : b5), k6.ok Tryz.prog (sxC u v)) : k6.ok Tryz.prog (sxC x y) := by
  refine A2 46 Tryz.func259 [dE x.kids, dE y.kids] [(0, eA x 0), (1, eA y 1)] fun G => ?_; have hl : x.kids.length ≤ 9223372036854775807 := G.len 0 (d := .exprs x.kids) (by kernel_rfl); refine wp_seq (k8 G d9 [0, 1, 2, 10] [dE x.kids, dE y.kids, .box (eL x 0), .box (eL y 1)] [(2, .ptr 2 0), (3, .ptr 3 0), (4, bA false)] fun G => b7 (wp_seq (wp_seq ?_))); cases h0 : (x.kind != y.kind)
  ·
   have q0 := bne_eq_false_iff_eq.1 h0; cases h1 : (x.value != y.value)
   ·
    have q1 := bne_eq_false_iff_eq.1 h1; refine l5 G (O2 (fc h0 (fc h1 fz)) (us [(6, 10, 0), (1011, 1011, 0), (13, 19, 1), (1020, 1020, 1)])) [(26, bA ((x.kids.length : Int) != (y.kids.length : Int)))] fun G => b7 (rcN G (fun h2 q2 => ?_) fun h2 q2 => ?_)
    ·
     refine wp_skip (b7 (wp_seq (wp_seq (C9 G d9 [(2, .ptr 2 0), (3, .ptr 3 0), (4, bA false), (5, iA 0)] fun G => b7 (wp_block ?_))))); refine o9 (κ := Nat) (fun k => k ≤ x.kids.length ∧ x.kids.take k = y.kids.take k) (fun k => x.kids.length - k) (fun k => [dE x.kids, dE y.kids, .box (eL x 0), .box (eL y 1)]) (fun k => [(2, .ptr 2 0), (3, .ptr 3 0), (4, bA false), (5, iA k)]) 0 (by simp [h0, h1, h2]) (s5.at G _ _) ?_; clear G; intro k ρ a w hp G; refine wp_seq (wp_seq (l5 G d9 [(31, bA (decide ((k : Int) < x.kids.length)))] fun G => b7 (O0 G (fun h3 q3 => ?_) fun h3 q3 => ?_)))
     · refine wp_exit (o5 (o5 (n9 (b7 (wp_seq (k8 G d9 [0, 1] [dE x.kids, dE y.kids] [(4, bA true)] fun G => b7 (wp_ret ?_))))))); exact B5 true G [0, 1] (sx5 (by omega) (by omega) (by omega) hp.2 (by omega))
     ·
      refine wp_skip (b7 (wp_seq (wp_block (wp_seq (ah9 G (s6 10 [36, 76] (ih (x.kids.getD k b85) (ab1 (by omega)) (y.kids.getD k b85))) [0, 1, 0, 7, 15, 0, 32, 0, 224, 480, 1023, 2047] [(45, .v (.bool !B3 (x.kids.getD k b85) (y.kids.getD k b85)))] (iX k k x.kids.length (iX k k y.kids.length [])) (iK (by have hp := hp; omega) (iK (by have hp := hp; omega) b94)) fun G => b7 ?_))))); cases h4 : (!B3 (x.kids.getD k b85) (y.kids.getD k b85))
      · have q4 : (B3 (x.kids.getD k b85) (y.kids.getD k b85)) = true := (Eq.mp (b97 _) h4); refine rF G _ h4 (wp_skip (m6 (b7 (E2 G d9 [(5, iA ((k : Int) + 1))] [wO ((k : Int) + 1)] (o1 (by omega)) fun G => b7 ?_)))); exact M8 G (k + 1) (⟨by omega, U8 hp.2 (by omega) (by omega) ((F0 _ _).1 (by with_reducible assumption))⟩) (by have hp := hp; omega) (rg 4)
      · have q4 : (B3 (x.kids.getD k b85) (y.kids.getD k b85)) = false := (Eq.mp (b95 _) h4); refine rT G _ h4 (wp_seq (l5 G d9 [] fun G => b7 (wp_ret (A0 (l7 (l7 (A0 (l7 ?_)))))))); exact B5 false G [0, 1] (sx4 (by with_reducible assumption))
    · refine wp_seq (l5 G d9 [] fun G => b7 (wp_ret (l7 ?_))); exact B5 false G [0, 1] (sx3 (by omega))
   · have q1 := bne_iff_ne.1 h1; refine l5 G (O2 (fc h0 (fc h1 fz)) (us [(6, 10, 0), (1011, 1011, 0), (13, 19, 1), (1020, 1020, 1)])) [(26, bA true)] fun G => b7 (rT G true (by kernel_rfl) (wp_seq (l5 G d9 [] fun G => b7 (wp_ret (l7 ?_))))); exact B5 false G [0, 1] (sx2 (by omega))
  · have q0 := bne_iff_ne.1 h0; refine l5 G (O2 (fc h0 (fc (b := true) rfl fz)) (us [(6, 10, 0), (1011, 1011, 0), (13, 19, 1), (1020, 1020, 1)])) [(26, bA true)] fun G => b7 (rT G true (by kernel_rfl) (wp_seq (l5 G d9 [] fun G => b7 (wp_ret (l7 ?_))))); exact B5 false G [0, 1] (sx1 (by omega))
theorem ae4 (x : b5) : ∀ (y : b5), k6.ok Tryz.prog (sxC x y) :=
 b5.ind (P := fun x => ∀ (y : b5), k6.ok Tryz.prog (sxC x y)) (fun k n ks ih y => bG8 ⟨k, n, ks⟩ y fun u hu => ih u hu) x
theorem aj4 (xs ys : List Int) : k6.ok Tryz.prog (F6 225 [.ref 0, .ref 1] [dI xs, dI ys] (bA (decide (xs = ys)))) := by
  refine A2 26 Tryz.func225 [dI xs, dI ys] [(0, .ref 0), (1, .ref 1)] fun G => ?_; have hl : xs.length ≤ 9223372036854775807 := G.len 0 (d := .ints xs) (by kernel_rfl); refine wp_seq (C9 G d9 [(0, .ref 0), (1, .ref 1), (4, bA false)] fun G => b7 (wp_seq (wp_seq (l5 G d9 [(10, bA ((xs.length : Int) != (ys.length : Int)))] fun G => b7 (rcN G (fun h0 q0 => ?_) fun h0 q0 => ?_)))))
  ·
   refine wp_skip (b7 (wp_seq (wp_seq (C9 G d9 [(0, .ref 0), (1, .ref 1), (4, bA false), (5, iA 0)] fun G => b7 (wp_block ?_))))); refine o9 (κ := Nat) (fun k => k ≤ xs.length ∧ xs.take k = ys.take k) (fun k => xs.length - k) (fun k => [dI xs, dI ys]) (fun k => [(0, .ref 0), (1, .ref 1), (4, bA false), (5, iA k)]) 0 (by simp [h0]) (s5.at G _ _) ?_; clear G; intro k ρ a w hp G; refine wp_seq (wp_seq (l5 G d9 [(14, bA (decide ((k : Int) < xs.length)))] fun G => b7 (O0 G (fun h1 q1 => ?_) fun h1 q1 => ?_)))
   · refine wp_exit (o5 (o5 (n9 (b7 (wp_seq (l5 G d9 [(4, bA true)] fun G => b7 (wp_ret ?_))))))); exact B5 true G [0, 1] (decide_eq_true (ag8 hp.2 (by omega) (by omega)))
   ·
    refine wp_skip (b7 (wp_seq (wp_block (wp_seq (ah9 G d9 [0, 0, 3, 7, 0, 0, 48, 112, 255] [(25, bA (xs.getD k 0 != ys.getD k 0))] (iX k k xs.length (iX k k ys.length [])) (iK (by have hp := hp; omega) (iK (by have hp := hp; omega) b94)) fun G => b7 (rcN G (fun h2 q2 => ?_) fun h2 q2 => ?_))))))
    · refine wp_skip (m6 (b7 (E2 G d9 [(5, iA ((k : Int) + 1))] [wO ((k : Int) + 1)] (o1 (by omega)) fun G => b7 ?_))); exact M8 G (k + 1) (⟨by omega, U8 hp.2 (by omega) (by omega) (by omega)⟩) (by have hp := hp; omega) [0, 1]
    · refine wp_seq (l5 G d9 [] fun G => b7 (wp_ret (A0 (l7 (l7 (A0 (l7 ?_))))))); exact B5 false G [0, 1] (by exact decide_eq_false fun e => by subst e; omega)
  · refine wp_seq (l5 G d9 [] fun G => b7 (wp_ret (l7 ?_))); exact B5 false G [0, 1] (by exact decide_eq_false fun e => by subst e; omega)
theorem aH0 {s t : b6} (h : ¬ s = t) : I4 s t = false := by
 cases e : I4 s t
 ·rfl
 ·exact absurd ((aa7 s t).1 e) h
theorem bO4 {l m : List b6} (h : ¬ l = m) : n4 l m = false := by
 cases e : n4 l m
 ·rfl
 ·exact absurd ((E9 l m).1 e) h
section
variable {s t : b6} {l m : List b6} {k : Nat}
theorem sr1 (h : ¬ s.kind = t.kind) : I4 s t = false := aH0 fun e => h (by rw [e])
theorem sr2 (h : ¬ s.target = t.target) : I4 s t = false := aH0 fun e => h (by rw [e])
theorem sr3 (h : ¬ s.count = t.count) : I4 s t = false := aH0 fun e => h (by rw [e])
theorem sr4 (h : B3 s.index t.index = false) : I4 s t = false := aH0 fun e => by subst e; rw [(F0 _ _).2 rfl] at h; cases h
theorem sr5 (h : B3 s.value t.value = false) : I4 s t = false := aH0 fun e => by subst e; rw [(F0 _ _).2 rfl] at h; cases h
theorem sr6 (h : n4 s.body t.body = false) : I4 s t = false := aH0 fun e => by subst e; rw [(E9 _ _).2 rfl] at h; cases h
theorem sr7 (h : n4 s.els t.els = false) : I4 s t = false := aH0 fun e => by subst e; rw [(E9 _ _).2 rfl] at h; cases h
theorem sr8 (h1 : s.kind = t.kind) (h2 : s.target = t.target) (h3 : s.count = t.count) (h4 : B3 s.index t.index = true) (h5 : B3 s.value t.value = true) (h6 : n4 s.body t.body = true) : I4 s t = n4 s.els t.els := by
 cases e : n4 s.els t.els
 ·exact sr7 e
 ·refine (aa7 _ _).2 ?_
  rw [← b6.eta s, ← b6.eta t, h1, h2, h3, (F0 _ _).1 h4, (F0 _ _).1 h5, (E9 _ _).1 h6, (E9 _ _).1 e]
theorem sb1 (h : ¬ (l.length : Int) = m.length) : n4 l m = false := bO4 fun e => h (by rw [e])
theorem sb2 (h : I4 (l.getD k b85) (m.getD k b85) = false) : n4 l m = false := bO4 fun e => by
 subst e
 rw [(aa7 _ _).2 rfl] at h; cases h
theorem sb3 (h3 : (l.length : Int) = m.length) (h : l.take k = m.take k) (hk : l.length ≤ k) : n4 l m = true := (E9 _ _).2 (ag8 h hk h3)
end
abbrev sbC (l m : List b6) : k6 := F6 226 [.ref 0, .ref 1] [dT l, dT m] (bA (n4 l m))
abbrev ssC (s t : b6) : k6 := F6 248 [sA s 0, sA t 4] (sS s ++ sS t) (bA (I4 s t))
abbrev aq7 (s : b6) (t : b6) (r0 : List It) : List It := dE s.index.kids :: dE s.value.kids :: dT s.body :: dT s.els :: dE t.index.kids :: dE t.value.kids :: dT t.body :: dT t.els :: r0
theorem bG9 (s t : b6) (ih1 : ∀ (m : List b6), k6.ok Tryz.prog (sbC s.body m)) (ih2 : ∀ (m : List b6), k6.ok Tryz.prog (sbC s.els m)) : k6.ok Tryz.prog (ssC s t) := by
  refine A2 52 Tryz.func248 (aq7 s t []) [(0, sA s 0), (1, sA t 4)] fun G => ?_; refine wp_seq (k8 G d9 [0, 1, 2, 3, 4, 5, 6, 7, 8, 16] (aq7 s t [.box (sL s 0), .box (sL t 4)]) [(2, .ptr 8 0), (3, .ptr 9 0), (4, bA false)] fun G => b7 (wp_seq ?_)); cases h0 : (s.kind == t.kind)
  · have q0 := ne_of_beq_false h0; refine k8 G (O2 (fc h0 (fc (b := false) rfl fz)) (us [(6, 10, 0), (1011, 1011, 0), (13, 17, 1), (1018, 1018, 1), (20, 24, 1), (1025, 1025, 1), (27, 31, 1), (1032, 1032, 1), (34, 38, 1), (1039, 1039, 1), (41, 45, 1), (1046, 1046, 1)])) (rg 8) (aq7 s t []) [(4, bA false)] fun G => b7 (wp_ret ?_); exact B5 false G (rg 8) (sr1 (by omega))
  ·
   have q0 := eq_of_beq h0; cases h1 : (s.target == t.target)
   · have q1 := ne_of_beq_false h1; refine k8 G (O2 (fc h0 (fc h1 (fc (b := false) rfl fz))) (us [(6, 10, 0), (1011, 1011, 0), (13, 17, 1), (1018, 1018, 1), (20, 24, 2), (1025, 1025, 2), (27, 31, 2), (1032, 1032, 2), (34, 38, 2), (1039, 1039, 2), (41, 45, 2), (1046, 1046, 2)])) (rg 8) (aq7 s t []) [(4, bA false)] fun G => b7 (wp_ret ?_); exact B5 false G (rg 8) (sr2 (by omega))
   ·
    have q1 := eq_of_beq h1; cases h2 : (s.count == t.count)
    · have q2 := ne_of_beq_false h2; refine k8 G (O2 (fc h0 (fc h1 (fc h2 (fc (b := false) rfl fz)))) (us [(6, 10, 0), (1011, 1011, 0), (13, 17, 1), (1018, 1018, 1), (20, 24, 2), (1025, 1025, 2), (27, 31, 3), (1032, 1032, 3), (34, 38, 3), (1039, 1039, 3), (41, 45, 3), (1046, 1046, 3)])) (rg 8) (aq7 s t []) [(4, bA false)] fun G => b7 (wp_ret ?_); exact B5 false G (rg 8) (sr3 (by omega))
    ·
     have q2 := eq_of_beq h2; cases h3 : (B3 s.index t.index)
     · refine k8 G (t6 (l8 24 [0, 4] (ae4 s.index t.index) t5) (fc h0 (fc h1 (fc h2 (fc h3 (fc (b := false) rfl fz))))) (us [(6, 10, 0), (1011, 1011, 0), (13, 17, 1), (1018, 1018, 1), (20, 24, 2), (1025, 1025, 2), (27, 31, 3), (1032, 1032, 3), (34, 38, 4), (1039, 1039, 4), (41, 45, 4), (1046, 1046, 4)])) (rg 8) (aq7 s t []) [(4, bA false)] fun G => b7 (wp_ret ?_); exact B5 false G (rg 8) (sr4 (by with_reducible assumption))
     ·
      cases h4 : (B3 s.value t.value)
      · refine k8 G (t6 (l8 24 [0, 4] (ae4 s.index t.index) (l8 31 [1, 5] (ae4 s.value t.value) t5)) (fc h0 (fc h1 (fc h2 (fc h3 (fc h4 (fc (b := false) rfl fz)))))) (us [(6, 10, 0), (1011, 1011, 0), (13, 17, 1), (1018, 1018, 1), (20, 24, 2), (1025, 1025, 2), (27, 31, 3), (1032, 1032, 3), (34, 38, 4), (1039, 1039, 4), (41, 45, 5), (1046, 1046, 5)])) (rg 8) (aq7 s t []) [(4, bA false)] fun G => b7 (wp_ret ?_); exact B5 false G (rg 8) (sr5 (by with_reducible assumption))
      ·
       cases h5 : (n4 s.body t.body)
       · refine k8 G (t6 (l8 24 [0, 4] (ae4 s.index t.index) (l8 31 [1, 5] (ae4 s.value t.value) (l8 38 [2, 6] (ih1 t.body) t5))) (fc h0 (fc h1 (fc h2 (fc h3 (fc h4 (fc h5 fz)))))) (us [(6, 10, 0), (1011, 1011, 0), (13, 17, 1), (1018, 1018, 1), (20, 24, 2), (1025, 1025, 2), (27, 31, 3), (1032, 1032, 3), (34, 38, 4), (1039, 1039, 4), (41, 45, 5), (1046, 1046, 5)])) (rg 8) (aq7 s t []) [(4, bA false)] fun G => b7 (wp_ret ?_); exact B5 false G (rg 8) (sr6 (by with_reducible assumption))
       · refine k8 G (t6 (l8 24 [0, 4] (ae4 s.index t.index) (l8 31 [1, 5] (ae4 s.value t.value) (l8 38 [2, 6] (ih1 t.body) (l8 45 [3, 7] (ih2 t.els) t5)))) (fc h0 (fc h1 (fc h2 (fc h3 (fc h4 (fc h5 fz)))))) (us [(6, 10, 0), (1011, 1011, 0), (13, 17, 1), (1018, 1018, 1), (20, 24, 2), (1025, 1025, 2), (27, 31, 3), (1032, 1032, 3), (34, 38, 4), (1039, 1039, 4), (41, 45, 5), (1046, 1046, 5)])) (rg 8) (aq7 s t []) [(4, bA (n4 s.els t.els))] fun G => b7 (wp_ret ?_); exact B5 (n4 s.els t.els) G (rg 8) (sr8 (by omega) (by omega) (by omega) (by with_reducible assumption) (by with_reducible assumption) (by with_reducible assumption))
theorem aV0 (l m : List b6) (ih : ∀ (s : b6), s ∈ l → ∀ (t : b6), k6.ok Tryz.prog (ssC s t)) : k6.ok Tryz.prog (sbC l m) := by
  refine A2 27 Tryz.func226 [dT l, dT m] [(0, .ref 0), (1, .ref 1)] fun G => ?_; have hl : l.length ≤ 9223372036854775807 := G.len 0 (d := .stmts l) (by kernel_rfl); refine wp_seq (C9 G d9 [(0, .ref 0), (1, .ref 1), (4, bA false)] fun G => b7 (wp_seq (wp_seq (l5 G d9 [(10, bA ((l.length : Int) != (m.length : Int)))] fun G => b7 (rcN G (fun h0 q0 => ?_) fun h0 q0 => ?_)))))
  ·
   refine wp_skip (b7 (wp_seq (wp_seq (C9 G d9 [(0, .ref 0), (1, .ref 1), (4, bA false), (5, iA 0)] fun G => b7 (wp_block ?_))))); refine o9 (κ := Nat) (fun k => k ≤ l.length ∧ l.take k = m.take k) (fun k => l.length - k) (fun k => [dT l, dT m]) (fun k => [(0, .ref 0), (1, .ref 1), (4, bA false), (5, iA k)]) 0 (by simp [h0]) (s5.at G _ _) ?_; clear G; intro k ρ a w hp G; refine wp_seq (wp_seq (l5 G d9 [(14, bA (decide ((k : Int) < l.length)))] fun G => b7 (O0 G (fun h1 q1 => ?_) fun h1 q1 => ?_)))
   · refine wp_exit (o5 (o5 (n9 (b7 (wp_seq (l5 G d9 [(4, bA true)] fun G => b7 (wp_ret ?_))))))); exact B5 true G [0, 1] (sb3 (by omega) hp.2 (by omega))
   ·
    refine wp_skip (b7 (wp_seq (wp_block (wp_seq (ah9 G (s6 8 [26, 27, 28, 29, 58, 59, 60, 61] (ih (l.getD k b85) (X0 (by omega)) (m.getD k b85))) [0, 0, 3, 7, 0, 0, 48, 112, 255, 511] [(26, .v (.bool !I4 (l.getD k b85) (m.getD k b85)))] (iX k k l.length (iX k k m.length [])) (iK (by have hp := hp; omega) (iK (by have hp := hp; omega) b94)) fun G => b7 ?_))))); cases h2 : (!I4 (l.getD k b85) (m.getD k b85))
    · have q2 : (I4 (l.getD k b85) (m.getD k b85)) = true := (Eq.mp (b97 _) h2); refine rF G _ h2 (wp_skip (m6 (b7 (E2 G d9 [(5, iA ((k : Int) + 1))] [wO ((k : Int) + 1)] (o1 (by omega)) fun G => b7 ?_)))); exact M8 G (k + 1) (⟨by omega, U8 hp.2 (by omega) (by omega) ((aa7 _ _).1 (by with_reducible assumption))⟩) (by have hp := hp; omega) [0, 1]
    · have q2 : (I4 (l.getD k b85) (m.getD k b85)) = false := (Eq.mp (b95 _) h2); refine rT G _ h2 (wp_seq (l5 G d9 [] fun G => b7 (wp_ret (A0 (l7 (l7 (A0 (l7 ?_)))))))); exact B5 false G [0, 1] (sb2 (by with_reducible assumption))
  · refine wp_seq (l5 G d9 [] fun G => b7 (wp_ret (l7 ?_))); exact B5 false G [0, 1] (sb1 (by omega))
theorem bR4 (s : b6) : ∀ (t : b6), k6.ok Tryz.prog (ssC s t) :=
 b6.ind (P := fun s => ∀ (t : b6), k6.ok Tryz.prog (ssC s t)) (fun k t i v c b e h1 h2 u => bG9 ⟨k, t, i, v, c, b, e⟩ u (fun m => aV0 b m fun s hs => h1 s hs) fun m => aV0 e m fun s hs => h2 s hs) s
theorem bL2 (l m : List b6) : k6.ok Tryz.prog (sbC l m) := aV0 l m fun s _ => bR4 s
theorem aN0 (xs xt : List Int) (l : List b6) (ys yt : List Int) (m : List b6) : k6.ok Tryz.prog (F6 185 [pA 0, pA 3] [dI xs, dI xt, dT l, dI ys, dI yt, dT m] (bA (decide (xs = ys) && (decide (xt = yt) && n4 l m)))) := by
  refine A2 24 Tryz.func185 [dI xs, dI xt, dT l, dI ys, dI yt, dT m] [(0, pA 0), (1, pA 3)] fun G => ?_; refine wp_seq (k8 G d9 [0, 1, 2, 3, 4, 5, 6, 14] [dI xs, dI xt, dT l, dI ys, dI yt, dT m, .box (pL 0), .box (pL 3)] [(2, .ptr 6 0), (3, .ptr 7 0), (4, bA false)] fun G => b7 (wp_seq ?_)); cases h0 : (decide (xs = ys))
  · have q0 := dFf h0; refine k8 G (t6 (l8 4 [0, 3] (aj4 xs ys) t5) (fc h0 (fc (b := false) rfl fz)) (us [(6, 10, 0), (1011, 1011, 0), (13, 17, 1), (1018, 1018, 1)])) (rg 6) [dI xs, dI xt, dT l, dI ys, dI yt, dT m] [(4, bA false)] fun G => b7 (wp_ret ?_); exact F2 G (rg 6)
  ·
   have q0 := dTt h0; cases h1 : (decide (xt = yt))
   · have q1 := dFf h1; refine k8 G (t6 (l8 4 [0, 3] (aj4 xs ys) (l8 10 [1, 4] (aj4 xt yt) t5)) (fc h0 (fc h1 fz)) (us [(6, 10, 0), (1011, 1011, 0), (13, 17, 1), (1018, 1018, 1)])) (rg 6) [dI xs, dI xt, dT l, dI ys, dI yt, dT m] [(4, bA false)] fun G => b7 (wp_ret ?_); exact F2 G (rg 6)
   · have q1 := dTt h1; refine k8 G (t6 (l8 4 [0, 3] (aj4 xs ys) (l8 10 [1, 4] (aj4 xt yt) (l8 17 [2, 5] (bL2 l m) t5))) (fc h0 (fc h1 fz)) (us [(6, 10, 0), (1011, 1011, 0), (13, 17, 1), (1018, 1018, 1)])) (rg 6) [dI xs, dI xt, dT l, dI ys, dI yt, dT m] [(4, bA (n4 l m))] fun G => b7 (wp_ret ?_); exact F2 G (rg 6)
theorem X2 (vs ars : List Int) (b : List b6) (e : b5) (he : f5 vs.length ars.length 5 e = true) : k6.ok Tryz.prog (F6 159 [pA 0, eA e 3] ([dI vs, dI ars, dT b] ++ eS e) (iA (b9 vs ars 5 e))) := K3 ⟨vs, ars, b⟩ e he
theorem ab4 (vs ars : List Int) (b : List b6) (hb : vs.length + ars.length + i5 b ≤ 1048576) : k6.ok Tryz.prog ⟨78, [pA 0], [dI vs, dI ars, dT b], [dI vs, dI ars, dT b, .row 3 (.ints vs), .row 3 (.ints ars), .tree (.stmts b)], oA 3⟩ := bE2 ⟨vs, ars, b⟩ hb
theorem U5 (vs ars : List Int) (b : List b6) (hb : i5 b ≤ 1048576) : k6.ok Tryz.prog (F6 77 [pA 0] [dI vs, dI ars, dT b] (.tup [iA (C7 ⟨vs, ars, b⟩ false).1, iA (C7 ⟨vs, ars, b⟩ false).2])) := a70 ⟨vs, ars, b⟩ hb
section
variable {vs ars : List Int} {cx : Int} {s : b6} {d : Nat} {b : Bool}
theorem on1 (k : s.kind = 1) : H7 (vs, ars) s cx = (vs.set s.target.toNat (i6 (i6 (vs.getD s.target.toNat 0) (b9 vs ars 5 s.value)) cx), ars) := if_pos k
theorem on2 (k : s.kind = 2) : H7 (vs, ars) s cx = (vs, ars.set s.target.toNat (i6 (i6 (i6 (ars.getD s.target.toNat 0) (b9 vs ars 5 s.value)) (b9 vs ars 5 s.index)) cx)) := by unfold H7; rw [if_neg (by omega), if_pos k]
theorem on0 {q : J6} (k1 : ¬ s.kind = 1) (k2 : ¬ s.kind = 2) : H7 q s cx = q := by unfold H7; rw [if_neg k1, if_neg k2]
theorem up1 {q : J6} (h1 : s.body = []) (h2 : s.els = []) : upS b (d + 1) q cx s = H7 q s cx := by rw [ag6, h1, h2]; rfl
theorem up3 {q : J6} (k : s.kind = 3) : upS true (d + 1) q cx s = y9 true d (y9 true d q (i6 cx (b9 q.1 q.2 5 s.value)) s.body) (i6 cx (b9 (y9 true d q (i6 cx (b9 q.1 q.2 5 s.value)) s.body).1 (y9 true d q (i6 cx (b9 q.1 q.2 5 s.value)) s.body).2 5 s.value)) s.els := by
 rw [ag6, on0 (by omega) (by omega)]
 unfold af6
 simp only [if_pos k, if_true]
theorem up4 {q : J6} (k : s.kind = 4) (h2 : s.els = []) : upS b (d + 1) q cx s = y9 b d q cx s.body := by
 rw [ag6, on0 (by omega) (by omega), h2]
 unfold af6
 simp only [if_neg (show ¬ s.kind = 3 by omega)]
 rfl
theorem ag7 {q : J6} {ss : List b6} {k : Nat} (hk : k < ss.length) : y9 b d q cx (ss.take (k + 1)) = upS b d (y9 b d q cx (ss.take k)) cx (ss.getD k b85) := by
 unfold y9
 rw [r9 _ _ hk, List.foldl_append, n6 hk]; rfl
theorem aB4 {nv na d k : Nat} {ss : List b6} (hs : ss.all (f6 nv na (d + 1)) = true) (hk : k < ss.length) (k3 : ¬ (ss.getD k b85).kind = 3) : (ss.getD k b85).els = [] ∧ (¬ (ss.getD k b85).kind = 4 → (ss.getD k b85).body = []) := by
 have h0 := b93.1 hs _ (cb0 hk)
 rw [← n6 (d := b85) hk] at h0
 rw [f6, b86] at h0
 have h1 := h0.1
 unfold z6 at h1
 by_cases k4 : (ss.getD k b85).kind = 4
 ·rw [if_pos (.inr k4), if_pos k4] at h1
  simp only [b86, decide_eq_true_eq] at h1
  exact ⟨ca0 h1.2.1.1.1.1, fun h => absurd k4 h⟩
 ·rw [if_neg (by omega)] at h1
  simp only [b86, decide_eq_true_eq] at h1
  exact ⟨ca0 h1.1.1.2, fun _ => ca0 h1.1.1.1⟩
section
variable {nv na d k : Nat} {ss : List b6} {q : J6} {cx : Int}
theorem rn1 (hs : ss.all (f6 nv na (d + 1)) = true) (hk : k < ss.length) (k1 : (ss.getD k b85).kind = 1) : y9 true (d + 1) q cx (ss.take (k + 1)) = ((y9 true (d + 1) q cx (ss.take k)).1.set (ss.getD k b85).target.toNat (i6 (i6 ((y9 true (d + 1) q cx (ss.take k)).1.getD (ss.getD k b85).target.toNat 0) (b9 (y9 true (d + 1) q cx (ss.take k)).1 (y9 true (d + 1) q cx (ss.take k)).2 5 (ss.getD k b85).value)) cx), (y9 true (d + 1) q cx (ss.take k)).2) := by
 have h1 := aB4 hs hk (by omega)
 rw [ag7 hk, up1 (h1.2 (by omega)) h1.1]
 exact on1 k1
theorem rn2 (hs : ss.all (f6 nv na (d + 1)) = true) (hk : k < ss.length) (k2 : (ss.getD k b85).kind = 2) : y9 true (d + 1) q cx (ss.take (k + 1)) = ((y9 true (d + 1) q cx (ss.take k)).1, (y9 true (d + 1) q cx (ss.take k)).2.set (ss.getD k b85).target.toNat (i6 (i6 (i6 ((y9 true (d + 1) q cx (ss.take k)).2.getD (ss.getD k b85).target.toNat 0) (b9 (y9 true (d + 1) q cx (ss.take k)).1 (y9 true (d + 1) q cx (ss.take k)).2 5 (ss.getD k b85).value)) (b9 (y9 true (d + 1) q cx (ss.take k)).1 (y9 true (d + 1) q cx (ss.take k)).2 5 (ss.getD k b85).index)) cx)) := by
 have h1 := aB4 hs hk (by omega)
 rw [ag7 hk, up1 (h1.2 (by omega)) h1.1]
 exact on2 k2
theorem rn3 (hk : k < ss.length) (k3 : (ss.getD k b85).kind = 3) : y9 true (d + 1) q cx (ss.take (k + 1)) = y9 true d (y9 true d (y9 true (d + 1) q cx (ss.take k)) (i6 cx (b9 (y9 true (d + 1) q cx (ss.take k)).1 (y9 true (d + 1) q cx (ss.take k)).2 5 (ss.getD k b85).value)) (ss.getD k b85).body) (i6 cx (b9 (y9 true d (y9 true (d + 1) q cx (ss.take k)) (i6 cx (b9 (y9 true (d + 1) q cx (ss.take k)).1 (y9 true (d + 1) q cx (ss.take k)).2 5 (ss.getD k b85).value)) (ss.getD k b85).body).1 (y9 true d (y9 true (d + 1) q cx (ss.take k)) (i6 cx (b9 (y9 true (d + 1) q cx (ss.take k)).1 (y9 true (d + 1) q cx (ss.take k)).2 5 (ss.getD k b85).value)) (ss.getD k b85).body).2 5 (ss.getD k b85).value)) (ss.getD k b85).els := by
 rw [ag7 hk, up3 k3]
theorem rn4 (hs : ss.all (f6 nv na (d + 1)) = true) (hk : k < ss.length) (k4 : (ss.getD k b85).kind = 4) : y9 true (d + 1) q cx (ss.take (k + 1)) = y9 true d (y9 true (d + 1) q cx (ss.take k)) cx (ss.getD k b85).body := by
 rw [ag7 hk, up4 k4 (aB4 hs hk (by omega)).1]
theorem rn0 (hs : ss.all (f6 nv na (d + 1)) = true) (hk : k < ss.length) (k1 : ¬ (ss.getD k b85).kind = 1) (k2 : ¬ (ss.getD k b85).kind = 2) (k3 : ¬ (ss.getD k b85).kind = 3) (k4 : ¬ (ss.getD k b85).kind = 4) : y9 true (d + 1) q cx (ss.take (k + 1)) = y9 true (d + 1) q cx (ss.take k) := by
 have h1 := aB4 hs hk k3
 rw [ag7 hk, up1 (h1.2 k4) h1.1, on0 k1 k2]
theorem bw4 (hk : ss.length ≤ k) : y9 true (d + 1) q cx ss = y9 true (d + 1) q cx (ss.take k) := by rw [ca3 hk]
theorem aU2 {q r : J6} {s : b6} (h : shP q r) (hv : q.1.length = nv) (ha : q.2.length = na) (hh : t7 nv na s = true) (k : ¬ s.kind = 4) : f5 r.1.length r.2.length 5 s.value = true := by rw [h.1, h.2, hv, ha]; exact n5 hh k
theorem bR2 {q r : J6} {s : b6} (h : shP q r) (hv : q.1.length = nv) (ha : q.2.length = na) (hh : t7 nv na s = true) (k : s.kind = 2) : f5 r.1.length r.2.length 5 s.index = true := by rw [h.1, h.2, hv, ha]; exact W9 hh k
end
end
abbrev raC (vs ars : List Int) (d : Nat) (bd ss : List b6) (cx : Int) : k6 := ⟨184, [pA 0, .ref 3, iA cx], [.row 3 (.ints vs), .row 3 (.ints ars), dT bd, dT ss], [.row 3 (.ints (y9 true d (vs, ars) cx ss).1), .row 3 (.ints (y9 true d (vs, ars) cx ss).2), dT bd, dT ss], .tup []⟩
abbrev ag1 (d : Nat) (ss : List b6) (vs : List Int) (ars : List Int) (cx : Int) (k : Nat) := y9 true d (y9 true (d + 1) (vs, ars) cx (b96 k ss)) (i6 cx (b9 (y9 true (d + 1) (vs, ars) cx (b96 k ss)).fst (y9 true (d + 1) (vs, ars) cx (b96 k ss)).snd 5 (ss.getD k b85).value)) (ss.getD k b85).body
abbrev t4 (d : Nat) (ss : List b6) (vs : List Int) (ars : List Int) (cx : Int) (k : Nat) := y9 true (d + 1) (vs, ars) cx (b96 k ss)
abbrev bf7 (d : Nat) (ss : List b6) (vs : List Int) (ars : List Int) (cx : Int) (k : Nat) := y9 true d (ag1 d ss vs ars cx k) (i6 cx (b9 (ag1 d ss vs ars cx k).fst (ag1 d ss vs ars cx k).snd 5 (ss.getD k b85).value)) (ss.getD k b85).els
abbrev aD6 (cx : Int) (k : Nat) (r0 : List (Nat × AV)) : List (Nat × AV) := (1, .ref 3) :: (2, iA cx) :: (3, .ptr 4 0) :: (6, iA (k : Int)) :: r0
theorem aP3 (nv na d : Nat) (bd ss : List b6) (ih : ∀ (vs ars : List Int) (tt : List b6) (cx : Int), 0 < ss.length → vs.length = nv → ars.length = na → tt.all (f6 nv na d) = true → k6.ok Tryz.prog (raC vs ars d bd tt cx))
    (vs ars : List Int) (cx : Int) (hv : vs.length = nv) (ha : ars.length = na) (hs : ss.all (f6 nv na (d + 1)) = true) : k6.ok Tryz.prog (raC vs ars (d + 1) bd ss cx) := by
  refine A2 94 Tryz.func184 [.row 3 (D.ints vs), .row 3 (D.ints ars), dT bd, dT ss] [(0, pA 0), (1, .ref 3), (2, iA cx)] fun G => ?_; have hlen : ss.length ≤ 9223372036854775807 := G.len 3 (d := .stmts ss) (by kernel_rfl); refine wp_seq (k8 G d9 (rg 5) [.row 3 (D.ints vs), .row 3 (D.ints ars), dT bd, dT ss, .box (pL 0)] [(1, .ref 3), (2, iA cx), (3, .ptr 4 0)] fun G => b7 (wp_seq (C9 G d9 [(1, .ref 3), (2, iA cx), (3, .ptr 4 0), (6, iA 0)] fun G => b7 (wp_block ?_)))); refine o9 (κ := Nat) (fun k => k ≤ ss.length) (fun k => ss.length - k) (fun k => [.row 3 (.ints (y9 true (d + 1) (vs, ars) cx (ss.take k)).1), .row 3 (.ints (y9 true (d + 1) (vs, ars) cx (ss.take k)).2), dT bd, dT ss, .box (pL 0)]) (fun k => [(1, .ref 3), (2, iA cx), (3, .ptr 4 0), (6, iA k)]) 0 (by simp [hs]) (s5.at G _ _) ?_; clear G; intro k ρ a w hp G; replace G := s5.at G [.row 3 (D.ints (t4 d ss vs ars cx k).fst), .row 3 (D.ints (t4 d ss vs ars cx k).snd), dT bd, dT ss, .box (pL 0)] (aD6 cx k []); have hsh : shP (vs, ars) (y9 true (d + 1) (vs, ars) cx (ss.take k)) := ao6; refine wp_seq (wp_seq (l5 G d9 [(11, bA (decide ((k : Int) < ss.length)))] fun G => b7 (O0 G (fun h0 q0 => ?_) fun h0 q0 => ?_)))
  · refine wp_exit (o5 (o5 (n9 ?_))); exact ax1 G (rg 4) (by show _ = mR (rg 4) [.row 3 (D.ints (y9 true (d + 1) (vs, ars) cx ss).fst), .row 3 (D.ints (y9 true (d + 1) (vs, ars) cx ss).snd), dT bd, dT ss]; have e1 : ((y9 true (d + 1) (vs, ars) cx ss).fst : List Int) = ((t4 d ss vs ars cx k).fst) := (congrArg Prod.fst (bw4 (by omega))); have e2 : ((y9 true (d + 1) (vs, ars) cx ss).snd : List Int) = ((t4 d ss vs ars cx k).snd) := (congrArg Prod.snd (bw4 (by omega))); (first | rw [e1, e2] | simp only [e1, e2]) <;> rfl)
  ·
   refine wp_skip (b7 (wp_seq (wp_block (wp_seq (O1 G d9 [0, 1, 2, 3, 4, 29, 30, 31, 32, 37] [.row 3 (D.ints (t4 d ss vs ars cx k).fst), .row 3 (D.ints (t4 d ss vs ars cx k).snd), dT bd, dT ss, .box (pL 0), dE (ss.getD k b85).index.kids, dE (ss.getD k b85).value.kids, dT (ss.getD k b85).body, dT (ss.getD k b85).els, .box (sL (ss.getD k b85) 5)] (aD6 cx k [(7, .ptr 9 0)]) (iX k k ss.length []) (iK (by omega) b94) fun G => b7 (wp_seq (l5 G d9 [(19, iA (ss.getD k b85).kind)] fun G => b7 (wp_block (wp_seq (l5 G d9 [(20, bA ((ss.getD k b85).kind == 1))] fun G => b7 (P9 G (fun h1 q1 => ?_) fun h1 q1 => ?_)))))))))))
   ·
    refine wp_seq (l5 G d9 [(40, bA ((ss.getD k b85).kind == 2))] fun G => b7 (P9 G (fun h2 q2 => ?_) fun h2 q2 => ?_))
    ·
     refine wp_seq (l5 G d9 [(65, bA ((ss.getD k b85).kind == 3))] fun G => b7 (P9 G (fun h3 q3 => ?_) fun h3 q3 => ?_))
     ·
      refine wp_seq (l5 G d9 [(87, bA ((ss.getD k b85).kind == 4))] fun G => b7 (P9 G (fun h4 q4 => ?_) fun h4 q4 => ?_))
      · refine wp_skip (m6 (m6 (b7 (O1 G d9 (rg 5) [.row 3 (D.ints (t4 d ss vs ars cx k).fst), .row 3 (D.ints (t4 d ss vs ars cx k).snd), dT bd, dT ss, .box (pL 0)] [(1, .ref 3), (2, iA cx), (3, .ptr 4 0), (6, iA ((k : Int) + 1))] [wO ((k : Int) + 1)] (o1 (by omega)) fun G => b7 ?_)))); exact M8 G (k + 1) (by omega) (by omega) (rg 5) (by have e1 : ((y9 true (d + 1) (vs, ars) cx (b96 (k + 1) ss)).fst : List Int) = ((t4 d ss vs ars cx k).fst) := (congrArg Prod.fst (rn0 hs (by omega) (by omega) (by omega) (by omega) (by omega))); have e2 : ((y9 true (d + 1) (vs, ars) cx (b96 (k + 1) ss)).snd : List Int) = ((t4 d ss vs ars cx k).snd) := (congrArg Prod.snd (rn0 hs (by omega) (by omega) (by omega) (by omega) (by omega))); (first | rw [e1, e2] | simp only [e1, e2]) <;> rfl)
      · refine k8 G (s6 4 [0, 1, 2, 7] (ih ((t4 d ss vs ars cx k).fst) ((t4 d ss vs ars cx k).snd) ((ss.getD k b85).body) cx (by omega) (hsh.1.trans hv) (hsh.2.trans ha) ((A7 hs (by omega)).2.1))) (rg 5) [.row 3 (D.ints (y9 true d (t4 d ss vs ars cx k) cx (ss.getD k b85).body).fst), .row 3 (D.ints (y9 true d (t4 d ss vs ars cx k) cx (ss.getD k b85).body).snd), dT bd, dT ss, .box (pL 0)] (aD6 cx k []) fun G => m6 (m6 (b7 (E2 G d9 [(6, iA ((k : Int) + 1))] [wO ((k : Int) + 1)] (o1 (by omega)) fun G => b7 ?_))); exact M8 G (k + 1) (by omega) (by omega) (rg 5) (by have e1 : ((y9 true (d + 1) (vs, ars) cx (b96 (k + 1) ss)).fst : List Int) = ((y9 true d (t4 d ss vs ars cx k) cx (ss.getD k b85).body).fst) := (congrArg Prod.fst (rn4 hs (by omega) (by omega))); have e2 : ((y9 true (d + 1) (vs, ars) cx (b96 (k + 1) ss)).snd : List Int) = ((y9 true d (t4 d ss vs ars cx k) cx (ss.getD k b85).body).snd) := (congrArg Prod.snd (rn4 hs (by omega) (by omega))); (first | rw [e1, e2] | simp only [e1, e2]) <;> rfl)
     · refine wp_seq (P1 G (t6 (l8 7 [0, 1, 2, 6] (k6.lend (X2 ((t4 d ss vs ars cx k).fst) ((t4 d ss vs ars cx k).snd) bd ((ss.getD k b85).value) (aU2 hsh hv ha (A7 hs (by omega)).1 (by omega))) [.row 3, .row 3]) (l8 9 [0, 1, 2, 7] (ih ((t4 d ss vs ars cx k).fst) ((t4 d ss vs ars cx k).snd) ((ss.getD k b85).body) (i6 cx (b9 (t4 d ss vs ars cx k).fst (t4 d ss vs ars cx k).snd 5 (ss.getD k b85).value)) (by omega) (hsh.1.trans hv) (hsh.2.trans ha) ((A7 hs (by omega)).2.1)) t5)) fz []) [0, 0, 2, 0, 0, 0, 32, 112, 248, 511] (rg 10) [.row 3 (D.ints (ag1 d ss vs ars cx k).fst), .row 3 (D.ints (ag1 d ss vs ars cx k).snd), dT bd, dT ss, .box (pL 0), dE (ss.getD k b85).index.kids, dE (ss.getD k b85).value.kids, dT (ss.getD k b85).body, dT (ss.getD k b85).els, .box (sL (ss.getD k b85) 5)] (aD6 cx k [(7, .ptr 9 0)]) fun G => b7 (P1 G (t6 (l8 7 [0, 1, 2, 6] (k6.lend (X2 ((ag1 d ss vs ars cx k).fst) ((ag1 d ss vs ars cx k).snd) bd ((ss.getD k b85).value) (aU2 (hsh.trans ao6) hv ha (A7 hs (by omega)).1 (by omega))) [.row 3, .row 3]) (l8 9 [0, 1, 2, 8] (ih ((ag1 d ss vs ars cx k).fst) ((ag1 d ss vs ars cx k).snd) ((ss.getD k b85).els) (i6 cx (b9 (ag1 d ss vs ars cx k).fst (ag1 d ss vs ars cx k).snd 5 (ss.getD k b85).value)) (by omega) ((hsh.trans ao6).1.trans hv) ((hsh.trans ao6).2.trans ha) ((A7 hs (by omega)).2.2)) t5)) fz []) [0, 0, 2, 0, 0, 0, 32, 112, 248, 511] (rg 5) [.row 3 (D.ints (bf7 d ss vs ars cx k).fst), .row 3 (D.ints (bf7 d ss vs ars cx k).snd), dT bd, dT ss, .box (pL 0)] (aD6 cx k []) fun G => m6 (m6 (b7 (E2 G d9 [(6, iA ((k : Int) + 1))] [wO ((k : Int) + 1)] (o1 (by omega)) fun G => b7 ?_))))); exact M8 G (k + 1) (by omega) (by omega) (rg 5) (by have e1 : ((y9 true (d + 1) (vs, ars) cx (b96 (k + 1) ss)).fst : List Int) = ((bf7 d ss vs ars cx k).fst) := (congrArg Prod.fst (rn3 (by omega) (by omega))); have e2 : ((y9 true (d + 1) (vs, ars) cx (b96 (k + 1) ss)).snd : List Int) = ((bf7 d ss vs ars cx k).snd) := (congrArg Prod.snd (rn3 (by omega) (by omega))); (first | rw [e1, e2] | simp only [e1, e2]) <;> rfl)
    · refine G2 G (t6 (l8 13 [0, 1, 2, 6] (k6.lend (X2 ((t4 d ss vs ars cx k).fst) ((t4 d ss vs ars cx k).snd) bd ((ss.getD k b85).value) (aU2 hsh hv ha (A7 hs (by omega)).1 (by omega))) [.row 3, .row 3]) (l8 18 [0, 1, 2, 5] (k6.lend (X2 ((t4 d ss vs ars cx k).fst) ((t4 d ss vs ars cx k).snd) bd ((ss.getD k b85).index) (bR2 hsh hv ha (A7 hs (by omega)).1 (by omega))) [.row 3, .row 3]) t5)) fz []) [0, 1, 0, 4, 0, 16, 0, 64, 240, 496, 0, 0, 2048, 7168, 16368, 0, 0, 65536, 244736, 524272, 0, 2097136, 4194303, 8388607] (rg 5) [.row 3 (D.ints (t4 d ss vs ars cx k).fst), .row 3 (D.ints ((t4 d ss vs ars cx k).snd.set (ss.getD k b85).target.toNat (i6 (i6 (i6 ((t4 d ss vs ars cx k).snd.getD (ss.getD k b85).target.toNat 0) (b9 (t4 d ss vs ars cx k).fst (t4 d ss vs ars cx k).snd 5 (ss.getD k b85).value)) (b9 (t4 d ss vs ars cx k).fst (t4 d ss vs ars cx k).snd 5 (ss.getD k b85).index)) cx))), dT bd, dT ss, .box (pL 0)] (aD6 cx k []) (iX ((ss.getD k b85).target) ((ss.getD k b85).target.toNat) ((y9 true (d + (1 : Nat)) (vs, ars) cx (b96 k ss)).snd.length) (iX ((ss.getD k b85).target) ((ss.getD k b85).target.toNat) ((y9 true (d + (1 : Nat)) (vs, ars) cx (b96 k ss)).snd.length) [])) (iK (by have h9 := Z7 (A7 (k := k) hs (by omega)).1 (by omega); have h8 := hsh.2.trans ha; omega) (iK (by have h9 := Z7 (A7 (k := k) hs (by omega)).1 (by omega); have h8 := hsh.2.trans ha; omega) b94)) fun G => m6 (m6 (b7 (E2 G d9 [(6, iA ((k : Int) + 1))] [wO ((k : Int) + 1)] (o1 (by omega)) fun G => b7 ?_))); exact M8 G (k + 1) (by have h9 := Z7 (A7 (k := k) hs (by omega)).1 (by omega); have h8 := hsh.2.trans ha; omega) (by have h9 := Z7 (A7 (k := k) hs (by omega)).1 (by omega); have h8 := hsh.2.trans ha; omega) (rg 5) (by have e2 : ((y9 true (d + 1) (vs, ars) cx (b96 (k + 1) ss)).snd : List Int) = ((t4 d ss vs ars cx k).snd.set (ss.getD k b85).target.toNat (i6 (i6 (i6 ((t4 d ss vs ars cx k).snd.getD (ss.getD k b85).target.toNat 0) (b9 (t4 d ss vs ars cx k).fst (t4 d ss vs ars cx k).snd 5 (ss.getD k b85).value)) (b9 (t4 d ss vs ars cx k).fst (t4 d ss vs ars cx k).snd 5 (ss.getD k b85).index)) cx)) := (congrArg Prod.snd (rn2 hs (by omega) (by omega))); have h9 := rn2 (q := (vs, ars)) (cx := cx) hs (show k < _ by omega) (by omega); rw [e2, h9] <;> rfl)
   · refine G2 G (s6 13 [0, 1, 2, 6] (k6.lend (X2 ((t4 d ss vs ars cx k).fst) ((t4 d ss vs ars cx k).snd) bd ((ss.getD k b85).value) (aU2 hsh hv ha (A7 hs (by omega)).1 (by omega))) [.row 3, .row 3])) [0, 1, 0, 4, 0, 16, 0, 64, 240, 496, 0, 0, 2048, 7168, 16368, 0, 65520, 131071, 262143] (rg 5) [.row 3 (D.ints ((t4 d ss vs ars cx k).fst.set (ss.getD k b85).target.toNat (i6 (i6 ((t4 d ss vs ars cx k).fst.getD (ss.getD k b85).target.toNat 0) (b9 (t4 d ss vs ars cx k).fst (t4 d ss vs ars cx k).snd 5 (ss.getD k b85).value)) cx))), .row 3 (D.ints (t4 d ss vs ars cx k).snd), dT bd, dT ss, .box (pL 0)] (aD6 cx k []) (iX ((ss.getD k b85).target) ((ss.getD k b85).target.toNat) ((y9 true (d + (1 : Nat)) (vs, ars) cx (b96 k ss)).fst.length) (iX ((ss.getD k b85).target) ((ss.getD k b85).target.toNat) ((y9 true (d + (1 : Nat)) (vs, ars) cx (b96 k ss)).fst.length) [])) (iK (by have h9 := W8 (A7 (k := k) hs (by omega)).1 (by omega); have h8 := hsh.1.trans hv; omega) (iK (by have h9 := W8 (A7 (k := k) hs (by omega)).1 (by omega); have h8 := hsh.1.trans hv; omega) b94)) fun G => m6 (m6 (b7 (E2 G d9 [(6, iA ((k : Int) + 1))] [wO ((k : Int) + 1)] (o1 (by omega)) fun G => b7 ?_))); exact M8 G (k + 1) (by have h9 := W8 (A7 (k := k) hs (by omega)).1 (by omega); have h8 := hsh.1.trans hv; omega) (by have h9 := W8 (A7 (k := k) hs (by omega)).1 (by omega); have h8 := hsh.1.trans hv; omega) (rg 5) (by have e1 : ((y9 true (d + 1) (vs, ars) cx (b96 (k + 1) ss)).fst : List Int) = ((t4 d ss vs ars cx k).fst.set (ss.getD k b85).target.toNat (i6 (i6 ((t4 d ss vs ars cx k).fst.getD (ss.getD k b85).target.toNat 0) (b9 (t4 d ss vs ars cx k).fst (t4 d ss vs ars cx k).snd 5 (ss.getD k b85).value)) cx)) := (congrArg Prod.fst (rn1 hs (by omega) (by omega))); have h9 := rn1 (q := (vs, ars)) (cx := cx) hs (show k < _ by omega) (by omega); rw [e1, h9] <;> rfl)
theorem bd8 (nv na : Nat) (bd : List b6) : ∀ (d : Nat) (vs ars : List Int) (ss : List b6) (cx : Int), vs.length = nv → ars.length = na → ss.all (f6 nv na d) = true → k6.ok Tryz.prog (raC vs ars d bd ss cx) := by
 intro d
 induction d with
 | zero =>
  intro vs ars ss cx hv ha hs
  have h0 : ss = [] := by
   cases ss with
   | nil => rfl
   | cons a r => simp [f6] at hs
  subst h0
  exact aP3 nv na 0 bd [] (fun _ _ _ _ h => absurd h (by simp)) vs ars cx hv ha rfl
 | succ d ih => intro vs ars ss cx hv ha hs; exact aP3 nv na d bd ss (fun vs ars tt cx _ h1 h2 h3 => ih vs ars tt cx h1 h2 h3) vs ars cx hv ha hs
theorem bd7 (vs ars : List Int) (b : List b6) (hs : b.all (f6 vs.length ars.length 5) = true) : k6.ok Tryz.prog ⟨184, [pA 0, .ref 2, iA 0], [.row 3 (.ints vs), .row 3 (.ints ars), dT b], [.row 3 (.ints (y9 true 5 (vs, ars) 0 b).1), .row 3 (.ints (y9 true 5 (vs, ars) 0 b).2), dT b], .tup []⟩ :=
 k6.dup (S := [.row 3 (.ints vs), .row 3 (.ints ars), dT b]) (S' := [.row 3 (.ints (y9 true 5 (vs, ars) 0 b).1), .row 3 (.ints (y9 true 5 (vs, ars) 0 b).2), dT b]) (d := .stmts b) (i := 2) (bd8 _ _ b 5 vs ars b 0 rfl rfl hs) rfl rfl rfl (fun ρ h => by simp only [AV.vals, AV.val]; rw [show ρ 3 = ρ 2 from h]) rfl
def pkX (b : List UInt8) (k : Int) : Int := ((b.getD (k.tmod b.length).toNat 0).toNat : Int) * 131 + ((b.getD ((k * 7 + 3).tmod b.length).toNat 0).toNat : Int) * 1117 + k * 29 + k.tdiv b.length * 53
def pk (b : List UInt8) (k n : Int) : Int :=
 if n < 1 ∨ b.length = 0 then 0 else if k < b.length then ((b.getD k.toNat 0).toNat : Int).tmod n else (a87 (pkX b k) ((pkX b k).tdiv 64)).tmod n
def nm (b : List UInt8) (k : Int) (l : List Int) : Int := l.getD (pk b k l.length).toNat 0
theorem bF7 {x y : Int} (hx : 0 ≤ x) (hx2 : x < 9223372036854775808) (hy : 0 ≤ y) (hy2 : y < 9223372036854775808) : 0 ≤ a87 x y := by
 obtain ⟨a, rfl⟩ := Int.eq_ofNat_of_zero_le hx
 obtain ⟨c, rfl⟩ := Int.eq_ofNat_of_zero_le hy
 have ha : a < 2 ^ 63 := by omega
 have hc : c < 2 ^ 63 := by omega
 have h : (BitVec.ofInt (IntKind.bits .i64) (a : Int) ^^^ BitVec.ofInt (IntKind.bits .i64) (c : Int)).toNat < 2 ^ 63 := by
  rw [BitVec.toNat_xor]
  refine Nat.xor_lt_two_pow ?_ ?_
  ·simp only [BitVec.ofInt_natCast, BitVec.toNat_ofNat, IntKind.bits]; omega
  ·simp only [BitVec.ofInt_natCast, BitVec.toNat_ofNat, IntKind.bits]; omega
 unfold a87
 generalize (BitVec.ofInt (IntKind.bits .i64) (a : Int) ^^^ BitVec.ofInt (IntKind.bits .i64) (c : Int)).toNat = z at h ⊢
 rw [w64 (by omega) (by omega)]
 omega
theorem aO6 (x : UInt8) : ((x.toNat : Nat) : Int) ≤ 255 := by have := x.toNat_lt; omega
theorem a03 {k n : Int} (hk : 0 ≤ k) (hn : 1 ≤ n) : 0 ≤ k.tdiv n ∧ k.tdiv n ≤ k := by
 refine ⟨Int.tdiv_nonneg hk (by omega), ?_⟩
 rw [Int.tdiv_eq_ediv_of_nonneg hk]
 exact Int.ediv_le_self _ hk
theorem a23 {b : List UInt8} {k : Int} (hk : 0 ≤ k) (hk2 : k ≤ 1000000000) (hb : b.length ≠ 0) : 0 ≤ pkX b k ∧ pkX b k ≤ 100000000000 := by
 unfold pkX
 have h1 := aO6 (b.getD (k.tmod b.length).toNat 0)
 have h2 := aO6 (b.getD ((k * 7 + 3).tmod b.length).toNat 0)
 have h3 := a03 (n := b.length) hk (by omega)
 omega
theorem a91 {x n : Int} (hx : 0 ≤ x) (hn : 1 ≤ n) : 0 ≤ x.tmod n ∧ x.tmod n < n := ⟨Int.tmod_nonneg _ hx, Int.tmod_lt_of_pos _ (by omega)⟩
theorem ae9 {b : List UInt8} {k : Int} (hk : 0 ≤ k) (hk2 : k ≤ 1000000000) (hb : b.length ≠ 0) : 0 ≤ (pkX b k).tdiv 64 ∧ (pkX b k).tdiv 64 ≤ 100000000000 := by
 have h := a23 hk hk2 hb
 have h2 := a03 (n := 64) h.1 (by omega)
 omega
theorem b53 (b : List UInt8) {k n : Int} (hk : 0 ≤ k) (hk2 : k ≤ 1000000000) (hn : 1 ≤ n) : 0 ≤ pk b k n ∧ pk b k n < n := by
 unfold pk
 split
 ·omega
 ·split
  ·exact a91 (by omega) hn
  ·have h := a23 hk hk2 (show b.length ≠ 0 by omega)
   have h2 := ae9 hk hk2 (show b.length ≠ 0 by omega)
   exact a91 (bF7 h.1 (by omega) h2.1 (by omega)) hn
theorem bj0 (b : List UInt8) {k : Int} (hk : 0 ≤ k) (hk2 : k ≤ 1000000000) {l : List Int} (hl : l ≠ []) : 0 ≤ pk b k l.length ∧ pk b k l.length < l.length ∧ (pk b k l.length).toNat < l.length := by
 have h0 : 0 < l.length := List.length_pos_iff.2 hl
 have h := b53 b (n := l.length) hk hk2 (by omega)
 omega
theorem aW2 (b : List UInt8) {k : Int} (hk : 0 ≤ k) (hk2 : k ≤ 1000000000) {l : List Int} (hl : l ≠ []) : nm b k l ∈ l := by
 unfold nm
 rw [n6 (bj0 b hk hk2 hl).2.2]
 exact cb0 _
abbrev l1L : List Int := [-1] ++ ([4] ++ ([9223372036854775807] ++ ([-9223372036854775808] ++ [])))
def l1D (b : List UInt8) (k : Int) : Int := if pk b k 12 = 0 then nm b (k + 1) l1L else pk b (k + 1) 4
def F9 {α : Type} (f : Int → α × Int) : Nat → Int → List α × Int
 | 0, k => ([], k)
 | n + 1, k => ((F9 f n k).1 ++ [(f (F9 f n k).2).1], (f (F9 f n k).2).2)
theorem aY1 {α : Type} (f : Int → α × Int) (n : Nat) (k : Int) : (F9 f n k).1.length = n := by
 induction n with
 | zero => rfl
 | succ n ih => simp [F9, ih]
theorem bC9 {α : Type} {f : Int → α × Int} {c : Int} (hc : 0 ≤ c) {m : Nat} : ∀ (n : Nat) (k : Int), n ≤ m → (∀ j, k ≤ j → j ≤ k + m * c → j ≤ (f j).2 ∧ (f j).2 ≤ j + c) → k ≤ (F9 f n k).2 ∧ (F9 f n k).2 ≤ k + n * c := by
 intro n
 induction n with
 | zero => intro k _ _; simp [F9]
 | succ n ih =>
  intro k hm h
  have h1 := ih k (by omega) h
  have e : ((n + 1 : Nat) : Int) * c = n * c + c := by rw [Int.natCast_add, Int.add_mul]; simp
  have h3 : ((n + 1 : Nat) : Int) * c ≤ m * c := cc5 (by omega) hc
  have h2 := h (F9 f n k).2 h1.1 (by omega)
  simp only [F9]
  rw [e]
  omega
theorem bK5 {α : Type} {f : Int → α × Int} {Q : α → Prop} (h : ∀ j, Q (f j).1) (n : Nat) (k : Int) : ∀ x ∈ (F9 f n k).1, Q x := by
 induction n with
 | zero => intro x hx; cases hx
 | succ n ih =>
  intro x hx
  simp only [F9, ca2, ca5] at hx
  rcases hx with hx | rfl
  ·exact ih x hx
  ·exact h _
abbrev atL : List Int := [1] ++ ([0] ++ ([2] ++ ([3] ++ ([255] ++ ([7] ++ ([128] ++ []))))))
def o6 (b : List UInt8) (nv : Int) (k : Int) : b5 := if pk b k 3 = 0 then ⟨1, nm b (k + 1) atL, []⟩ else ⟨2, pk b (k + 1) nv, []⟩
abbrev L9 : List Int := [4] ++ ([10] ++ ([8] ++ ([9] ++ ([3] ++ ([6] ++ ([7] ++ ([5] ++ ([11] ++ []))))))))
def K6 (b : List UInt8) (nv na : Int) : Nat → Int → b5 × Int
 | 0, k => (o6 b nv k, k + 2)
 | d + 1, k => if d = 0 then (o6 b nv k, k + 2) else if pk b k 4 = 0 then (o6 b nv (k + 1), k + 3)
  else if nm b (k + 1) L9 = 3 then (if na = 0 then (o6 b nv (k + 2), k + 4) else (⟨3, pk b (k + 2) na, [o6 b nv (k + 3)]⟩, k + 5))
  else (⟨nm b (k + 1) L9, 0, (F9 (K6 b nv na d) (m9 (nm b (k + 1) L9)).toNat (k + 2)).1⟩, (F9 (K6 b nv na d) (m9 (nm b (k + 1) L9)).toNat (k + 2)).2)
def cE : Nat → Int
 | 0 => 2
 | d + 1 => 5 + 3 * cE d
theorem aL1 (d : Nat) : 2 ≤ cE d := by
 induction d with
 | zero => exact Int.le_refl _
 | succ d ih => simp only [cE]; omega
theorem ar3 (k : Int) : (m9 k).toNat ≤ 3 := by unfold m9; (repeat' split) <;> decide
theorem a53 (b : List UInt8) (nv na : Int) : ∀ (d : Nat) (k : Int), k ≤ (K6 b nv na d k).2 ∧ (K6 b nv na d k).2 ≤ k + cE d
 | 0, k => by simp only [K6, cE]; omega
 | d + 1, k => by
  have hc := aL1 d
  rw [K6]
  simp only [cE]
  split
  ·simp only; omega
  ·split
   ·simp only; omega
   ·split
    ·split <;> (simp only; omega)
    ·have h3 := ar3 (nm b (k + 1) L9)
     have h := bC9 (f := K6 b nv na d) (c := cE d) (m := 3) (by omega) (m9 (nm b (k + 1) L9)).toNat (k + 2) h3 fun j _ _ => a53 b nv na d j
     have h4 : ((m9 (nm b (k + 1) L9)).toNat : Int) * cE d ≤ 3 * cE d := cc5 (by omega) (by omega)
     simp only
     omega
theorem bh1 {c : Nat} : ∀ {l : List b5}, (∀ x ∈ l, v7 x ≤ c) → n8 l ≤ l.length * (1 + c)
 | [], _ => cc1 _
 | e :: r, h => by
  have h1 := h e (ca1 ..)
  have h2 := bh1 (l := r) fun x hx => h x (ca8 _ hx)
  simp only [n8, b87]
  rw [Nat.add_mul]
  omega
theorem bD0 (b : List UInt8) (nv na : Int) : ∀ (d : Nat) (k : Int), (v7 (K6 b nv na d k).1 : Int) ≤ cE d
 | 0, k => by
  simp only [K6, cE, o6]
  split <;> simp [v7, n8]
 | d + 1, k => by
  have hc := aL1 d
  have ha : ∀ j, v7 (o6 b nv j) = 0 := fun j => by unfold o6; split <;> rfl
  rw [K6]
  simp only [cE]
  split
  ·simp only [ha]; omega
  ·split
   ·simp only [ha]; omega
   ·split
    ·split
     ·simp only [ha]; omega
     ·simp only [v7, n8, ha]; omega
    ·have h3 := ar3 (nm b (k + 1) L9)
     have h1 := bK5 (f := K6 b nv na d) (Q := fun x => v7 x ≤ (cE d).toNat) (fun j => by have := bD0 b nv na d j; omega) (m9 (nm b (k + 1) L9)).toNat (k + 2)
     have h2 := bh1 h1
     rw [aY1] at h2
     simp only [v7]
     have h4 := cc2 (1 + (cE d).toNat) h3
     omega
abbrev dpL : List Int := [2] ++ ([3] ++ ([2] ++ ([1] ++ ([4] ++ []))))
def t9 (b : List UInt8) (nv na : Nat) (k : Int) : b5 × Int :=
 if l6 nv na (K6 b nv na (nm b k dpL).toNat (k + 1)).1 = true then K6 b nv na (nm b k dpL).toNat (k + 1)
 else (o6 b nv (K6 b nv na (nm b k dpL).toNat (k + 1)).2, (K6 b nv na (nm b k dpL).toNat (k + 1)).2 + 2)
theorem cE4 {d : Nat} (h : d ≤ 4) : cE d ≤ 364 := by
 match d, h with
 | 0, _ => decide
 | 1, _ => decide
 | 2, _ => decide
 | 3, _ => decide
 | 4, _ => decide
theorem dp4 (b : List UInt8) {k : Int} (hk : 0 ≤ k) (hk2 : k ≤ 1000000000) : 1 ≤ nm b k dpL ∧ nm b k dpL ≤ 4 ∧ (nm b k dpL).toNat ≤ 4 := by
 have h := aW2 b hk hk2 (l := dpL) (by simp)
 simp only [ca2, cb7, List.not_mem_nil, or_false] at h
 omega
theorem bU8 (b : List UInt8) {k : Int} (hk : 0 ≤ k) (hk2 : k ≤ 1000000000) : nm b k dpL = ((nm b k dpL).toNat : Int) := by have := dp4 b hk hk2; omega
theorem bh7 (b : List UInt8) (nv na : Nat) {k : Int} (hk : 0 ≤ k) (hk2 : k ≤ 1000000000) : k ≤ (t9 b nv na k).2 ∧ (t9 b nv na k).2 ≤ k + 367 := by
 have h := a53 b nv na (nm b k dpL).toNat (k + 1)
 have h2 := cE4 (dp4 b hk hk2).2.2
 unfold t9
 split
 ·omega
 ·simp only; omega
theorem a73 (b : List UInt8) (nv j : Int) : v7 (o6 b nv j) = 0 := by unfold o6; split <;> rfl
theorem a98 (b : List UInt8) (nv na : Nat) {k : Int} (hk : 0 ≤ k) (hk2 : k ≤ 1000000000) : v7 (t9 b nv na k).1 ≤ 364 := by
 have h := bD0 b nv na (nm b k dpL).toNat (k + 1)
 have h2 := cE4 (dp4 b hk hk2).2.2
 unfold t9
 split
 ·omega
 ·rw [a73]; omega
abbrev noE : b5 := ⟨0, 0, []⟩
abbrev J7 : List Int := [1] ++ ([1] ++ ([2] ++ ([3] ++ ([4] ++ ([1] ++ ([3] ++ ([5] ++ [])))))))
abbrev ibL : List Int := [1] ++ ([2] ++ ([1] ++ ([0] ++ [])))
abbrev ieL : List Int := [0] ++ ([1] ++ ([0] ++ ([2] ++ [])))
abbrev rcL : List Int := [2] ++ ([1] ++ ([3] ++ []))
abbrev rbL : List Int := [1] ++ ([2] ++ ([1] ++ []))
def dfS (b : List UInt8) (nv na : Nat) (kd k : Int) : b6 × Int := (⟨if kd = 5 then 5 else 1, pk b k nv, noE, (t9 b nv na (k + 1)).1, 0, [], []⟩, (t9 b nv na (k + 1)).2)
def soS (b : List UInt8) (nv na : Nat) (k : Int) : b6 × Int := (⟨2, pk b k na, o6 b nv (k + 1), (t9 b nv na (k + 1 + 2)).1, 0, [], []⟩, (t9 b nv na (k + 1 + 2)).2)
def mnD (b : List UInt8) (f : Int → b6 × Int) (l : List Int) (k : Int) : List b6 × Int := F9 f (nm b k l).toNat (k + 1)
def ifS (b : List UInt8) (nv na : Nat) (f : Int → b6 × Int) (k : Int) : b6 × Int :=
 (⟨3, 0, noE, (t9 b nv na k).1, 0, (mnD b f ibL (t9 b nv na k).2).1, (mnD b f ieL (mnD b f ibL (t9 b nv na k).2).2).1⟩, (mnD b f ieL (mnD b f ibL (t9 b nv na k).2).2).2)
def rpS (b : List UInt8) (f : Int → b6 × Int) (k : Int) : b6 × Int := (⟨4, 0, noE, noE, nm b k rcL, (mnD b f rbL (k + 1)).1, []⟩, (mnD b f rbL (k + 1)).2)
def B6 (b : List UInt8) (nv na : Nat) : Nat → Int → b6 × Int
 | 0, k => if nm b k J7 = 2 ∧ na ≠ 0 then soS b nv na (k + 1) else dfS b nv na (nm b k J7) (k + 1)
 | d + 1, k => if nm b k J7 = 2 ∧ na ≠ 0 then soS b nv na (k + 1) else if nm b k J7 = 3 ∧ d ≠ 0 then ifS b nv na (B6 b nv na d) (k + 1) else if nm b k J7 = 4 ∧ d ≠ 0 then rpS b (B6 b nv na d) (k + 1)
  else dfS b nv na (nm b k J7) (k + 1)
def cS : Nat → Int
 | 0 => 402
 | d + 1 => 402 + 4 * cS d
theorem aA4 (d : Nat) : 402 ≤ cS d := by
 induction d with
 | zero => exact Int.le_refl _
 | succ d ih => simp only [cS]; omega
section
variable (b : List UInt8) (nv na : Nat) {k : Int}
theorem bQ1 (kd : Int) (hk : 0 ≤ k) (hk2 : k + 400 ≤ 1000000000) : k ≤ (dfS b nv na kd k).2 ∧ (dfS b nv na kd k).2 ≤ k + 368 := by
 have h := bh7 b nv na (k := k + 1) (by omega) (by omega)
 simp only [dfS]; omega
theorem bO2 (hk : 0 ≤ k) (hk2 : k + 400 ≤ 1000000000) : k ≤ (soS b nv na k).2 ∧ (soS b nv na k).2 ≤ k + 370 := by
 have h := bh7 b nv na (k := k + 1 + 2) (by omega) (by omega)
 simp only [soS]; omega
theorem nm2 {l : List Int} (hl : l ≠ []) (h : ∀ x ∈ l, 0 ≤ x ∧ x ≤ 2) (hk : 0 ≤ k) (hk2 : k ≤ 1000000000) : (nm b k l).toNat ≤ 2 ∧ nm b k l = ((nm b k l).toNat : Int) := by
 have := h _ (aW2 b hk hk2 hl); omega
theorem by5 {f : Int → b6 × Int} {c : Int} {l : List Int} (hl : l ≠ []) (h : ∀ x ∈ l, 0 ≤ x ∧ x ≤ 2) (hc : 0 ≤ c) (hk : 0 ≤ k) (hk2 : k + 1 + 2 * c ≤ 1000000000) (hf : ∀ j, 0 ≤ j → j + c ≤ 1000000000 → j ≤ (f j).2 ∧ (f j).2 ≤ j + c) : k ≤ (mnD b f l k).2 ∧ (mnD b f l k).2 ≤ k + 1 + 2 * c := by
 have h2 := (nm2 b hl h hk (by omega)).1
 have h3 : ∀ m : Nat, m ≤ 2 → k + 1 ≤ (F9 f m (k + 1)).2 ∧ (F9 f m (k + 1)).2 ≤ k + 1 + m * c := by
  intro m
  induction m with
  | zero => intro _; simp [F9]
  | succ m ih =>
   intro hm
   have h4 := ih (by omega)
   have h6 : (m : Int) * c ≤ 1 * c := cc5 (by omega) hc
   have h5 := hf (F9 f m (k + 1)).2 (by omega) (by omega)
   have e : ((m + 1 : Nat) : Int) * c = m * c + c := by rw [Int.natCast_add, Int.add_mul]; simp
   simp only [F9]
   rw [e]
   omega
 have h4 := h3 _ h2
 have h6 : ((nm b k l).toNat : Int) * c ≤ 2 * c := cc5 (by omega) hc
 unfold mnD
 omega
theorem bc7 : ∀ x : Int, x ∈ ibL → 0 ≤ x ∧ x ≤ 2 := by intro x hx; simp only [ca2, cb7, List.not_mem_nil, or_false] at hx; omega
theorem bc5 : ∀ x : Int, x ∈ ieL → 0 ≤ x ∧ x ≤ 2 := by intro x hx; simp only [ca2, cb7, List.not_mem_nil, or_false] at hx; omega
theorem ba7 : ∀ x : Int, x ∈ rbL → 0 ≤ x ∧ x ≤ 2 := by intro x hx; simp only [ca2, cb7, List.not_mem_nil, or_false] at hx; omega
theorem bP7 {f : Int → b6 × Int} {c : Int} (hc : 0 ≤ c) (hk : 0 ≤ k) (hk2 : k + 380 + 4 * c ≤ 1000000000) (hf : ∀ j, 0 ≤ j → j + c ≤ 1000000000 → j ≤ (f j).2 ∧ (f j).2 ≤ j + c) : k ≤ (t9 b nv na k).2 ∧ (t9 b nv na k).2 ≤ k + 367 ∧ (t9 b nv na k).2 ≤ (mnD b f ibL (t9 b nv na k).2).2 ∧ (mnD b f ibL (t9 b nv na k).2).2 ≤ k + 370 + 2 * c ∧ k ≤ (ifS b nv na f k).2 ∧ (ifS b nv na f k).2 ≤ k + 380 + 4 * c := by
 have h1 := bh7 b nv na (k := k) (by omega) (by omega)
 have h2 := by5 b (k := (t9 b nv na k).2) (f := f) (c := c) (l := ibL) (by simp) bc7 hc (by omega) (by omega) hf
 have h3 := by5 b (k := (mnD b f ibL (t9 b nv na k).2).2) (f := f) (c := c) (l := ieL) (by simp) bc5 hc (by omega) (by omega) hf
 simp only [ifS]
 omega
theorem bY8 {f : Int → b6 × Int} {c : Int} (hc : 0 ≤ c) (hk : 0 ≤ k) (hk2 : k + 10 + 2 * c ≤ 1000000000) (hf : ∀ j, 0 ≤ j → j + c ≤ 1000000000 → j ≤ (f j).2 ∧ (f j).2 ≤ j + c) : k ≤ (rpS b f k).2 ∧ (rpS b f k).2 ≤ k + 10 + 2 * c := by
 have h2 := by5 b (k := k + 1) (f := f) (c := c) (l := rbL) (by simp) ba7 hc (by omega) (by omega) hf
 simp only [rpS]; omega
theorem a07 : ∀ (d : Nat) (k : Int), 0 ≤ k → k + cS d ≤ 1000000000 → k ≤ (B6 b nv na d k).2 ∧ (B6 b nv na d k).2 ≤ k + cS d
 | 0, k, hk, hk2 => by
  rw [B6]
  simp only [cS] at hk2 ⊢
  have h1 := bO2 b nv na (k := k + 1) (by omega) (by omega)
  have h2 := bQ1 b nv na (k := k + 1) (nm b k J7) (by omega) (by omega)
  split <;> omega
 | d + 1, k, hk, hk2 => by
  rw [B6]
  simp only [cS] at hk2 ⊢
  have hc := aA4 d
  have ih := a07 d
  have h1 := bO2 b nv na (k := k + 1) (by omega) (by omega)
  have h2 := bQ1 b nv na (k := k + 1) (nm b k J7) (by omega) (by omega)
  have h3 := bP7 b nv na (k := k + 1) (f := B6 b nv na d) (c := cS d) (by omega) (by omega) (by omega) ih
  have h4 := bY8 b (k := k + 1) (f := B6 b nv na d) (c := cS d) (by omega) (by omega) (by omega) ih
  (repeat' split) <;> omega
theorem bb5 : v7 noE = 0 := rfl
theorem bD1 (kd : Int) (hk : 0 ≤ k) (hk2 : k + 400 ≤ 1000000000) : D7 (dfS b nv na kd k).1 ≤ 364 := by
 have h := a98 b nv na (k := k + 1) (by omega) (by omega)
 simp only [dfS, D7, i5, bb5]; omega
theorem bu6 (hk : 0 ≤ k) (hk2 : k + 400 ≤ 1000000000) : D7 (soS b nv na k).1 ≤ 364 := by
 have h := a98 b nv na (k := k + 1 + 2) (by omega) (by omega)
 simp only [soS, D7, i5, a73]; omega
def Drw (f : Int → b6 × Int) (c : Int) : Prop := ∀ j, 0 ≤ j → j + c ≤ 1000000000 → j ≤ (f j).2 ∧ (f j).2 ≤ j + c ∧ (D7 (f j).1 : Int) ≤ c
theorem aY0 {f : Int → b6 × Int} {c : Int} (hc : 0 ≤ c) (hf : Drw f c) : ∀ (m : Nat) (k : Int), 0 ≤ k → k + m * c ≤ 1000000000 → k ≤ (F9 f m k).2 ∧ (F9 f m k).2 ≤ k + m * c ∧ (i5 (F9 f m k).1 : Int) ≤ m * (1 + c) := by
 intro m
 induction m with
 | zero => intro k _ _; simp [F9, i5]
 | succ m ih =>
  intro k hk hk2
  have e : ((m + 1 : Nat) : Int) * c = m * c + c := by rw [Int.natCast_add, Int.add_mul]; simp
  have e2 : ((m + 1 : Nat) : Int) * (1 + c) = m * (1 + c) + (1 + c) := by rw [Int.natCast_add, Int.add_mul]; simp
  rw [e] at hk2
  have h4 := ih k hk (by omega)
  have h5 := hf (F9 f m k).2 (by omega) (by omega)
  have h6 : i5 ((F9 f m k).1 ++ [(f (F9 f m k).2).1]) = i5 (F9 f m k).1 + (1 + D7 (f (F9 f m k).2).1) := by
   generalize (F9 f m k).1 = l
   induction l with
   | nil => simp [i5]
   | cons a r ih => simp only [List.cons_append, i5]; omega
  simp only [F9]
  rw [e, e2, h6]
  omega
theorem bb7 {f : Int → b6 × Int} {c : Int} {l : List Int} (hl : l ≠ []) (h : ∀ x ∈ l, 0 ≤ x ∧ x ≤ 2) (hc : 0 ≤ c) (hk : 0 ≤ k) (hk2 : k + 1 + 2 * c ≤ 1000000000) (hf : Drw f c) : (i5 (mnD b f l k).1 : Int) ≤ 2 * (1 + c) := by
 have h2 := (nm2 b hl h hk (by omega)).1
 have h6 : ((nm b k l).toNat : Int) * c ≤ 2 * c := cc5 (by omega) hc
 have h7 : ((nm b k l).toNat : Int) * (1 + c) ≤ 2 * (1 + c) := cc5 (by omega) (by omega)
 have h3 := (aY0 hc hf (nm b k l).toNat (k + 1) (by omega) (by omega)).2.2
 unfold mnD
 omega
theorem a96 : ∀ (d : Nat) (k : Int), 0 ≤ k → k + cS d ≤ 1000000000 → (D7 (B6 b nv na d k).1 : Int) ≤ cS d
 | 0, k, hk, hk2 => by
  rw [B6]
  simp only [cS] at hk2 ⊢
  have h1 := bu6 b nv na (k := k + 1) (by omega) (by omega)
  have h2 := bD1 b nv na (k := k + 1) (nm b k J7) (by omega) (by omega)
  split <;> omega
 | d + 1, k, hk, hk2 => by
  rw [B6]
  simp only [cS] at hk2 ⊢
  have hc := aA4 d
  have ih := a07 b nv na d
  have hf : Drw (B6 b nv na d) (cS d) := fun j h1 h2 => ⟨(ih j h1 h2).1, (ih j h1 h2).2, a96 d j h1 h2⟩
  have h1 := bu6 b nv na (k := k + 1) (by omega) (by omega)
  have h2 := bD1 b nv na (k := k + 1) (nm b k J7) (by omega) (by omega)
  have h3 := bP7 b nv na (k := k + 1) (f := B6 b nv na d) (c := cS d) (by omega) (by omega) (by omega) ih
  have h4 := a98 b nv na (k := k + 1) (by omega) (by omega)
  have h5 := bb7 b (k := (t9 b nv na (k + 1)).2) (l := ibL) (by simp) bc7 (by omega) (by omega) (by omega) hf
  have h6 := bb7 b (k := (mnD b (B6 b nv na d) ibL (t9 b nv na (k + 1)).2).2) (l := ieL) (by simp) bc5 (by omega) (by omega) (by omega) hf
  have h7 := bb7 b (k := k + 1 + 1) (l := rbL) (by simp) ba7 (by omega) (by omega) (by omega) hf
  split
  ·omega
  ·split
   ·simp only [ifS, D7, bb5]; omega
   ·split
    ·simp only [rpS, D7, bb5, i5]; omega
    ·omega
theorem b28 (d : Nat) : Drw (B6 b nv na d) (cS d) := fun j h1 h2 => ⟨(a07 b nv na d j h1 h2).1, (a07 b nv na d j h1 h2).2, a96 b nv na d j h1 h2⟩
theorem bQ2 {d m i : Nat} {B : Int} (hB : (m : Int) * cS d ≤ B) (hi : i ≤ m) (hk : 0 ≤ k) (hk2 : k + B ≤ 1000000000) : k ≤ (F9 (B6 b nv na d) i k).2 ∧ (F9 (B6 b nv na d) i k).2 ≤ k + B := by
 have hc := aA4 d
 have h6 : (i : Int) * cS d ≤ m * cS d := cc5 (by omega) (by omega)
 have h := aY0 (by omega) (b28 b nv na d) i k hk (by omega)
 omega
theorem bm2 {d m i : Nat} {B : Int} (hB : (m : Int) * cS d ≤ B) (hi : i < m) (hk : 0 ≤ k) (hk2 : k + B ≤ 1000000000) : (F9 (B6 b nv na d) i k).2 + cS d ≤ k + B := by
 have hc := aA4 d
 have h6 : ((i + 1 : Nat) : Int) * cS d ≤ m * cS d := cc5 (by omega) (by omega)
 have e : ((i + 1 : Nat) : Int) * cS d = i * cS d + cS d := by rw [Int.natCast_add, Int.add_mul]; simp
 have h := aY0 (by omega) (b28 b nv na d) i k hk (by omega)
 omega
theorem b02 {m : Int} {c : Int} (h0 : 0 ≤ m) (hm : m ≤ 2) (hc : 0 ≤ c) : (m.toNat : Int) * c ≤ 2 * c := cc5 (by omega) hc
theorem b60 {m : Int} {c : Int} (h0 : 0 ≤ m) (hm : m ≤ 4) (hc : 0 ≤ c) : (m.toNat : Int) * c ≤ 4 * c := cc5 (by omega) hc
end
theorem aP5 (b : List UInt8) {k : Int} {l : List Int} {m : Int} (hl : l ≠ []) (h : ∀ x ∈ l, 0 ≤ x ∧ x ≤ m) (hk : 0 ≤ k) (hk2 : k ≤ 1000000000) : 0 ≤ nm b k l ∧ nm b k l ≤ m := h _ (aW2 b hk hk2 hl)
def okI (p : d7) : Bool := m0 p && decide ((C7 ⟨(ax6 p).1, (ax6 p).2, p.body⟩ false).1 = 0)
def af7 (p : d7) : d7 := if okI p = true then ⟨(ax6 p).1, (ax6 p).2, p.body⟩ else ⟨[], [], []⟩
theorem aI0 {p : d7} (h : m0 p = true) : p.vars.length + p.arrays.length ≤ 14 := by
 unfold m0 F4 at h
 simp only [b86, decide_eq_true_eq] at h
 omega
section
variable {p : d7} {q : J6} {b : List b6} {X : J6}
theorem aa6 (h : (decide (X.1 = q.1) && (decide (X.2 = q.2) && n4 b b)) = true) : X = q := by
 simp only [b86, decide_eq_true_eq] at h
 exact Prod.ext h.1 h.2.1
theorem ba2 (h : (decide (X.1 = q.1) && (decide (X.2 = q.2) && n4 b b)) = false) : ¬ X = q := fun e => by
 subst e
 rw [(E9 b b).2 rfl] at h
 simp at h
theorem bB3 {f : Bool} (hp : m0 p = true) (h : af8 p.body (p.vars, p.arrays) q) (hne : ¬ y9 f 5 q 0 p.body = q) : 100 - aM1 (y9 f 5 q 0 p.body) < 100 - aM1 q := by
 have h1 := al0 (f := f) h
 have h2 := bh5 ao6 h.2.1 h1.2.1 aG1 hne
 have h3 := a04 h1.2.1
 have h4 := aI0 hp
 rw [h1.1.1, h1.1.2] at h3
 simp only at h3
 omega
theorem bJ2 (hb : p.size ≤ 1048576) (h : af8 p.body (p.vars, p.arrays) q) : q.1.length + q.2.length + i5 p.body ≤ 1048576 := by
 have h1 := h.1.1
 have h2 := h.1.2
 unfold d7.size at hb
 simp only at h1 h2
 omega
theorem bp1 (hp : m0 p = true) (h : af8 p.body (p.vars, p.arrays) q) : p.body.all (f6 q.1.length q.2.length 5) = true := by
 rw [h.1.1, h.1.2]; exact (K0 hp).1
theorem by2 (h : m0 p = false) : okI p = false := by unfold okI; rw [h]; rfl
theorem by3 (hp : m0 p = true) (h : af8 p.body (p.vars, p.arrays) q) (hf : y9 true 5 q 0 p.body = q) : okI p = decide ((C7 ⟨q.1, q.2, p.body⟩ false).1 = 0) := by
 unfold okI; rw [hp, bk4 hp (aI0 hp) h hf]; rfl
theorem bk3 (h : okI p = false) : af7 p = ⟨[], [], []⟩ := by unfold af7; rw [h]; rfl
theorem bJ4 (hp : m0 p = true) (h : af8 p.body (p.vars, p.arrays) q) (hf : y9 true 5 q 0 p.body = q) (hk : okI p = true) : af7 p = ⟨q.1, q.2, p.body⟩ := by unfold af7; rw [hk, bk4 hp (aI0 hp) h hf]; rfl
theorem bZ7 (hp : m0 p = true) (h : af8 p.body (p.vars, p.arrays) q) (hf : y9 true 5 q 0 p.body = q) (hc : (C7 ⟨q.1, q.2, p.body⟩ false).1 = 0) : okI p = true := by rw [by3 hp h hf]; exact decide_eq_true hc
theorem bZ8 (hp : m0 p = true) (h : af8 p.body (p.vars, p.arrays) q) (hf : y9 true 5 q 0 p.body = q) (hc : ¬ (C7 ⟨q.1, q.2, p.body⟩ false).1 = 0) : okI p = false := by rw [by3 hp h hf]; exact decide_eq_false hc
end
abbrev aN6 (p : d7) : List It := [dI p.vars, dI p.arrays, dT p.body, .row 3 (D.ints (af7 p).vars), .row 3 (D.ints (af7 p).arrays), .tree (D.stmts (af7 p).body)]
abbrev az2 : It := .box [.v (.slice none 0 0), .v (.slice none 0 0), .v (.slice none 0 0)]
abbrev aF0 : It := .box [.ref 4, .ref 5, .tref 6]
abbrev aq6 (p : d7) (q : J6) (r0 : List It) : List It := .row 3 (D.ints q.fst) :: .row 3 (D.ints q.snd) :: .tree (D.stmts p.body) :: r0
abbrev af9 (r0 : List (Nat × AV)) : List (Nat × AV) := (2, .ptr 3 0) :: (3, bA false) :: (4, .ptr 7 0) :: r0
abbrev S4 (p : d7) (r0 : List It) : List It := dI p.vars :: dI p.arrays :: dT p.body :: r0
theorem aN1 (p : d7) (hb : p.size ≤ 1048576) : k6.ok Tryz.prog ⟨124, [pA 0], pS p, pS p ++ oP (af7 p), .tup [oA 3, bA (okI p)]⟩ := by
  refine A2 33 Tryz.func124 (S4 p []) [(0, pA 0)] fun G => ?_
  have hb1 : p.vars.length ≤ 1048576 ∧ p.arrays.length ≤ 1048576 ∧ i5 p.body ≤ 1048576 := by unfold d7.size at hb; omega
  refine wp_seq (k8 G d9 [0, 1, 2, 3, 11] (S4 p [.box (pL 0), az2]) [(1, .ptr 3 0), (2, .ptr 4 0), (3, bA false)] fun G => b7 (wp_seq (wp_seq (l5 G (s6 1 [0, 1, 2] (X4 p hb1.2.2)) [(10, .v (.bool !m0 p))] fun G => b7 ?_)))); cases h0 : (!m0 p)
  ·
   have q0 : (m0 p) = true := (Eq.mp (b97 _) h0); refine rF G _ h0 (wp_skip (b7 (wp_seq (k8 G (s6 1 [0, 1, 2] (ab4 p.vars p.arrays p.body (by assumption))) [0, 1, 2, 4, 13, 14, 15, 21] (S4 p [az2, .row 3 (D.ints p.vars), .row 3 (D.ints p.arrays), .tree (D.stmts p.body), aF0]) (af9 []) fun G => b7 (wp_seq (wp_block ?_)))))); refine o9 (κ := J6) (fun q => af8 p.body (p.vars, p.arrays) q) (fun q => 100 - aM1 q) (fun q => (S4 p [az2, .row 3 (.ints q.1), .row 3 (.ints q.2), .tree (D.stmts p.body), aF0])) (fun q => (af9 [])) ((p.vars, p.arrays)) (ap7 (aX2 (by with_reducible assumption))) (s5.at G _ _) ?_; clear G; intro q ρ a w hp G; replace G := s5.at G (S4 p (az2 :: (aq6 p q [aF0]))) (af9 []); refine wp_block (wp_seq (k8 G (s6 1 [4, 5, 6] (k6.lend (ab4 q.fst q.snd p.body (bJ2 hb (by with_reducible assumption))) [.row 3, .row 3, .tree])) [0, 1, 2, 3, 4, 5, 6, 7, 16, 17, 18, 24] (S4 p (az2 :: (aq6 p q (aF0 :: (aq6 p q [.box [.ref 8, .ref 9, .tref 10]]))))) (af9 [(5, .ptr 11 0)]) fun G => b7 (wp_seq (k8 G (s6 3 [8, 9, 10] (k6.lend (bd7 q.fst q.snd p.body (bp1 (by with_reducible assumption) (by with_reducible assumption))) [.no, .no, .tree])) (rg 12) (S4 p (az2 :: (aq6 p q [aF0, .row 3 (D.ints (y9 true 5 q 0 p.body).fst), .row 3 (D.ints (y9 true 5 q 0 p.body).snd), .tree (D.stmts p.body), .box [.ref 8, .ref 9, .tref 10]]))) (af9 [(5, .ptr 11 0)]) fun G => b7 (wp_seq (wp_seq (C9 G (s6 2 [8, 9, 10, 4, 5, 6] (k6.lend (aN0 ((y9 true 5 q 0 p.body).fst) ((y9 true 5 q 0 p.body).snd) p.body q.fst q.snd p.body) [.row 3, .row 3, .tree, .row 3, .row 3, .tree])) (af9 [(5, .ptr 11 0), (22, bA (decide ((y9 true 5 q 0 p.body).fst = q.fst) && (decide ((y9 true 5 q 0 p.body).snd = q.snd) && n4 p.body p.body)))]) fun G => b7 ?_))))))); cases h1 : (decide ((y9 true (5 : Nat) q (0 : Int) p.body).fst = q.fst) && (decide ((y9 true (5 : Nat) q (0 : Int) p.body).snd = q.snd) && n4 p.body p.body))
   · have q1 : (¬ ((y9 true 5 q 0 p.body).fst = q.fst)) ∨ ((¬ ((y9 true 5 q 0 p.body).snd = q.snd)) ∨ ((n4 p.body p.body) = false)) := Or.imp (fun hq => of_decide_eq_false hq) (fun hq => Or.imp (fun hq => of_decide_eq_false hq) (fun hq => (hq)) (ca4.1 hq)) (ca4.1 h1); refine rF G _ h1 (wp_skip (b7 (k8 G d9 [0, 1, 2, 3, 7, 8, 9, 10] (S4 p [az2, .box [.ref 5, .ref 6, .tref 7], .row 3 (D.ints (y9 true 5 q 0 p.body).fst), .row 3 (D.ints (y9 true 5 q 0 p.body).snd), .tree (D.stmts p.body)]) [(2, .ptr 3 0), (3, bA false), (4, .ptr 4 0)] fun G => m6 (b7 ?_)))); exact M8 G (y9 true 5 q 0 p.body) (al0 (by with_reducible assumption)) (bB3 (by with_reducible assumption) (by with_reducible assumption) (ba2 (by with_reducible assumption))) [0, 1, 2, 3, 5, 6, 7, 4]
   ·
    have q1 : ((y9 true 5 q 0 p.body).fst = q.fst) ∧ (((y9 true 5 q 0 p.body).snd = q.snd) ∧ ((n4 p.body p.body) = true)) := And.imp (fun hq => of_decide_eq_true hq) (fun hq => And.imp (fun hq => of_decide_eq_true hq) (fun hq => (hq)) (ca6.1 hq)) (ca6.1 h1); refine rT G _ h1 (wp_exit (o5 ?_)); refine bM1 (by kernel_rfl) ?_; refine o5 (n9 (b7 (wp_seq (k8 G (s6 1 [4, 5, 6] (k6.lend (U5 q.fst q.snd p.body hb1.2.2) [.row 3, .row 3, .tree])) (rg 8) (S4 p (az2 :: (aq6 p q [aF0]))) (af9 [(6, iA (C7 (d7.mk q.fst q.snd p.body) false).fst)]) fun G => b7 (wp_seq (wp_seq (l5 G d9 [(30, bA ((C7 (d7.mk q.fst q.snd p.body) false).fst != 0))] fun G => b7 (rcN G (fun h2 q2 => ?_) fun h2 q2 => ?_))))))))
    · refine wp_skip (b7 (wp_seq (k8 G d9 (rg 7) (S4 p (aF0 :: (aq6 p q []))) [(2, .ptr 3 0), (3, bA true)] fun G => b7 (wp_ret ?_)))); exact X7 (.tup [.agg [.ref 4, .ref 5, .tref 6], bA true]) G [0, 1, 2, 4, 5, 6] (by have e1 : (okI p : Bool) = (true) := (bZ7 (by with_reducible assumption) (by with_reducible assumption) (aa6 (by with_reducible assumption)) (by with_reducible assumption)); (first | rw [e1] | simp only [e1]) <;> rfl) (by show _ = mR [0, 1, 2, 4, 5, 6] (aN6 p); unfold aN6; rw [bJ4 (by with_reducible assumption) (by with_reducible assumption) (aa6 (by with_reducible assumption)) (bZ7 (by with_reducible assumption) (by with_reducible assumption) (aa6 (by with_reducible assumption)) (by with_reducible assumption))] <;> rfl)
    · refine wp_seq (C9 G d9 (af9 []) fun G => b7 (wp_ret (l7 ?_))); obtain ⟨ρ, G⟩ := G.nil 8 3 (.ints []) 1 (S4 p (.box [.ref 8, .v (.slice none 0 0), .v (.slice none 0 0)] :: (aq6 p q [.box [.ref 4, .ref 5, .tref 6]]))) (af9 []); obtain ⟨ρ, G⟩ := G.nil 9 3 (.ints []) 1 (S4 p (.box [.ref 8, .ref 9, .v (.slice none 0 0)] :: (aq6 p q [.box [.ref 4, .ref 5, .tref 6], .row 3 (D.ints [])]))) (af9 []); obtain ⟨ρ, G⟩ := G.nilT 10 (.stmts []) (S4 p (.box [.ref 8, .ref 9, .tref 10] :: (aq6 p q [.box [.ref 4, .ref 5, .tref 6], .row 3 (D.ints []), .row 3 (D.ints [])]))) (af9 []); exact X7 (.tup [.agg [.ref 8, .ref 9, .tref 10], bA false]) G [0, 1, 2, 8, 9, 10] (by have e1 : (okI p : Bool) = (false) := (bZ8 (by with_reducible assumption) (by with_reducible assumption) (aa6 (by with_reducible assumption)) (by with_reducible assumption)); (first | rw [e1] | simp only [e1]) <;> rfl) (by show _ = mR [0, 1, 2, 8, 9, 10] (aN6 p); unfold aN6; rw [bk3 (bZ8 (by with_reducible assumption) (by with_reducible assumption) (aa6 (by with_reducible assumption)) (by with_reducible assumption))] <;> rfl)
  · have q0 : (m0 p) = false := (Eq.mp (b95 _) h0); refine rT G _ h0 (wp_seq (C9 G d9 [(1, .ptr 3 0), (2, .ptr 4 0), (3, bA false)] fun G => b7 (wp_ret (l7 ?_)))); obtain ⟨ρ, G⟩ := G.nil 5 3 (.ints []) 1 (S4 p [.box (pL 0), .box [.ref 5, .v (.slice none 0 0), .v (.slice none 0 0)]]) [(1, .ptr 3 0), (2, .ptr 4 0), (3, bA false)]; obtain ⟨ρ, G⟩ := G.nil 6 3 (.ints []) 1 (S4 p [.box (pL 0), .box [.ref 5, .ref 6, .v (.slice none 0 0)], .row 3 (D.ints [])]) [(1, .ptr 3 0), (2, .ptr 4 0), (3, bA false)]; obtain ⟨ρ, G⟩ := G.nilT 7 (.stmts []) (S4 p [.box (pL 0), .box [.ref 5, .ref 6, .tref 7], .row 3 (D.ints []), .row 3 (D.ints [])]) [(1, .ptr 3 0), (2, .ptr 4 0), (3, bA false)]; exact X7 (.tup [.agg [.ref 5, .ref 6, .tref 7], bA false]) G [0, 1, 2, 5, 6, 7] (by have e1 : (okI p : Bool) = (false) := (by2 (by with_reducible assumption)); (first | rw [e1] | simp only [e1]) <;> rfl) (by show _ = mR [0, 1, 2, 5, 6, 7] (aN6 p); unfold aN6; rw [bk3 (by2 (by with_reducible assumption))] <;> rfl)
abbrev nvL : List Int := [3] ++ ([4] ++ ([2] ++ ([5] ++ [])))
abbrev viL : List Int := [0] ++ ([1] ++ ([0] ++ ([1] ++ ([2] ++ ([3] ++ [])))))
abbrev naL : List Int := [1] ++ ([2] ++ ([0] ++ ([1] ++ [])))
abbrev aiL : List Int := [0] ++ ([1] ++ ([0] ++ ([1] ++ ([3] ++ []))))
abbrev nbL : List Int := [2] ++ ([3] ++ ([1] ++ ([4] ++ [])))
def nsD (b : List UInt8) (l : List Int) (n : Nat) (k : Int) : List Int := (cb2 n).map fun (i : Nat) => nm b (k + (i : Int)) l
theorem ak7 (b : List UInt8) (l : List Int) (n : Nat) (k : Int) : (nsD b l n k).length = n := by simp [nsD]
theorem by4 (b : List UInt8) (l : List Int) (n : Nat) (k : Int) : nsD b l (n + 1) k = nsD b l n k ++ [nm b (k + (n : Int)) l] := by
 unfold nsD; rw [List.range_succ, List.map_append]; rfl
def H0 (b : List UInt8) (k : Int) : Int := k + 1 + nm b k nvL
def kp2 (b : List UInt8) (k : Int) : Int := H0 b k + 1 + nm b (H0 b k) naL
def vsD (b : List UInt8) (k : Int) : List Int := nsD b viL (nm b k nvL).toNat (k + 1)
def asD (b : List UInt8) (k : Int) : List Int := nsD b aiL (nm b (H0 b k) naL).toNat (H0 b k + 1)
def bdD (b : List UInt8) (k : Int) : List b6 × Int := F9 (B6 b (vsD b k).length (asD b k).length 3) (nm b (kp2 b k) nbL).toNat (kp2 b k + 1)
def rwD (b : List UInt8) (k : Int) : d7 := ⟨vsD b k, asD b k, (bdD b k).1⟩
def fbP : d7 := ⟨[0, 1], [], [⟨1, 1, noE, ⟨2, 0, []⟩, 0, [], []⟩]⟩
def pgD (b : List UInt8) (k : Int) : d7 := if m0 (rwD b k) = true then rwD b k else fbP
section
variable (b : List UInt8) {k : Int}
theorem bS7 (hk : 0 ≤ k) (hk2 : k ≤ 1000000000) : 0 ≤ nm b k nvL ∧ nm b k nvL ≤ 5 := aP5 b (by simp) (by simp) hk hk2
theorem b01 (hk : 0 ≤ k) (hk2 : k ≤ 1000000000) : 0 ≤ nm b k nbL ∧ nm b k nbL ≤ 4 := aP5 b (by simp) (by simp) hk hk2
theorem bT0 (hk : 0 ≤ k) (hk2 : k ≤ 1000000000) : 0 ≤ nm b k naL ∧ nm b k naL ≤ 2 := aP5 b (by simp) (by simp) hk hk2
theorem bA2 (hk : 0 ≤ k) (hk2 : k ≤ 10000000) : k + 1 ≤ H0 b k ∧ H0 b k ≤ k + 6 := by
 have := bS7 b hk (by omega); unfold H0; omega
theorem bk0 (hk : 0 ≤ k) (hk2 : k ≤ 10000000) : k + 2 ≤ kp2 b k ∧ kp2 b k ≤ k + 9 := by
 have h1 := bA2 b hk hk2
 have := bT0 b (k := H0 b k) (by omega) (by omega); unfold kp2; omega
theorem cS3 : cS 3 = 34170 ∧ cS 2 = 8442 := by decide
theorem b82 (nv na : Nat) : Drw (B6 b nv na 3) 34170 := fun j h1 h2 => by
 have e := cS3.1
 have h3 := a07 b nv na 3 j h1 (by omega)
 have h4 := a96 b nv na 3 j h1 (by omega)
 omega
theorem bm3 (hk : 0 ≤ k) (hk2 : k ≤ 10000000) : kp2 b k ≤ (bdD b k).2 ∧ (bdD b k).2 ≤ k + 150000 ∧ i5 (bdD b k).1 ≤ 150000 := by
 have h1 := bk0 b hk hk2
 have h2 := b01 b (k := kp2 b k) (by omega) (by omega)
 have h3 := aY0 (f := B6 b (vsD b k).length (asD b k).length 3) (by omega) (b82 b _ _) (nm b (kp2 b k) nbL).toNat (kp2 b k + 1) (by omega) (by omega)
 unfold bdD
 omega
theorem bt2 (hk : 0 ≤ k) (hk2 : k ≤ 10000000) : (vsD b k).length ≤ 5 := by
 have := bS7 b hk (by omega); unfold vsD; rw [ak7]; omega
theorem bF2 (hk : 0 ≤ k) (hk2 : k ≤ 10000000) : (asD b k).length ≤ 2 := by
 have h1 := bA2 b hk hk2
 have := bT0 b (k := H0 b k) (by omega) (by omega); unfold asD; rw [ak7]; omega
theorem bx0 (hk : 0 ≤ k) (hk2 : k ≤ 10000000) : (pgD b k).size ≤ 160000 := by
 have h1 := bm3 b hk hk2
 have h2 := bt2 b hk hk2
 have h3 := bF2 b hk hk2
 unfold pgD; split
 ·show (vsD b k).length + (asD b k).length + i5 (bdD b k).1 ≤ 160000
  omega
 ·decide
end
abbrev m2L : List Int := [0] ++ ([6] ++ ([1] ++ ([5] ++ ([2] ++ []))))
abbrev m3L : List Int := [-1] ++ ([12] ++ ([1] ++ ([9223372036854775807] ++ [])))
abbrev m4L : List Int := [-1] ++ ([256] ++ ([12] ++ ([1] ++ [])))
abbrev m5L : List Int := [1] ++ ([4] ++ ([-1] ++ ([2] ++ [])))
def kdS (s : b6) (x : Int) : b6 := ⟨x, s.target, s.index, s.value, s.count, s.body, s.els⟩
def tgS (s : b6) (x : Int) : b6 := ⟨s.kind, x, s.index, s.value, s.count, s.body, s.els⟩
def vvS (s : b6) (x : Int) : b6 := ⟨s.kind, s.target, s.index, ⟨s.value.kind, x, s.value.kids⟩, s.count, s.body, s.els⟩
def ctS (s : b6) (x : Int) : b6 := ⟨s.kind, s.target, s.index, s.value, x, s.body, s.els⟩
def mtD (b : List UInt8) (p : d7) (k : Int) : d7 × Int :=
 if pk b k 60 = 0 then (if 0 < p.vars.length then (⟨p.vars.set 0 (l1D b (k + 1)), p.arrays, p.body⟩, k + 1 + 2) else (p, k + 1))
 else if pk b k 60 = 1 then (⟨p.vars ++ cb3 (13 - p.vars.length) 1, p.arrays, p.body⟩, k + 1)
 else if pk b k 60 = 2 then (if 0 < p.body.length then (⟨p.vars, p.arrays, p.body.set 0 (kdS (p.body.getD 0 b85) (nm b (k + 1) m2L))⟩, k + 1 + 1) else (p, k + 1))
 else if pk b k 60 = 3 then (if 0 < p.body.length then (⟨p.vars, p.arrays, p.body.set ((p.body.length : Int) - 1).toNat (tgS (p.body.getD ((p.body.length : Int) - 1).toNat b85) (nm b (k + 1) m3L))⟩, k + 1 + 1) else (p, k + 1))
 else if pk b k 60 = 4 then (if 0 < p.body.length then (⟨p.vars, p.arrays, p.body.set 0 (vvS (p.body.getD 0 b85) (nm b (k + 1) m4L))⟩, k + 1 + 1) else (p, k + 1))
 else if pk b k 60 = 5 then (if 0 < p.body.length then (⟨p.vars, p.arrays, p.body.set 0 (ctS (p.body.getD 0 b85) (nm b (k + 1) m5L))⟩, k + 1 + 1) else (p, k + 1))
 else if pk b k 60 = 6 then (⟨[], [], []⟩, k + 1)
 else (p, k + 1)
theorem bt6 {l : List b6} {i : Nat} {s : b6} (h : D7 s ≤ D7 (l.getD i b85)) : i5 (l.set i s) ≤ i5 l := by
 induction l generalizing i with
 | nil => simp [i5]
 | cons a r ih =>
  cases i with
  | zero => simp only [List.set_cons_zero, i5]; simp at h; omega
  | succ i =>
   simp only [List.set_cons_succ, i5]
   have := ih (i := i) (by simpa using h)
   omega
theorem bT5 (s : b6) (x : Int) : D7 (kdS s x) = D7 s := by cases s; rfl
theorem bQ8 (s : b6) (x : Int) : D7 (tgS s x) = D7 s := by cases s; rfl
theorem bQ7 (s : b6) (x : Int) : D7 (vvS s x) = D7 s := by obtain ⟨_, _, _, ⟨_, _, _⟩, _, _, _⟩ := s; rfl
theorem bV2 (s : b6) (x : Int) : D7 (ctS s x) = D7 s := by cases s; rfl
theorem bT1 (b : List UInt8) (p : d7) (k : Int) : (mtD b p k).1.size ≤ p.size + 13 ∧ k ≤ (mtD b p k).2 ∧ (mtD b p k).2 ≤ k + 3 := by
 have hs : ∀ i s, D7 s = D7 (p.body.getD i b85) → i5 (p.body.set i s) ≤ i5 p.body := fun i s h => bt6 (by omega)
 have h2 := hs 0 _ (bT5 (p.body.getD 0 b85) (nm b (k + 1) m2L))
 have h3 := hs ((p.body.length : Int) - 1).toNat _ (bQ8 (p.body.getD ((p.body.length : Int) - 1).toNat b85) (nm b (k + 1) m3L))
 have h4 := hs 0 _ (bQ7 (p.body.getD 0 b85) (nm b (k + 1) m4L))
 have h5 := hs 0 _ (bV2 (p.body.getD 0 b85) (nm b (k + 1) m5L))
 unfold mtD
 simp only [d7.size]
 (repeat' split) <;> (simp only [List.length_set, b88, cb1, b89, i5]; omega)
def R1 (b : List UInt8) (k : Int) : d7 := if pk b (bdD b k).2 4 = 0 then pgD b k else if okI (pgD b k) = true then af7 (pgD b k) else pgD b k
theorem bJ3 {p : d7} : (af7 p).size ≤ p.size := by
 unfold af7
 split
 ·have h := (aJ7 (p := p) (by rename_i h; unfold okI at h; simp at h; exact h.1)).1
  show (ax6 p).1.length + (ax6 p).2.length + i5 p.body ≤ _
  unfold d7.size
  have h1 : (ax6 p).1.length = p.vars.length := h.1
  have h2 : (ax6 p).2.length = p.arrays.length := h.2
  omega
 ·simp [d7.size, i5]
theorem a90 (b : List UInt8) {k : Int} (hk : 0 ≤ k) (hk2 : k ≤ 10000000) : (R1 b k).size ≤ 160000 := by
 have h1 := bx0 b hk hk2
 have h2 := bJ3 (p := pgD b k)
 unfold R1
 (repeat' split) <;> omega
def bsD (c : List UInt8) : List UInt8 := c.take 2000
theorem b57 {b : List UInt8} {j n : Int} (h : n < 1) : pk b j n = 0 := by unfold pk; rw [if_pos (.inl h)]
theorem b56 {b : List UInt8} {j n : Int} (h : (b.length : Int) = 0) : pk b j n = 0 := by unfold pk; rw [if_pos (.inr (by omega))]
theorem b55 {b : List UInt8} {j n : Int} (h : ¬ n < 1) (h1 : ¬ (b.length : Int) = 0) (h2 : j + 1 - 1 < b.length) : pk b j n = ((b.getD (j + 1 - 1).toNat 0).toNat : Int).tmod n := by
 unfold pk; rw [if_neg (by omega), if_pos (by omega), Int.add_sub_cancel]
theorem b54 {b : List UInt8} {j n : Int} (h : ¬ n < 1) (h1 : ¬ (b.length : Int) = 0) (h2 : ¬ j + 1 - 1 < b.length) : pk b j n = (a87 (pkX b (j + 1 - 1)) ((pkX b (j + 1 - 1)).tdiv 64)).tmod n := by
 unfold pk; rw [if_neg (by omega), if_neg (by omega), Int.add_sub_cancel]
theorem bo5 {x : Int} {n : Nat} (hx : 0 ≤ x) (hn : ¬ (n : Int) = 0) : 0 ≤ x.tmod n ∧ x.tmod n < n ∧ (x.tmod n).toNat < n := by
 have := a91 (x := x) (n := n) hx (by omega); omega
theorem L5 (b : List UInt8) (j n : Int) (r0 : 0 ≤ j) (r1 : j ≤ 1000000000) : k6.ok Tryz.prog ⟨120, [.ptr 0 0, iA n], [.box [.ref 1, iA j], dY b], [.box [.ref 1, iA (j + 1)], dY b], iA (pk b j n)⟩ := by
  refine A2 99 Tryz.func120 [.box [.ref 1, iA j], dY b] [(0, .ptr 0 0), (1, iA n)] fun G => ?_; have hu1 := aO6 (b.getD ((j + 1 - 1).tmod b.length).toNat 0); have hu2 := aO6 (b.getD (((j + 1 - 1) * 7 + 3).tmod b.length).toNat 0); refine wp_seq (l5 G d9 [(4, iA 0)] fun G => b7 (wp_seq (O1 G d9 [0, 1] [.box [.ref 1, iA (j + 1)], dY b] [(0, .ptr 0 0), (1, iA n), (4, iA 0)] [wO (j + 1)] ⟨(by have := aO6 (b.getD (j + 1 - 1).toNat 0); exact w64 (by omega) (by omega)), b94⟩ fun G => b7 (wp_seq (wp_seq ?_))))); cases h0 : (decide (n < 1))
  ·
   have q0 := dFf h0; refine l5 G (O2 (fc h0 fz) (us [(3, 8, 0), (1009, 1009, 0)])) [(24, bA ((b.length : Int) == 0))] fun G => b7 (P9 G (fun h1 q1 => ?_) fun h1 q1 => ?_)
   ·
    refine wp_skip (b7 (wp_seq (E2 G d9 [(5, iA (j + 1 - 1))] [wO (j + 1 - 1)] ⟨(by have := ae9 (b := b) (k := j + 1 - 1) (by omega) (by omega) (by omega); exact w64 (by unfold pkX at this; omega) (by unfold pkX at this; omega)), b94⟩ fun G => b7 (wp_seq (wp_seq (l5 G d9 [(36, bA (decide (j + 1 - 1 < (b.length : Int))))] fun G => b7 (O0 G (fun h2 q2 => ?_) fun h2 q2 => ?_)))))))
    ·
     refine wp_skip (b7 (wp_seq (ah9 G d9 [0, 1, 3, 7, 0, 0, 32, 96, 224, 480, 1008, 2047, 4095, 8191, 16383, 0, 32768, 98304, 229376, 0, 524288, 1572864, 0, 4194304, 12582912, 29360128, 62914560, 133693440, 268402688, 536838144, 1073709056, 2147450880, 4294967295, 0, 8589934592, 34359738367, 0, 0, 137438953472, 412316860416, 962072674304, 2061584302080, 4329327034368, 8727373545472, 17592186044415, 35184372088831] [(6, iA (((b.getD ((j + 1 - 1).tmod (b.length : Int)).toNat 0).toNat : Int) * 131 + ((b.getD (((j + 1 - 1) * 7 + 3).tmod (b.length : Int)).toNat 0).toNat : Int) * 1117 + (j + 1 - 1) * 29 + (j + 1 - 1).tdiv (b.length : Int) * 53))] [(b.length : Int) ≠ 0, (0 : Int) ≤ (j + 1 - 1).tmod (b.length : Int), (j + 1 - 1).tmod (b.length : Int) < b.length, ((j + 1 - 1).tmod (b.length : Int)).toNat < b.length, IntKind.i64.wrap ((b.getD ((j + 1 - 1).tmod (b.length : Int)).toNat (0 : UInt8)).toNat : Int) = ((b.getD ((j + 1 - 1).tmod (b.length : Int)).toNat (0 : UInt8)).toNat : Int), wO (((b.getD ((j + 1 - 1).tmod (b.length : Int)).toNat (0 : UInt8)).toNat : Int) * 131), wO ((j + 1 - 1) * 7), wO ((j + 1 - 1) * 7 + 3), (b.length : Int) ≠ 0, (0 : Int) ≤ ((j + 1 - 1) * 7 + 3).tmod (b.length : Int), ((j + 1 - 1) * 7 + 3).tmod (b.length : Int) < b.length, (((j + 1 - 1) * 7 + 3).tmod (b.length : Int)).toNat < b.length, IntKind.i64.wrap ((b.getD (((j + 1 - 1) * 7 + 3).tmod (b.length : Int)).toNat (0 : UInt8)).toNat : Int) = ((b.getD (((j + 1 - 1) * 7 + 3).tmod (b.length : Int)).toNat (0 : UInt8)).toNat : Int), wO (((b.getD (((j + 1 - 1) * 7 + 3).tmod (b.length : Int)).toNat (0 : UInt8)).toNat : Int) * 1117), wO (((b.getD ((j + 1 - 1).tmod (b.length : Int)).toNat (0 : UInt8)).toNat : Int) * 131 + ((b.getD (((j + 1 - 1) * 7 + 3).tmod (b.length : Int)).toNat (0 : UInt8)).toNat : Int) * 1117), wO ((j + 1 - 1) * 29), wO (((b.getD ((j + 1 - 1).tmod (b.length : Int)).toNat (0 : UInt8)).toNat : Int) * 131 + ((b.getD (((j + 1 - 1) * 7 + 3).tmod (b.length : Int)).toNat (0 : UInt8)).toNat : Int) * 1117 + (j + 1 - 1) * 29), (b.length : Int) ≠ 0, wO ((j + 1 - 1).tdiv (b.length : Int)), wO ((j + 1 - 1).tdiv (b.length : Int) * 53), wO (((b.getD ((j + 1 - 1).tmod (b.length : Int)).toNat (0 : UInt8)).toNat : Int) * 131 + ((b.getD (((j + 1 - 1) * 7 + 3).tmod (b.length : Int)).toNat (0 : UInt8)).toNat : Int) * 1117 + (j + 1 - 1) * 29 + (j + 1 - 1).tdiv (b.length : Int) * 53)] ⟨(by assumption), ((bo5 (by omega) (by omega)).1), ((bo5 (by omega) (by omega)).2.1), ((bo5 (by omega) (by omega)).2.2), (by have := ae9 (b := b) (k := j + 1 - 1) (by omega) (by omega) (by omega); exact w64 (by unfold pkX at this; omega) (by unfold pkX at this; omega)), (by have := ae9 (b := b) (k := j + 1 - 1) (by omega) (by omega) (by omega); exact w64 (by unfold pkX at this; omega) (by unfold pkX at this; omega)), (by have := ae9 (b := b) (k := j + 1 - 1) (by omega) (by omega) (by omega); exact w64 (by unfold pkX at this; omega) (by unfold pkX at this; omega)), (by have := ae9 (b := b) (k := j + 1 - 1) (by omega) (by omega) (by omega); exact w64 (by unfold pkX at this; omega) (by unfold pkX at this; omega)), (by assumption), ((bo5 (by omega) (by omega)).1), ((bo5 (by omega) (by omega)).2.1), ((bo5 (by omega) (by omega)).2.2), (by have := ae9 (b := b) (k := j + 1 - 1) (by omega) (by omega) (by omega); exact w64 (by unfold pkX at this; omega) (by unfold pkX at this; omega)), (by have := ae9 (b := b) (k := j + 1 - 1) (by omega) (by omega) (by omega); exact w64 (by unfold pkX at this; omega) (by unfold pkX at this; omega)), (by have := ae9 (b := b) (k := j + 1 - 1) (by omega) (by omega) (by omega); exact w64 (by unfold pkX at this; omega) (by unfold pkX at this; omega)), (by have := ae9 (b := b) (k := j + 1 - 1) (by omega) (by omega) (by omega); exact w64 (by unfold pkX at this; omega) (by unfold pkX at this; omega)), (by have := ae9 (b := b) (k := j + 1 - 1) (by omega) (by omega) (by omega); exact w64 (by unfold pkX at this; omega) (by unfold pkX at this; omega)), (by assumption), (by have := a23 (b := b) (k := j + 1 - 1) (by omega) (by omega) (by omega); exact w64 (by unfold pkX at this; omega) (by unfold pkX at this; omega)), (by have := a23 (b := b) (k := j + 1 - 1) (by omega) (by omega) (by omega); exact w64 (by unfold pkX at this; omega) (by unfold pkX at this; omega)), (by have := a23 (b := b) (k := j + 1 - 1) (by omega) (by omega) (by omega); exact w64 (by unfold pkX at this; omega) (by unfold pkX at this; omega)), b94⟩ fun G => ?_)))
     refine b7 (wp_seq (E2 G d9 [(6, iA (a87 (((b.getD ((j + 1 - 1).tmod (b.length : Int)).toNat 0).toNat : Int) * 131 + ((b.getD (((j + 1 - 1) * 7 + 3).tmod (b.length : Int)).toNat 0).toNat : Int) * 1117 + (j + 1 - 1) * 29 + (j + 1 - 1).tdiv (b.length : Int) * 53) ((((b.getD ((j + 1 - 1).tmod (b.length : Int)).toNat 0).toNat : Int) * 131 + ((b.getD (((j + 1 - 1) * 7 + 3).tmod (b.length : Int)).toNat 0).toNat : Int) * 1117 + (j + 1 - 1) * 29 + (j + 1 - 1).tdiv (b.length : Int) * 53).tdiv 64)))] [(64 : Int) ≠ 0, wO ((((b.getD ((j + 1 - 1).tmod (b.length : Int)).toNat (0 : UInt8)).toNat : Int) * 131 + ((b.getD (((j + 1 - 1) * 7 + 3).tmod (b.length : Int)).toNat (0 : UInt8)).toNat : Int) * 1117 + (j + 1 - 1) * 29 + (j + 1 - 1).tdiv (b.length : Int) * 53).tdiv (64 : Int))] ⟨(by simp [h0, h1, h2]), (by have := ae9 (b := b) (k := j + 1 - 1) (by omega) (by omega) (by omega); exact w64 (by unfold pkX at this; omega) (by unfold pkX at this; omega)), b94⟩ fun G => b7 (wp_seq (E2 G d9 [(4, iA ((a87 (((b.getD ((j + 1 - 1).tmod (b.length : Int)).toNat 0).toNat : Int) * 131 + ((b.getD (((j + 1 - 1) * 7 + 3).tmod (b.length : Int)).toNat 0).toNat : Int) * 1117 + (j + 1 - 1) * 29 + (j + 1 - 1).tdiv (b.length : Int) * 53) ((((b.getD ((j + 1 - 1).tmod (b.length : Int)).toNat 0).toNat : Int) * 131 + ((b.getD (((j + 1 - 1) * 7 + 3).tmod (b.length : Int)).toNat 0).toNat : Int) * 1117 + (j + 1 - 1) * 29 + (j + 1 - 1).tdiv (b.length : Int) * 53).tdiv 64)).tmod n))] [n ≠ 0] ⟨(by omega), b94⟩ fun G => b7 (wp_ret ?_))))); exact J9 ((a87 (((b.getD ((j + 1 - 1).tmod (b.length : Int)).toNat 0).toNat : Int) * 131 + ((b.getD (((j + 1 - 1) * 7 + 3).tmod (b.length : Int)).toNat 0).toNat : Int) * 1117 + (j + 1 - 1) * 29 + (j + 1 - 1).tdiv (b.length : Int) * 53) ((((b.getD ((j + 1 - 1).tmod (b.length : Int)).toNat 0).toNat : Int) * 131 + ((b.getD (((j + 1 - 1) * 7 + 3).tmod (b.length : Int)).toNat 0).toNat : Int) * 1117 + (j + 1 - 1) * 29 + (j + 1 - 1).tdiv (b.length : Int) * 53).tdiv 64)).tmod n) G [0, 1] (b54 (by omega) (by omega) (by omega))
    · refine wp_seq (E2 G d9 [(4, iA (((b.getD (j + 1 - 1).toNat 0).toNat : Int).tmod n))] (iX (j + 1 - 1) ((j + 1 - 1).toNat) b.length ((IntKind.i64.wrap ((b.getD (j + 1 - 1).toNat (0 : UInt8)).toNat : Int) = ((b.getD (j + 1 - 1).toNat (0 : UInt8)).toNat : Int)) :: ((n ≠ 0) :: []))) (iK (by omega) ⟨(by have := aO6 (b.getD (j + 1 - 1).toNat 0); exact w64 (by omega) (by omega)), ⟨(by omega), b94⟩⟩) fun G => b7 (wp_ret (l7 ?_))); exact J9 (((b.getD (j + 1 - 1).toNat 0).toNat : Int).tmod n) G [0, 1] (b55 (by omega) (by omega) (by omega))
   · refine wp_seq (l5 G d9 [] fun G => b7 (wp_ret (l7 ?_))); exact J9 0 G [0, 1] (b56 (by omega))
  · have q0 := dTt h0; refine l5 G (O2 (fc h0 fz) (us [(3, 8, 0), (1009, 1009, 0)])) [(24, bA true)] fun G => b7 (rT G true (by kernel_rfl) (wp_seq (l5 G d9 [] fun G => b7 (wp_ret (l7 ?_))))); exact J9 0 G [0, 1] (b57 (by omega))
theorem O6 (b : List UInt8) (j : Int) (l : List Int) (hl : l ≠ []) (r0 : 0 ≤ j) (r1 : j ≤ 1000000000) : k6.ok Tryz.prog ⟨122, [.ptr 0 0, .ref 2], [.box [.ref 1, iA j], dY b, dI l], [.box [.ref 1, iA (j + 1)], dY b, dI l], iA (nm b j l)⟩ := by
 refine A2 12 Tryz.func122 [.box [.ref 1, iA j], dY b, dI l] [(0, .ptr 0 0), (1, .ref 2)] fun G => ?_; refine wp_seq (l5 G d9 [(4, iA 0)] fun G => b7 (wp_seq (O1 G (s6 4 [0, 1] (L5 b j ((l.length : Int)) (by assumption) (by assumption))) [0, 1, 2] [.box [.ref 1, iA (j + 1)], dY b, dI l] [(4, iA (l.getD (pk b j (l.length : Int)).toNat 0))] [(0 : Int) ≤ pk b j (l.length : Int), pk b j (l.length : Int) < l.length, (pk b j (l.length : Int)).toNat < l.length] ⟨((bj0 b r0 r1 hl).1), ((bj0 b r0 r1 hl).2.1), ((bj0 b r0 r1 hl).2.2), b94⟩ fun G => b7 (wp_ret ?_)))); exact F2 G [0, 1, 2]
theorem bE3 (b : List UInt8) (j : Int) (r0 : 0 ≤ j) (r1 : j ≤ 900000000) : k6.ok Tryz.prog ⟨121, [.ptr 0 0], [.box [.ref 1, iA j], dY b], [.box [.ref 1, iA (j + 2)], dY b], iA (l1D b j)⟩ := by
 refine A2 11 Tryz.func121 [.box [.ref 1, iA j], dY b] [(0, .ptr 0 0)] fun G => ?_; refine wp_seq (l5 G d9 [(2, iA 0)] fun G => b7 (wp_seq (wp_seq (k8 G (s6 1 [0, 1] (L5 b j 12 (by assumption) (by omega))) [0, 1] [.box [.ref 1, iA (j + 1)], dY b] [(0, .ptr 0 0), (2, iA 0), (5, bA (pk b j 12 == 0))] fun G => b7 (P9 G (fun h0 q0 => ?_) fun h0 q0 => ?_)))))
 ·refine wp_skip (b7 (wp_seq (k8 G (s6 1 [0, 1] (L5 b (j + 1) 4 (by omega) (by omega))) [0, 1] [.box [.ref 1, iA (j + 1 + 1)], dY b] [(2, iA (pk b (j + 1) 4))] fun G => b7 (wp_ret ?_)))); exact J9 (pk b (j + 1) 4) G [0, 1] (by unfold l1D; rw [if_neg (by omega)]; done) (by show _ = mR [0, 1] [.box [.ref 1, iA (j + 2)], dY b]; have e1 : (j + 2 : Int) = (j + 1 + 1) := (by omega); (first | rw [e1] | simp only [e1]) <;> rfl)
 ·refine wp_seq (k8 G (s6 2 [0, 1, 10] (k6.lend (O6 b (j + 1) l1L (by simp [h0]) (by omega) (by omega)) [.no, .no, .row 3])) [0, 1] [.box [.ref 1, iA (j + 1 + 1)], dY b] [(0, .ptr 0 0), (2, iA (nm b (j + 1) l1L))] fun G => b7 (wp_ret (l7 ?_))); exact J9 (nm b (j + 1) l1L) G [0, 1] (by unfold l1D; rw [if_pos (by omega)]; done) (by show _ = mR [0, 1] [.box [.ref 1, iA (j + 2)], dY b]; have e1 : (j + 2 : Int) = (j + 1 + 1) := (by omega); (first | rw [e1] | simp only [e1]) <;> rfl)
theorem be5 (c : List UInt8) (hc : c.length ≤ 2000) : k6.ok Tryz.prog ⟨54, [.ref 0], [dY c], [dY c, .box [.ref 0, iA 0]], .ptr 1 0⟩ := by
 refine A2 11 Tryz.func54 [dY c] [(0, .ref 0)] fun G => ?_; refine wp_seq (l5 G d9 [(2, .v (.pointer none))] fun G => b7 (wp_seq (wp_seq (C9 G d9 [(0, .ref 0), (2, .v (.pointer none)), (5, bA (decide ((c.length : Int) > 2000)))] fun G => b7 ?_)))); cases h0 : (decide ((c.length : Int) > 2000))
 ·have q0 := dFf h0; refine rF G _ h0 (wp_skip (b7 (wp_seq (k8 G d9 [0, 17] [dY c, .box [.ref 0, iA 0]] [(2, .ptr 1 0)] fun G => b7 (wp_ret ?_))))); exact F2 G [0, 1]
 ·have q0 := dTt h0; exact False.elim (by omega)
theorem be4 (c : List UInt8) (hc : 2000 < c.length) : k6.ok Tryz.prog ⟨54, [.ref 0], [dY c], [dY c, .box [.ref 2, iA 0], dY ((c.take 2000).drop 0)], .ptr 1 0⟩ := by
 refine A2 11 Tryz.func54 [dY c] [(0, .ref 0)] fun G => ?_; refine wp_seq (l5 G d9 [(2, .v (.pointer none))] fun G => b7 (wp_seq (wp_seq (C9 G d9 [(0, .ref 0), (2, .v (.pointer none)), (5, bA (decide ((c.length : Int) > 2000)))] fun G => b7 ?_)))); cases h0 : (decide ((c.length : Int) > 2000))
 ·have q0 := dFf h0; exact False.elim (by omega)
 ·have q0 := dTt h0; refine rT G _ h0 (O1 G d9 [0, 9] [dY c, dY (List.drop 0 (b96 (Int.toNat 2000) c))] [(0, .ref 1), (2, .v (.pointer none))] [(0 : Int) ≤ 2000, (2000 : Int) ≤ c.length] ⟨(by simp [h0]), (by omega), b94⟩ fun G => b7 (wp_seq (k8 G d9 [0, 1, 18] [dY c, dY (List.drop 0 (b96 (Int.toNat 2000) c)), .box [.ref 1, iA 0]] [(2, .ptr 2 0)] fun G => b7 (wp_ret ?_)))); exact F2 G [0, 2, 1]
abbrev dwS (b : List UInt8) (j : Int) (vs ars : List Int) (bd : List b6) : List It := [.box [.ref 1, iA j], dY b, dI vs, dI ars, dT bd]
abbrev exO (e : b5) : List It := [.tree (.exprs e.kids)]
abbrev exA (e : b5) (r : Nat) : AV := .agg [iA e.kind, iA e.value, .tref r]
theorem b40 {b : List UInt8} {nv j : Int} (h : pk b j 3 = 0) : o6 b nv j = ⟨1, nm b (j + 1) atL, []⟩ := if_pos h
theorem b39 {b : List UInt8} {nv j : Int} (h : ¬ pk b j 3 = 0) : o6 b nv j = ⟨2, pk b (j + 1) nv, []⟩ := if_neg h
theorem ay6 (b : List UInt8) (j : Int) (vs ars : List Int) (bd : List b6) (r0 : 0 ≤ j) (r1 : j ≤ 900000000) : k6.ok Tryz.prog ⟨246, [.ptr 0 0, pA 2], dwS b j vs ars bd, dwS b (j + 2) vs ars bd ++ exO (o6 b vs.length j), exA (o6 b vs.length j) 5⟩ := by
 refine A2 18 Tryz.func246 [.box [.ref 1, iA j], dY b, dI vs, dI ars, dT bd] [(0, .ptr 0 0), (1, pA 2)] fun G => ?_; refine wp_seq (k8 G d9 [0, 1, 2, 3, 4, 5, 13] [.box [.ref 1, iA j], dY b, dI vs, dI ars, dT bd, .box (pL 2), .box [iA 0, iA 0, .v (.slice none 0 0)]] [(0, .ptr 0 0), (3, .ptr 5 0), (4, .ptr 6 0)] fun G => b7 (wp_seq (wp_seq (k8 G (s6 1 [0, 1] (L5 b j 3 (by assumption) (by omega))) (rg 7) [.box [.ref 1, iA (j + 1)], dY b, dI vs, dI ars, dT bd, .box (pL 2), .box [iA 0, iA 0, .v (.slice none 0 0)]] [(0, .ptr 0 0), (3, .ptr 5 0), (4, .ptr 6 0), (7, bA (pk b j 3 == 0))] fun G => b7 (P9 G (fun h0 q0 => ?_) fun h0 q0 => ?_)))))
 ·refine wp_skip (b7 (wp_seq (k8 G (s6 4 [0, 1] (L5 b (j + 1) ((vs.length : Int)) (by omega) (by omega))) [0, 1, 2, 3, 4, 6] [.box [.ref 1, iA (j + 1 + 1)], dY b, dI vs, dI ars, dT bd, .box [iA 2, iA (pk b (j + 1) (vs.length : Int)), .v (.slice none 0 0)]] [(4, .ptr 5 0)] fun G => b7 (wp_ret ?_)))); obtain ⟨ρ, G⟩ := G.nilT 6 (.exprs []) [.box [.ref 1, iA (j + 1 + 1)], dY b, dI vs, dI ars, dT bd, .box [iA 2, iA (pk b (j + 1) (vs.length : Int)), .tref 6]] [(4, .ptr 5 0)]; exact X7 (.agg [iA 2, iA (pk b (j + 1) (vs.length : Int)), .tref 6]) G [0, 1, 2, 3, 4, 6] (by show _ = AV.ren (nth [0, 1, 2, 3, 4, 6]) (.agg [iA (o6 b (vs.length : Int) j).kind, iA (o6 b (vs.length : Int) j).value, .tref 5]); rw [b39 (by omega)] <;> rfl) (by show _ = mR [0, 1, 2, 3, 4, 6] [.box [.ref 1, iA (j + 2)], dY b, dI vs, dI ars, dT bd, .tree (D.exprs (o6 b (vs.length : Int) j).kids)]; have e1 : (j + 2 : Int) = (j + 1 + 1) := (by omega); rw [e1, b39 (by omega)] <;> rfl)
 ·refine wp_seq (k8 G (s6 2 [0, 1, 15] (k6.lend (O6 b (j + 1) atL (by simp [h0]) (by omega) (by omega)) [.no, .no, .row 3])) (rg 7) [.box [.ref 1, iA (j + 1 + 1)], dY b, dI vs, dI ars, dT bd, .box (pL 2), .box [iA 1, iA (nm b (j + 1) atL), .v (.slice none 0 0)]] [(0, .ptr 0 0), (3, .ptr 5 0), (4, .ptr 6 0)] fun G => b7 (wp_ret (l7 ?_))); obtain ⟨ρ, G⟩ := G.nilT 7 (.exprs []) [.box [.ref 1, iA (j + 1 + 1)], dY b, dI vs, dI ars, dT bd, .box (pL 2), .box [iA 1, iA (nm b (j + 1) atL), .tref 7]] [(0, .ptr 0 0), (3, .ptr 5 0), (4, .ptr 6 0)]; exact X7 (.agg [iA 1, iA (nm b (j + 1) atL), .tref 7]) G [0, 1, 2, 3, 4, 7] (by show _ = AV.ren (nth [0, 1, 2, 3, 4, 7]) (.agg [iA (o6 b (vs.length : Int) j).kind, iA (o6 b (vs.length : Int) j).value, .tref 5]); rw [b40 (by omega)] <;> rfl) (by show _ = mR [0, 1, 2, 3, 4, 7] [.box [.ref 1, iA (j + 2)], dY b, dI vs, dI ars, dT bd, .tree (D.exprs (o6 b (vs.length : Int) j).kids)]; have e1 : (j + 2 : Int) = (j + 1 + 1) := (by omega); rw [e1, b40 (by omega)] <;> rfl)
theorem be3 (vs ars : List Int) (bd : List b6) (e : b5) : k6.ok Tryz.prog (F6 233 [pA 0, eA e 3] ([dI vs, dI ars, dT bd] ++ eS e) (bA (l6 vs.length ars.length e))) := bq8 ⟨vs, ars, bd⟩ e
abbrev drC (b : List UInt8) (vs ars : List Int) (bd : List b6) (d : Nat) (j n : Int) : k6 := ⟨258, [.ptr 0 0, pA 2, iA n], dwS b j vs ars bd, dwS b (K6 b vs.length ars.length d j).2 vs ars bd ++ exO (K6 b vs.length ars.length d j).1, exA (K6 b vs.length ars.length d j).1 5⟩
section
variable {b : List UInt8} {nv na : Int} {d : Nat} {j : Int}
theorem b30 (h : d < 2) : K6 b nv na d j = (o6 b nv j, j + 2) := by
 match d, h with
 | 0, _ => rfl
 | 1, _ => simp [K6]
theorem bU7 (h : 0 < d) (h1 : pk b j 4 = 0) : K6 b nv na (d + 1) j = (o6 b nv (j + 1), j + 3) := by rw [K6, if_neg (by omega), if_pos h1]
theorem bK4 (h : 0 < d) (h1 : ¬ pk b j 4 = 0) (h2 : nm b (j + 1) L9 = 3) (h3 : na = 0) : K6 b nv na (d + 1) j = (o6 b nv (j + 2), j + 4) := by rw [K6, if_neg (by omega), if_neg h1, if_pos h2, if_pos h3]
theorem bK3 (h : 0 < d) (h1 : ¬ pk b j 4 = 0) (h2 : nm b (j + 1) L9 = 3) (h3 : ¬ na = 0) : K6 b nv na (d + 1) j = (⟨3, pk b (j + 2) na, [o6 b nv (j + 3)]⟩, j + 5) := by rw [K6, if_neg (by omega), if_neg h1, if_pos h2, if_neg h3]
abbrev drK (b : List UInt8) (nv na : Int) (d : Nat) (j : Int) (k : Nat) : List b5 × Int := F9 (K6 b nv na d) k (j + 2)
theorem b29 (h : 0 < d) (h1 : ¬ pk b j 4 = 0) (h2 : ¬ nm b (j + 1) L9 = 3) {m : Int} (h3 : 0 ≤ m) (h4 : ¬ m > 0) : K6 b nv na (d + 1) j = (⟨nm b (j + 1) L9, 0, (drK b nv na d j (m9 (nm b (j + 1) L9) - m).toNat).1⟩, (drK b nv na d j (m9 (nm b (j + 1) L9) - m).toNat).2) := by
 have e : m = 0 := by omega
 rw [e, Int.sub_zero, K6, if_neg (by omega), if_neg h1, if_neg h2]
theorem bl1 {x m : Int} (h3 : m > 0) (h4 : m ≤ x) : drK b nv na d j (x - (m - 1)).toNat = ((drK b nv na d j (x - m).toNat).1 ++ [(K6 b nv na d (drK b nv na d j (x - m).toNat).2).1], (K6 b nv na d (drK b nv na d j (x - m).toNat).2).2) := by
 rw [show (x - (m - 1)).toNat = (x - m).toNat + 1 by omega]; rfl
theorem b41 (r0 : 0 ≤ j) (r1 : j ≤ 900000000) : 0 ≤ m9 (nm b (j + 1) L9) ∧ m9 (nm b (j + 1) L9) ≤ 3 := by
 have h := aW2 b (k := j + 1) (l := L9) (by omega) (by omega) (by simp)
 simp only [ca2, cb7, List.not_mem_nil, or_false] at h
 rcases h with h | h | h | h | h | h | h | h | h <;> rw [h] <;> decide
theorem b32 (r0 : 0 ≤ j) {k : Nat} (hk : k ≤ 3) : j + 2 ≤ (drK b nv na d j k).2 ∧ (drK b nv na d j k).2 ≤ j + 2 + 3 * cE d := by
 have hc := aL1 d
 have h := bC9 (f := K6 b nv na d) (c := cE d) (m := 3) (by omega) k (j + 2) hk fun i _ _ => a53 b nv na d i
 have h4 : (k : Int) * cE d ≤ 3 * cE d := cc5 (by omega) (by omega)
 unfold drK; omega
theorem b31 {x m : Int} (r0 : 0 ≤ j) (h3 : m > 0) (h4 : m ≤ x) (h5 : x ≤ 3) (r1 : j + cE (d + 1) ≤ 800000000) : (drK b nv na d j (x - m).toNat).2 + cE d ≤ 800000000 := by
 have hc := aL1 d
 have hce : cE (d + 1) = 5 + 3 * cE d := rfl
 have hm : (x - m).toNat ≤ 2 := by omega
 have h := bC9 (f := K6 b nv na d) (c := cE d) (m := 2) (by omega) (x - m).toNat (j + 2) hm fun i _ _ => a53 b nv na d i
 have h4 : ((x - m).toNat : Int) * cE d ≤ 2 * cE d := cc5 (by omega) (by omega)
 unfold drK; omega
end
theorem bi0 (b : List UInt8) (vs ars : List Int) (bd : List b6) (d : Nat) (hd : d < 2) (j n : Int) (hn : n = d) (r0 : 0 ≤ j) (r1 : j ≤ 900000000) : k6.ok Tryz.prog (drC b vs ars bd d j n) := by
 refine A2 62 Tryz.func258 [.box [.ref 1, iA j], dY b, dI vs, dI ars, dT bd] [(0, .ptr 0 0), (1, pA 2), (2, iA n)] fun G => ?_; refine wp_seq (k8 G d9 [0, 1, 2, 3, 4, 5, 13] [.box [.ref 1, iA j], dY b, dI vs, dI ars, dT bd, .box (pL 2), .box [iA 0, iA 0, .v (.slice none 0 0)]] [(0, .ptr 0 0), (2, iA n), (4, .ptr 5 0), (6, .ptr 6 0)] fun G => b7 (wp_seq (wp_seq ?_))); cases h0 : (decide (n < 2))
 ·have q0 := dFf h0; exact False.elim (by omega)
 ·have q0 := dTt h0; refine l5 G (O2 (fc h0 fz) [(3, 0), (4, 0), (5, 0), (1006, 0)]) [(16, bA true)] fun G => b7 (rT G true (by kernel_rfl) (wp_seq (k8 G (s6 2 (rg 5) (ay6 b j vs ars bd (by assumption) (by assumption))) [0, 1, 2, 3, 4, 5, 6, 23] [.box [.ref 1, iA (j + 2)], dY b, dI vs, dI ars, dT bd, .box (pL 2), .box [iA (o6 b (vs.length : Int) j).kind, iA (o6 b (vs.length : Int) j).value, .tref 7], .tree (D.exprs (o6 b (vs.length : Int) j).kids)] [(0, .ptr 0 0), (2, iA n), (4, .ptr 5 0), (6, .ptr 6 0)] fun G => b7 (wp_ret (l7 ?_))))); exact X7 (.agg [iA (o6 b (vs.length : Int) j).kind, iA (o6 b (vs.length : Int) j).value, .tref 7]) G [0, 1, 2, 3, 4, 7] (by show _ = AV.ren (nth [0, 1, 2, 3, 4, 7]) (.agg [iA (K6 b (vs.length : Int) (ars.length : Int) d j).fst.kind, iA (K6 b (vs.length : Int) (ars.length : Int) d j).fst.value, .tref 5]); rw [b30 hd] <;> rfl) (by show _ = mR [0, 1, 2, 3, 4, 7] [.box [.ref 1, iA (K6 b (vs.length : Int) (ars.length : Int) d j).snd], dY b, dI vs, dI ars, dT bd, .tree (D.exprs (K6 b (vs.length : Int) (ars.length : Int) d j).fst.kids)]; rw [b30 hd] <;> rfl)
abbrev aF8 (b : List UInt8) (vs : List Int) (ars : List Int) (d : Nat) (j : Int) (k : Int) := drK b (vs.length : Int) (ars.length : Int) d j (m9 (nm b (j + 1) L9) - k).toNat
abbrev az5 (b : List UInt8) (vs : List Int) (ars : List Int) (d : Nat) (j : Int) : AV := (.agg [iA (K6 b (vs.length : Int) (ars.length : Int) (d + 1) j).fst.kind, iA (K6 b (vs.length : Int) (ars.length : Int) (d + 1) j).fst.value, .tref 5])
abbrev az4 (b : List UInt8) (vs : List Int) (ars : List Int) (bd : List b6) (d : Nat) (j : Int) : List It := [.box [.ref 1, iA (K6 b (vs.length : Int) (ars.length : Int) (d + 1) j).snd], dY b, dI vs, dI ars, dT bd, .tree (D.exprs (K6 b (vs.length : Int) (ars.length : Int) (d + 1) j).fst.kids)]
abbrev aO5 : It := .box [iA 0, iA 0, .v (.slice none 0 0)]
abbrev ae8 (n : Int) (r0 : List (Nat × AV)) : List (Nat × AV) := (0, .ptr 0 0) :: (2, iA n) :: (4, .ptr 5 0) :: (6, .ptr 6 0) :: r0
theorem bH0 (b : List UInt8) (vs ars : List Int) (bd : List b6) (d : Nat) (hd : 0 < d) (hd2 : d ≤ 100) (ih : ∀ (j n : Int), n = d → 0 ≤ j → j + cE d ≤ 800000000 → k6.ok Tryz.prog (drC b vs ars bd d j n)) (j n : Int) (hn : n = ((d + 1 : Nat) : Int)) (r0 : 0 ≤ j) (r1 : j + cE (d + 1) ≤ 800000000) : k6.ok Tryz.prog (drC b vs ars bd (d + 1) j n) := by
  refine A2 62 Tryz.func258 [.box [.ref 1, iA j], dY b, dI vs, dI ars, dT bd] [(0, .ptr 0 0), (1, pA 2), (2, iA n)] fun G => ?_; have hc := aL1 d; have hce : cE (d + 1) = 5 + 3 * cE d := rfl; have har := b41 (b := b) (j := j) r0 (by omega); refine wp_seq (k8 G d9 [0, 1, 2, 3, 4, 5, 13] [.box [.ref 1, iA j], dY b, dI vs, dI ars, dT bd, .box (pL 2), aO5] (ae8 n []) fun G => b7 (wp_seq (wp_seq ?_))); cases h0 : (decide (n < 2))
  ·
   have q0 := dFf h0; refine k8 G (t6 (l8 4 [0, 1] (L5 b j 4 (by assumption) (by omega)) t5) (fc h0 fz) [(3, 0), (4, 0), (5, 0), (1006, 0)]) (rg 7) [.box [.ref 1, iA (j + 1)], dY b, dI vs, dI ars, dT bd, .box (pL 2), aO5] (ae8 n [(16, bA (pk b j 4 == 0))]) fun G => b7 (P9 G (fun h1 q1 => ?_) fun h1 q1 => ?_)
   ·
    refine wp_skip (b7 (wp_seq (k8 G (s6 2 [0, 1, 15] (k6.lend (O6 b (j + 1) L9 (by simp [h0, h1]) (by omega) (by omega)) [.no, .no, .row 3])) (rg 7) [.box [.ref 1, iA (j + 1 + 1)], dY b, dI vs, dI ars, dT bd, .box (pL 2), aO5] (ae8 n [(7, iA (nm b (j + 1) L9))]) fun G => b7 (wp_seq (wp_seq (l5 G d9 [(24, bA (nm b (j + 1) L9 == 3))] fun G => b7 (P9 G (fun h2 q2 => ?_) fun h2 q2 => ?_)))))))
    ·
     refine wp_skip (b7 (wp_seq (k8 G d9 [0, 1, 2, 3, 4, 5, 6, 23] [.box [.ref 1, iA (j + 1 + 1)], dY b, dI vs, dI ars, dT bd, .box (pL 2), aO5, .box [iA (nm b (j + 1) L9), iA 0, .v (.slice none 0 0)]] (ae8 n [(7, iA (nm b (j + 1) L9)), (8, .ptr 7 0)]) fun G => b7 (wp_seq (wp_seq (C9 G (s6 1 [] (br0 (nm b (j + 1) L9))) (ae8 n [(8, .ptr 7 0), (9, iA (m9 (nm b (j + 1) L9)))]) fun G => b7 (wp_block ?_))))))); obtain ⟨ρ, G⟩ := G.nilT 8 (.exprs []) [.box [.ref 1, iA (j + 1 + 1)], dY b, dI vs, dI ars, dT bd, .box (pL 2), .box [iA 0, iA 0, .v (.slice none 0 0)], .box [iA (nm b (j + 1) L9), iA 0, .tref 8]] (ae8 n [(8, .ptr 7 0), (9, iA (m9 (nm b (j + 1) L9)))]); replace G := G.as [.box [.ref 1, iA (drK b (vs.length : Int) (ars.length : Int) d j (m9 (nm b (j + 1) L9) - m9 (nm b (j + 1) L9)).toNat).snd], dY b, dI vs, dI ars, dT bd, .box (pL 2), .box [iA 0, iA 0, .v (.slice none 0 0)], .box [iA (nm b (j + 1) L9), iA 0, .tref 8], .tree (D.exprs (drK b (vs.length : Int) (ars.length : Int) d j (m9 (nm b (j + 1) L9) - m9 (nm b (j + 1) L9)).toNat).fst)] (ae8 n [(8, .ptr 7 0), (9, iA (m9 (nm b (j + 1) L9)))]) (by have e1 : ((drK b (vs.length : Int) (ars.length : Int) d j (m9 (nm b (j + 1) L9) - m9 (nm b (j + 1) L9)).toNat).snd : Int) = (j + 1 + 1) := (by rw [Int.sub_self]; show j + 2 = j + 1 + 1; omega); have e2 : ((drK b (vs.length : Int) (ars.length : Int) d j (m9 (nm b (j + 1) L9) - m9 (nm b (j + 1) L9)).toNat).fst : List b5) = ([]) := (by rw [Int.sub_self]; rfl); (first | rw [e1, e2] | simp only [e1, e2]) <;> rfl) (by kernel_rfl); refine o9 (κ := Int) (fun k => 0 ≤ k ∧ k ≤ m9 (nm b (j + 1) L9)) (fun k => k.toNat) (fun k => [.box [.ref 1, iA (drK b vs.length ars.length d j (m9 (nm b (j + 1) L9) - k).toNat).2], dY b, dI vs, dI ars, dT bd, .box (pL 2), .box [iA 0, iA 0, .v (.slice none 0 0)], .box [iA (nm b (j + 1) L9), iA 0, .tref 8], .tree (.exprs (drK b vs.length ars.length d j (m9 (nm b (j + 1) L9) - k).toNat).1)]) (fun k => [(0, .ptr 0 0), (2, iA n), (4, .ptr 5 0), (6, .ptr 6 0), (8, .ptr 7 0), (9, iA k)]) (m9 (nm b (j + 1) L9)) (by omega) (s5.at G _ _) ?_; clear G; intro k ρ a w hp G; replace G := s5.at G [.box [.ref 1, iA (aF8 b vs ars d j k).snd], dY b, dI vs, dI ars, dT bd, .box (pL 2), aO5, .box [iA (nm b (j + 1) L9), iA 0, .tref 8], .tree (D.exprs (aF8 b vs ars d j k).fst)] (ae8 n [(8, .ptr 7 0), (9, iA k)]); have hkb := b32 (b := b) (nv := vs.length) (na := ars.length) (d := d) (j := j) r0 (k := (m9 (nm b (j + 1) L9) - k).toNat) (by omega); have hkl : (drK b vs.length ars.length d j (m9 (nm b (j + 1) L9) - k).toNat).1.length = (m9 (nm b (j + 1) L9) - k).toNat := aY1 _ _ _; refine wp_seq (wp_seq (l5 G d9 [(48, bA (decide (k > 0)))] fun G => b7 (O0 G (fun h4 q4 => ?_) fun h4 q4 => ?_)))
     · refine wp_exit (o5 (o5 (n9 (b7 (wp_seq (k8 G d9 [0, 1, 2, 3, 4, 6, 8] [.box [.ref 1, iA (aF8 b vs ars d j k).snd], dY b, dI vs, dI ars, dT bd, .box [iA (nm b (j + 1) L9), iA 0, .tref 6], .tree (D.exprs (aF8 b vs ars d j k).fst)] [(6, .ptr 5 0)] fun G => b7 (wp_ret ?_))))))); exact X7 (.agg [iA (nm b (j + 1) L9), iA 0, .tref 6]) G [0, 1, 2, 3, 4, 6] (by show _ = AV.ren (nth [0, 1, 2, 3, 4, 6]) (az5 b vs ars d j); unfold az5; rw [b29 (m := k) hd (by omega) (by omega) (by omega) (by omega)] <;> rfl) (by show _ = mR [0, 1, 2, 3, 4, 6] (az4 b vs ars bd d j); unfold az4; rw [b29 (m := k) hd (by omega) (by omega) (by omega) (by omega)] <;> rfl)
     · refine wp_skip (b7 (wp_seq (wp_block (G2 G (s6 6 (rg 5) (ih ((drK b (vs.length : Int) (ars.length : Int) d j (m9 (nm b (j + 1) L9) - k).toNat).snd) (n - 1) (by omega) (by omega) (b31 (by omega) (by omega) (by omega) (by omega) r1))) [0, 1, 0, 0, 0, 16, 60, 124, 255, 511, 1023] [0, 1, 2, 3, 4, 5, 6, 7, 73] [.box [.ref 1, iA (K6 b (vs.length : Int) (ars.length : Int) d (aF8 b vs ars d j k).snd).snd], dY b, dI vs, dI ars, dT bd, .box (pL 2), aO5, .box [iA (nm b (j + 1) L9), iA 0, .tref 8], .tree (D.exprs ((aF8 b vs ars d j k).fst ++ [m8 (K6 b (vs.length : Int) (ars.length : Int) d (aF8 b vs ars d j k).snd).fst]))] (ae8 n [(8, .ptr 7 0), (9, iA k)]) ((wO (n - 1)) :: (aP ((drK b (vs.length : Int) (ars.length : Int) d j (m9 (nm b (j + 1) L9) - k).toNat).fst.length + 1) 40 [])) ⟨oW (by omega), (aK (by omega) b94)⟩ fun G => m6 (b7 (E2 G d9 [(9, iA (k - 1))] [wO (k - 1)] (o1 (by omega)) fun G => b7 ?_)))))); exact M8 G (k - 1) (by omega) (by omega) (rg 9) (by have e1 : ((drK b (vs.length : Int) (ars.length : Int) d j (m9 (nm b (j + 1) L9) - (k - 1)).toNat).snd : Int) = ((K6 b (vs.length : Int) (ars.length : Int) d (drK b (vs.length : Int) (ars.length : Int) d j (m9 (nm b (j + 1) L9) - k).toNat).snd).snd) := (by rw [bl1 (by omega) (by omega)]; done); have e2 : ((drK b (vs.length : Int) (ars.length : Int) d j (m9 (nm b (j + 1) L9) - (k - 1)).toNat).fst : List b5) = ((drK b (vs.length : Int) (ars.length : Int) d j (m9 (nm b (j + 1) L9) - k).toNat).fst ++ [m8 (K6 b (vs.length : Int) (ars.length : Int) d (drK b (vs.length : Int) (ars.length : Int) d j (m9 (nm b (j + 1) L9) - k).toNat).snd).fst]) := (by rw [bl1 (by omega) (by omega)]; (simp only [b5.eta]; done)); (first | rw [e1, e2] | simp only [e1, e2]) <;> rfl)
    ·
     refine wp_seq (wp_seq (l5 G d9 [(28, bA ((ars.length : Int) == 0))] fun G => b7 (P9 G (fun h3 q3 => ?_) fun h3 q3 => ?_)))
     · refine wp_skip (b7 (wp_seq (P1 G (t6 (l8 5 [0, 1] (L5 b (j + 1 + 1) ((ars.length : Int)) (by omega) (by omega)) (l8 8 (rg 5) (ay6 b (j + 1 + 1 + 1) vs ars bd (by omega) (by omega)) t5)) fz []) [0, 0, 0, 4, 12, 30, 0, 0, 254, 510, 1023, 2047] [0, 1, 2, 3, 4, 5, 6, 79] [.box [.ref 1, iA (j + 1 + 1 + 1 + 2)], dY b, dI vs, dI ars, dT bd, .box (pL 2), .box [iA (nm b (j + 1) L9), iA (pk b (j + 1 + 1) (ars.length : Int)), .tref 7], .tree (D.exprs [m8 (o6 b (vs.length : Int) (j + 1 + 1 + 1))])] (ae8 n [(7, iA (nm b (j + 1) L9))]) fun G => b7 (wp_ret (l7 ?_))))); exact X7 (.agg [iA (nm b (j + 1) L9), iA (pk b (j + 1 + 1) (ars.length : Int)), .tref 7]) G [0, 1, 2, 3, 4, 7] (by show _ = AV.ren (nth [0, 1, 2, 3, 4, 7]) (az5 b vs ars d j); unfold az5; have e1 : ((K6 b (vs.length : Int) (ars.length : Int) (d + 1) j).fst.kind : Int) = (nm b (j + 1) L9) := (by rw [bK3 hd (by omega) (by omega) (by omega)]; (simp only [Int.add_assoc, Int.reduceAdd, b5.eta, b5.kids, b5.kind, b5.value]; omega)); have e2 : ((K6 b (vs.length : Int) (ars.length : Int) (d + 1) j).fst.value : Int) = (pk b (j + 1 + 1) (ars.length : Int)) := (by rw [bK3 hd (by omega) (by omega) (by omega)]; (simp only [Int.add_assoc, Int.reduceAdd, b5.eta, b5.kids, b5.kind, b5.value]; done)); (first | rw [e1, e2] | simp only [e1, e2]) <;> rfl) (by show _ = mR [0, 1, 2, 3, 4, 7] (az4 b vs ars bd d j); unfold az4; have e1 : ((K6 b (vs.length : Int) (ars.length : Int) (d + 1) j).snd : Int) = (j + 1 + 1 + 1 + 2) := (by rw [bK3 hd (by omega) (by omega) (by omega)]; (simp only [Int.add_assoc, Int.reduceAdd, b5.eta, b5.kids, b5.kind, b5.value]; done)); have e2 : ((K6 b (vs.length : Int) (ars.length : Int) (d + 1) j).fst.kids : List b5) = ([m8 (o6 b (vs.length : Int) (j + 1 + 1 + 1))]) := (by rw [bK3 hd (by omega) (by omega) (by omega)]; show [_] = _; simp only [Int.add_assoc, Int.reduceAdd, b5.eta]; done); (first | rw [e1, e2] | simp only [e1, e2]) <;> rfl)
     · refine wp_seq (k8 G (s6 2 (rg 5) (ay6 b (j + 1 + 1) vs ars bd (by omega) (by omega))) [0, 1, 2, 3, 4, 5, 6, 23] [.box [.ref 1, iA (j + 1 + 1 + 2)], dY b, dI vs, dI ars, dT bd, .box (pL 2), .box [iA (o6 b (vs.length : Int) (j + 1 + 1)).kind, iA (o6 b (vs.length : Int) (j + 1 + 1)).value, .tref 7], .tree (D.exprs (o6 b (vs.length : Int) (j + 1 + 1)).kids)] (ae8 n [(7, iA (nm b (j + 1) L9))]) fun G => b7 (wp_ret (l7 (l7 ?_)))); exact X7 (.agg [iA (o6 b (vs.length : Int) (j + 1 + 1)).kind, iA (o6 b (vs.length : Int) (j + 1 + 1)).value, .tref 7]) G [0, 1, 2, 3, 4, 7] (by show _ = AV.ren (nth [0, 1, 2, 3, 4, 7]) (az5 b vs ars d j); unfold az5; have e1 : ((K6 b (vs.length : Int) (ars.length : Int) (d + 1) j).fst.kind : Int) = ((o6 b (vs.length : Int) (j + 1 + 1)).kind) := (by rw [bK4 hd (by omega) (by omega) (by omega)]; (simp only [Int.add_assoc, Int.reduceAdd, b5.eta, b5.kids, b5.kind, b5.value]; done)); have e2 : ((K6 b (vs.length : Int) (ars.length : Int) (d + 1) j).fst.value : Int) = ((o6 b (vs.length : Int) (j + 1 + 1)).value) := (by rw [bK4 hd (by omega) (by omega) (by omega)]; (simp only [Int.add_assoc, Int.reduceAdd, b5.eta, b5.kids, b5.kind, b5.value]; done)); (first | rw [e1, e2] | simp only [e1, e2]) <;> rfl) (by show _ = mR [0, 1, 2, 3, 4, 7] (az4 b vs ars bd d j); unfold az4; have e1 : ((K6 b (vs.length : Int) (ars.length : Int) (d + 1) j).snd : Int) = (j + 1 + 1 + 2) := (by rw [bK4 hd (by omega) (by omega) (by omega)]; (simp only [Int.add_assoc, Int.reduceAdd, b5.eta, b5.kids, b5.kind, b5.value]; done)); have e2 : ((K6 b (vs.length : Int) (ars.length : Int) (d + 1) j).fst : b5) = (o6 b (vs.length : Int) (j + 1 + 1)) := (by rw [bK4 hd (by omega) (by omega) (by omega)]; (simp only [Int.add_assoc, Int.reduceAdd, b5.eta, b5.kids, b5.kind, b5.value]; done)); (first | rw [e1, e2] | simp only [e1, e2]) <;> rfl)
   · refine wp_seq (k8 G (s6 2 (rg 5) (ay6 b (j + 1) vs ars bd (by omega) (by omega))) [0, 1, 2, 3, 4, 5, 6, 23] [.box [.ref 1, iA (j + 1 + 2)], dY b, dI vs, dI ars, dT bd, .box (pL 2), .box [iA (o6 b (vs.length : Int) (j + 1)).kind, iA (o6 b (vs.length : Int) (j + 1)).value, .tref 7], .tree (D.exprs (o6 b (vs.length : Int) (j + 1)).kids)] (ae8 n []) fun G => b7 (wp_ret (l7 ?_))); exact X7 (.agg [iA (o6 b (vs.length : Int) (j + 1)).kind, iA (o6 b (vs.length : Int) (j + 1)).value, .tref 7]) G [0, 1, 2, 3, 4, 7] (by show _ = AV.ren (nth [0, 1, 2, 3, 4, 7]) (az5 b vs ars d j); unfold az5; rw [bU7 hd (by omega)] <;> rfl) (by show _ = mR [0, 1, 2, 3, 4, 7] (az4 b vs ars bd d j); unfold az4; have e1 : ((K6 b (vs.length : Int) (ars.length : Int) (d + 1) j).snd : Int) = (j + 1 + 2) := (by rw [bU7 hd (by omega)]; (simp only [Int.add_assoc, Int.reduceAdd, b5.eta, b5.kids, b5.kind, b5.value]; done)); rw [e1, bU7 hd (by omega)] <;> rfl)
  · have q0 := dTt h0; exact False.elim (by omega)
theorem bF1 (b : List UInt8) (vs ars : List Int) (bd : List b6) : ∀ (d : Nat) (j n : Int), d ≤ 100 → n = d → 0 ≤ j → j + cE d ≤ 800000000 → k6.ok Tryz.prog (drC b vs ars bd d j n)
 | 0, j, n, _, hn, r0, r1 => bi0 b vs ars bd 0 (by omega) j n hn r0 (by have := aL1 0; omega)
 | 1, j, n, _, hn, r0, r1 => bi0 b vs ars bd 1 (by omega) j n hn r0 (by have := aL1 1; omega)
 | d + 2, j, n, hd, hn, r0, r1 => bH0 b vs ars bd (d + 1) (by omega) (by omega) (fun j n => bF1 b vs ars bd (d + 1) j n (by omega)) j n hn r0 r1
abbrev smC (b : List UInt8) (vs ars : List Int) (bd : List b6) (j : Int) : k6 := ⟨247, [.ptr 0 0, pA 2], dwS b j vs ars bd, dwS b (t9 b vs.length ars.length j).2 vs ars bd ++ exO (t9 b vs.length ars.length j).1, exA (t9 b vs.length ars.length j).1 5⟩
section
variable {b : List UInt8} {nv na : Nat} {j : Int}
theorem bY5 (h : l6 nv na (K6 b nv na (nm b j dpL).toNat (j + 1)).1 = true) : t9 b nv na j = K6 b nv na (nm b j dpL).toNat (j + 1) := if_pos h
theorem bY4 (h : l6 nv na (K6 b nv na (nm b j dpL).toNat (j + 1)).1 = false) : t9 b nv na j = (o6 b nv (K6 b nv na (nm b j dpL).toNat (j + 1)).2, (K6 b nv na (nm b j dpL).toNat (j + 1)).2 + 2) := if_neg (by rw [h]; decide)
theorem b50 (r0 : 0 ≤ j) (r1 : j ≤ 700000000) : cE (nm b j dpL).toNat ≤ 364 := cE4 (dp4 b r0 (by omega)).2.2
end
abbrev aa3 (b : List UInt8) (vs : List Int) (ars : List Int) (j : Int) := K6 b (vs.length : Int) (ars.length : Int) (nm b j dpL).toNat (j + 1)
theorem ae2 (b : List UInt8) (vs ars : List Int) (bd : List b6) (j : Int) (r0 : 0 ≤ j) (r1 : j ≤ 700000000) : k6.ok Tryz.prog (smC b vs ars bd j) := by
 have hdr := fun (i n : Int) => bF1 b vs ars bd (nm b j dpL).toNat i n (ca7 (dp4 b r0 (by omega)).2.2 (by omega))
 refine A2 19 Tryz.func247 [.box [.ref 1, iA j], dY b, dI vs, dI ars, dT bd] [(0, .ptr 0 0), (1, pA 2)] fun G => ?_; have hd4 := b50 (b := b) r0 r1; have hdb := a53 b vs.length ars.length (nm b j dpL).toNat (j + 1); refine wp_seq (k8 G d9 [0, 1, 2, 3, 4, 5, 13] [.box [.ref 1, iA j], dY b, dI vs, dI ars, dT bd, .box (pL 2), .box [iA 0, iA 0, .v (.slice none 0 0)]] [(0, .ptr 0 0), (3, .ptr 5 0), (4, .ptr 6 0)] fun G => b7 (wp_seq (P1 G (t6 (l8 4 [0, 1, 31] (k6.lend (O6 b j dpL (List.cons_ne_nil _ _) (by assumption) (by omega)) [.no, .no, .row 3]) (l8 5 (rg 5) (hdr (j + 1) (nm b j dpL) (bU8 b (by omega) (by omega)) (by omega) (by omega)) t5)) fz []) [0, 0, 0, 0, 12, 31, 0, 127] [0, 1, 2, 3, 4, 5, 6, 47, 55] [.box [.ref 1, iA (aa3 b vs ars j).snd], dY b, dI vs, dI ars, dT bd, .box (pL 2), .box [iA 0, iA 0, .v (.slice none 0 0)], .tree (D.exprs (aa3 b vs ars j).fst.kids), .box [iA (aa3 b vs ars j).fst.kind, iA (aa3 b vs ars j).fst.value, .tref 7]] [(0, .ptr 0 0), (3, .ptr 5 0), (4, .ptr 6 0), (5, .ptr 8 0)] fun G => b7 (wp_seq (wp_seq (l5 G (s6 2 [2, 3, 4, 7] (k6.lend (be3 vs ars bd ((K6 b (vs.length : Int) (ars.length : Int) (nm b j dpL).toNat (j + 1)).fst)) [.no, .no, .no, .tree])) [(14, bA (l6 vs.length ars.length (aa3 b vs ars j).fst))] fun G => b7 (rcB (b := l6 vs.length ars.length (K6 b (vs.length : Int) (ars.length : Int) (nm b j dpL).toNat (j + 1)).fst) G (fun h0 => ?_) fun h0 => ?_)))))))
 ·refine wp_skip (b7 (wp_seq (k8 G (s6 2 (rg 5) (ay6 b ((K6 b (vs.length : Int) (ars.length : Int) (nm b j dpL).toNat (j + 1)).snd) vs ars bd (by omega) (by omega))) [0, 1, 2, 3, 4, 6, 25] [.box [.ref 1, iA ((aa3 b vs ars j).snd + 2)], dY b, dI vs, dI ars, dT bd, .box [iA (o6 b (vs.length : Int) (aa3 b vs ars j).snd).kind, iA (o6 b (vs.length : Int) (aa3 b vs ars j).snd).value, .tref 6], .tree (D.exprs (o6 b (vs.length : Int) (aa3 b vs ars j).snd).kids)] [(4, .ptr 5 0)] fun G => b7 (wp_ret ?_)))); exact X7 (.agg [iA (o6 b (vs.length : Int) (K6 b (vs.length : Int) (ars.length : Int) (nm b j dpL).toNat (j + 1)).snd).kind, iA (o6 b (vs.length : Int) (K6 b (vs.length : Int) (ars.length : Int) (nm b j dpL).toNat (j + 1)).snd).value, .tref 6]) G [0, 1, 2, 3, 4, 6] (by show _ = AV.ren (nth [0, 1, 2, 3, 4, 6]) (.agg [iA (t9 b vs.length ars.length j).fst.kind, iA (t9 b vs.length ars.length j).fst.value, .tref 5]); rw [bY4 (by with_reducible assumption)] <;> rfl) (by show _ = mR [0, 1, 2, 3, 4, 6] [.box [.ref 1, iA (t9 b vs.length ars.length j).snd], dY b, dI vs, dI ars, dT bd, .tree (D.exprs (t9 b vs.length ars.length j).fst.kids)]; rw [bY4 (by with_reducible assumption)] <;> rfl)
 ·refine wp_seq (k8 G d9 (rg 8) [.box [.ref 1, iA (aa3 b vs ars j).snd], dY b, dI vs, dI ars, dT bd, .box (pL 2), .box [iA (aa3 b vs ars j).fst.kind, iA (aa3 b vs ars j).fst.value, .tref 7], .tree (D.exprs (aa3 b vs ars j).fst.kids)] [(0, .ptr 0 0), (3, .ptr 5 0), (4, .ptr 6 0)] fun G => b7 (wp_ret (l7 ?_))); exact X7 (.agg [iA (K6 b (vs.length : Int) (ars.length : Int) (nm b j dpL).toNat (j + 1)).fst.kind, iA (K6 b (vs.length : Int) (ars.length : Int) (nm b j dpL).toNat (j + 1)).fst.value, .tref 7]) G [0, 1, 2, 3, 4, 7] (by show _ = AV.ren (nth [0, 1, 2, 3, 4, 7]) (.agg [iA (t9 b vs.length ars.length j).fst.kind, iA (t9 b vs.length ars.length j).fst.value, .tref 5]); rw [bY5 (by with_reducible assumption)] <;> rfl) (by show _ = mR [0, 1, 2, 3, 4, 7] [.box [.ref 1, iA (t9 b vs.length ars.length j).snd], dY b, dI vs, dI ars, dT bd, .tree (D.exprs (t9 b vs.length ars.length j).fst.kids)]; rw [bY5 (by with_reducible assumption)] <;> rfl)
end Go.Proofs.YthikdkjjdeehoaaGreat
