/-
  Texts of this claim, part 5: what the functions on the way do, and plain laws. Conditions: as each statement says.
-/
import Derived.Test.YthikdkjjdeehoaaGreatK4
set_option maxRecDepth 100000
set_option maxHeartbeats 16000000
open Bool renaming and_eq_false_iff → cd2, and_eq_true → cb3, and_eq_true_iff → cd5, not_eq_false' → cc4, not_eq_true' → cc3
open Inhabited renaming default → cb2
open Int renaming mul_le_mul_of_nonneg_right → cf2
open List renaming all_eq_true → cc2, eq_nil_of_length_eq_zero → cc7, foldl → ce3, getElem_mem → cd7, length_append → cb5, length_cons → cb4, length_nil → cb6, length_replicate → cd8, mem_append → cc9, mem_cons → ce4, mem_cons_of_mem → cd4, mem_cons_self → cd0, mem_singleton → cd1, range → cd9, replicate → ce0, take → cc0, take_of_length_le → cc8
open Nat renaming le_refl → cc6, le_trans → cd3, mul_le_mul_right → ce9, zero_add → cf0, zero_le → ce8
open True renaming intro → cc1

namespace Go.Proofs.YthikdkjjdeehoaaGreat
set_option linter.unusedVariables false
set_option linter.unusedSimpArgs false
open Go Go.RowKit
theorem bD5 (ars : List Int) (pc : Int) : ∀ (d : Nat), d ≤ 5 → ∀ (e : b5) (vs : List Int) (bd : List b6), f5 vs.length ars.length d e = true → vs.length + (1 + v5 e) ≤ 100000 → i5 bd + 40 * (1 + v5 e) ≤ 700000 → i9.ok Tryz.prog (ieC ars pc vs bd e)
 | 0, _, _, _, _, h, _, _ => by simp [f5] at h
 | d + 1, hd, e, vs, bd, h, r1, r2 => bx4 e ars pc d hd (fun u _ vs bd h r1 r2 => bD5 ars pc d (by omega) u vs bd h r1 r2) vs bd h r1 r2
theorem bG4 (ars : List Int) (pc : Int) (e : b5) (vs : List Int) (bd : List b6) (h : f5 vs.length ars.length 5 e = true) (r1 : vs.length + (1 + v5 e) ≤ 100000) (r2 : i5 bd + 40 * (1 + v5 e) ≤ 700000) : i9.ok Tryz.prog (ieC ars pc vs bd e) := bD5 ars pc 5 (cc6 _) e vs bd h r1 r2
abbrev isC (ars : List Int) (m pc : Int) (vs : List Int) (bd : List b6) (t : b6) : i9 := ⟨163, [.ptr 0 0, sA t 5, iA m, iA pc, .ptr 3 0], [.box [.ref 1, .ref 2, nlA], qI vs, dI ars, .box [.ref 4], qT bd] ++ sS t, [.box [.ref 9, .ref 2, nlA], .dead, dI ars, .box [.ref 10], .dead] ++ sS t ++ [qI (r7 ars t m pc (vs, bd)).1, qT (r7 ars t m pc (vs, bd)).2], .tup []⟩
abbrev ibC (ars : List Int) (m pc : Int) (vs : List Int) (ss : List b6) : i9 := ⟨82, [.ptr 0 0, .ref 3, iA m, iA pc], [.box [.ref 1, .ref 2, nlA], qI vs, dI ars, dT ss], [.box [.ref 4, .ref 2, nlA], .dead, dI ars, dT ss, qI (k6 ars ss m pc (vs, [])).1, dT (k6 ars ss m pc (vs, [])).2], .ref 5⟩
section
variable {ars vs : List Int} {bd : List b6} {m pc : Int} {t : b6} {nv dd : Nat}
theorem b97 (hh : t5 nv ars.length t = true) (h4 : ¬ t.kind = 4) (hv : nv ≤ vs.length) (r1 : vs.length + 4 * (1 + D9 t) ≤ 90000) (r2 : i5 bd + 130 * (1 + D9 t) ≤ 600000) :
  f5 vs.length ars.length 5 t.value = true ∧ vs.length + (1 + v5 t.value) ≤ 100000 ∧ i5 bd + 40 * (1 + v5 t.value) ≤ 700000 ∧ nv ≤ (b8 ars pc t.value (vs, bd)).1.1.length ∧ (b8 ars pc t.value (vs, bd)).1.1.length ≤ 100000 ∧ (b8 ars pc t.value (vs, bd)).1.2.length + 10 ≤ 700000 ∧ f5 (b8 ars pc t.value (vs, bd)).1.1.length ars.length 5 (b8 ars pc t.value (vs, bd)).2 = true := by
 have hsz : D9 t = v5 t.index + v5 t.value + i5 t.body + i5 t.els := by cases t; rfl
 have hsh := w8 (na := ars.length) hv 5 _ (n7 hh h4)
 obtain ⟨g, g2, -⟩ := Y8 ars pc ars.length 5 t.value (vs, bd) hsh
 have a : vs.length ≤ (b8 ars pc t.value (vs, bd)).1.1.length := g.lo
 have b : (b8 ars pc t.value (vs, bd)).1.1.length ≤ vs.length + (1 + v5 t.value) := g.hi
 have c : i5 (b8 ars pc t.value (vs, bd)).1.2 ≤ i5 bd + 40 * (1 + v5 t.value) := g.st
 have h5 := C2 (b8 ars pc t.value (vs, bd)).1.2
 exact ⟨hsh, by omega, by omega, by omega, by omega, by omega, g2⟩
theorem b37 (hh : t5 nv ars.length t = true) (h2 : t.kind = 2) {n : Nat} (hn : nv ≤ n) : f5 n ars.length 5 t.index = true := w8 hn 5 _ (ae0 hh h2).2.2
theorem aR2 (hh : t5 nv ars.length t = true) (h3 : ¬ t.kind = 3) (h4 : ¬ t.kind = 4) (h5 : ¬ t.kind = 5) (h1 : ¬ t.kind = 1) : t.kind = 2 := by
 by_cases h2 : t.kind = 2
 ·exact h2
 ·rw [an4 ⟨h1, h2, h3, h4, h5⟩] at hh; cases hh
theorem b39 (h5 : t.kind = 5) : r7 ars t m pc (vs, bd) = ((b8 ars pc t.value (vs, bd)).1.1, (b8 ars pc t.value (vs, bd)).1.2 ++ [⟨5, t.target, ⟨0, 0, []⟩, y8 (b8 ars pc t.value (vs, bd)).2, 0, [], []⟩]) := by
 rw [show y8 (b8 ars pc t.value (vs, bd)).2 = (b8 ars pc t.value (vs, bd)).2 from b5.eta _]
 exact ln5 h5
theorem b42 (h1 : t.kind = 1) : r7 ars t m pc (vs, bd) = ((b8 ars pc t.value (vs, bd)).1.1, (b8 ars pc t.value (vs, bd)).1.2 ++ [K1 t.target (y8 (s5 m (y8 (b8 ars pc t.value (vs, bd)).2) ⟨2, t.target, []⟩))]) := by
 simp only [show ∀ e, y8 e = e from b5.eta]
 exact ln1 h1
theorem bS0 (h2 : t.kind = 2) (h : (!(d8 (b9 (b8 ars pc t.value (vs, bd)).1.1 ars 5 (y8 t.index)) && decide (b9 (b8 ars pc t.value (vs, bd)).1.1 ars 5 (y8 t.index) % 2 = 1))) = true) : r7 ars t m pc (vs, bd) = ((b8 ars pc t.value (vs, bd)).1.1, (b8 ars pc t.value (vs, bd)).1.2 ++ [⟨2, t.target, y8 t.index, y8 (s5 m (y8 (b8 ars pc t.value (vs, bd)).2) ⟨3, t.target, [y8 t.index]⟩), 0, [], []⟩]) := by
 simp only [show ∀ e, y8 e = e from b5.eta] at h ⊢
 exact bq5 h2 (by rw [cc3] at h; exact h)
theorem bR9 {j : Nat} (hj : j = 4) (h2 : t.kind = 2) (h : (!(d8 (b9 (b8 ars pc t.value (vs, bd)).1.1 ars 5 (y8 t.index)) && decide (b9 (b8 ars pc t.value (vs, bd)).1.1 ars 5 (y8 t.index) % 2 = 1))) = false) : r7 ars t m pc (vs, bd) = ((b8 ars pc t.value (vs, bd)).1.1 ++ [i6 (b9 (b8 ars pc t.value (vs, bd)).1.1 ars 5 (y8 (b8 ars pc t.value (vs, bd)).2)) pc], (b8 ars pc t.value (vs, bd)).1.2 ++ [K1 ((b8 ars pc t.value (vs, bd)).1.1.length : Int) (y8 (b8 ars pc t.value (vs, bd)).2)] ++ T3 ((b8 ars pc t.value (vs, bd)).1.1.length : Int) t.target (y8 t.index) m j) := by
 subst hj
 simp only [show ∀ e, y8 e = e from b5.eta] at h ⊢
 exact bq4 h2 (by rw [cc4] at h; exact h)
theorem b38 (h5 : t.kind = 5) : (r7 ars t m pc (vs, bd)).1 = (b8 ars pc t.value (vs, bd)).1.1 := by rw [b39 h5]
theorem b41 (h1 : t.kind = 1) : (r7 ars t m pc (vs, bd)).1 = (b8 ars pc t.value (vs, bd)).1.1 := by rw [b42 h1]
theorem b40 (h4 : t.kind = 4) : (r7 ars t m pc (vs, bd)).1 = (k6 ars t.body m pc (vs, [])).1 := by rw [ln4 h4]
theorem bW3 (h2 : t.kind = 2) (h : (!(d8 (b9 (b8 ars pc t.value (vs, bd)).1.1 ars 5 (y8 t.index)) && decide (b9 (b8 ars pc t.value (vs, bd)).1.1 ars 5 (y8 t.index) % 2 = 1))) = true) : (r7 ars t m pc (vs, bd)).1 = (b8 ars pc t.value (vs, bd)).1.1 := by rw [bS0 h2 h]
theorem bW2 (hh : t5 nv ars.length t = true) (h2 : t.kind = 2) {n : Nat} (hn : nv ≤ n) : f5 n ars.length 5 (y8 t.index) = true := by rw [show y8 t.index = t.index from b5.eta _]; exact b37 hh h2 hn
theorem b36 (hh : t5 nv ars.length t = true) (h1 : ¬ t.kind = 1) (h2 : ¬ t.kind = 2) (h3 : ¬ t.kind = 3) (h4 : ¬ t.kind = 4) (h5 : ¬ t.kind = 5) : False := h2 (aR2 hh h3 h4 h5 h1)
theorem bq9 {Y : List Int} {u l : Int} (hbb : t.body.all (f6 nv ars.length dd) = true) (h1 : nv ≤ Y.length) (h2 : Y.length + 4 * i5 t.body + 4 * i5 t.els ≤ 90000) (h3 : 130 * i5 t.body ≤ 600000) : nv ≤ (k6 ars t.body u l (Y, [])).1.length ∧ (k6 ars t.body u l (Y, [])).1.length + 4 * i5 t.els ≤ 90000 ∧ (k6 ars t.body u l (Y, [])).2.length ≤ 600000 := by
 have g := ax7 ars t.body u l (Y, []) hbb h1
 have a := g.lo; have b := g.hi; have c := g.st
 have d := C2 (k6 ars t.body u l (Y, [])).2
 simp only [i5] at a b c
 omega
theorem b96 {Y : List Int} {u l : Int} (hbe : t.els.all (f6 nv ars.length dd) = true) (h1 : nv ≤ Y.length) (h3 : 130 * i5 t.els ≤ 600000) : (k6 ars t.els u l (Y, [])).2.length ≤ 600000 := by
 have g := ax7 ars t.els u l (Y, []) hbe h1
 have c := g.st
 have d := C2 (k6 ars t.els u l (Y, [])).2
 simp only [i5] at c
 omega
theorem bR8 {Y : List Int} {u l : Int} {B : List b6} {S1 S2 : b6} (hbb : t.body.all (f6 nv ars.length dd) = true) (h1 : nv ≤ Y.length) (h2 : Y.length + 4 * i5 t.body + 4 * i5 t.els ≤ 90000) (h3 : 130 * i5 t.body ≤ 600000) (h4 : B.length ≤ 700000) : (B ++ [S1] ++ [S2]).length + (k6 ars t.body u l (Y, [])).2.length ≤ 1400000 := by
 have h := (bq9 (u := u) (l := l) hbb h1 h2 h3).2.2
 simp only [cb5, cb4, cb6]
 omega
theorem bR7 {Y : List Int} {u l u' l' : Int} {B : List b6} {S1 S2 : b6} (hbb : t.body.all (f6 nv ars.length dd) = true) (hbe : t.els.all (f6 nv ars.length dd) = true) (h1 : nv ≤ Y.length) (h2 : Y.length + 4 * i5 t.body + 4 * i5 t.els ≤ 90000) (h3 : 130 * i5 t.body ≤ 600000) (h5 : 130 * i5 t.els ≤ 600000) (h4 : B.length ≤ 700000) : (B ++ [S1] ++ [S2] ++ (k6 ars t.body u l (Y, [])).2).length + (k6 ars t.els u' l' ((k6 ars t.body u l (Y, [])).1, [])).2.length ≤ 2000000 := by
 have h := bq9 (u := u) (l := l) hbb h1 h2 h3
 have h' := b96 (u := u') (l := l') hbe h.1 h5
 simp only [cb5, cb4, cb6]
 omega
theorem bB6 {a : Nat} (h : a ≤ 2000000) : a ≤ 9223372036854775807 := by omega
theorem bl5 {a : Nat} (h : a ≤ 2000000) : a * 152 ≤ 140737488355328 := by omega
theorem b35 (k3 : t.kind = 3) (h : (!(d8 (b9 vs ars 5 (y8 t.value)) && decide (b9 vs ars 5 (y8 t.value) % 2 = 1))) = false) : r7 ars t m pc (vs, bd) =
  ((k6 ars t.els (((b8 ars pc t.value (vs, bd)).1.1 ++ [i6 (b9 vs ars 5 (y8 t.value)) pc]).length : Int) (i6 pc (b9 vs ars 5 (y8 t.value))) ((k6 ars t.body ((b8 ars pc t.value (vs, bd)).1.1.length : Int) (i6 pc (b9 vs ars 5 (y8 t.value))) ((b8 ars pc t.value (vs, bd)).1.1 ++ [i6 (b9 vs ars 5 (y8 t.value)) pc] ++ [i6 (b9 vs ars 5 (y8 t.value)) pc], [])).1, [])).1,
   (ifN (b8 ars pc t.value (vs, bd)) m (i6 (b9 vs ars 5 (y8 t.value)) pc)).2 ++ (k6 ars t.body ((b8 ars pc t.value (vs, bd)).1.1.length : Int) (i6 pc (b9 vs ars 5 (y8 t.value))) ((b8 ars pc t.value (vs, bd)).1.1 ++ [i6 (b9 vs ars 5 (y8 t.value)) pc] ++ [i6 (b9 vs ars 5 (y8 t.value)) pc], [])).2 ++
   (k6 ars t.els (((b8 ars pc t.value (vs, bd)).1.1 ++ [i6 (b9 vs ars 5 (y8 t.value)) pc]).length : Int) (i6 pc (b9 vs ars 5 (y8 t.value))) ((k6 ars t.body ((b8 ars pc t.value (vs, bd)).1.1.length : Int) (i6 pc (b9 vs ars 5 (y8 t.value))) ((b8 ars pc t.value (vs, bd)).1.1 ++ [i6 (b9 vs ars 5 (y8 t.value)) pc] ++ [i6 (b9 vs ars 5 (y8 t.value)) pc], [])).1, [])).2) := by
 rw [bW5 k3 h, b23 (b9 vs ars 5 (y8 t.value)) pc]
 rw [P6 ars t.body _ _ (ifN (b8 ars pc t.value (vs, bd)) m (lbV ars vs pc t)).1, P6 ars t.els]
theorem b34 (k3 : t.kind = 3) (h : (!(d8 (b9 vs ars 5 (y8 t.value)) && decide (b9 vs ars 5 (y8 t.value) % 2 = 1))) = false) : (r7 ars t m pc (vs, bd)).1 = (k6 ars t.els (((b8 ars pc t.value (vs, bd)).1.1 ++ [i6 (b9 vs ars 5 (y8 t.value)) pc]).length : Int) (i6 pc (b9 vs ars 5 (y8 t.value))) ((k6 ars t.body ((b8 ars pc t.value (vs, bd)).1.1.length : Int) (i6 pc (b9 vs ars 5 (y8 t.value))) ((b8 ars pc t.value (vs, bd)).1.1 ++ [i6 (b9 vs ars 5 (y8 t.value)) pc] ++ [i6 (b9 vs ars 5 (y8 t.value)) pc], [])).1, [])).1 := by rw [b35 k3 h]
end
abbrev L7 (ars : List Int) (t : b6) (pc : Int) (vs : List Int) (bd : List b6) := m8 (b8 ars pc t.value (vs, bd)).snd
abbrev n8 (ars : List Int) (t : b6) (vs : List Int) := b9 vs ars 5 (m8 t.value)
abbrev aS7 (ars : List Int) (t : b6) (m : Int) (pc : Int) (vs : List Int) (bd : List b6) := s5 m (b5.mk 9 0 [b5.mk 2 ((b8 ars pc t.value (vs, bd)).fst.fst.length : Int) [], b5.mk 1 0 []]) (b5.mk 1 0 [])
abbrev aw4 (ars : List Int) (t : b6) (pc : Int) (vs : List Int) (bd : List b6) := k6 ars t.body ((b8 ars pc t.value (vs, bd)).fst.fst.length : Int) (i6 pc (n8 ars t vs)) ((b8 ars pc t.value (vs, bd)).fst.fst ++ [i6 (n8 ars t vs) pc] ++ [i6 (n8 ars t vs) pc], [])
abbrev ac5 (ars : List Int) (t : b6) (m : Int) (pc : Int) (vs : List Int) (bd : List b6) := m8 (s5 m (L7 ars t pc vs bd) (b5.mk 1 0 []))
abbrev ag5 (t : b6) (m : Int) (k : Nat) := s5 m (b5.mk 9 0 (N9 (m8 t.index) (k : Int)).kids) (b5.mk 1 0 [])
abbrev V5 (ars : List Int) (t : b6) (m : Int) (pc : Int) (vs : List Int) (bd : List b6) := k6 ars t.body m (i6 pc (n8 ars t vs)) ((b8 ars pc t.value (vs, bd)).fst.fst, [])
abbrev a99 (ars : List Int) (t : b6) (m : Int) (pc : Int) (vs : List Int) (bd : List b6) := s5 m (L7 ars t pc vs bd) (b5.mk 3 t.target [m8 t.index])
abbrev a98 (ars : List Int) (t : b6) (pc : Int) (vs : List Int) (bd : List b6) := b9 (b8 ars pc t.value (vs, bd)).fst.fst ars 5 (L7 ars t pc vs bd)
abbrev aw3 (ars : List Int) (t : b6) (m : Int) (pc : Int) (vs : List Int) (bd : List b6) := s5 m (L7 ars t pc vs bd) (b5.mk 2 t.target [])
abbrev ac7 (t : b6) := m8 t.index
abbrev as1 (ars : List Int) (t : b6) (m : Int) (pc : Int) (vs : List Int) (bd : List b6) := m8 (aS7 ars t m pc vs bd)
abbrev aS9 (ars : List Int) (t : b6) (pc : Int) (vs : List Int) (bd : List b6) := k6 ars t.els (((b8 ars pc t.value (vs, bd)).fst.fst ++ [i6 (n8 ars t vs) pc]).length : Int) (i6 pc (n8 ars t vs)) ((aw4 ars t pc vs bd).fst, [])
abbrev I5 (ars : List Int) (t : b6) (m : Int) (pc : Int) (vs : List Int) (bd : List b6) : List It := [.box [.ref 9, .ref 2, nlA], .dead, dI ars, .box [.ref 10], .dead, dE t.index.kids, dE t.value.kids, dT t.body, dT t.els, .row 3 (D.ints (r7 ars t m pc (vs, bd)).fst), .row 106 (D.stmts (r7 ars t m pc (vs, bd)).snd)]
abbrev I4 (ars : List Int) (t : b6) (pc : Int) (vs : List Int) (bd : List b6) : AV := iA ((b8 ars pc t.value (vs, bd)).fst.fst.length : Int)
abbrev aS8 : It := .box [.ref 10, .ref 2, .v (.slice none 0 0)]
abbrev ac6 (ars : List Int) (t : b6) (pc : Int) (vs : List Int) (bd : List b6) : It := .row 3 (D.ints ((b8 ars pc t.value (vs, bd)).fst.fst ++ [i6 (a98 ars t pc vs bd) pc]))
abbrev as0 (ars : List Int) (t : b6) (pc : Int) (vs : List Int) (bd : List b6) : It := .box [iA (b8 ars pc t.value (vs, bd)).snd.kind, iA (b8 ars pc t.value (vs, bd)).snd.value, .ref 11]
abbrev bh6 (ars : List Int) (t : b6) (m : Int) (pc : Int) (vs : List Int) (bd : List b6) (k : Nat) : It := .row 106 (D.stmts ((b8 ars pc t.value (vs, bd)).fst.snd ++ [K1 ((b8 ars pc t.value (vs, bd)).fst.fst.length : Int) (y8 (b8 ars pc t.value (vs, bd)).snd)] ++ T3 ((b8 ars pc t.value (vs, bd)).fst.fst.length : Int) t.target (y8 t.index) m k))
abbrev aB2 (ars : List Int) (t : b6) (pc : Int) (vs : List Int) (bd : List b6) : AV := iA (((b8 ars pc t.value (vs, bd)).fst.fst ++ [i6 (n8 ars t vs) pc]).length : Int)
abbrev bh5 : It := .box [.ref 9, .ref 2, .v (.slice none 0 0)]
abbrev C1 (t : b6) (r0 : List It) : List It := .dead :: dE t.index.kids :: dE t.value.kids :: dT t.body :: dT t.els :: .box (sL t 5) :: r0
abbrev L6 (m : Int) (pc : Int) (r0 : List (Nat × AV)) : List (Nat × AV) := (0, .ptr 0 0) :: (2, iA m) :: (3, iA pc) :: (4, .ptr 3 0) :: (6, .ptr 9 0) :: r0
abbrev aS4 (ars : List Int) (t : b6) (pc : Int) (vs : List Int) (bd : List b6) (r0 : List It) : List It := bh5 :: .dead :: dI ars :: .box [.ref 10] :: .dead :: dE t.index.kids :: dE t.value.kids :: dT t.body :: dT t.els :: .row 3 (D.ints (b8 ars pc t.value (vs, bd)).fst.fst) :: r0
abbrev N0 (ars : List Int) (r0 : List It) : List It := aS8 :: .dead :: dI ars :: .box [.ref 11] :: r0
abbrev ac2 (m : Int) (r0 : List (Nat × AV)) : List (Nat × AV) := (2, iA m) :: (4, .ptr 3 0) :: (6, .ptr 9 0) :: r0
theorem bx2 (ars : List Int) (nv dd : Nat) (t : b6) (hh : t5 nv ars.length t = true) (hbb : t.body.all (f6 nv ars.length dd) = true) (hbe : t.els.all (f6 nv ars.length dd) = true)
    (hI : ∀ (tt : List b6) (m pc : Int) (vs : List Int), tt.all (f6 nv ars.length dd) = true → nv ≤ vs.length → vs.length + 4 * i5 tt ≤ 90000 → 130 * i5 tt ≤ 600000 → i9.ok Tryz.prog (ibC ars m pc vs tt))
    (m pc : Int) (vs : List Int) (bd : List b6) (hv : nv ≤ vs.length) (r1 : vs.length + 4 * (1 + D9 t) ≤ 90000) (r2 : i5 bd + 130 * (1 + D9 t) ≤ 600000) : i9.ok Tryz.prog (isC ars m pc vs bd t) := by
  refine z7 273 Tryz.func163 [.box [.ref 1, .ref 2, .v (.slice none 0 0)], .row 3 (D.ints vs), dI ars, .box [.ref 4], .row 106 (D.stmts bd), dE t.index.kids, dE t.value.kids, dT t.body, dT t.els] [(0, .ptr 0 0), (1, sA t 5), (2, iA m), (3, iA pc), (4, .ptr 3 0)] fun G => ?_
  have hsz : D9 t = v5 t.index + v5 t.value + i5 t.body + i5 t.els := by cases t; rfl
  have hl := C2 bd; refine wp_seq (k8 G d9 (rg 10) [.box [.ref 1, .ref 2, .v (.slice none 0 0)], .row 3 (D.ints vs), dI ars, .box [.ref 4], .row 106 (D.stmts bd), dE t.index.kids, dE t.value.kids, dT t.body, dT t.els, .box (sL t 5)] (L6 m pc []) fun G => b7 (wp_seq (wp_seq (C9 G d9 (L6 m pc [(20, bA (t.kind == 4))]) fun G => b7 ?_)))); cases h0 : (t.kind == 4)
  ·
   have q0 := ne_of_beq_false h0; have hg := b97 (pc := pc) (bd := bd) hh (by omega) hv r1 r2; refine rF G _ h0 (wp_skip (b7 (wp_seq (bp6 G (s4 6 [1, 2, 6] (i9.lend (aj4 vs ars t.value.kind t.value.value t.value.kids (by rw [b5.eta]; exact hg.1)) [.row 3])) [0, 1, 3, 7, 0, 16, 63, 127] [(10, iA (n8 ars t vs))] fun G => b7 (wp_seq (k8 G (s4 5 [0, 1, 2, 3, 4, 6] (bG4 ars pc t.value vs bd hg.1 hg.2.1 hg.2.2.1)) [0, 1, 2, 3, 4, 5, 6, 7, 8, 9, 50, 51, 52, 58] (N0 ars (C1 t [.row 3 (D.ints (b8 ars pc t.value (vs, bd)).fst.fst), .row 106 (D.stmts (b8 ars pc t.value (vs, bd)).fst.snd), dE (b8 ars pc t.value (vs, bd)).snd.kids, .box [iA (b8 ars pc t.value (vs, bd)).snd.kind, iA (b8 ars pc t.value (vs, bd)).snd.value, .ref 12]])) (L6 m pc [(10, iA (n8 ars t vs)), (11, .ptr 13 0)]) fun G => b7 (wp_seq (l0 G d9 [(52, iA t.kind)] fun G => b7 (wp_block (wp_seq (l0 G d9 [(53, bA (t.kind == 1))] fun G => b7 (P4 G (fun h1 q1 => ?_) fun h1 q1 => ?_))))))))))))
   ·
    refine wp_seq (l0 G d9 [(72, bA (t.kind == 5))] fun G => b7 (P4 G (fun h2 q2 => ?_) fun h2 q2 => ?_))
    ·
     refine wp_seq (l0 G d9 [(86, bA (t.kind == 2))] fun G => b7 (P4 G (fun h3 q3 => ?_) fun h3 q3 => ?_))
     ·
      refine wp_seq (C9 G d9 (L6 m pc [(10, iA (n8 ars t vs)), (11, .ptr 13 0), (172, bA (t.kind == 3))]) fun G => b7 ?_); cases h4 : (t.kind == 3)
      · have q4 := ne_of_beq_false h4; exact False.elim (b36 hh (by omega) (by omega) (by omega) (by omega) (by omega))
      ·
       have q4 := eq_of_beq h4; have hb3 := bL7 (pc := pc) (bd := bd) hh (by omega) hv r1 r2; refine rT G _ h4 (wp_seq (wp_seq (l0 G (s4 1 [] (A5 (b9 vs ars 5 (m8 t.value)))) [(176, .v (.bool !(d8 (n8 ars t vs) && decide (b9 vs ars 5 (m8 t.value) % 2 = 1))))] fun G => b7 ?_))); cases h5 : (!(d8 (b9 vs ars (5 : Nat) (m8 t.value)) && decide (b9 vs ars (5 : Nat) (m8 t.value) % (2 : Int) = 1)))
       ·
        have q5 : ((d8 (b9 vs ars 5 (m8 t.value))) = true) ∧ (b9 vs ars 5 (m8 t.value) % 2 = 1) := (fun hq => And.imp (fun hq => (hq)) (fun hq => of_decide_eq_true hq) (cd5.1 hq)) (Eq.mp (cc4 _) h5); refine rF G _ h5 (wp_skip (b7 (wp_seq (k8 G (s4 4 [0, 10, 2] (aD5 ((b8 ars pc t.value (vs, bd)).fst.fst) ars (i6 (n8 ars t vs) pc) (by omega))) [0, 1, 2, 3, 4, 5, 6, 7, 8, 9, 11, 12, 13, 46] (.box [.ref 13, .ref 2, .v (.slice none 0 0)] :: .dead :: dI ars :: .box [.ref 10] :: (C1 t [.row 106 (D.stmts (b8 ars pc t.value (vs, bd)).fst.snd), dE (b8 ars pc t.value (vs, bd)).snd.kids, as0 ars t pc vs bd, .row 3 (D.ints ((b8 ars pc t.value (vs, bd)).fst.fst ++ [i6 (n8 ars t vs) pc]))])) (L6 m pc [(10, iA (n8 ars t vs)), (11, .ptr 12 0), (16, I4 ars t pc vs bd)]) fun G => b7 (wp_seq (F7 G (t4 (l8 6 [] (L2 0) (l8 7 [11, 62] (aj3 m ((b8 ars pc t.value (vs, bd)).snd.kind) ((b8 ars pc t.value (vs, bd)).snd.value) 1 0 ((b8 ars pc t.value (vs, bd)).snd.kids) ([])) (l8 8 [70] (V4 (((b8 ars pc t.value (vs, bd)).fst.fst.length : Int)) ((s5 m (L7 ars t pc vs bd) (b5.mk 1 0 [])).kind) ((s5 m (L7 ars t pc vs bd) (b5.mk 1 0 [])).value) ((s5 m (L7 ars t pc vs bd) (b5.mk 1 0 [])).kids)) t3))) fz []) [0, 1, 3, 0, 0, 0, 0, 112, 248, 7, 0, 2047, 4095, 8191, 4095, 20479] [0, 1, 2, 3, 4, 5, 6, 7, 8, 9, 13, 102] (N0 ars (C1 t [.row 3 (D.ints ((b8 ars pc t.value (vs, bd)).fst.fst ++ [i6 (n8 ars t vs) pc])), .row 106 (D.stmts (((b8 ars pc t.value (vs, bd)).fst.snd ++ ([b6.mk 0 0 (b5.mk 0 0 []) (b5.mk 0 0 []) 0 [] []] ++ [])).set (b8 ars pc t.value (vs, bd)).fst.snd.length (b6.mk 1 ((b8 ars pc t.value (vs, bd)).fst.fst.length : Int) (b5.mk 0 0 []) (ac5 ars t m pc vs bd) 0 [] [])))])) (L6 m pc [(10, iA (n8 ars t vs)), (16, I4 ars t pc vs bd)]) (aP ((b8 ars pc t.value (vs, bd)).fst.snd.length + ([b6.mk (0 : Int) (0 : Int) (b5.mk (0 : Int) (0 : Int) []) (b5.mk (0 : Int) (0 : Int) []) (0 : Int) [] []] ++ []).length) 152 (((0 : Int) ≤ ((b8 ars pc t.value (vs, bd)).fst.snd.length : Int)) :: ((((b8 ars pc t.value (vs, bd)).fst.snd.length : Int) < (((b8 ars pc t.value (vs, bd)).fst.snd ++ ([b6.mk (0 : Int) (0 : Int) (b5.mk (0 : Int) (0 : Int) []) (b5.mk (0 : Int) (0 : Int) []) (0 : Int) [] []] ++ [])).length : Int)) :: (((b8 ars pc t.value (vs, bd)).fst.snd.length < ((b8 ars pc t.value (vs, bd)).fst.snd ++ ([b6.mk (0 : Int) (0 : Int) (b5.mk (0 : Int) (0 : Int) []) (b5.mk (0 : Int) (0 : Int) []) (0 : Int) [] []] ++ [])).length) :: [])))) (aK (by simp only [cb5, cb4, cb6, x6]; omega) ⟨(by simp [hh, hbb, hbe, h0, h1, h2, h3, h4, h5]), ⟨(by simp only [cb5, cb4, cb6, x6]; omega), ⟨(by simp [hh, hbb, hbe, h0, h1, h2, h3, h4, h5]), cc1⟩⟩⟩) fun G => ?_))))))
        replace G := G.sE 11; replace G := s0.at G (N0 ars (C1 t [.row 3 (D.ints ((b8 ars pc t.value (vs, bd)).fst.fst ++ [i6 (n8 ars t vs) pc])), .row 106 (D.stmts ((b8 ars pc t.value (vs, bd)).fst.snd ++ [b6.mk 1 ((b8 ars pc t.value (vs, bd)).fst.fst.length : Int) (b5.mk 0 0 []) (ac5 ars t m pc vs bd) 0 [] []]))])) (L6 m pc [(10, iA (n8 ars t vs)), (16, I4 ars t pc vs bd)]); refine b7 (wp_seq (k8 G (s4 4 [0, 10, 2] (aD5 ((b8 ars pc t.value (vs, bd)).fst.fst ++ [i6 (n8 ars t vs) pc]) ars (i6 (n8 ars t vs) pc) (by simp only [cb5, cb4, cb6, x6]; omega))) [0, 1, 2, 3, 4, 5, 6, 7, 8, 9, 11, 44] (.box [.ref 11, .ref 2, .v (.slice none 0 0)] :: .dead :: dI ars :: .box [.ref 10] :: (C1 t [.row 106 (D.stmts ((b8 ars pc t.value (vs, bd)).fst.snd ++ [b6.mk 1 ((b8 ars pc t.value (vs, bd)).fst.fst.length : Int) (b5.mk 0 0 []) (ac5 ars t m pc vs bd) 0 [] []])), .row 3 (D.ints ((b8 ars pc t.value (vs, bd)).fst.fst ++ [i6 (n8 ars t vs) pc] ++ [i6 (n8 ars t vs) pc]))])) (L6 m pc [(10, iA (n8 ars t vs)), (16, I4 ars t pc vs bd), (17, aB2 ars t pc vs bd)]) fun G => b7 (wp_seq (F7 G (t4 (l8 6 [] (Q1 (((b8 ars pc t.value (vs, bd)).fst.fst.length : Int))) (l8 7 [] (L2 0) (l8 8 [60, 68] (bf2 9 2 (((b8 ars pc t.value (vs, bd)).fst.fst.length : Int)) 1 0 ([]) ([])) (l8 9 [] (L2 0) (l8 10 [76, 84] (aj3 m 9 0 1 0 ([b5.mk 2 ((b8 ars pc t.value (vs, bd)).fst.fst.length : Int) [], b5.mk 1 0 []]) ([])) (l8 11 [92] (V4 ((((b8 ars pc t.value (vs, bd)).fst.fst ++ [i6 (n8 ars t vs) pc]).length : Int)) ((aS7 ars t m pc vs bd).kind) ((aS7 ars t m pc vs bd).value) ((aS7 ars t m pc vs bd).kids)) t3)))))) fz []) [0, 1, 3, 0, 0, 0, 32, 96, 224, 480, 1008, 2040, 7, 0, 16383, 32767, 65535, 32767, 163839] [0, 1, 2, 3, 4, 5, 6, 7, 8, 9, 11, 124] (N0 ars (C1 t [.row 3 (D.ints ((b8 ars pc t.value (vs, bd)).fst.fst ++ [i6 (n8 ars t vs) pc] ++ [i6 (n8 ars t vs) pc])), .row 106 (D.stmts (((b8 ars pc t.value (vs, bd)).fst.snd ++ [b6.mk 1 ((b8 ars pc t.value (vs, bd)).fst.fst.length : Int) (b5.mk 0 0 []) (ac5 ars t m pc vs bd) 0 [] []] ++ ([b6.mk 0 0 (b5.mk 0 0 []) (b5.mk 0 0 []) 0 [] []] ++ [])).set ((b8 ars pc t.value (vs, bd)).fst.snd ++ [b6.mk 1 ((b8 ars pc t.value (vs, bd)).fst.fst.length : Int) (b5.mk 0 0 []) (ac5 ars t m pc vs bd) 0 [] []]).length (b6.mk 1 (((b8 ars pc t.value (vs, bd)).fst.fst ++ [i6 (n8 ars t vs) pc]).length : Int) (b5.mk 0 0 []) (as1 ars t m pc vs bd) 0 [] [])))])) [(0, .ptr 0 0), (3, iA pc), (4, .ptr 3 0), (6, .ptr 9 0), (10, iA (n8 ars t vs)), (16, I4 ars t pc vs bd), (17, aB2 ars t pc vs bd)] (aP (((b8 ars pc t.value (vs, bd)).fst.snd ++ [b6.mk (1 : Int) ((b8 ars pc t.value (vs, bd)).fst.fst.length : Int) (b5.mk (0 : Int) (0 : Int) []) (m8 (s5 m (b5.mk (b8 ars pc t.value (vs, bd)).snd.kind (b8 ars pc t.value (vs, bd)).snd.value (b8 ars pc t.value (vs, bd)).snd.kids) (b5.mk (1 : Int) (0 : Int) []))) (0 : Int) [] []]).length + ([b6.mk (0 : Int) (0 : Int) (b5.mk (0 : Int) (0 : Int) []) (b5.mk (0 : Int) (0 : Int) []) (0 : Int) [] []] ++ []).length) 152 (((0 : Int) ≤ (((b8 ars pc t.value (vs, bd)).fst.snd ++ [b6.mk (1 : Int) ((b8 ars pc t.value (vs, bd)).fst.fst.length : Int) (b5.mk (0 : Int) (0 : Int) []) (m8 (s5 m (b5.mk (b8 ars pc t.value (vs, bd)).snd.kind (b8 ars pc t.value (vs, bd)).snd.value (b8 ars pc t.value (vs, bd)).snd.kids) (b5.mk (1 : Int) (0 : Int) []))) (0 : Int) [] []]).length : Int)) :: (((((b8 ars pc t.value (vs, bd)).fst.snd ++ [b6.mk (1 : Int) ((b8 ars pc t.value (vs, bd)).fst.fst.length : Int) (b5.mk (0 : Int) (0 : Int) []) (m8 (s5 m (b5.mk (b8 ars pc t.value (vs, bd)).snd.kind (b8 ars pc t.value (vs, bd)).snd.value (b8 ars pc t.value (vs, bd)).snd.kids) (b5.mk (1 : Int) (0 : Int) []))) (0 : Int) [] []]).length : Int) < (((b8 ars pc t.value (vs, bd)).fst.snd ++ [b6.mk (1 : Int) ((b8 ars pc t.value (vs, bd)).fst.fst.length : Int) (b5.mk (0 : Int) (0 : Int) []) (m8 (s5 m (b5.mk (b8 ars pc t.value (vs, bd)).snd.kind (b8 ars pc t.value (vs, bd)).snd.value (b8 ars pc t.value (vs, bd)).snd.kids) (b5.mk (1 : Int) (0 : Int) []))) (0 : Int) [] []] ++ ([b6.mk (0 : Int) (0 : Int) (b5.mk (0 : Int) (0 : Int) []) (b5.mk (0 : Int) (0 : Int) []) (0 : Int) [] []] ++ [])).length : Int)) :: ((((b8 ars pc t.value (vs, bd)).fst.snd ++ [b6.mk (1 : Int) ((b8 ars pc t.value (vs, bd)).fst.fst.length : Int) (b5.mk (0 : Int) (0 : Int) []) (m8 (s5 m (b5.mk (b8 ars pc t.value (vs, bd)).snd.kind (b8 ars pc t.value (vs, bd)).snd.value (b8 ars pc t.value (vs, bd)).snd.kids) (b5.mk (1 : Int) (0 : Int) []))) (0 : Int) [] []]).length < ((b8 ars pc t.value (vs, bd)).fst.snd ++ [b6.mk (1 : Int) ((b8 ars pc t.value (vs, bd)).fst.fst.length : Int) (b5.mk (0 : Int) (0 : Int) []) (m8 (s5 m (b5.mk (b8 ars pc t.value (vs, bd)).snd.kind (b8 ars pc t.value (vs, bd)).snd.value (b8 ars pc t.value (vs, bd)).snd.kids) (b5.mk (1 : Int) (0 : Int) []))) (0 : Int) [] []] ++ ([b6.mk (0 : Int) (0 : Int) (b5.mk (0 : Int) (0 : Int) []) (b5.mk (0 : Int) (0 : Int) []) (0 : Int) [] []] ++ [])).length) :: [])))) (aK (by simp only [cb5, cb4, cb6, x6]; omega) ⟨(by simp only [cb5, cb4, cb6, x6]; omega), ⟨(by simp [hh, hbb, hbe, h0, h1, h2, h3, h4, h5]), ⟨(by simp [hh, hbb, hbe, h0, h1, h2, h3, h4, h5]), cc1⟩⟩⟩) fun G => ?_))))
        replace G := G.sE 11; replace G := s0.at G (N0 ars (C1 t [.row 3 (D.ints ((b8 ars pc t.value (vs, bd)).fst.fst ++ [i6 (n8 ars t vs) pc] ++ [i6 (n8 ars t vs) pc])), .row 106 (D.stmts ((b8 ars pc t.value (vs, bd)).fst.snd ++ [b6.mk 1 ((b8 ars pc t.value (vs, bd)).fst.fst.length : Int) (b5.mk 0 0 []) (ac5 ars t m pc vs bd) 0 [] []] ++ [b6.mk 1 (((b8 ars pc t.value (vs, bd)).fst.fst ++ [i6 (n8 ars t vs) pc]).length : Int) (b5.mk 0 0 []) (as1 ars t m pc vs bd) 0 [] []]))])) [(0, .ptr 0 0), (3, iA pc), (4, .ptr 3 0), (6, .ptr 9 0), (10, iA (n8 ars t vs)), (16, I4 ars t pc vs bd), (17, aB2 ars t pc vs bd)]; refine b7 (wp_seq (F7 G (s4 11 [0, 10, 2, 7] (hI t.body (((b8 ars pc t.value (vs, bd)).fst.fst.length : Int)) (i6 pc (n8 ars t vs)) ((b8 ars pc t.value (vs, bd)).fst.fst ++ [i6 (n8 ars t vs) pc] ++ [i6 (n8 ars t vs) pc]) (by assumption) (by simp only [cb5, cb4, cb6, x6]; omega) (by simp only [cb5, cb4, cb6, x6]; omega) (by omega))) [0, 0, 2, 6, 0, 0, 32, 0, 0, 0, 768, 2032, 4094, 8191, 16383] [0, 1, 2, 3, 4, 5, 6, 7, 8, 9, 100, 108] (N0 ars (C1 t [.row 3 (D.ints (aw4 ars t pc vs bd).fst), .row 106 (D.stmts ((b8 ars pc t.value (vs, bd)).fst.snd ++ [b6.mk 1 ((b8 ars pc t.value (vs, bd)).fst.fst.length : Int) (b5.mk 0 0 []) (ac5 ars t m pc vs bd) 0 [] []] ++ [b6.mk 1 (((b8 ars pc t.value (vs, bd)).fst.fst ++ [i6 (n8 ars t vs) pc]).length : Int) (b5.mk 0 0 []) (as1 ars t m pc vs bd) 0 [] []] ++ (aw4 ars t pc vs bd).snd))])) [(0, .ptr 0 0), (3, iA pc), (4, .ptr 3 0), (6, .ptr 9 0), (10, iA (n8 ars t vs)), (17, aB2 ars t pc vs bd)] [((b8 ars pc t.value (vs, bd)).fst.snd ++ [b6.mk (1 : Int) ((b8 ars pc t.value (vs, bd)).fst.fst.length : Int) (b5.mk (0 : Int) (0 : Int) []) (m8 (s5 m (b5.mk (b8 ars pc t.value (vs, bd)).snd.kind (b8 ars pc t.value (vs, bd)).snd.value (b8 ars pc t.value (vs, bd)).snd.kids) (b5.mk (1 : Int) (0 : Int) []))) (0 : Int) [] []] ++ [b6.mk (1 : Int) (((b8 ars pc t.value (vs, bd)).fst.fst ++ [i6 (b9 vs ars (5 : Nat) (m8 t.value)) pc]).length : Int) (b5.mk (0 : Int) (0 : Int) []) (m8 (s5 m (b5.mk (9 : Int) (0 : Int) [b5.mk (2 : Int) ((b8 ars pc t.value (vs, bd)).fst.fst.length : Int) [], b5.mk (1 : Int) (0 : Int) []]) (b5.mk (1 : Int) (0 : Int) []))) (0 : Int) [] []]).length + (k6 ars t.body ((b8 ars pc t.value (vs, bd)).fst.fst.length : Int) (i6 pc (b9 vs ars (5 : Nat) (m8 t.value))) ((b8 ars pc t.value (vs, bd)).fst.fst ++ [i6 (b9 vs ars (5 : Nat) (m8 t.value)) pc] ++ [i6 (b9 vs ars (5 : Nat) (m8 t.value)) pc], [])).snd.length ≤ (9223372036854775807 : Nat), (((b8 ars pc t.value (vs, bd)).fst.snd ++ [b6.mk (1 : Int) ((b8 ars pc t.value (vs, bd)).fst.fst.length : Int) (b5.mk (0 : Int) (0 : Int) []) (m8 (s5 m (b5.mk (b8 ars pc t.value (vs, bd)).snd.kind (b8 ars pc t.value (vs, bd)).snd.value (b8 ars pc t.value (vs, bd)).snd.kids) (b5.mk (1 : Int) (0 : Int) []))) (0 : Int) [] []] ++ [b6.mk (1 : Int) (((b8 ars pc t.value (vs, bd)).fst.fst ++ [i6 (b9 vs ars (5 : Nat) (m8 t.value)) pc]).length : Int) (b5.mk (0 : Int) (0 : Int) []) (m8 (s5 m (b5.mk (9 : Int) (0 : Int) [b5.mk (2 : Int) ((b8 ars pc t.value (vs, bd)).fst.fst.length : Int) [], b5.mk (1 : Int) (0 : Int) []]) (b5.mk (1 : Int) (0 : Int) []))) (0 : Int) [] []]).length + (k6 ars t.body ((b8 ars pc t.value (vs, bd)).fst.fst.length : Int) (i6 pc (b9 vs ars (5 : Nat) (m8 t.value))) ((b8 ars pc t.value (vs, bd)).fst.fst ++ [i6 (b9 vs ars (5 : Nat) (m8 t.value)) pc] ++ [i6 (b9 vs ars (5 : Nat) (m8 t.value)) pc], [])).snd.length) * (152 : Nat) ≤ (140737488355328 : Nat)] ⟨(bB6 (cd3 (bR8 hbb (by simp only [cb5, cb4, cb6]; omega) (by simp only [cb5, cb4, cb6]; omega) (by omega) (by omega)) (by decide))), (bl5 (cd3 (bR8 hbb (by simp only [cb5, cb4, cb6]; omega) (by simp only [cb5, cb4, cb6]; omega) (by omega) (by omega)) (by decide))), cc1⟩ fun G => ?_))
        refine b7 (F7 G (s4 11 [0, 10, 2, 8] (hI t.els ((((b8 ars pc t.value (vs, bd)).fst.fst ++ [i6 (n8 ars t vs) pc]).length : Int)) (i6 pc (n8 ars t vs)) ((aw4 ars t pc vs bd).fst) (by assumption) ((bq9 hbb (by simp only [cb5, cb4, cb6]; omega) (by simp only [cb5, cb4, cb6]; omega) (by omega)).1) ((bq9 hbb (by simp only [cb5, cb4, cb6]; omega) (by simp only [cb5, cb4, cb6]; omega) (by omega)).2.1) (by omega))) [0, 0, 2, 6, 0, 0, 32, 0, 0, 0, 768, 2032, 4094, 8191, 16383] [0, 1, 2, 3, 4, 5, 6, 7, 8, 100, 108] [bh5, .dead, dI ars, .box [.ref 10], .dead, dE t.index.kids, dE t.value.kids, dT t.body, dT t.els, .row 3 (D.ints (aS9 ars t pc vs bd).fst), .row 106 (D.stmts ((b8 ars pc t.value (vs, bd)).fst.snd ++ [b6.mk 1 ((b8 ars pc t.value (vs, bd)).fst.fst.length : Int) (b5.mk 0 0 []) (ac5 ars t m pc vs bd) 0 [] []] ++ [b6.mk 1 (((b8 ars pc t.value (vs, bd)).fst.fst ++ [i6 (n8 ars t vs) pc]).length : Int) (b5.mk 0 0 []) (as1 ars t m pc vs bd) 0 [] []] ++ (aw4 ars t pc vs bd).snd ++ (aS9 ars t pc vs bd).snd))] [] [((b8 ars pc t.value (vs, bd)).fst.snd ++ [b6.mk (1 : Int) ((b8 ars pc t.value (vs, bd)).fst.fst.length : Int) (b5.mk (0 : Int) (0 : Int) []) (m8 (s5 m (b5.mk (b8 ars pc t.value (vs, bd)).snd.kind (b8 ars pc t.value (vs, bd)).snd.value (b8 ars pc t.value (vs, bd)).snd.kids) (b5.mk (1 : Int) (0 : Int) []))) (0 : Int) [] []] ++ [b6.mk (1 : Int) (((b8 ars pc t.value (vs, bd)).fst.fst ++ [i6 (b9 vs ars (5 : Nat) (m8 t.value)) pc]).length : Int) (b5.mk (0 : Int) (0 : Int) []) (m8 (s5 m (b5.mk (9 : Int) (0 : Int) [b5.mk (2 : Int) ((b8 ars pc t.value (vs, bd)).fst.fst.length : Int) [], b5.mk (1 : Int) (0 : Int) []]) (b5.mk (1 : Int) (0 : Int) []))) (0 : Int) [] []] ++ (k6 ars t.body ((b8 ars pc t.value (vs, bd)).fst.fst.length : Int) (i6 pc (b9 vs ars (5 : Nat) (m8 t.value))) ((b8 ars pc t.value (vs, bd)).fst.fst ++ [i6 (b9 vs ars (5 : Nat) (m8 t.value)) pc] ++ [i6 (b9 vs ars (5 : Nat) (m8 t.value)) pc], [])).snd).length + (k6 ars t.els (((b8 ars pc t.value (vs, bd)).fst.fst ++ [i6 (b9 vs ars (5 : Nat) (m8 t.value)) pc]).length : Int) (i6 pc (b9 vs ars (5 : Nat) (m8 t.value))) ((k6 ars t.body ((b8 ars pc t.value (vs, bd)).fst.fst.length : Int) (i6 pc (b9 vs ars (5 : Nat) (m8 t.value))) ((b8 ars pc t.value (vs, bd)).fst.fst ++ [i6 (b9 vs ars (5 : Nat) (m8 t.value)) pc] ++ [i6 (b9 vs ars (5 : Nat) (m8 t.value)) pc], [])).fst, [])).snd.length ≤ (9223372036854775807 : Nat), (((b8 ars pc t.value (vs, bd)).fst.snd ++ [b6.mk (1 : Int) ((b8 ars pc t.value (vs, bd)).fst.fst.length : Int) (b5.mk (0 : Int) (0 : Int) []) (m8 (s5 m (b5.mk (b8 ars pc t.value (vs, bd)).snd.kind (b8 ars pc t.value (vs, bd)).snd.value (b8 ars pc t.value (vs, bd)).snd.kids) (b5.mk (1 : Int) (0 : Int) []))) (0 : Int) [] []] ++ [b6.mk (1 : Int) (((b8 ars pc t.value (vs, bd)).fst.fst ++ [i6 (b9 vs ars (5 : Nat) (m8 t.value)) pc]).length : Int) (b5.mk (0 : Int) (0 : Int) []) (m8 (s5 m (b5.mk (9 : Int) (0 : Int) [b5.mk (2 : Int) ((b8 ars pc t.value (vs, bd)).fst.fst.length : Int) [], b5.mk (1 : Int) (0 : Int) []]) (b5.mk (1 : Int) (0 : Int) []))) (0 : Int) [] []] ++ (k6 ars t.body ((b8 ars pc t.value (vs, bd)).fst.fst.length : Int) (i6 pc (b9 vs ars (5 : Nat) (m8 t.value))) ((b8 ars pc t.value (vs, bd)).fst.fst ++ [i6 (b9 vs ars (5 : Nat) (m8 t.value)) pc] ++ [i6 (b9 vs ars (5 : Nat) (m8 t.value)) pc], [])).snd).length + (k6 ars t.els (((b8 ars pc t.value (vs, bd)).fst.fst ++ [i6 (b9 vs ars (5 : Nat) (m8 t.value)) pc]).length : Int) (i6 pc (b9 vs ars (5 : Nat) (m8 t.value))) ((k6 ars t.body ((b8 ars pc t.value (vs, bd)).fst.fst.length : Int) (i6 pc (b9 vs ars (5 : Nat) (m8 t.value))) ((b8 ars pc t.value (vs, bd)).fst.fst ++ [i6 (b9 vs ars (5 : Nat) (m8 t.value)) pc] ++ [i6 (b9 vs ars (5 : Nat) (m8 t.value)) pc], [])).fst, [])).snd.length) * (152 : Nat) ≤ (140737488355328 : Nat)] ⟨(bB6 (bR7 hbb hbe (by simp only [cb5, cb4, cb6]; omega) (by simp only [cb5, cb4, cb6]; omega) (by omega) (by omega) (by omega))), (bl5 (bR7 hbb hbe (by simp only [cb5, cb4, cb6]; omega) (by simp only [cb5, cb4, cb6]; omega) (by omega) (by omega) (by omega))), cc1⟩ fun G => ?_)
        refine m6 ?_; exact am2 G (rg 11) (by show _ = mR (rg 11) (I5 ars t m pc vs bd); unfold I5; have e1 : ((r7 ars t m pc (vs, bd)).fst : List Int) = ((k6 ars t.els (((b8 ars pc t.value (vs, bd)).fst.fst ++ [i6 (b9 vs ars 5 (m8 t.value)) pc]).length : Int) (i6 pc (b9 vs ars 5 (m8 t.value))) ((k6 ars t.body ((b8 ars pc t.value (vs, bd)).fst.fst.length : Int) (i6 pc (b9 vs ars 5 (m8 t.value))) ((b8 ars pc t.value (vs, bd)).fst.fst ++ [i6 (b9 vs ars 5 (m8 t.value)) pc] ++ [i6 (b9 vs ars 5 (m8 t.value)) pc], [])).fst, [])).fst) := (b34 (by omega) (by with_reducible assumption)); have e2 : ((r7 ars t m pc (vs, bd)).snd : List b6) = ((b8 ars pc t.value (vs, bd)).fst.snd ++ [b6.mk 1 ((b8 ars pc t.value (vs, bd)).fst.fst.length : Int) (b5.mk 0 0 []) (ac5 ars t m pc vs bd) 0 [] []] ++ [b6.mk 1 (((b8 ars pc t.value (vs, bd)).fst.fst ++ [i6 (n8 ars t vs) pc]).length : Int) (b5.mk 0 0 []) (as1 ars t m pc vs bd) 0 [] []] ++ (aw4 ars t pc vs bd).snd ++ (aS9 ars t pc vs bd).snd) := (congrArg Prod.snd (b35 (by omega) (by with_reducible assumption))); (first | rw [e1, e2] | simp only [e1, e2]) <;> rfl)
       ·
        have q5 : ((d8 (b9 vs ars 5 (m8 t.value))) = false) ∨ (¬ (b9 vs ars 5 (m8 t.value) % 2 = 1)) := (fun hq => Or.imp (fun hq => (hq)) (fun hq => of_decide_eq_false hq) (cd2.1 hq)) (Eq.mp (cc3 _) h5); refine rT G _ h5 (wp_seq (k8 G (s4 7 [0, 10, 2, 7] (hI t.body m (i6 pc (n8 ars t vs)) ((b8 ars pc t.value (vs, bd)).fst.fst) (by assumption) (by omega) (by omega) (by omega))) [0, 1, 2, 3, 4, 5, 6, 7, 8, 9, 11, 12, 13, 70, 71] (.box [.ref 13, .ref 2, .v (.slice none 0 0)] :: .dead :: dI ars :: .box [.ref 10] :: (C1 t [.row 106 (D.stmts (b8 ars pc t.value (vs, bd)).fst.snd), dE (b8 ars pc t.value (vs, bd)).snd.kids, as0 ars t pc vs bd, .row 3 (D.ints (V5 ars t m pc vs bd).fst), dT (V5 ars t m pc vs bd).snd])) (L6 m pc [(10, iA (n8 ars t vs)), (11, .ptr 12 0), (15, .ref 14)]) fun G => b7 (wp_seq (F7 G (s4 12 [0, 13, 2, 8] (hI t.els m (i6 pc (n8 ars t vs)) ((V5 ars t m pc vs bd).fst) (by assumption) ((bq9 hbb (by omega) (by omega) (by omega)).1) ((bq9 hbb (by omega) (by omega) (by omega)).2.1) (by omega))) [0, 1, 3, 0, 0, 0, 0, 64, 0, 0, 0, 1536, 4064, 8184, 7, 0, 65535, 131071, 262143, 131071, 655359] [0, 1, 2, 3, 4, 5, 6, 7, 8, 9, 11, 12, 111, 143] (.box [.ref 12, .ref 2, .v (.slice none 0 0)] :: .dead :: dI ars :: .box [.ref 13] :: (C1 t [dE (b8 ars pc t.value (vs, bd)).snd.kids, .box [iA (b8 ars pc t.value (vs, bd)).snd.kind, iA (b8 ars pc t.value (vs, bd)).snd.value, .ref 10], .row 3 (D.ints (k6 ars t.els m (i6 pc (n8 ars t vs)) ((V5 ars t m pc vs bd).fst, [])).fst), .row 106 (D.stmts (((b8 ars pc t.value (vs, bd)).fst.snd ++ ([b6.mk 0 0 (b5.mk 0 0 []) (b5.mk 0 0 []) 0 [] []] ++ [])).set (b8 ars pc t.value (vs, bd)).fst.snd.length (b6.mk 3 0 (b5.mk 0 0 []) (L7 ars t pc vs bd) 0 (V5 ars t m pc vs bd).snd (k6 ars t.els m (i6 pc (n8 ars t vs)) ((V5 ars t m pc vs bd).fst, [])).snd)))])) (L6 m pc [(10, iA (n8 ars t vs)), (11, .ptr 11 0)]) (aP ((b8 ars pc t.value (vs, bd)).fst.snd.length + ([b6.mk (0 : Int) (0 : Int) (b5.mk (0 : Int) (0 : Int) []) (b5.mk (0 : Int) (0 : Int) []) (0 : Int) [] []] ++ []).length) 152 (((0 : Int) ≤ ((b8 ars pc t.value (vs, bd)).fst.snd.length : Int)) :: ((((b8 ars pc t.value (vs, bd)).fst.snd.length : Int) < (((b8 ars pc t.value (vs, bd)).fst.snd ++ ([b6.mk (0 : Int) (0 : Int) (b5.mk (0 : Int) (0 : Int) []) (b5.mk (0 : Int) (0 : Int) []) (0 : Int) [] []] ++ [])).length : Int)) :: (((b8 ars pc t.value (vs, bd)).fst.snd.length < ((b8 ars pc t.value (vs, bd)).fst.snd ++ ([b6.mk (0 : Int) (0 : Int) (b5.mk (0 : Int) (0 : Int) []) (b5.mk (0 : Int) (0 : Int) []) (0 : Int) [] []] ++ [])).length) :: [])))) (aK (by simp only [cb5, cb4, cb6, x6]; omega) ⟨(by simp [hh, hbb, hbe, h0, h1, h2, h3, h4, h5]), ⟨(by simp only [cb5, cb4, cb6, x6]; omega), ⟨(by simp [hh, hbb, hbe, h0, h1, h2, h3, h4, h5]), cc1⟩⟩⟩) fun G => ?_))))
        replace G := G.sE 13; replace G := s0.at G (.box [.ref 12, .ref 2, .v (.slice none 0 0)] :: .dead :: dI ars :: .box [.ref 13] :: (C1 t [dE (b8 ars pc t.value (vs, bd)).snd.kids, .box [iA (b8 ars pc t.value (vs, bd)).snd.kind, iA (b8 ars pc t.value (vs, bd)).snd.value, .ref 10], .row 3 (D.ints (k6 ars t.els m (i6 pc (n8 ars t vs)) ((V5 ars t m pc vs bd).fst, [])).fst), .row 106 (D.stmts ((b8 ars pc t.value (vs, bd)).fst.snd ++ [b6.mk 3 0 (b5.mk 0 0 []) (L7 ars t pc vs bd) 0 (V5 ars t m pc vs bd).snd (k6 ars t.els m (i6 pc (n8 ars t vs)) ((V5 ars t m pc vs bd).fst, [])).snd]))])) (L6 m pc [(10, iA (n8 ars t vs)), (11, .ptr 11 0)]); refine b7 (wp_ret (l7 (z8 ?_))); exact F6 G [0, 1, 2, 3, 4, 5, 6, 7, 8, 12, 13] (by show _ = mR [0, 1, 2, 3, 4, 5, 6, 7, 8, 12, 13] (I5 ars t m pc vs bd); unfold I5; have e1 : ((r7 ars t m pc (vs, bd)).fst : List Int) = ((k6 ars t.els m (i6 pc (b9 vs ars 5 (m8 t.value))) ((k6 ars t.body m (i6 pc (b9 vs ars 5 (m8 t.value))) ((b8 ars pc t.value (vs, bd)).fst.fst, [])).fst, [])).fst) := (bS2 (by omega) (by with_reducible assumption)); have e2 : ((r7 ars t m pc (vs, bd)).snd : List b6) = ((b8 ars pc t.value (vs, bd)).fst.snd ++ [b6.mk 3 0 (b5.mk 0 0 []) (L7 ars t pc vs bd) 0 (V5 ars t m pc vs bd).snd (k6 ars t.els m (i6 pc (n8 ars t vs)) ((V5 ars t m pc vs bd).fst, [])).snd]) := (congrArg Prod.snd (bW6 (by omega) (by with_reducible assumption))); (first | rw [e1, e2] | simp only [e1, e2]) <;> rfl)
     ·
      refine wp_seq (wp_seq (bp6 G (t4 (l8 6 [10, 2, 5] (i9.lend (aj4 ((b8 ars pc t.value (vs, bd)).fst.fst) ars t.index.kind t.index.value t.index.kids (bW2 hh (aR2 hh (by omega) (by omega) (by omega) (by omega)) hg.2.2.2.1)) [.row 3]) (l8 7 [] (A5 (b9 (b8 ars pc t.value (vs, bd)).fst.fst ars 5 (ac7 t))) t3)) fz []) [0, 1, 3, 7, 0, 16, 63, 127, 255] [(96, .v (.bool !(d8 (b9 (b8 ars pc t.value (vs, bd)).fst.fst ars 5 (ac7 t)) && decide (b9 (b8 ars pc t.value (vs, bd)).fst.fst ars 5 (ac7 t) % 2 = 1))))] fun G => b7 ?_)); cases h6 : (!(d8 (b9 (b8 ars pc t.value (vs, bd)).fst.fst ars (5 : Nat) (m8 t.index)) && decide (b9 (b8 ars pc t.value (vs, bd)).fst.fst ars (5 : Nat) (m8 t.index) % (2 : Int) = 1)))
      ·
       have q6 : ((d8 (b9 (b8 ars pc t.value (vs, bd)).fst.fst ars 5 (m8 t.index))) = true) ∧ (b9 (b8 ars pc t.value (vs, bd)).fst.fst ars 5 (m8 t.index) % 2 = 1) := (fun hq => And.imp (fun hq => (hq)) (fun hq => of_decide_eq_true hq) (cd5.1 hq)) (Eq.mp (cc4 _) h6); refine rF G _ h6 (wp_skip (b7 (wp_seq (N3 G (t4 (l8 6 [10, 2, 12] (i9.lend (aj4 ((b8 ars pc t.value (vs, bd)).fst.fst) ars ((b8 ars pc t.value (vs, bd)).snd.kind) ((b8 ars pc t.value (vs, bd)).snd.value) ((b8 ars pc t.value (vs, bd)).snd.kids) (by rw [b5.eta]; exact hg.2.2.2.2.2.2)) [.row 3]) (l8 9 [0, 10, 2] (aD5 ((b8 ars pc t.value (vs, bd)).fst.fst) ars (i6 (a98 ars t pc vs bd) pc) (by omega)) t3)) fz []) [0, 0, 2, 6, 14, 0, 62, 0, 254, 511, 1023] [0, 1, 2, 3, 4, 5, 6, 7, 8, 9, 11, 12, 13, 86] (.box [.ref 13, .ref 2, .v (.slice none 0 0)] :: .dead :: dI ars :: .box [.ref 10] :: (C1 t [.row 106 (D.stmts (b8 ars pc t.value (vs, bd)).fst.snd), dE (b8 ars pc t.value (vs, bd)).snd.kids, as0 ars t pc vs bd, ac6 ars t pc vs bd])) (ac2 m [(11, .ptr 12 0), (12, I4 ars t pc vs bd)]) fun G => b7 (wp_seq (F7 G (s4 5 [11] (V4 (((b8 ars pc t.value (vs, bd)).fst.fst.length : Int)) ((b8 ars pc t.value (vs, bd)).snd.kind) ((b8 ars pc t.value (vs, bd)).snd.value) ((b8 ars pc t.value (vs, bd)).snd.kids))) [0, 1, 3, 0, 0, 24, 7, 0, 255, 511, 1023, 511, 2559] [0, 1, 2, 3, 4, 5, 6, 7, 8, 9, 13, 78] (N0 ars (C1 t [ac6 ars t pc vs bd, .row 106 (D.stmts (((b8 ars pc t.value (vs, bd)).fst.snd ++ ([b6.mk 0 0 (b5.mk 0 0 []) (b5.mk 0 0 []) 0 [] []] ++ [])).set (b8 ars pc t.value (vs, bd)).fst.snd.length (b6.mk 1 ((b8 ars pc t.value (vs, bd)).fst.fst.length : Int) (b5.mk 0 0 []) (L7 ars t pc vs bd) 0 [] [])))])) (ac2 m [(12, I4 ars t pc vs bd)]) (aP ((b8 ars pc t.value (vs, bd)).fst.snd.length + ([b6.mk (0 : Int) (0 : Int) (b5.mk (0 : Int) (0 : Int) []) (b5.mk (0 : Int) (0 : Int) []) (0 : Int) [] []] ++ []).length) 152 (((0 : Int) ≤ ((b8 ars pc t.value (vs, bd)).fst.snd.length : Int)) :: ((((b8 ars pc t.value (vs, bd)).fst.snd.length : Int) < (((b8 ars pc t.value (vs, bd)).fst.snd ++ ([b6.mk (0 : Int) (0 : Int) (b5.mk (0 : Int) (0 : Int) []) (b5.mk (0 : Int) (0 : Int) []) (0 : Int) [] []] ++ [])).length : Int)) :: (((b8 ars pc t.value (vs, bd)).fst.snd.length < ((b8 ars pc t.value (vs, bd)).fst.snd ++ ([b6.mk (0 : Int) (0 : Int) (b5.mk (0 : Int) (0 : Int) []) (b5.mk (0 : Int) (0 : Int) []) (0 : Int) [] []] ++ [])).length) :: [])))) (aK (by simp only [cb5, cb4, cb6, x6]; omega) ⟨(by simp [hh, hbb, hbe, h0, h1, h2, h3, h6]), ⟨(by simp only [cb5, cb4, cb6, x6]; omega), ⟨(by simp [hh, hbb, hbe, h0, h1, h2, h3, h6]), cc1⟩⟩⟩) fun G => ?_))))))
       replace G := G.sE 11; replace G := s0.at G (N0 ars (C1 t [ac6 ars t pc vs bd, .row 106 (D.stmts ((b8 ars pc t.value (vs, bd)).fst.snd ++ [b6.mk 1 ((b8 ars pc t.value (vs, bd)).fst.fst.length : Int) (b5.mk 0 0 []) (L7 ars t pc vs bd) 0 [] []]))])) (ac2 m [(12, I4 ars t pc vs bd)]); refine b7 (wp_seq (C9 G d9 (ac2 m [(12, I4 ars t pc vs bd), (139, iA 0)]) fun G => b7 (wp_block ?_))); replace G := G.as (.box [.ref 10, .ref 2, .v (.slice none 0 0)] :: .dead :: dI ars :: .box [.ref 11] :: (C1 t [.row 3 (D.ints ((b8 ars pc t.value (vs, bd)).fst.fst ++ [i6 (b9 (b8 ars pc t.value (vs, bd)).fst.fst ars 5 (m8 (b8 ars pc t.value (vs, bd)).snd)) pc])), .row 106 (D.stmts ((b8 ars pc t.value (vs, bd)).fst.snd ++ [K1 ((b8 ars pc t.value (vs, bd)).fst.fst.length : Int) (y8 (b8 ars pc t.value (vs, bd)).snd)] ++ T3 ((b8 ars pc t.value (vs, bd)).fst.fst.length : Int) t.target (y8 t.index) m 0))])) (ac2 m [(12, iA ((b8 ars pc t.value (vs, bd)).fst.fst.length : Int)), (139, iA 0)]) (by have e1 : ((b8 ars pc t.value (vs, bd)).fst.snd ++ [K1 ((b8 ars pc t.value (vs, bd)).fst.fst.length : Int) (y8 (b8 ars pc t.value (vs, bd)).snd)] ++ T3 ((b8 ars pc t.value (vs, bd)).fst.fst.length : Int) t.target (y8 t.index) m 0 : List b6) = ((b8 ars pc t.value (vs, bd)).fst.snd ++ [b6.mk 1 ((b8 ars pc t.value (vs, bd)).fst.fst.length : Int) (b5.mk 0 0 []) (m8 (b8 ars pc t.value (vs, bd)).snd) 0 [] []]) := (by simp only [T3, List.append_nil]; done); (first | rw [e1] | simp only [e1]) <;> rfl) (by kernel_rfl); refine o7 (κ := Nat) (fun k => k ≤ 4) (fun k => 4 - k) (fun k => [.box [.ref 10, .ref 2, .v (.slice none 0 0)], .dead, dI ars, .box [.ref 11], .dead, dE t.index.kids, dE t.value.kids, dT t.body, dT t.els, .box (sL t 5), .row 3 (D.ints ((b8 ars pc t.value (vs, bd)).fst.fst ++ [i6 (b9 (b8 ars pc t.value (vs, bd)).fst.fst ars 5 (m8 (b8 ars pc t.value (vs, bd)).snd)) pc])), .row 106 (.stmts ((b8 ars pc t.value (vs, bd)).1.2 ++ [K1 ((b8 ars pc t.value (vs, bd)).1.1.length : Int) (y8 (b8 ars pc t.value (vs, bd)).2)] ++ T3 ((b8 ars pc t.value (vs, bd)).1.1.length : Int) t.target (y8 t.index) m k))]) (fun k => [(2, iA m), (4, .ptr 3 0), (6, .ptr 9 0), (12, iA ((b8 ars pc t.value (vs, bd)).fst.fst.length : Int)), (139, iA k)]) 0 (by simp [hh, hbb, hbe, h0, h1, h2, h3, h6]) (s0.at G _ _) ?_; clear G; intro k ρ a w hp G; replace G := s0.at G (N0 ars (C1 t [ac6 ars t pc vs bd, bh6 ars t m pc vs bd k])) (ac2 m [(12, I4 ars t pc vs bd), (139, iA k)]); refine wp_seq (l0 G d9 [(140, bA (decide ((k : Int) < 4)))] fun G => b7 (wp_seq (N4 G (fun h7 q7 => ?_) fun h7 q7 => ?_)))
       · refine wp_exit (o0 (o0 (n5 (m6 ?_)))); exact am2 G [0, 1, 2, 3, 4, 5, 6, 7, 8, 10, 11] (by show _ = mR [0, 1, 2, 3, 4, 5, 6, 7, 8, 10, 11] (I5 ars t m pc vs bd); unfold I5; have e1 : ((r7 ars t m pc (vs, bd)).fst : List Int) = ((b8 ars pc t.value (vs, bd)).fst.fst ++ [i6 (a98 ars t pc vs bd) pc]) := (congrArg Prod.fst (bR9 (show k = 4 by omega) (aR2 hh (by omega) (by omega) (by omega) (by omega)) (by with_reducible assumption))); have e2 : ((r7 ars t m pc (vs, bd)).snd : List b6) = ((b8 ars pc t.value (vs, bd)).fst.snd ++ [K1 ((b8 ars pc t.value (vs, bd)).fst.fst.length : Int) (y8 (b8 ars pc t.value (vs, bd)).snd)] ++ T3 ((b8 ars pc t.value (vs, bd)).fst.fst.length : Int) t.target (y8 t.index) m k) := (congrArg Prod.snd (bR9 (show k = 4 by omega) (aR2 hh (by omega) (by omega) (by omega) (by omega)) (by with_reducible assumption))); (first | rw [e1, e2] | simp only [e1, e2]) <;> rfl)
       ·
        refine wp_skip (b7 (wp_seq (wp_block (wp_seq (l0 G d9 [(13, iA k)] fun G => b7 (wp_seq (k8 G (t4 (l8 4 [5] (bG3 t.index.kind t.index.value t.index.kids ((k : Int))) (l8 5 [] (L2 0) (l8 6 [44, 52] (aj3 m 9 0 1 0 ((N9 (ac7 t) (k : Int)).kids) ([])) t3))) fz []) [0, 1, 2, 3, 4, 5, 6, 7, 8, 9, 10, 11, 60, 68] (N0 ars (C1 t [ac6 ars t pc vs bd, bh6 ars t m pc vs bd k, dE (ag5 t m k).kids, .box [iA (ag5 t m k).kind, iA (ag5 t m k).value, .ref 12]])) (ac2 m [(12, I4 ars t pc vs bd), (13, iA k), (14, .ptr 13 0), (139, iA k)]) fun G => b7 (F7 G (t4 (l8 6 [] (L2 ((k : Int))) (l8 9 [] (Q1 (((b8 ars pc t.value (vs, bd)).fst.fst.length : Int))) (l8 13 [] (L2 ((k : Int))) (l8 14 [118] (am1 t.target 1 ((k : Int)) ([])) (l8 15 [12, 86, 126] (aL6 ((ag5 t m k).kind) ((ag5 t m k).value) 2 (((b8 ars pc t.value (vs, bd)).fst.fst.length : Int)) 3 t.target ((ag5 t m k).kids) ([]) ([b5.mk 1 (k : Int) []])) t3))))) fz []) [0, 1, 3, 0, 8, 0, 32, 0, 0, 352, 0, 1024, 0, 4960, 16224, 32736, 65528, 7, 0, 524287, 1048575, 2097151, 1048575, 5242879] [0, 1, 2, 3, 4, 5, 6, 7, 8, 9, 10, 166] (N0 ars (C1 t [ac6 ars t pc vs bd, .row 106 (D.stmts (((b8 ars pc t.value (vs, bd)).fst.snd ++ [K1 ((b8 ars pc t.value (vs, bd)).fst.fst.length : Int) (y8 (b8 ars pc t.value (vs, bd)).snd)] ++ T3 ((b8 ars pc t.value (vs, bd)).fst.fst.length : Int) t.target (y8 t.index) m k ++ ([b6.mk 0 0 (b5.mk 0 0 []) (b5.mk 0 0 []) 0 [] []] ++ [])).set ((b8 ars pc t.value (vs, bd)).fst.snd ++ [K1 ((b8 ars pc t.value (vs, bd)).fst.fst.length : Int) (y8 (b8 ars pc t.value (vs, bd)).snd)] ++ T3 ((b8 ars pc t.value (vs, bd)).fst.fst.length : Int) t.target (y8 t.index) m k).length (b6.mk 2 t.target (b5.mk 1 (k : Int) []) (b5.mk 11 0 [m8 (ag5 t m k), b5.mk 2 ((b8 ars pc t.value (vs, bd)).fst.fst.length : Int) [], b5.mk 3 t.target [b5.mk 1 (k : Int) []]]) 0 [] [])))])) (ac2 m [(12, I4 ars t pc vs bd), (139, iA k)]) (aP (((b8 ars pc t.value (vs, bd)).fst.snd ++ [K1 ((b8 ars pc t.value (vs, bd)).fst.fst.length : Int) (y8 (b8 ars pc t.value (vs, bd)).snd)] ++ T3 ((b8 ars pc t.value (vs, bd)).fst.fst.length : Int) t.target (y8 t.index) m k).length + ([b6.mk (0 : Int) (0 : Int) (b5.mk (0 : Int) (0 : Int) []) (b5.mk (0 : Int) (0 : Int) []) (0 : Int) [] []] ++ []).length) 152 (((0 : Int) ≤ (((b8 ars pc t.value (vs, bd)).fst.snd ++ [K1 ((b8 ars pc t.value (vs, bd)).fst.fst.length : Int) (y8 (b8 ars pc t.value (vs, bd)).snd)] ++ T3 ((b8 ars pc t.value (vs, bd)).fst.fst.length : Int) t.target (y8 t.index) m k).length : Int)) :: (((((b8 ars pc t.value (vs, bd)).fst.snd ++ [K1 ((b8 ars pc t.value (vs, bd)).fst.fst.length : Int) (y8 (b8 ars pc t.value (vs, bd)).snd)] ++ T3 ((b8 ars pc t.value (vs, bd)).fst.fst.length : Int) t.target (y8 t.index) m k).length : Int) < (((b8 ars pc t.value (vs, bd)).fst.snd ++ [K1 ((b8 ars pc t.value (vs, bd)).fst.fst.length : Int) (y8 (b8 ars pc t.value (vs, bd)).snd)] ++ T3 ((b8 ars pc t.value (vs, bd)).fst.fst.length : Int) t.target (y8 t.index) m k ++ ([b6.mk (0 : Int) (0 : Int) (b5.mk (0 : Int) (0 : Int) []) (b5.mk (0 : Int) (0 : Int) []) (0 : Int) [] []] ++ [])).length : Int)) :: ((((b8 ars pc t.value (vs, bd)).fst.snd ++ [K1 ((b8 ars pc t.value (vs, bd)).fst.fst.length : Int) (y8 (b8 ars pc t.value (vs, bd)).snd)] ++ T3 ((b8 ars pc t.value (vs, bd)).fst.fst.length : Int) t.target (y8 t.index) m k).length < ((b8 ars pc t.value (vs, bd)).fst.snd ++ [K1 ((b8 ars pc t.value (vs, bd)).fst.fst.length : Int) (y8 (b8 ars pc t.value (vs, bd)).snd)] ++ T3 ((b8 ars pc t.value (vs, bd)).fst.fst.length : Int) t.target (y8 t.index) m k ++ ([b6.mk (0 : Int) (0 : Int) (b5.mk (0 : Int) (0 : Int) []) (b5.mk (0 : Int) (0 : Int) []) (0 : Int) [] []] ++ [])).length) :: [])))) (aK (by simp only [cb5, cb4, cb6, x6]; omega) ⟨(by simp only [cb5, cb4, cb6, x6]; omega), ⟨(by simp only [cb5, cb4, cb6, x6]; omega), ⟨(by simp [hh, hbb, hbe, h0, h1, h2, h3, h6, h7]), cc1⟩⟩⟩) fun G => ?_))))))))
        replace G := G.sE 11; replace G := s0.at G (N0 ars (C1 t [ac6 ars t pc vs bd, .row 106 (D.stmts ((b8 ars pc t.value (vs, bd)).fst.snd ++ [K1 ((b8 ars pc t.value (vs, bd)).fst.fst.length : Int) (y8 (b8 ars pc t.value (vs, bd)).snd)] ++ T3 ((b8 ars pc t.value (vs, bd)).fst.fst.length : Int) t.target (y8 t.index) m k ++ [b6.mk 2 t.target (b5.mk 1 (k : Int) []) (b5.mk 11 0 [m8 (ag5 t m k), b5.mk 2 ((b8 ars pc t.value (vs, bd)).fst.fst.length : Int) [], b5.mk 3 t.target [b5.mk 1 (k : Int) []]]) 0 [] []]))])) (ac2 m [(12, I4 ars t pc vs bd), (139, iA k)]); refine m6 (b7 (D7 G d9 [(139, iA ((k : Int) + 1))] [wO ((k : Int) + 1)] (o1 (by omega)) fun G => b7 ?_)); exact M7 G (k + 1) (by omega) (by omega) (rg 12) (by have e1 : ((b8 ars pc t.value (vs, bd)).fst.snd ++ [K1 ((b8 ars pc t.value (vs, bd)).fst.fst.length : Int) (y8 (b8 ars pc t.value (vs, bd)).snd)] ++ T3 ((b8 ars pc t.value (vs, bd)).fst.fst.length : Int) t.target (y8 t.index) m (k + 1) : List b6) = ((b8 ars pc t.value (vs, bd)).fst.snd ++ [K1 ((b8 ars pc t.value (vs, bd)).fst.fst.length : Int) (y8 (b8 ars pc t.value (vs, bd)).snd)] ++ T3 ((b8 ars pc t.value (vs, bd)).fst.fst.length : Int) t.target (y8 t.index) m k ++ [b6.mk 2 t.target (b5.mk 1 (k : Int) []) (b5.mk 11 0 [m8 (s5 m (b5.mk 9 0 (N9 (b5.mk t.index.kind t.index.value t.index.kids) (k : Int)).kids) (b5.mk 1 0 [])), b5.mk 2 ((b8 ars pc t.value (vs, bd)).fst.fst.length : Int) [], b5.mk 3 t.target [b5.mk 1 (k : Int) []]]) 0 [] []]) := b09; (first | rw [e1] | simp only [e1]) <;> rfl)
      · have q6 : ((d8 (b9 (b8 ars pc t.value (vs, bd)).fst.fst ars 5 (m8 t.index))) = false) ∨ (¬ (b9 (b8 ars pc t.value (vs, bd)).fst.fst ars 5 (m8 t.index) % 2 = 1)) := (fun hq => Or.imp (fun hq => (hq)) (fun hq => of_decide_eq_false hq) (cd2.1 hq)) (Eq.mp (cc3 _) h6); refine rT G _ h6 (wp_seq (F7 G (t4 (l8 13 [5] (am1 t.target t.index.kind t.index.value t.index.kids) (l8 14 [12, 118] (aj3 m ((b8 ars pc t.value (vs, bd)).snd.kind) ((b8 ars pc t.value (vs, bd)).snd.value) 3 t.target ((b8 ars pc t.value (vs, bd)).snd.kids) ([m8 t.index])) t3)) fz []) [0, 1, 3, 0, 8, 0, 32, 0, 0, 0, 512, 0, 2048, 7680, 16256, 32760, 7, 0, 262143, 524287, 1048575, 524287, 2621439] [0, 1, 2, 3, 4, 5, 6, 7, 8, 9, 10, 12, 13, 158] (aS8 :: .dead :: dI ars :: .box [.ref 13] :: (C1 t [.row 3 (D.ints (b8 ars pc t.value (vs, bd)).fst.fst), dE (b8 ars pc t.value (vs, bd)).snd.kids, as0 ars t pc vs bd, .row 106 (D.stmts (((b8 ars pc t.value (vs, bd)).fst.snd ++ ([b6.mk 0 0 (b5.mk 0 0 []) (b5.mk 0 0 []) 0 [] []] ++ [])).set (b8 ars pc t.value (vs, bd)).fst.snd.length (b6.mk 2 t.target (ac7 t) (m8 (a99 ars t m pc vs bd)) 0 [] [])))])) (L6 m pc [(11, .ptr 12 0)]) (aP ((b8 ars pc t.value (vs, bd)).fst.snd.length + ([b6.mk (0 : Int) (0 : Int) (b5.mk (0 : Int) (0 : Int) []) (b5.mk (0 : Int) (0 : Int) []) (0 : Int) [] []] ++ []).length) 152 (((0 : Int) ≤ ((b8 ars pc t.value (vs, bd)).fst.snd.length : Int)) :: ((((b8 ars pc t.value (vs, bd)).fst.snd.length : Int) < (((b8 ars pc t.value (vs, bd)).fst.snd ++ ([b6.mk (0 : Int) (0 : Int) (b5.mk (0 : Int) (0 : Int) []) (b5.mk (0 : Int) (0 : Int) []) (0 : Int) [] []] ++ [])).length : Int)) :: (((b8 ars pc t.value (vs, bd)).fst.snd.length < ((b8 ars pc t.value (vs, bd)).fst.snd ++ ([b6.mk (0 : Int) (0 : Int) (b5.mk (0 : Int) (0 : Int) []) (b5.mk (0 : Int) (0 : Int) []) (0 : Int) [] []] ++ [])).length) :: [])))) (aK (by simp only [cb5, cb4, cb6, x6]; omega) ⟨(by simp [hh, hbb, hbe, h0, h1, h2, h3, h6]), ⟨(by simp only [cb5, cb4, cb6, x6]; omega), ⟨(by simp [hh, hbb, hbe, h0, h1, h2, h3, h6]), cc1⟩⟩⟩) fun G => ?_)); replace G := G.sE 13; replace G := s0.at G (aS8 :: .dead :: dI ars :: .box [.ref 13] :: (C1 t [.row 3 (D.ints (b8 ars pc t.value (vs, bd)).fst.fst), dE (b8 ars pc t.value (vs, bd)).snd.kids, as0 ars t pc vs bd, .row 106 (D.stmts ((b8 ars pc t.value (vs, bd)).fst.snd ++ [b6.mk 2 t.target (ac7 t) (m8 (a99 ars t m pc vs bd)) 0 [] []]))])) (L6 m pc [(11, .ptr 12 0)]); refine b7 (wp_ret (l7 (z8 ?_))); exact F6 G [0, 1, 2, 3, 4, 5, 6, 7, 8, 10, 13] (by show _ = mR [0, 1, 2, 3, 4, 5, 6, 7, 8, 10, 13] (I5 ars t m pc vs bd); unfold I5; have e1 : ((r7 ars t m pc (vs, bd)).fst : List Int) = ((b8 ars pc t.value (vs, bd)).fst.fst) := ((bW3 (aR2 hh (by omega) (by omega) (by omega) (by omega)) (by with_reducible assumption))); have e2 : ((r7 ars t m pc (vs, bd)).snd : List b6) = ((b8 ars pc t.value (vs, bd)).fst.snd ++ [b6.mk 2 t.target (ac7 t) (m8 (a99 ars t m pc vs bd)) 0 [] []]) := (congrArg Prod.snd (bS0 (aR2 hh (by omega) (by omega) (by omega) (by omega)) (by with_reducible assumption))); (first | rw [e1, e2] | simp only [e1, e2]) <;> rfl)
    · refine F7 G d9 [0, 1, 3, 0, 8, 0, 56, 7, 0, 511, 1023, 2047, 1023, 5119] [0, 1, 2, 3, 4, 5, 6, 7, 8, 10, 86] (aS4 ars t pc vs bd [.row 106 (D.stmts (((b8 ars pc t.value (vs, bd)).fst.snd ++ ([b6.mk 0 0 (b5.mk 0 0 []) (b5.mk 0 0 []) 0 [] []] ++ [])).set (b8 ars pc t.value (vs, bd)).fst.snd.length (b6.mk 5 t.target (b5.mk 0 0 []) (L7 ars t pc vs bd) 0 [] [])))]) [] (aP ((b8 ars pc t.value (vs, bd)).fst.snd.length + ([b6.mk (0 : Int) (0 : Int) (b5.mk (0 : Int) (0 : Int) []) (b5.mk (0 : Int) (0 : Int) []) (0 : Int) [] []] ++ []).length) 152 (((0 : Int) ≤ ((b8 ars pc t.value (vs, bd)).fst.snd.length : Int)) :: ((((b8 ars pc t.value (vs, bd)).fst.snd.length : Int) < (((b8 ars pc t.value (vs, bd)).fst.snd ++ ([b6.mk (0 : Int) (0 : Int) (b5.mk (0 : Int) (0 : Int) []) (b5.mk (0 : Int) (0 : Int) []) (0 : Int) [] []] ++ [])).length : Int)) :: (((b8 ars pc t.value (vs, bd)).fst.snd.length < ((b8 ars pc t.value (vs, bd)).fst.snd ++ ([b6.mk (0 : Int) (0 : Int) (b5.mk (0 : Int) (0 : Int) []) (b5.mk (0 : Int) (0 : Int) []) (0 : Int) [] []] ++ [])).length) :: [])))) (aK (by simp only [cb5, cb4, cb6, x6]; omega) ⟨(by simp [hh, hbb, hbe, h0, h1, h2]), ⟨(by simp only [cb5, cb4, cb6, x6]; omega), ⟨(by simp [hh, hbb, hbe, h0, h1, h2]), cc1⟩⟩⟩) fun G => ?_; replace G := G.sE 10; replace G := s0.at G (aS4 ars t pc vs bd [.row 106 (D.stmts ((b8 ars pc t.value (vs, bd)).fst.snd ++ [b6.mk 5 t.target (b5.mk 0 0 []) (L7 ars t pc vs bd) 0 [] []]))]) []; refine m6 ?_; exact am2 G (rg 11) (by show _ = mR (rg 11) (I5 ars t m pc vs bd); unfold I5; have e1 : ((r7 ars t m pc (vs, bd)).fst : List Int) = ((b8 ars pc t.value (vs, bd)).fst.fst) := (b38 (by omega)); have e2 : ((r7 ars t m pc (vs, bd)).snd : List b6) = ((b8 ars pc t.value (vs, bd)).fst.snd ++ [b6.mk 5 t.target (b5.mk 0 0 []) (L7 ars t pc vs bd) 0 [] []]) := (congrArg Prod.snd (b39 (by omega))); (first | rw [e1, e2] | simp only [e1, e2]) <;> rfl)
   · refine F7 G (t4 (l8 9 [] (Q1 t.target) (l8 10 [12, 86] (aj3 m ((b8 ars pc t.value (vs, bd)).snd.kind) ((b8 ars pc t.value (vs, bd)).snd.value) 2 t.target ((b8 ars pc t.value (vs, bd)).snd.kids) ([])) (l8 11 [94] (V4 t.target ((aw3 ars t m pc vs bd).kind) ((aw3 ars t m pc vs bd).value) ((aw3 ars t m pc vs bd).kids)) t3))) fz []) [0, 1, 3, 0, 8, 0, 0, 0, 128, 384, 992, 2040, 7, 0, 16383, 32767, 65535, 32767, 163839] [0, 1, 2, 3, 4, 5, 6, 7, 8, 10, 126] (aS4 ars t pc vs bd [.row 106 (D.stmts (((b8 ars pc t.value (vs, bd)).fst.snd ++ ([b6.mk 0 0 (b5.mk 0 0 []) (b5.mk 0 0 []) 0 [] []] ++ [])).set (b8 ars pc t.value (vs, bd)).fst.snd.length (b6.mk 1 t.target (b5.mk 0 0 []) (m8 (aw3 ars t m pc vs bd)) 0 [] [])))]) [] (aP ((b8 ars pc t.value (vs, bd)).fst.snd.length + ([b6.mk (0 : Int) (0 : Int) (b5.mk (0 : Int) (0 : Int) []) (b5.mk (0 : Int) (0 : Int) []) (0 : Int) [] []] ++ []).length) 152 (((0 : Int) ≤ ((b8 ars pc t.value (vs, bd)).fst.snd.length : Int)) :: ((((b8 ars pc t.value (vs, bd)).fst.snd.length : Int) < (((b8 ars pc t.value (vs, bd)).fst.snd ++ ([b6.mk (0 : Int) (0 : Int) (b5.mk (0 : Int) (0 : Int) []) (b5.mk (0 : Int) (0 : Int) []) (0 : Int) [] []] ++ [])).length : Int)) :: (((b8 ars pc t.value (vs, bd)).fst.snd.length < ((b8 ars pc t.value (vs, bd)).fst.snd ++ ([b6.mk (0 : Int) (0 : Int) (b5.mk (0 : Int) (0 : Int) []) (b5.mk (0 : Int) (0 : Int) []) (0 : Int) [] []] ++ [])).length) :: [])))) (aK (by simp only [cb5, cb4, cb6, x6]; omega) ⟨(by simp [hh, hbb, hbe, h0, h1]), ⟨(by simp only [cb5, cb4, cb6, x6]; omega), ⟨(by simp [hh, hbb, hbe, h0, h1]), cc1⟩⟩⟩) fun G => ?_; replace G := G.sE 10; replace G := s0.at G (aS4 ars t pc vs bd [.row 106 (D.stmts ((b8 ars pc t.value (vs, bd)).fst.snd ++ [b6.mk 1 t.target (b5.mk 0 0 []) (m8 (aw3 ars t m pc vs bd)) 0 [] []]))]) []; refine m6 ?_; exact am2 G (rg 11) (by show _ = mR (rg 11) (I5 ars t m pc vs bd); unfold I5; have e1 : ((r7 ars t m pc (vs, bd)).fst : List Int) = ((b8 ars pc t.value (vs, bd)).fst.fst) := (b41 (by omega)); have e2 : ((r7 ars t m pc (vs, bd)).snd : List b6) = ((b8 ars pc t.value (vs, bd)).fst.snd ++ [b6.mk 1 t.target (b5.mk 0 0 []) (m8 (aw3 ars t m pc vs bd)) 0 [] []]) := (congrArg Prod.snd (b42 (by omega))); (first | rw [e1, e2] | simp only [e1, e2]) <;> rfl)
  · have q0 := eq_of_beq h0; refine rT G _ h0 (wp_seq (F7 G (s4 10 [0, 1, 2, 7] (hI t.body m pc vs (by assumption) (by assumption) (by omega) (by omega))) [0, 1, 3, 0, 8, 0, 0, 64, 0, 0, 992, 2040, 7, 0, 16383, 32767, 65535, 32767, 163839] [0, 1, 2, 3, 4, 5, 6, 7, 8, 9, 90, 122] (N0 ars (C1 t [.row 3 (D.ints (k6 ars t.body m pc (vs, [])).fst), .row 106 (D.stmts ((bd ++ ([b6.mk 0 0 (b5.mk 0 0 []) (b5.mk 0 0 []) 0 [] []] ++ [])).set bd.length (b6.mk 4 0 (b5.mk 0 0 []) (b5.mk 0 0 []) t.count (k6 ars t.body m pc (vs, [])).snd [])))])) (L6 m pc []) (aP (bd.length + ([b6.mk (0 : Int) (0 : Int) (b5.mk (0 : Int) (0 : Int) []) (b5.mk (0 : Int) (0 : Int) []) (0 : Int) [] []] ++ []).length) 152 (((0 : Int) ≤ bd.length) :: (((bd.length : Int) < ((bd ++ ([b6.mk (0 : Int) (0 : Int) (b5.mk (0 : Int) (0 : Int) []) (b5.mk (0 : Int) (0 : Int) []) (0 : Int) [] []] ++ [])).length : Int)) :: ((bd.length < (bd ++ ([b6.mk (0 : Int) (0 : Int) (b5.mk (0 : Int) (0 : Int) []) (b5.mk (0 : Int) (0 : Int) []) (0 : Int) [] []] ++ [])).length) :: [])))) (aK (by simp only [cb5, cb4, cb6, x6]; omega) ⟨(by simp [hh, hbb, hbe, h0]), ⟨(by simp only [cb5, cb4, cb6, x6]; omega), ⟨(by simp [hh, hbb, hbe, h0]), cc1⟩⟩⟩) fun G => ?_)); replace G := G.sE 11; replace G := s0.at G (N0 ars (C1 t [.row 3 (D.ints (k6 ars t.body m pc (vs, [])).fst), .row 106 (D.stmts (bd ++ [b6.mk 4 0 (b5.mk 0 0 []) (b5.mk 0 0 []) t.count (k6 ars t.body m pc (vs, [])).snd []]))])) (L6 m pc []); refine b7 (wp_ret (l7 ?_)); exact F6 G [0, 1, 2, 3, 4, 5, 6, 7, 8, 10, 11] (by show _ = mR [0, 1, 2, 3, 4, 5, 6, 7, 8, 10, 11] (I5 ars t m pc vs bd); unfold I5; have e1 : ((r7 ars t m pc (vs, bd)).fst : List Int) = ((k6 ars t.body m pc (vs, [])).fst) := (b40 (by omega)); have e2 : ((r7 ars t m pc (vs, bd)).snd : List b6) = (bd ++ [b6.mk 4 0 (b5.mk 0 0 []) (b5.mk 0 0 []) t.count (k6 ars t.body m pc (vs, [])).snd []]) := (congrArg Prod.snd (ln4 (by omega))); (first | rw [e1, e2] | simp only [e1, e2]) <;> rfl)
abbrev aE6 (ss : List b6) (m : Int) (pc : Int) (r0 : List (Nat × AV)) : List (Nat × AV) := (0, .ptr 0 0) :: (2, iA m) :: (3, iA pc) :: (8, .v (.slice none 0 0)) :: (9, .ptr 4 0) :: (12, .ref 3) :: (13, iA (ss.length : Int)) :: r0
theorem aQ0 (ars : List Int) (nv dd : Nat) (ss : List b6) (hs : ss.all (f6 nv ars.length (dd + 1)) = true)
  (hS : ∀ (t : b6), t5 nv ars.length t = true → t.body.all (f6 nv ars.length dd) = true → t.els.all (f6 nv ars.length dd) = true → 0 < ss.length → ∀ (m pc : Int) (vs : List Int) (bd : List b6), nv ≤ vs.length → vs.length + 4 * (1 + D9 t) ≤ 90000 → i5 bd + 130 * (1 + D9 t) ≤ 600000 → i9.ok Tryz.prog (isC ars m pc vs bd t))
  (m pc : Int) (vs : List Int) (hv : nv ≤ vs.length) (r1 : vs.length + 4 * i5 ss ≤ 90000) (r2 : i5 ([] : List b6) + 130 * i5 ss ≤ 600000) : i9.ok Tryz.prog (ibC ars m pc vs ss) := by
 refine z7 25 Tryz.func82 [.box [.ref 1, .ref 2, .v (.slice none 0 0)], .row 3 (D.ints vs), dI ars, dT ss] [(0, .ptr 0 0), (1, .ref 3), (2, iA m), (3, iA pc)] fun G => ?_; have hl := C2 ss; refine wp_seq (l0 G d9 [(8, .v (.slice none 0 0))] fun G => b7 (wp_seq (k8 G d9 (rg 5) [.box [.ref 1, .ref 2, .v (.slice none 0 0)], .row 3 (D.ints vs), dI ars, dT ss, .box [.v (.slice none 0 0)]] [(0, .ptr 0 0), (1, .ref 3), (2, iA m), (3, iA pc), (8, .v (.slice none 0 0)), (9, .ptr 4 0)] fun G => b7 (wp_seq (wp_seq (C9 G d9 (aE6 ss m pc [(14, iA 0)]) fun G => b7 (wp_block ?_))))))); obtain ⟨ρ, G⟩ := G.shift 1 5 [.box [.ref 5, .ref 2, .v (.slice none 0 0)], .dead, dI ars, dT ss, .box [.v (.slice none 0 0)], .row 3 (D.ints vs)] (aE6 ss m pc [(14, iA 0)]); obtain ⟨ρ, G⟩ := G.nil 6 106 (.stmts []) 10 [.box [.ref 5, .ref 2, .v (.slice none 0 0)], .dead, dI ars, dT ss, .box [.ref 6], .row 3 (D.ints vs)] (aE6 ss m pc [(14, iA 0)]); refine o7 (κ := Nat) (fun k => k ≤ ss.length) (fun k => ss.length - k) (fun k => [.box [.ref 5, .ref 2, .v (.slice none 0 0)], .dead, dI ars, dT ss, .box [.ref 6], .row 3 (.ints (xB ars m pc vs [] ss k).1), .row 106 (.stmts (xB ars m pc vs [] ss k).2)]) (fun k => [(0, .ptr 0 0), (2, iA m), (3, iA pc), (8, .v (.slice none 0 0)), (9, .ptr 4 0), (12, .ref 3), (13, iA (ss.length : Int)), (14, iA k)]) 0 (by simp [hs]) (s0.at G _ _) ?_; clear G; intro k ρ a w hp G; replace G := s0.at G [.box [.ref 5, .ref 2, .v (.slice none 0 0)], .dead, dI ars, dT ss, .box [.ref 6], .row 3 (D.ints (xB ars m pc vs [] ss k).fst), .row 106 (D.stmts (xB ars m pc vs [] ss k).snd)] (aE6 ss m pc [(14, iA k)]); refine wp_seq (l0 G d9 [(15, bA (decide ((k : Int) < ss.length)))] fun G => b7 (wp_seq (N4 G (fun h0 q0 => ?_) fun h0 q0 => ?_)))
 ·refine wp_exit (o0 (o0 (n5 (b7 (wp_seq (k8 G d9 [0, 1, 2, 3, 5, 6] [.box [.ref 4, .ref 2, .v (.slice none 0 0)], .dead, dI ars, dT ss, .row 3 (D.ints (xB ars m pc vs [] ss k).fst), .row 106 (D.stmts (xB ars m pc vs [] ss k).snd)] [(8, .ref 5)] fun G => b7 (wp_ret ?_))))))); obtain ⟨ρ, G⟩ := G.frz [.no, .no, .no, .no, .no, .row 106] [.box [.ref 4, .ref 2, .v (.slice none 0 0)], .dead, dI ars, dT ss, .row 3 (D.ints (xB ars m pc vs [] ss k).fst), dT (xB ars m pc vs [] ss k).snd] [(8, .ref 5)]; exact F6 G (rg 6) (by show _ = mR (rg 6) [.box [.ref 4, .ref 2, nlA], .dead, dI ars, dT ss, .row 3 (D.ints (k6 ars ss m pc (vs, [])).fst), dT (k6 ars ss m pc (vs, [])).snd]; have e1 : ((k6 ars ss m pc (vs, [])).fst : List Int) = ((xB ars m pc vs [] ss k).fst) := (congrArg Prod.fst (aT8 (by omega))); have e2 : ((k6 ars ss m pc (vs, [])).snd : List b6) = ((xB ars m pc vs [] ss k).snd) := (congrArg Prod.snd (aT8 (by omega))); (first | rw [e1, e2] | simp only [e1, e2]) <;> rfl)
 ·refine wp_skip (b7 (wp_seq (wp_block (wp_seq (N5 G d9 [0, 1, 2, 3, 4, 5, 6, 15, 16, 17, 18, 23] [.box [.ref 5, .ref 2, .v (.slice none 0 0)], .dead, dI ars, dT ss, .box [.ref 6], .row 3 (D.ints (xB ars m pc vs [] ss k).fst), .row 106 (D.stmts (xB ars m pc vs [] ss k).snd), dE (ss.getD k cb2).index.kids, dE (ss.getD k cb2).value.kids, dT (ss.getD k cb2).body, dT (ss.getD k cb2).els, .box (sL (ss.getD k cb2) 7)] [(0, .ptr 0 0), (2, iA m), (3, iA pc), (8, .v (.slice none 0 0)), (9, .ptr 4 0), (11, .ptr 11 0), (12, .ref 3), (13, iA (ss.length : Int)), (14, iA k)] (iX k k ss.length []) (iK (by omega) cc1) fun G => b7 (k8 G (s4 4 [0, 5, 2, 4, 6, 7, 8, 9, 10] (hS (ss.getD k cb2) ((an5 hs (by omega)).1) ((an5 hs (by omega)).2.1) ((an5 hs (by omega)).2.2) (by omega) m pc ((xB ars m pc vs [] ss k).fst) ((xB ars m pc vs [] ss k).snd) ((O6 hs hv r1 r2 (by omega)).1) ((O6 hs hv r1 r2 (by omega)).2.1) ((O6 hs hv r1 r2 (by omega)).2.2))) [0, 1, 2, 3, 4, 44, 45] [.box [.ref 5, .ref 2, .v (.slice none 0 0)], .dead, dI ars, dT ss, .box [.ref 6], .row 3 (D.ints (r7 ars (ss.getD k cb2) m pc (xB ars m pc vs [] ss k)).fst), .row 106 (D.stmts (r7 ars (ss.getD k cb2) m pc (xB ars m pc vs [] ss k)).snd)] (aE6 ss m pc [(14, iA k)]) fun G => m6 (b7 (D7 G d9 [(14, iA ((k : Int) + 1))] [wO ((k : Int) + 1)] (o1 (by omega)) fun G => b7 ?_)))))))); exact M7 G (k + 1) (by omega) (by omega) (rg 7) (by have e1 : ((xB ars m pc vs [] ss (k + 1)).fst : List Int) = ((r7 ars (ss.getD k cb2) m pc (xB ars m pc vs [] ss k)).fst) := (congrArg Prod.fst (as4 (by omega))); have e2 : ((xB ars m pc vs [] ss (k + 1)).snd : List b6) = ((r7 ars (ss.getD k cb2) m pc (xB ars m pc vs [] ss k)).snd) := (congrArg Prod.snd (as4 (by omega))); (first | rw [e1, e2] | simp only [e1, e2]) <;> rfl)
theorem a54 (ars : List Int) (nv : Nat) : ∀ (dd : Nat) (tt : List b6) (m pc : Int) (vs : List Int), tt.all (f6 nv ars.length dd) = true → nv ≤ vs.length → vs.length + 4 * i5 tt ≤ 90000 → 130 * i5 tt ≤ 600000 → i9.ok Tryz.prog (ibC ars m pc vs tt)
 | 0, tt, m, pc, vs, hs, hv, r1, r2 => by
  have h0 : tt = [] := by
   cases tt with
   | nil => rfl
   | cons a r => simp [f6] at hs
  subst h0
  exact aQ0 ars nv 0 [] rfl (fun _ _ _ _ h => absurd h (by simp)) m pc vs hv r1 (by simp [i5])
 | dd + 1, tt, m, pc, vs, hs, hv, r1, r2 => aQ0 ars nv dd tt hs (fun t hh hbb hbe _ m pc vs bd hv r1 r2 => bx2 ars nv dd t hh hbb hbe (a54 ars nv dd) m pc vs bd hv r1 r2) m pc vs hv r1 (by simpa [i5] using r2)
theorem br9 (p : d7) (hp : l5 p = true) : i9.ok Tryz.prog (ibC p.arrays (-1) 0 p.vars p.body) := by
 have h := aa8 hp
 exact a54 p.arrays p.vars.length 5 p.body (-1) 0 p.vars (P5 hp).2.2.2 (cc6 _) (by omega) (by omega)
end Go.Proofs.YthikdkjjdeehoaaGreat

namespace Go.Proofs.YthikdkjjdeehoaaGreat
set_option linter.unusedVariables false
set_option linter.unusedSimpArgs false
open Go Go.RowKit
def av0 {α : Type} (f : α → Bool) (l : List α) : Int := match l.findIdx? f with
 | some i => i
 | none => -1
theorem br4 {α : Type} {f : α → Bool} {l : List α} {k : Nat} {z : α} (hk : k < l.length) (h : (l.take k).any f = false) (hf : f (l.getD k z) = true) : av0 f l = k := by
 have : l.findIdx? f = some k := by
  rw [List.findIdx?_eq_some_iff_getElem]
  rw [m9 hk] at hf
  refine ⟨hk, hf, fun j hj => ?_⟩
  rw [List.any_eq_false] at h
  have hm : l[j] ∈ l.take k := List.mem_take_iff_getElem.2 ⟨j, by omega, rfl⟩
  exact h _ hm
 unfold av0; rw [this]
theorem a63 {α : Type} {f : α → Bool} {l : List α} (h : l.any f = false) : av0 f l = -1 := by
 have : l.findIdx? f = none := by
  rw [List.findIdx?_eq_none_iff]
  intro x hx
  rw [List.any_eq_false] at h
  simpa using h x hx
 unfold av0; rw [this]
theorem br5 {α : Type} (f : α → Bool) (l : List α) : decide (av0 f l ≥ 0) = l.any f := by
 cases h : l.any f
 ·rw [a63 h]; rfl
 ·unfold av0
  cases h2 : l.findIdx? f with
  | none =>
   rw [List.findIdx?_eq_none_iff] at h2
   obtain ⟨x, hx, hf⟩ := List.any_eq_true.1 h
   rw [h2 x hx] at hf; cases hf
  | some i => simp
theorem bD7 {α : Type} {l : List α} {k : Nat} {z : α} (h : k < l.length) : l.getD k z ∈ l := by rw [m9 h]; exact cd7 h
def okS (nv na d : Nat) (e : b5) : Prop := (e.kind = 0 ∧ e.kids = []) ∨ f5 nv na d e = true
theorem aW9 {nv na d k : Nat} {e : b5} (h : okS nv na (d + 1) e) (hk : k < e.kids.length) : f5 nv na d (e.kids.getD k cb2) = true := by
 rcases h with h | h
 ·rw [h.2] at hk; simp at hk
 ·exact H9 h hk
theorem bK2 {nv na d : Nat} {e x : b5} (h : okS nv na (d + 1) e) (hk : x ∈ e.kids) : okS nv na d x := by
 obtain ⟨i, hi, rfl⟩ := List.mem_iff_getElem.1 hk
 have := aW9 h hi
 rw [m9 hi] at this
 exact .inr this
theorem aC0 {nv na d : Nat} {e : b5} (h : okS nv na (d + 1) e) (k : e.kind = 3) : 0 < e.kids.length := by
 rcases h with h | h
 ·omega
 ·exact V9 h k
theorem bT9 {vs ars : List Int} {d : Nat} {e : b5} (k : ¬ e.kind = 3) : r8 vs ars (d + 1) e = e.kids.any (r8 vs ars d) := by rw [r8]; simp [k]
theorem bI7 {vs ars : List Int} {d : Nat} {e : b5} (k : (d8 (b9 vs ars d (e.kids.getD 0 cb2)) && decide (b9 vs ars d (e.kids.getD 0 cb2) % 2 = 1)) = false) : r8 vs ars (d + 1) e = e.kids.any (r8 vs ars d) := by rw [r8, k]; simp
abbrev bo8 (p : d7) (d : Nat) (e : b5) : i9 := E1 143 [pA 0, eA e 3] (pS p ++ eS e) (bA (r8 p.vars p.arrays d e))
theorem bN8 (p : d7) (d : Nat) (l : List b5) (ih : ∀ (e : b5), e ∈ l → i9.ok Tryz.prog (bo8 p d e)) : i9.ok Tryz.prog (E1 238 [.ref 3, .bm 143 [pA 0]] (pS p ++ [.dat (.exprs l)]) (iA (av0 (r8 p.vars p.arrays d) l))) := by
  refine z7 19 Tryz.func238 [dI p.vars, dI p.arrays, dT p.body, dE l] [(0, .ref 3), (1, .bm 143 [pA 0])] fun G => ?_; have hlen : l.length ≤ 9223372036854775807 := G.len 3 (d := .exprs l) (by kernel_rfl); refine wp_seq (C9 G d9 [(0, .ref 3), (1, .bm 143 [pA 0]), (4, iA 0)] fun G => b7 (wp_seq (wp_seq (C9 G d9 [(0, .ref 3), (1, .bm 143 [pA 0]), (4, iA 0), (7, iA (l.length : Int)), (8, iA 0)] fun G => b7 (wp_block ?_))))); refine o7 (κ := Nat) (fun k => k ≤ l.length ∧ (l.take k).any (r8 p.vars p.arrays d) = false) (fun k => l.length - k) (fun k => [dI p.vars, dI p.arrays, dT p.body, dE l]) (fun k => [(0, .ref 3), (1, .bm 143 [pA 0]), (4, iA 0), (7, iA (l.length : Int)), (8, iA k)]) 0 (⟨ce8 _, rfl⟩) (s0.at G _ _) ?_; clear G; intro k ρ a w hp G; refine wp_seq (l0 G d9 [(9, bA (decide ((k : Int) < l.length)))] fun G => b7 (wp_seq (N4 G (fun h0 q0 => ?_) fun h0 q0 => ?_)))
  · refine wp_exit (o0 (o0 (n5 (b7 (wp_seq (l0 G d9 [(4, iA (-1))] fun G => b7 (wp_ret ?_))))))); exact K3 (-1) G (rg 4) (a63 (aM5 hp.2 (by omega)))
  ·
   refine wp_skip (b7 (wp_seq (wp_block (wp_seq (l0 G d9 [(5, iA k)] fun G => b7 (wp_seq (D7 G (s4 5 [0, 1, 2, 36] (ih (l.getD k cb2) (bD7 (by omega)))) [(16, bA (r8 p.vars p.arrays d (l.getD k cb2)))] (iX k k l.length []) (iK (by have hp := hp; omega) cc1) fun G => b7 (rcB G (fun h1 => ?_) fun h1 => ?_))))))))
   · refine wp_skip (m6 (b7 (D7 G d9 [(8, iA ((k : Int) + 1))] [wO ((k : Int) + 1)] (o1 (by omega)) fun G => b7 ?_))); exact M7 G (k + 1) (⟨by omega, aM4 hp.2 (by omega) (by assumption)⟩) (by have hp := hp; omega) (rg 4)
   · refine wp_seq (l0 G d9 [(4, iA k)] fun G => b7 (wp_ret (z8 (l7 (l7 (z8 (l7 ?_))))))); exact K3 ((k : Int)) G (rg 4) (br4 (by omega) hp.2 (by assumption))
theorem a84 (p : d7) (d : Nat) (l : List b5) (ih : ∀ (e : b5), e ∈ l → i9.ok Tryz.prog (bo8 p d e)) : i9.ok Tryz.prog (E1 196 [.ref 3, .bm 143 [pA 0]] (pS p ++ [.dat (.exprs l)]) (bA (l.any (r8 p.vars p.arrays d)))) := by
 have hfind := bN8 p d l ih; refine z7 9 Tryz.func196 [dI p.vars, dI p.arrays, dT p.body, dE l] [(0, .ref 3), (1, .bm 143 [pA 0])] fun G => ?_; refine wp_seq (l0 G d9 [(4, bA false)] fun G => b7 (wp_seq (l0 G (s4 2 (rg 4) hfind) [(4, bA (decide (av0 (r8 p.vars p.arrays d) l ≥ 0)))] fun G => b7 (wp_ret ?_)))); exact A8 (decide (av0 (r8 p.vars p.arrays d) l ≥ 0)) G (rg 4) ((br5 _ _).symm)
theorem an6 (p : d7) (d : Nat) (e : b5) (ih : ∀ (x : b5), x ∈ e.kids → i9.ok Tryz.prog (bo8 p d x)) (he : okS p.vars.length p.arrays.length (d + 1) e) : i9.ok Tryz.prog (bo8 p (d + 1) e) := by
  have hcon := a84 p d e.kids ih; refine z7 24 Tryz.func143 [dI p.vars, dI p.arrays, dT p.body, dE e.kids] [(0, pA 0), (1, eA e 3)] fun G => ?_; have hl := a72 p d; refine wp_seq (k8 G d9 [0, 1, 2, 3, 4, 12] [dI p.vars, dI p.arrays, dT p.body, dE e.kids, .box (pL 0), .box (eL e 3)] [(2, .ptr 4 0), (3, .ptr 5 0), (4, bA false)] fun G => b7 (wp_seq ?_)); cases h0 : (e.kind == 3)
  · have q0 := ne_of_beq_false h0; refine N3 G (t4 (l8 17 (rg 4) hcon t3) (fc h0 (fc (b := false) rfl fz)) (us [(4, 10, 0), (1011, 1011, 0), (13, 17, 1), (1018, 1018, 1)])) [0, 1, 3, 7, 15, 15, 47, 111, 239, 511, 1023, 2047, 4095, 8191, 16383, 8191, 40959, 131071, 262143, 524287] (rg 4) [dI p.vars, dI p.arrays, dT p.body, dE e.kids] [(4, bA (e.kids.any (r8 p.vars p.arrays d)))] fun G => b7 (wp_ret ?_); exact A8 (e.kids.any (r8 p.vars p.arrays d)) G (rg 4) (bT9 (by assumption))
  ·
   have q0 := eq_of_beq h0; cases h1 : (d8 (b9 p.vars p.arrays d (e.kids.getD (0 : Nat) cb2)) && decide (b9 p.vars p.arrays d (e.kids.getD (0 : Nat) cb2) % (2 : Int) = 1))
   · have q1 : ((d8 (b9 p.vars p.arrays d (e.kids.getD 0 cb2))) = false) ∨ (¬ (b9 p.vars p.arrays d (e.kids.getD 0 cb2) % 2 = 1)) := Or.imp (fun hq => (hq)) (fun hq => of_decide_eq_false hq) (cd2.1 h1); refine F7 G (t4 (l8 9 [0, 1, 2, 70] (hl (e.kids.getD 0 cb2) (aW9 he (aC0 he (by assumption)))) (l8 10 [] (A5 (b9 p.vars p.arrays d (e.kids.getD 0 cb2))) (l8 17 (rg 4) hcon t3))) (fc h0 (fc h1 fz)) (us [(4, 10, 0), (1011, 1011, 0), (13, 17, 1), (1018, 1018, 1)])) [0, 1, 3, 7, 15, 15, 47, 111, 239, 511, 1023, 2047, 4095, 8191, 16383, 8191, 40959, 131071, 262143, 524287] (rg 4) [dI p.vars, dI p.arrays, dT p.body, dE e.kids] [(4, bA (e.kids.any (r8 p.vars p.arrays d)))] (iX 0 0 e.kids.length []) (iK (by have := aC0 he (by assumption); omega) cc1) fun G => b7 (wp_ret ?_); exact A8 (e.kids.any (r8 p.vars p.arrays d)) G (rg 4) (bI7 (by assumption))
   · have q1 : ((d8 (b9 p.vars p.arrays d (e.kids.getD 0 cb2))) = true) ∧ (b9 p.vars p.arrays d (e.kids.getD 0 cb2) % 2 = 1) := And.imp (fun hq => (hq)) (fun hq => of_decide_eq_true hq) (cd5.1 h1); refine F7 G (t4 (l8 9 [0, 1, 2, 70] (hl (e.kids.getD 0 cb2) (aW9 he (aC0 he (by assumption)))) (l8 10 [] (A5 (b9 p.vars p.arrays d (e.kids.getD 0 cb2))) t3)) (fc h0 (fc h1 fz)) (us [(4, 10, 0), (1011, 1011, 0), (13, 17, 1), (1018, 1018, 1)])) [0, 1, 3, 7, 15, 15, 47, 111, 239, 511, 1023, 2047, 4095, 8191, 16383, 8191, 40959, 131071, 262143, 524287] (rg 4) [dI p.vars, dI p.arrays, dT p.body, dE e.kids] [(4, bA true)] (iX 0 0 e.kids.length []) (iK (by have := aC0 he (by assumption); omega) cc1) fun G => b7 (wp_ret ?_); exact A8 true G (rg 4) (bw8 (by assumption) (by assumption))
theorem aN5 (p : d7) : ∀ (d : Nat) (e : b5), okS p.vars.length p.arrays.length d e → i9.ok Tryz.prog (bo8 p d e) := by
 intro d
 induction d with
 | zero =>
  intro e h
  have h0 : e.kind = 0 ∧ e.kids = [] := h.resolve_right (by simp [f5])
  have := an6 p 0 e (fun x hx => by rw [h0.2] at hx; cases hx) (.inl h0)
  have e1 : r8 p.vars p.arrays 1 e = r8 p.vars p.arrays 0 e := by rw [r8, r8, h0.2]; simp [h0.1]
  unfold bo8 at this ⊢
  rw [cf0, e1] at this
  exact this
 | succ d ih => intro e h; exact an6 p d e (fun x hx => ih x (bK2 h hx)) h
theorem ae7 (p : d7) (e : b5) (he : okS p.vars.length p.arrays.length 5 e) : i9.ok Tryz.prog (E1 143 [pA 0, eA e 3] (pS p ++ eS e) (bA (r8 p.vars p.arrays 5 e))) := aN5 p 5 e he
section
variable {p : d7} {s : b6}
theorem il3 (k : s.kind = 3) (h : (d8 (i8 p s.value) && decide (i8 p s.value % 2 = 1)) = true) : W9 p s = 3 := by rw [W9, if_pos ⟨k, (show A0 _ = true from h)⟩]
theorem ili (k : s.kind = 2) (h : (d8 (i8 p s.index) && decide (i8 p s.index % 2 = 1)) = true) : W9 p s = 4 := by
 rw [W9, if_neg (by omega), if_pos (.inl ⟨k, (show A0 _ = true from h)⟩)]
theorem ilv (h3 : ¬ s.kind = 3 ∨ (d8 (i8 p s.value) && decide (i8 p s.value % 2 = 1)) = false) (h : r8 p.vars p.arrays 5 s.value = true) : W9 p s = 4 := by
 rw [W9, if_neg (by rintro ⟨a, b⟩; exact h3.elim (fun h => h a) (fun h => Bool.false_ne_true (h.symm.trans b))), if_pos (.inr h)]
theorem il0 (h3 : ¬ s.kind = 3 ∨ (d8 (i8 p s.value) && decide (i8 p s.value % 2 = 1)) = false) (h2 : ¬ s.kind = 2 ∨ (d8 (i8 p s.index) && decide (i8 p s.index % 2 = 1)) = false) (h : r8 p.vars p.arrays 5 s.value = false) : W9 p s = 0 := by
 rw [W9, if_neg (by rintro ⟨a, b⟩; exact h3.elim (fun h => h a) (fun h => Bool.false_ne_true (h.symm.trans b))), if_neg]
 rintro (⟨a, b⟩ | b)
 ·rcases h2 with h | h
  ·exact h a
  ·exact Bool.false_ne_true (h.symm.trans b)
 ·rw [h] at b; cases b
end
abbrev aE5 (p : d7) (s : b6) (r0 : List It) : List It := dI p.vars :: dI p.arrays :: dT p.body :: dE s.index.kids :: dE s.value.kids :: dT s.body :: dT s.els :: r0
theorem bY3 (p : d7) (s : b6) (cx : Int) (h : t5 p.vars.length p.arrays.length s = true) (hv : okS p.vars.length p.arrays.length 5 s.value) : i9.ok Tryz.prog (E1 68 [pA 0, sA s 3, iA cx] (pS p ++ sS s) (iA (W9 p s))) := by
  refine z7 35 Tryz.func68 (aE5 p s []) [(0, pA 0), (1, sA s 3), (2, iA cx)] fun G => ?_; refine wp_seq (k8 G d9 [0, 1, 2, 3, 4, 5, 6, 7, 15] (aE5 p s [.box (pL 0), .box (sL s 3)]) [(3, .ptr 7 0), (4, .ptr 8 0), (6, iA 0)] fun G => b7 (wp_seq (wp_block (wp_seq ?_)))); cases h0 : (s.kind == 3)
  ·
   have q0 := ne_of_beq_false h0; refine l0 G (O5 (fc h0 fz) (us [(4, 8, 0), (1009, 1009, 0)])) [(7, bA false)] fun G => b7 (rF G false (by kernel_rfl) (wp_seq ?_)); cases h1 : (s.kind == 2)
   ·
    have q1 := ne_of_beq_false h1; refine k8 G (t4 (l8 14 [0, 1, 2, 4] (ae7 p s.value (by assumption)) t3) (fc h1 (fc (b := false) rfl fz)) (us [(4, 8, 0), (1009, 1009, 0), (11, 14, 1), (1015, 1015, 1)])) (rg 7) (aE5 p s []) [(6, iA 0), (18, bA (r8 p.vars p.arrays 5 s.value))] fun G => b7 (rcB G (fun h2 => ?_) fun h2 => ?_)
    · refine wp_skip (m6 (b7 (wp_seq (l0 G d9 [] fun G => b7 (wp_ret ?_))))); exact K3 0 G (rg 7) (il0 (by exact .inl (by omega)) (by exact .inl (by omega)) (by with_reducible assumption))
    · refine wp_seq (l0 G d9 [(6, iA 4)] fun G => b7 (wp_ret (z8 (l7 ?_)))); exact K3 4 G (rg 7) (ilv (by exact .inl (by omega)) (by with_reducible assumption))
   ·
    have q1 := eq_of_beq h1; cases h3 : (d8 (i8 p s.index) && decide (i8 p s.index % (2 : Int) = 1))
    ·
     have q3 : ((d8 (i8 p s.index)) = false) ∨ (¬ (i8 p s.index % 2 = 1)) := Or.imp (fun hq => (hq)) (fun hq => of_decide_eq_false hq) (cd2.1 h3); refine k8 G (t4 (l8 7 (rg 4) (Q7 p s.index (X1 h (by assumption))) (l8 8 [] (A5 (i8 p s.index)) (l8 14 [0, 1, 2, 4] (ae7 p s.value (by assumption)) t3))) (fc h1 (fc h3 fz)) (us [(4, 8, 0), (1009, 1009, 0), (11, 14, 1), (1015, 1015, 1)])) (rg 7) (aE5 p s []) [(6, iA 0), (18, bA (r8 p.vars p.arrays 5 s.value))] fun G => b7 (rcB G (fun h4 => ?_) fun h4 => ?_)
     · refine wp_skip (m6 (b7 (wp_seq (l0 G d9 [] fun G => b7 (wp_ret ?_))))); exact K3 0 G (rg 7) (il0 (by exact .inl (by omega)) (by exact .inr (by with_reducible assumption)) (by with_reducible assumption))
     · refine wp_seq (l0 G d9 [(6, iA 4)] fun G => b7 (wp_ret (z8 (l7 ?_)))); exact K3 4 G (rg 7) (ilv (by exact .inl (by omega)) (by with_reducible assumption))
    · have q3 : ((d8 (i8 p s.index)) = true) ∧ (i8 p s.index % 2 = 1) := And.imp (fun hq => (hq)) (fun hq => of_decide_eq_true hq) (cd5.1 h3); refine k8 G (t4 (l8 7 (rg 4) (Q7 p s.index (X1 h (by assumption))) (l8 8 [] (A5 (i8 p s.index)) t3)) (fc h1 (fc h3 fz)) (us [(4, 8, 0), (1009, 1009, 0), (11, 14, 1), (1015, 1015, 1)])) (rg 7) (aE5 p s []) [(6, iA 0), (18, bA true)] fun G => b7 (rT G true (by kernel_rfl) (wp_seq (l0 G d9 [(6, iA 4)] fun G => b7 (wp_ret (z8 (l7 ?_)))))); exact K3 4 G (rg 7) (ili (by with_reducible assumption) (by with_reducible assumption))
  ·
   have q0 := eq_of_beq h0; refine C9 G (t4 (l8 7 [0, 1, 2, 4] (Q7 p s.value (n7 h (by omega))) (l8 8 [] (A5 (i8 p s.value)) t3)) (fc h0 fz) (us [(4, 8, 0), (1009, 1009, 0)])) [(3, .ptr 7 0), (4, .ptr 8 0), (6, iA 0), (7, bA (d8 (i8 p s.value) && decide (i8 p s.value % 2 = 1)))] fun G => b7 ?_; cases h5 : (d8 (i8 p s.value) && decide (i8 p s.value % (2 : Int) = 1))
   ·
    have q5 : ((d8 (i8 p s.value)) = false) ∨ (¬ (i8 p s.value % 2 = 1)) := Or.imp (fun hq => (hq)) (fun hq => of_decide_eq_false hq) (cd2.1 h5); refine rF G _ h5 (wp_seq ?_); cases h6 : (s.kind == 2)
    ·
     have q6 := ne_of_beq_false h6; refine k8 G (t4 (l8 14 [0, 1, 2, 4] (ae7 p s.value (by assumption)) t3) (fc h6 (fc (b := false) rfl fz)) (us [(4, 8, 0), (1009, 1009, 0), (11, 14, 1), (1015, 1015, 1)])) (rg 7) (aE5 p s []) [(6, iA 0), (18, bA (r8 p.vars p.arrays 5 s.value))] fun G => b7 (rcB G (fun h7 => ?_) fun h7 => ?_)
     · refine wp_skip (m6 (b7 (wp_seq (l0 G d9 [] fun G => b7 (wp_ret ?_))))); exact K3 0 G (rg 7) (il0 (by exact .inr (by with_reducible assumption)) (by exact .inl (by omega)) (by with_reducible assumption))
     · refine wp_seq (l0 G d9 [(6, iA 4)] fun G => b7 (wp_ret (z8 (l7 ?_)))); exact K3 4 G (rg 7) (ilv (by exact .inr (by with_reducible assumption)) (by with_reducible assumption))
    · have q6 := eq_of_beq h6; exact False.elim (by omega)
   · have q5 : ((d8 (i8 p s.value)) = true) ∧ (i8 p s.value % 2 = 1) := And.imp (fun hq => (hq)) (fun hq => of_decide_eq_true hq) (cd5.1 h5); refine rT G _ h5 (wp_seq (k8 G d9 (rg 7) (aE5 p s []) [(6, iA 3)] fun G => b7 (wp_ret (z8 (l7 ?_))))); exact K3 3 G (rg 7) (il3 (by with_reducible assumption) (by with_reducible assumption))
abbrev fcB (f : Nat) (c n a : Int) : List It := [.box [iA c], .box [.bm f [pA 0]], .box [iA n], .box [iA a]]
abbrev aq8 : Nat := 67
abbrev aq7 : Nat := 68
abbrev G8 (p : d7) : b6 × Int → Int := fun x => N8 p x.1 x.2
abbrev G7 (p : d7) : b6 × Int → Int := fun x => W9 p x.1
section
variable {R : b6 × Int → Int} {c a : Int} {n : Nat} {x : b6 × Int}
theorem b08 (h : ¬ c = 0) : (f9 R (c, a, n) x).1 = c := by unfold f9; rw [if_neg h]
theorem b07 (h : ¬ c = 0) : (f9 R (c, a, n) x).2.1 = a := by unfold f9; rw [if_neg h]
theorem aH3 : (f9 R (c, a, n) x).2.2 = n + 1 := by unfold f9; split <;> rfl
theorem bI4 (h : c = 0) : (f9 R (c, a, n) x).1 = R x := by unfold f9; rw [if_pos h]
theorem b06 (h : c = 0) (hr : R x = 0) : (f9 R (c, a, n) x).2.1 = a := by unfold f9; rw [if_pos h, if_pos hr]
theorem b05 (h : c = 0) (hr : ¬ R x = 0) : (f9 R (c, a, n) x).2.1 = n := by unfold f9; rw [if_pos h, if_neg hr]
end
abbrev aO7 (p : d7) (s : b6) (cx : Int) (c : Int) (b : Int) (n : Nat) : List It := [dI p.vars, dI p.arrays, dT p.body, .box [iA (f9 (G8 p) (c, b, n) (s, cx)).fst], .box [.bm aq8 [pA 0]], .box [iA ((f9 (G8 p) (c, b, n) (s, cx)).snd.snd : Int)], .box [iA (f9 (G8 p) (c, b, n) (s, cx)).snd.fst], dE s.index.kids, dE s.value.kids, dT s.body, dT s.els]
abbrev aE4 (s : b6) (r0 : List It) : List It := dE s.index.kids :: dE s.value.kids :: dT s.body :: dT s.els :: r0
theorem bO2 (p : d7) (s : b6) (cx : Int) (c b : Int) (n : Nat) (hn : n + 1 ≤ 4000000) (h : t5 p.vars.length p.arrays.length s = true) :
    i9.ok Tryz.prog ⟨137, [sA s 7, iA cx, .ptr 3 0, .ptr 4 0, .ptr 5 0, .ptr 6 0], pS p ++ fcB aq8 c n b ++ sS s,
      pS p ++ fcB aq8 (f9 (G8 p) (c, b, n) (s, cx)).1 (f9 (G8 p) (c, b, n) (s, cx)).2.2 (f9 (G8 p) (c, b, n) (s, cx)).2.1 ++ sS s, .tup []⟩ := by
  refine z7 19 Tryz.func137 (dI p.vars :: dI p.arrays :: dT p.body :: .box [iA c] :: .box [.bm 67 [pA 0]] :: .box [iA n] :: .box [iA b] :: (aE4 s [])) [(0, sA s 7), (1, iA cx), (2, .ptr 3 0), (3, .ptr 4 0), (4, .ptr 5 0), (5, .ptr 6 0)] fun G => ?_; refine wp_seq (k8 G d9 (rg 12) (dI p.vars :: dI p.arrays :: dT p.body :: .box [iA c] :: .box [.bm 67 [pA 0]] :: .box [iA n] :: .box [iA b] :: (aE4 s [.box (sL s 7)])) [(1, iA cx), (2, .ptr 3 0), (3, .ptr 4 0), (4, .ptr 5 0), (5, .ptr 6 0), (6, .ptr 11 0)] fun G => b7 (wp_seq (wp_seq (l0 G d9 [(9, bA (c == 0))] fun G => b7 (P4 G (fun h0 q0 => ?_) fun h0 q0 => ?_)))))
  · refine wp_skip (b7 (N5 G d9 (rg 11) (dI p.vars :: dI p.arrays :: dT p.body :: .box [iA c] :: .box [.bm 67 [pA 0]] :: .box [iA ((n : Int) + 1)] :: .box [iA b] :: (aE4 s [])) [] [wO ((n : Int) + 1)] (o1 (by omega)) fun G => ?_)); exact am2 G (rg 11) (by show _ = mR (rg 11) (aO7 p s cx c b n); unfold aO7; have e1 : ((f9 (G8 p) (c, b, n) (s, cx)).fst : Int) = (c) := (b08 (by assumption)); have e2 : (((f9 (G8 p) (c, b, n) (s, cx)).snd.snd : Int) : Int) = ((n : Int) + 1) := (congrArg Int.ofNat aH3); have e3 : ((f9 (G8 p) (c, b, n) (s, cx)).snd.fst : Int) = (b) := (b07 (by assumption)); (first | rw [e1, e2, e3] | simp only [e1, e2, e3]) <;> rfl)
  ·
   refine wp_seq (k8 G (s4 3 [0, 1, 2, 7, 8, 9, 10] (bY4 p s cx (by assumption))) (rg 11) (dI p.vars :: dI p.arrays :: dT p.body :: .box [iA (N8 p s cx)] :: .box [.bm 67 [pA 0]] :: .box [iA n] :: .box [iA b] :: (aE4 s [])) [(2, .ptr 3 0), (4, .ptr 5 0), (5, .ptr 6 0)] fun G => b7 (wp_seq (l0 G d9 [(15, bA (N8 p s cx != 0))] fun G => b7 (rcN G (fun h1 q1 => ?_) fun h1 q1 => ?_))))
   · refine wp_skip (b7 (N5 G d9 (rg 11) (dI p.vars :: dI p.arrays :: dT p.body :: .box [iA (N8 p s cx)] :: .box [.bm 67 [pA 0]] :: .box [iA ((n : Int) + 1)] :: .box [iA b] :: (aE4 s [])) [] [wO ((n : Int) + 1)] (o1 (by omega)) fun G => ?_)); exact am2 G (rg 11) (by show _ = mR (rg 11) (aO7 p s cx c b n); unfold aO7; have e1 : ((f9 (G8 p) (c, b, n) (s, cx)).fst : Int) = (N8 p s cx) := (bI4 (by assumption)); have e2 : (((f9 (G8 p) (c, b, n) (s, cx)).snd.snd : Int) : Int) = ((n : Int) + 1) := (congrArg Int.ofNat aH3); have e3 : ((f9 (G8 p) (c, b, n) (s, cx)).snd.fst : Int) = (b) := (b06 (by assumption) (by assumption)); (first | rw [e1, e2, e3] | simp only [e1, e2, e3]) <;> rfl)
   · refine k8 G d9 (rg 11) (dI p.vars :: dI p.arrays :: dT p.body :: .box [iA (N8 p s cx)] :: .box [.bm 67 [pA 0]] :: .box [iA n] :: .box [iA n] :: (aE4 s [])) [(4, .ptr 5 0)] fun G => b7 (N5 G d9 (rg 11) (dI p.vars :: dI p.arrays :: dT p.body :: .box [iA (N8 p s cx)] :: .box [.bm 67 [pA 0]] :: .box [iA ((n : Int) + 1)] :: .box [iA n] :: (aE4 s [])) [] [wO ((n : Int) + 1)] (o1 (by omega)) fun G => ?_); exact am2 G (rg 11) (by show _ = mR (rg 11) (aO7 p s cx c b n); unfold aO7; have e1 : ((f9 (G8 p) (c, b, n) (s, cx)).fst : Int) = (N8 p s cx) := (bI4 (by assumption)); have e2 : (((f9 (G8 p) (c, b, n) (s, cx)).snd.snd : Int) : Int) = ((n : Int) + 1) := (congrArg Int.ofNat aH3); have e3 : ((f9 (G8 p) (c, b, n) (s, cx)).snd.fst : Int) = ((n : Int)) := (b05 (by assumption) (by assumption)); (first | rw [e1, e2, e3] | simp only [e1, e2, e3]) <;> rfl)
def O7 (R : b6 × Int → Int) (p : d7) (d : Nat) (cx : Int) (ss : List b6) (c b : Int) (n k : Nat) : Int × Int × Nat := (x7 p (d + 1) cx (ss.take k)).foldl (f9 R) (c, b, n)
section
variable {R : b6 × Int → Int} {p : d7} {d : Nat} {cx : Int} {ss : List b6} {c b : Int} {n k : Nat}
theorem br6 (hk : k < ss.length) (h : (ss.getD k cb2).kind = 3) : O7 R p d cx ss c b n (k + 1) = (x7 p d (i6 cx (i8 p (ss.getD k cb2).value)) (ss.getD k cb2).els).foldl (f9 R) ((x7 p d (i6 cx (i8 p (ss.getD k cb2).value)) (ss.getD k cb2).body).foldl (f9 R) (f9 R (O7 R p d cx ss c b n k) (ss.getD k cb2, cx))) := by
 unfold O7; rw [aP6 hk]; unfold E5; rw [if_pos h]
theorem b54 (hk : k < ss.length) (h : ¬ (ss.getD k cb2).kind = 3) : O7 R p d cx ss c b n (k + 1) = (x7 p d cx (ss.getD k cb2).els).foldl (f9 R) ((x7 p d cx (ss.getD k cb2).body).foldl (f9 R) (f9 R (O7 R p d cx ss c b n k) (ss.getD k cb2, cx))) := by
 unfold O7; rw [aP6 hk]; unfold E5; rw [if_neg h]
theorem ay0 (hk : ss.length ≤ k) : (x7 p (d + 1) cx ss).foldl (f9 R) (c, b, n) = O7 R p d cx ss c b n k := by unfold O7; rw [cc8 hk]
theorem be5 : (O7 R p d cx ss c b n k).2.2 ≤ n + M4 (ss.take k) := by
 unfold O7; rw [ax4]
 have := av1 p (d + 1) cx (ss.take k)
 simp only; omega
theorem bm8 (hk : k < ss.length) (hn : n + M4 ss ≤ 4000000) : (O7 R p d cx ss c b n k).2.2 + 1 ≤ 4000000 := by
 have h1 := be5 (R := R) (p := p) (d := d) (cx := cx) (ss := ss) (c := c) (b := b) (n := n) (k := k)
 have h2 := a88 hk
 omega
theorem aC9 (hk : k < ss.length) (hn : n + M4 ss ≤ 4000000) : (f9 R ((O7 R p d cx ss c b n k).1, (O7 R p d cx ss c b n k).2.1, (O7 R p d cx ss c b n k).2.2) (ss.getD k cb2, cx)).2.2 + M4 (ss.getD k cb2).body ≤ 4000000 := by
 have h1 := be5 (R := R) (p := p) (d := d) (cx := cx) (ss := ss) (c := c) (b := b) (n := n) (k := k)
 have h2 := a88 hk
 rw [aH3]
 omega
theorem aC8 {cy : Int} (hk : k < ss.length) (hn : n + M4 ss ≤ 4000000) {σ : Int × Int × Nat} (hσ : σ.2.2 = (O7 R p d cx ss c b n k).2.2 + 1) : ((x7 p d cy (ss.getD k cb2).body).foldl (f9 R) σ).2.2 + M4 (ss.getD k cb2).els ≤ 4000000 := by
 have h1 := be5 (R := R) (p := p) (d := d) (cx := cx) (ss := ss) (c := c) (b := b) (n := n) (k := k)
 have h2 := a88 hk
 rw [ax4, hσ]
 have h3 := av1 p d cy (ss.getD k cb2).body
 omega
end
abbrev aF6 (p : d7) (d : Nat) (ss : List b6) (cx : Int) (c : Int) (b : Int) (n : Nat) (k : Nat) := ce3 (f9 (G8 p)) (f9 (G8 p) (O7 (G8 p) p d cx ss c b n k) (ss.getD k cb2, cx)) (x7 p d (i6 cx (i8 p (ss.getD k cb2).value)) (ss.getD k cb2).body)
abbrev ar9 (p : d7) (d : Nat) (ss : List b6) (cx : Int) (c : Int) (b : Int) (n : Nat) (k : Nat) := ce3 (f9 (G8 p)) (f9 (G8 p) (O7 (G8 p) p d cx ss c b n k) (ss.getD k cb2, cx)) (x7 p d cx (ss.getD k cb2).body)
abbrev aO6 (p : d7) (d : Nat) (ss : List b6) (cx : Int) (c : Int) (b : Int) (n : Nat) (k : Nat) := ce3 (f9 (G8 p)) (aF6 p d ss cx c b n k) (x7 p d (i6 cx (i8 p (ss.getD k cb2).value)) (ss.getD k cb2).els)
abbrev ar8 (p : d7) (d : Nat) (ss : List b6) (cx : Int) (c : Int) (b : Int) (n : Nat) (k : Nat) := f9 (G8 p) (O7 (G8 p) p d cx ss c b n k) (ss.getD k cb2, cx)
abbrev am6 : AV := .fn 137 [.ptr 3 0, .ptr 4 0, .ptr 5 0, .ptr 6 0]
abbrev bg7 (ss : List b6) (k : Nat) (r0 : List It) : List It := dT ss :: .box (pL 0) :: dE (ss.getD k cb2).index.kids :: dE (ss.getD k cb2).value.kids :: dT (ss.getD k cb2).body :: dT (ss.getD k cb2).els :: .box (sL (ss.getD k cb2) 9) :: r0
abbrev aE3 (ss : List b6) (k : Nat) (r0 : List (Nat × AV)) : List (Nat × AV) := (11, .ref 7) :: (12, iA (ss.length : Int)) :: (13, iA (k : Int)) :: r0
theorem a82 (p : d7) (d : Nat) (ss : List b6) (ih : ∀ (tt : List b6) (cx : Int) (c b : Int) (n : Nat), 0 < ss.length → tt.all (f6 p.vars.length p.arrays.length d) = true → n + M4 tt ≤ 4000000 → i9.ok Tryz.prog ⟨93, [pA 0, .ref 7, iA cx, .fn 137 [.ptr 3 0, .ptr 4 0, .ptr 5 0, .ptr 6 0]], pS p ++ fcB aq8 c n b ++ [.dat (.stmts tt)],
      pS p ++ fcB aq8 ((x7 p d cx tt).foldl (f9 (G8 p)) (c, b, n)).1 ((x7 p d cx tt).foldl (f9 (G8 p)) (c, b, n)).2.2 ((x7 p d cx tt).foldl (f9 (G8 p)) (c, b, n)).2.1 ++ [.dat (.stmts tt)], .tup []⟩)
    (cx : Int) (c b : Int) (n : Nat) (hs : ss.all (f6 p.vars.length p.arrays.length (d + 1)) = true) (hn : n + M4 ss ≤ 4000000) : i9.ok Tryz.prog ⟨93, [pA 0, .ref 7, iA cx, .fn 137 [.ptr 3 0, .ptr 4 0, .ptr 5 0, .ptr 6 0]], pS p ++ fcB aq8 c n b ++ [.dat (.stmts ss)],
      pS p ++ fcB aq8 ((x7 p (d + 1) cx ss).foldl (f9 (G8 p)) (c, b, n)).1 ((x7 p (d + 1) cx ss).foldl (f9 (G8 p)) (c, b, n)).2.2 ((x7 p (d + 1) cx ss).foldl (f9 (G8 p)) (c, b, n)).2.1 ++ [.dat (.stmts ss)], .tup []⟩ := by
  refine z7 44 Tryz.func93 [dI p.vars, dI p.arrays, dT p.body, .box [iA c], .box [.bm 67 [pA 0]], .box [iA n], .box [iA b], dT ss] [(0, pA 0), (1, .ref 7), (2, iA cx), (3, am6)] fun G => ?_; have hlen : ss.length ≤ 9223372036854775807 := G.len 7 (d := .stmts ss) (by kernel_rfl); refine wp_seq (k8 G d9 (rg 9) [dI p.vars, dI p.arrays, dT p.body, .box [iA c], .box [.bm 67 [pA 0]], .box [iA n], .box [iA b], dT ss, .box (pL 0)] [(1, .ref 7), (2, iA cx), (3, am6), (4, .ptr 8 0)] fun G => b7 (wp_seq (C9 G d9 [(2, iA cx), (3, am6), (4, .ptr 8 0), (11, .ref 7), (12, iA (ss.length : Int)), (13, iA 0)] fun G => b7 (wp_block ?_)))); refine o7 (κ := Nat) (fun k => k ≤ ss.length) (fun k => ss.length - k) (fun k => [dI p.vars, dI p.arrays, dT p.body, .box [iA (O7 (G8 p) p d cx ss c b n k).1], .box [.bm 67 [pA 0]], .box [iA (O7 (G8 p) p d cx ss c b n k).2.2], .box [iA (O7 (G8 p) p d cx ss c b n k).2.1], dT ss, .box (pL 0)]) (fun k => [(2, iA cx), (3, .fn 137 [.ptr 3 0, .ptr 4 0, .ptr 5 0, .ptr 6 0]), (4, .ptr 8 0), (11, .ref 7), (12, iA (ss.length : Int)), (13, iA k)]) 0 (by simp [hs]) (s0.at G _ _) ?_; clear G; intro k ρ a w hp G; replace G := s0.at G [dI p.vars, dI p.arrays, dT p.body, .box [iA (O7 (G8 p) p d cx ss c b n k).fst], .box [.bm 67 [pA 0]], .box [iA ((O7 (G8 p) p d cx ss c b n k).snd.snd : Int)], .box [iA (O7 (G8 p) p d cx ss c b n k).snd.fst], dT ss, .box (pL 0)] ((2, iA cx) :: (3, am6) :: (4, .ptr 8 0) :: (aE3 ss k [])); refine wp_seq (l0 G d9 [(14, bA (decide ((k : Int) < ss.length)))] fun G => b7 (wp_seq (N4 G (fun h0 q0 => ?_) fun h0 q0 => ?_)))
  · refine wp_exit (o0 (o0 (n5 ?_))); exact am2 G (rg 8) (by show _ = mR (rg 8) [dI p.vars, dI p.arrays, dT p.body, .box [iA (ce3 (f9 (G8 p)) (c, b, n) (x7 p (d + 1) cx ss)).fst], .box [.bm aq8 [pA 0]], .box [iA ((ce3 (f9 (G8 p)) (c, b, n) (x7 p (d + 1) cx ss)).snd.snd : Int)], .box [iA (ce3 (f9 (G8 p)) (c, b, n) (x7 p (d + 1) cx ss)).snd.fst], dT ss]; have e1 : ((ce3 (f9 (G8 p)) (c, b, n) (x7 p (d + 1) cx ss)).fst : Int) = ((O7 (G8 p) p d cx ss c b n k).fst) := (congrArg Prod.fst (ay0 (by omega))); have e2 : (((ce3 (f9 (G8 p)) (c, b, n) (x7 p (d + 1) cx ss)).snd.snd : Int) : Int) = (((O7 (G8 p) p d cx ss c b n k).snd.snd : Int)) := (congrArg (fun x : Int × Int × Nat => Int.ofNat x.2.2) (ay0 (by omega))); have e3 : ((ce3 (f9 (G8 p)) (c, b, n) (x7 p (d + 1) cx ss)).snd.fst : Int) = ((O7 (G8 p) p d cx ss c b n k).snd.fst) := (congrArg (fun x : Int × Int × Nat => x.2.1) (ay0 (by omega))); (first | rw [e1, e2, e3] | simp only [e1, e2, e3]) <;> rfl)
  ·
   refine wp_skip (b7 (wp_seq (wp_block (wp_seq (N5 G d9 [0, 1, 2, 3, 4, 5, 6, 7, 8, 17, 18, 19, 20, 25] (dI p.vars :: dI p.arrays :: dT p.body :: .box [iA (O7 (G8 p) p d cx ss c b n k).fst] :: .box [.bm 67 [pA 0]] :: .box [iA ((O7 (G8 p) p d cx ss c b n k).snd.snd : Int)] :: .box [iA (O7 (G8 p) p d cx ss c b n k).snd.fst] :: (bg7 ss k [])) ((2, iA cx) :: (3, am6) :: (4, .ptr 8 0) :: (9, .ptr 13 0) :: (aE3 ss k [])) (iX k k ss.length []) (iK (by omega) cc1) fun G => b7 (wp_seq (k8 G (s4 3 [0, 1, 2, 3, 4, 5, 6, 9, 10, 11, 12] (bO2 p (ss.getD k cb2) cx ((O7 (G8 p) p d cx ss c b n k).fst) ((O7 (G8 p) p d cx ss c b n k).snd.fst) ((O7 (G8 p) p d cx ss c b n k).snd.snd) (bm8 (by omega) hn) ((x9 hs (by omega)).1))) (rg 14) (dI p.vars :: dI p.arrays :: dT p.body :: .box [iA (ar8 p d ss cx c b n k).fst] :: .box [.bm 67 [pA 0]] :: .box [iA ((ar8 p d ss cx c b n k).snd.snd : Int)] :: .box [iA (ar8 p d ss cx c b n k).snd.fst] :: (bg7 ss k [])) ((2, iA cx) :: (3, am6) :: (4, .ptr 8 0) :: (9, .ptr 13 0) :: (aE3 ss k [])) fun G => b7 (wp_seq (l0 G d9 [(10, iA cx)] fun G => b7 (wp_seq (wp_seq (l0 G d9 [(24, bA ((ss.getD k cb2).kind == 3))] fun G => b7 (P4 G (fun h1 q1 => ?_) fun h1 q1 => ?_)))))))))))))
   · refine wp_skip (b7 (wp_seq (k8 G (s4 5 [0, 1, 2, 3, 4, 5, 6, 11] (ih ((ss.getD k cb2).body) cx ((ar8 p d ss cx c b n k).fst) ((ar8 p d ss cx c b n k).snd.fst) ((ar8 p d ss cx c b n k).snd.snd) (by omega) ((x9 hs (by omega)).2.1) (aC9 (by omega) hn))) (rg 14) (dI p.vars :: dI p.arrays :: dT p.body :: .box [iA (ar9 p d ss cx c b n k).fst] :: .box [.bm 67 [pA 0]] :: .box [iA ((ar9 p d ss cx c b n k).snd.snd : Int)] :: .box [iA (ar9 p d ss cx c b n k).snd.fst] :: (bg7 ss k [])) ((2, iA cx) :: (3, am6) :: (4, .ptr 8 0) :: (9, .ptr 13 0) :: (10, iA cx) :: (aE3 ss k [])) fun G => b7 (k8 G (s4 5 [0, 1, 2, 3, 4, 5, 6, 12] (ih ((ss.getD k cb2).els) cx ((ar9 p d ss cx c b n k).fst) ((ar9 p d ss cx c b n k).snd.fst) ((ar9 p d ss cx c b n k).snd.snd) (by omega) ((x9 hs (by omega)).2.2) (aC8 (by omega) hn aH3))) (rg 9) [dI p.vars, dI p.arrays, dT p.body, .box [iA (ce3 (f9 (G8 p)) (ar9 p d ss cx c b n k) (x7 p d cx (ss.getD k cb2).els)).fst], .box [.bm 67 [pA 0]], .box [iA ((ce3 (f9 (G8 p)) (ar9 p d ss cx c b n k) (x7 p d cx (ss.getD k cb2).els)).snd.snd : Int)], .box [iA (ce3 (f9 (G8 p)) (ar9 p d ss cx c b n k) (x7 p d cx (ss.getD k cb2).els)).snd.fst], dT ss, .box (pL 0)] ((2, iA cx) :: (3, am6) :: (4, .ptr 8 0) :: (aE3 ss k [])) fun G => m6 (b7 (D7 G d9 [(13, iA ((k : Int) + 1))] [wO ((k : Int) + 1)] (o1 (by omega)) fun G => b7 ?_)))))); exact M7 G (k + 1) (by omega) (by omega) (rg 9) (by have h9 := b54 (R := (G8 p)) (p := p) (d := d) (cx := cx) (ss := ss) (c := c) (b := b) (n := n) (k := k) (by omega) (by assumption); rw [h9] <;> rfl)
   · refine l0 G (s4 4 [0, 1, 2, 10] (Q7 p ((ss.getD k cb2).value) (n7 (x9 hs (by omega)).1 (by omega)))) [(10, iA (i6 cx (i8 p (ss.getD k cb2).value)))] fun G => b7 (wp_seq (k8 G (s4 5 [0, 1, 2, 3, 4, 5, 6, 11] (ih ((ss.getD k cb2).body) (i6 cx (i8 p (ss.getD k cb2).value)) ((ar8 p d ss cx c b n k).fst) ((ar8 p d ss cx c b n k).snd.fst) ((ar8 p d ss cx c b n k).snd.snd) (by omega) ((x9 hs (by omega)).2.1) (aC9 (by omega) hn))) (rg 14) (dI p.vars :: dI p.arrays :: dT p.body :: .box [iA (aF6 p d ss cx c b n k).fst] :: .box [.bm 67 [pA 0]] :: .box [iA ((aF6 p d ss cx c b n k).snd.snd : Int)] :: .box [iA (aF6 p d ss cx c b n k).snd.fst] :: (bg7 ss k [])) ((2, iA cx) :: (3, am6) :: (4, .ptr 8 0) :: (9, .ptr 13 0) :: (10, iA (i6 cx (i8 p (ss.getD k cb2).value))) :: (aE3 ss k [])) fun G => b7 (k8 G (s4 5 [0, 1, 2, 3, 4, 5, 6, 12] (ih ((ss.getD k cb2).els) (i6 cx (i8 p (ss.getD k cb2).value)) ((aF6 p d ss cx c b n k).fst) ((aF6 p d ss cx c b n k).snd.fst) ((aF6 p d ss cx c b n k).snd.snd) (by omega) ((x9 hs (by omega)).2.2) (aC8 (by omega) hn aH3))) (rg 9) [dI p.vars, dI p.arrays, dT p.body, .box [iA (aO6 p d ss cx c b n k).fst], .box [.bm 67 [pA 0]], .box [iA ((aO6 p d ss cx c b n k).snd.snd : Int)], .box [iA (aO6 p d ss cx c b n k).snd.fst], dT ss, .box (pL 0)] ((2, iA cx) :: (3, am6) :: (4, .ptr 8 0) :: (aE3 ss k [])) fun G => m6 (b7 (D7 G d9 [(13, iA ((k : Int) + 1))] [wO ((k : Int) + 1)] (o1 (by omega)) fun G => b7 ?_))))); exact M7 G (k + 1) (by omega) (by omega) (rg 9) (by have e1 : ((O7 (G8 p) p d cx ss c b n (k + 1)).fst : Int) = ((aO6 p d ss cx c b n k).fst) := (congrArg Prod.fst (br6 (by omega) (by assumption))); have e2 : (((O7 (G8 p) p d cx ss c b n (k + 1)).snd.snd : Int) : Int) = (((aO6 p d ss cx c b n k).snd.snd : Int)) := (congrArg (fun x : Int × Int × Nat => Int.ofNat x.2.2) (br6 (by omega) (by assumption))); have e3 : ((O7 (G8 p) p d cx ss c b n (k + 1)).snd.fst : Int) = ((aO6 p d ss cx c b n k).snd.fst) := (congrArg (fun x : Int × Int × Nat => x.2.1) (br6 (by omega) (by assumption))); (first | rw [e1, e2, e3] | simp only [e1, e2, e3]) <;> rfl)
theorem bY8 {nv na d k : Nat} {ss : List b6} (hs : ss.all (f6 nv na (d + 1)) = true) (hk : k < ss.length) : okS nv na 5 (ss.getD k cb2).value := by
 have h1 := x9 hs hk
 by_cases k4 : (ss.getD k cb2).kind = 4
 ·have h0 := cc2.1 hs _ (cd7 hk)
  rw [← m9 (d := cb2) hk] at h0
  rw [f6, cb3] at h0
  have h2 := h0.1
  unfold y7 at h2
  rw [if_pos (.inr k4), if_pos k4] at h2
  simp only [cb3, decide_eq_true_eq, noneB] at h2
  exact .inl ⟨h2.2.2.1.1, cc7 h2.2.2.2⟩
 ·exact .inr (n7 h1.1 k4)
abbrev aO5 (p : d7) (s : b6) (cx : Int) (c : Int) (b : Int) (n : Nat) : List It := [dI p.vars, dI p.arrays, dT p.body, .box [iA (f9 (G7 p) (c, b, n) (s, cx)).fst], .box [.bm aq7 [pA 0]], .box [iA ((f9 (G7 p) (c, b, n) (s, cx)).snd.snd : Int)], .box [iA (f9 (G7 p) (c, b, n) (s, cx)).snd.fst], dE s.index.kids, dE s.value.kids, dT s.body, dT s.els]
abbrev aE2 (s : b6) (r0 : List It) : List It := dE s.index.kids :: dE s.value.kids :: dT s.body :: dT s.els :: r0
theorem bO1 (p : d7) (s : b6) (cx : Int) (c b : Int) (n : Nat) (hn : n + 1 ≤ 4000000) (h : t5 p.vars.length p.arrays.length s = true) (hv : okS p.vars.length p.arrays.length 5 s.value) :
    i9.ok Tryz.prog ⟨137, [sA s 7, iA cx, .ptr 3 0, .ptr 4 0, .ptr 5 0, .ptr 6 0], pS p ++ fcB aq7 c n b ++ sS s,
      pS p ++ fcB aq7 (f9 (G7 p) (c, b, n) (s, cx)).1 (f9 (G7 p) (c, b, n) (s, cx)).2.2 (f9 (G7 p) (c, b, n) (s, cx)).2.1 ++ sS s, .tup []⟩ := by
  refine z7 19 Tryz.func137 (dI p.vars :: dI p.arrays :: dT p.body :: .box [iA c] :: .box [.bm 68 [pA 0]] :: .box [iA n] :: .box [iA b] :: (aE2 s [])) [(0, sA s 7), (1, iA cx), (2, .ptr 3 0), (3, .ptr 4 0), (4, .ptr 5 0), (5, .ptr 6 0)] fun G => ?_; refine wp_seq (k8 G d9 (rg 12) (dI p.vars :: dI p.arrays :: dT p.body :: .box [iA c] :: .box [.bm 68 [pA 0]] :: .box [iA n] :: .box [iA b] :: (aE2 s [.box (sL s 7)])) [(1, iA cx), (2, .ptr 3 0), (3, .ptr 4 0), (4, .ptr 5 0), (5, .ptr 6 0), (6, .ptr 11 0)] fun G => b7 (wp_seq (wp_seq (l0 G d9 [(9, bA (c == 0))] fun G => b7 (P4 G (fun h0 q0 => ?_) fun h0 q0 => ?_)))))
  · refine wp_skip (b7 (N5 G d9 (rg 11) (dI p.vars :: dI p.arrays :: dT p.body :: .box [iA c] :: .box [.bm 68 [pA 0]] :: .box [iA ((n : Int) + 1)] :: .box [iA b] :: (aE2 s [])) [] [wO ((n : Int) + 1)] (o1 (by omega)) fun G => ?_)); exact am2 G (rg 11) (by show _ = mR (rg 11) (aO5 p s cx c b n); unfold aO5; have e1 : ((f9 (G7 p) (c, b, n) (s, cx)).fst : Int) = (c) := (b08 (by assumption)); have e2 : (((f9 (G7 p) (c, b, n) (s, cx)).snd.snd : Int) : Int) = ((n : Int) + 1) := (congrArg Int.ofNat aH3); have e3 : ((f9 (G7 p) (c, b, n) (s, cx)).snd.fst : Int) = (b) := (b07 (by assumption)); (first | rw [e1, e2, e3] | simp only [e1, e2, e3]) <;> rfl)
  ·
   refine wp_seq (k8 G (s4 3 [0, 1, 2, 7, 8, 9, 10] (bY3 p s cx (by assumption) (by assumption))) (rg 11) (dI p.vars :: dI p.arrays :: dT p.body :: .box [iA (W9 p s)] :: .box [.bm 68 [pA 0]] :: .box [iA n] :: .box [iA b] :: (aE2 s [])) [(2, .ptr 3 0), (4, .ptr 5 0), (5, .ptr 6 0)] fun G => b7 (wp_seq (l0 G d9 [(15, bA (W9 p s != 0))] fun G => b7 (rcN G (fun h1 q1 => ?_) fun h1 q1 => ?_))))
   · refine wp_skip (b7 (N5 G d9 (rg 11) (dI p.vars :: dI p.arrays :: dT p.body :: .box [iA (W9 p s)] :: .box [.bm 68 [pA 0]] :: .box [iA ((n : Int) + 1)] :: .box [iA b] :: (aE2 s [])) [] [wO ((n : Int) + 1)] (o1 (by omega)) fun G => ?_)); exact am2 G (rg 11) (by show _ = mR (rg 11) (aO5 p s cx c b n); unfold aO5; have e1 : ((f9 (G7 p) (c, b, n) (s, cx)).fst : Int) = (W9 p s) := (bI4 (by assumption)); have e2 : (((f9 (G7 p) (c, b, n) (s, cx)).snd.snd : Int) : Int) = ((n : Int) + 1) := (congrArg Int.ofNat aH3); have e3 : ((f9 (G7 p) (c, b, n) (s, cx)).snd.fst : Int) = (b) := (b06 (by assumption) (by assumption)); (first | rw [e1, e2, e3] | simp only [e1, e2, e3]) <;> rfl)
   · refine k8 G d9 (rg 11) (dI p.vars :: dI p.arrays :: dT p.body :: .box [iA (W9 p s)] :: .box [.bm 68 [pA 0]] :: .box [iA n] :: .box [iA n] :: (aE2 s [])) [(4, .ptr 5 0)] fun G => b7 (N5 G d9 (rg 11) (dI p.vars :: dI p.arrays :: dT p.body :: .box [iA (W9 p s)] :: .box [.bm 68 [pA 0]] :: .box [iA ((n : Int) + 1)] :: .box [iA n] :: (aE2 s [])) [] [wO ((n : Int) + 1)] (o1 (by omega)) fun G => ?_); exact am2 G (rg 11) (by show _ = mR (rg 11) (aO5 p s cx c b n); unfold aO5; have e1 : ((f9 (G7 p) (c, b, n) (s, cx)).fst : Int) = (W9 p s) := (bI4 (by assumption)); have e2 : (((f9 (G7 p) (c, b, n) (s, cx)).snd.snd : Int) : Int) = ((n : Int) + 1) := (congrArg Int.ofNat aH3); have e3 : ((f9 (G7 p) (c, b, n) (s, cx)).snd.fst : Int) = ((n : Int)) := (b05 (by assumption) (by assumption)); (first | rw [e1, e2, e3] | simp only [e1, e2, e3]) <;> rfl)
abbrev aF5 (p : d7) (d : Nat) (ss : List b6) (cx : Int) (c : Int) (b : Int) (n : Nat) (k : Nat) := ce3 (f9 (G7 p)) (f9 (G7 p) (O7 (G7 p) p d cx ss c b n k) (ss.getD k cb2, cx)) (x7 p d (i6 cx (i8 p (ss.getD k cb2).value)) (ss.getD k cb2).body)
abbrev ar7 (p : d7) (d : Nat) (ss : List b6) (cx : Int) (c : Int) (b : Int) (n : Nat) (k : Nat) := ce3 (f9 (G7 p)) (f9 (G7 p) (O7 (G7 p) p d cx ss c b n k) (ss.getD k cb2, cx)) (x7 p d cx (ss.getD k cb2).body)
abbrev aO4 (p : d7) (d : Nat) (ss : List b6) (cx : Int) (c : Int) (b : Int) (n : Nat) (k : Nat) := ce3 (f9 (G7 p)) (aF5 p d ss cx c b n k) (x7 p d (i6 cx (i8 p (ss.getD k cb2).value)) (ss.getD k cb2).els)
abbrev ac4 (p : d7) (d : Nat) (ss : List b6) (cx : Int) (c : Int) (b : Int) (n : Nat) (k : Nat) := f9 (G7 p) (O7 (G7 p) p d cx ss c b n k) (ss.getD k cb2, cx)
abbrev Z3 : AV := .fn 137 [.ptr 3 0, .ptr 4 0, .ptr 5 0, .ptr 6 0]
abbrev bg6 (ss : List b6) (k : Nat) (r0 : List It) : List It := dT ss :: .box (pL 0) :: dE (ss.getD k cb2).index.kids :: dE (ss.getD k cb2).value.kids :: dT (ss.getD k cb2).body :: dT (ss.getD k cb2).els :: .box (sL (ss.getD k cb2) 9) :: r0
abbrev aE1 (ss : List b6) (k : Nat) (r0 : List (Nat × AV)) : List (Nat × AV) := (11, .ref 7) :: (12, iA (ss.length : Int)) :: (13, iA (k : Int)) :: r0
theorem a81 (p : d7) (d : Nat) (ss : List b6) (ih : ∀ (tt : List b6) (cx : Int) (c b : Int) (n : Nat), 0 < ss.length → tt.all (f6 p.vars.length p.arrays.length d) = true → n + M4 tt ≤ 4000000 → i9.ok Tryz.prog ⟨93, [pA 0, .ref 7, iA cx, .fn 137 [.ptr 3 0, .ptr 4 0, .ptr 5 0, .ptr 6 0]], pS p ++ fcB aq7 c n b ++ [.dat (.stmts tt)],
      pS p ++ fcB aq7 ((x7 p d cx tt).foldl (f9 (G7 p)) (c, b, n)).1 ((x7 p d cx tt).foldl (f9 (G7 p)) (c, b, n)).2.2 ((x7 p d cx tt).foldl (f9 (G7 p)) (c, b, n)).2.1 ++ [.dat (.stmts tt)], .tup []⟩)
    (cx : Int) (c b : Int) (n : Nat) (hs : ss.all (f6 p.vars.length p.arrays.length (d + 1)) = true) (hn : n + M4 ss ≤ 4000000) : i9.ok Tryz.prog ⟨93, [pA 0, .ref 7, iA cx, .fn 137 [.ptr 3 0, .ptr 4 0, .ptr 5 0, .ptr 6 0]], pS p ++ fcB aq7 c n b ++ [.dat (.stmts ss)],
      pS p ++ fcB aq7 ((x7 p (d + 1) cx ss).foldl (f9 (G7 p)) (c, b, n)).1 ((x7 p (d + 1) cx ss).foldl (f9 (G7 p)) (c, b, n)).2.2 ((x7 p (d + 1) cx ss).foldl (f9 (G7 p)) (c, b, n)).2.1 ++ [.dat (.stmts ss)], .tup []⟩ := by
  refine z7 44 Tryz.func93 [dI p.vars, dI p.arrays, dT p.body, .box [iA c], .box [.bm 68 [pA 0]], .box [iA n], .box [iA b], dT ss] [(0, pA 0), (1, .ref 7), (2, iA cx), (3, Z3)] fun G => ?_; have hlen : ss.length ≤ 9223372036854775807 := G.len 7 (d := .stmts ss) (by kernel_rfl); refine wp_seq (k8 G d9 (rg 9) [dI p.vars, dI p.arrays, dT p.body, .box [iA c], .box [.bm 68 [pA 0]], .box [iA n], .box [iA b], dT ss, .box (pL 0)] [(1, .ref 7), (2, iA cx), (3, Z3), (4, .ptr 8 0)] fun G => b7 (wp_seq (C9 G d9 [(2, iA cx), (3, Z3), (4, .ptr 8 0), (11, .ref 7), (12, iA (ss.length : Int)), (13, iA 0)] fun G => b7 (wp_block ?_)))); refine o7 (κ := Nat) (fun k => k ≤ ss.length) (fun k => ss.length - k) (fun k => [dI p.vars, dI p.arrays, dT p.body, .box [iA (O7 (G7 p) p d cx ss c b n k).1], .box [.bm 68 [pA 0]], .box [iA (O7 (G7 p) p d cx ss c b n k).2.2], .box [iA (O7 (G7 p) p d cx ss c b n k).2.1], dT ss, .box (pL 0)]) (fun k => [(2, iA cx), (3, .fn 137 [.ptr 3 0, .ptr 4 0, .ptr 5 0, .ptr 6 0]), (4, .ptr 8 0), (11, .ref 7), (12, iA (ss.length : Int)), (13, iA k)]) 0 (by simp [hs]) (s0.at G _ _) ?_; clear G; intro k ρ a w hp G; replace G := s0.at G [dI p.vars, dI p.arrays, dT p.body, .box [iA (O7 (G7 p) p d cx ss c b n k).fst], .box [.bm 68 [pA 0]], .box [iA ((O7 (G7 p) p d cx ss c b n k).snd.snd : Int)], .box [iA (O7 (G7 p) p d cx ss c b n k).snd.fst], dT ss, .box (pL 0)] ((2, iA cx) :: (3, Z3) :: (4, .ptr 8 0) :: (aE1 ss k [])); refine wp_seq (l0 G d9 [(14, bA (decide ((k : Int) < ss.length)))] fun G => b7 (wp_seq (N4 G (fun h0 q0 => ?_) fun h0 q0 => ?_)))
  · refine wp_exit (o0 (o0 (n5 ?_))); exact am2 G (rg 8) (by show _ = mR (rg 8) [dI p.vars, dI p.arrays, dT p.body, .box [iA (ce3 (f9 (G7 p)) (c, b, n) (x7 p (d + 1) cx ss)).fst], .box [.bm aq7 [pA 0]], .box [iA ((ce3 (f9 (G7 p)) (c, b, n) (x7 p (d + 1) cx ss)).snd.snd : Int)], .box [iA (ce3 (f9 (G7 p)) (c, b, n) (x7 p (d + 1) cx ss)).snd.fst], dT ss]; have e1 : ((ce3 (f9 (G7 p)) (c, b, n) (x7 p (d + 1) cx ss)).fst : Int) = ((O7 (G7 p) p d cx ss c b n k).fst) := (congrArg Prod.fst (ay0 (by omega))); have e2 : (((ce3 (f9 (G7 p)) (c, b, n) (x7 p (d + 1) cx ss)).snd.snd : Int) : Int) = (((O7 (G7 p) p d cx ss c b n k).snd.snd : Int)) := (congrArg (fun x : Int × Int × Nat => Int.ofNat x.2.2) (ay0 (by omega))); have e3 : ((ce3 (f9 (G7 p)) (c, b, n) (x7 p (d + 1) cx ss)).snd.fst : Int) = ((O7 (G7 p) p d cx ss c b n k).snd.fst) := (congrArg (fun x : Int × Int × Nat => x.2.1) (ay0 (by omega))); (first | rw [e1, e2, e3] | simp only [e1, e2, e3]) <;> rfl)
  ·
   refine wp_skip (b7 (wp_seq (wp_block (wp_seq (N5 G d9 [0, 1, 2, 3, 4, 5, 6, 7, 8, 17, 18, 19, 20, 25] (dI p.vars :: dI p.arrays :: dT p.body :: .box [iA (O7 (G7 p) p d cx ss c b n k).fst] :: .box [.bm 68 [pA 0]] :: .box [iA ((O7 (G7 p) p d cx ss c b n k).snd.snd : Int)] :: .box [iA (O7 (G7 p) p d cx ss c b n k).snd.fst] :: (bg6 ss k [])) ((2, iA cx) :: (3, Z3) :: (4, .ptr 8 0) :: (9, .ptr 13 0) :: (aE1 ss k [])) (iX k k ss.length []) (iK (by omega) cc1) fun G => b7 (wp_seq (k8 G (s4 3 [0, 1, 2, 3, 4, 5, 6, 9, 10, 11, 12] (bO1 p (ss.getD k cb2) cx ((O7 (G7 p) p d cx ss c b n k).fst) ((O7 (G7 p) p d cx ss c b n k).snd.fst) ((O7 (G7 p) p d cx ss c b n k).snd.snd) (bm8 (by omega) hn) ((x9 hs (by omega)).1) (bY8 hs (by omega)))) (rg 14) (dI p.vars :: dI p.arrays :: dT p.body :: .box [iA (ac4 p d ss cx c b n k).fst] :: .box [.bm 68 [pA 0]] :: .box [iA ((ac4 p d ss cx c b n k).snd.snd : Int)] :: .box [iA (ac4 p d ss cx c b n k).snd.fst] :: (bg6 ss k [])) ((2, iA cx) :: (3, Z3) :: (4, .ptr 8 0) :: (9, .ptr 13 0) :: (aE1 ss k [])) fun G => b7 (wp_seq (l0 G d9 [(10, iA cx)] fun G => b7 (wp_seq (wp_seq (l0 G d9 [(24, bA ((ss.getD k cb2).kind == 3))] fun G => b7 (P4 G (fun h1 q1 => ?_) fun h1 q1 => ?_)))))))))))))
   · refine wp_skip (b7 (wp_seq (k8 G (s4 5 [0, 1, 2, 3, 4, 5, 6, 11] (ih ((ss.getD k cb2).body) cx ((ac4 p d ss cx c b n k).fst) ((ac4 p d ss cx c b n k).snd.fst) ((ac4 p d ss cx c b n k).snd.snd) (by omega) ((x9 hs (by omega)).2.1) (aC9 (by omega) hn))) (rg 14) (dI p.vars :: dI p.arrays :: dT p.body :: .box [iA (ar7 p d ss cx c b n k).fst] :: .box [.bm 68 [pA 0]] :: .box [iA ((ar7 p d ss cx c b n k).snd.snd : Int)] :: .box [iA (ar7 p d ss cx c b n k).snd.fst] :: (bg6 ss k [])) ((2, iA cx) :: (3, Z3) :: (4, .ptr 8 0) :: (9, .ptr 13 0) :: (10, iA cx) :: (aE1 ss k [])) fun G => b7 (k8 G (s4 5 [0, 1, 2, 3, 4, 5, 6, 12] (ih ((ss.getD k cb2).els) cx ((ar7 p d ss cx c b n k).fst) ((ar7 p d ss cx c b n k).snd.fst) ((ar7 p d ss cx c b n k).snd.snd) (by omega) ((x9 hs (by omega)).2.2) (aC8 (by omega) hn aH3))) (rg 9) [dI p.vars, dI p.arrays, dT p.body, .box [iA (ce3 (f9 (G7 p)) (ar7 p d ss cx c b n k) (x7 p d cx (ss.getD k cb2).els)).fst], .box [.bm 68 [pA 0]], .box [iA ((ce3 (f9 (G7 p)) (ar7 p d ss cx c b n k) (x7 p d cx (ss.getD k cb2).els)).snd.snd : Int)], .box [iA (ce3 (f9 (G7 p)) (ar7 p d ss cx c b n k) (x7 p d cx (ss.getD k cb2).els)).snd.fst], dT ss, .box (pL 0)] ((2, iA cx) :: (3, Z3) :: (4, .ptr 8 0) :: (aE1 ss k [])) fun G => m6 (b7 (D7 G d9 [(13, iA ((k : Int) + 1))] [wO ((k : Int) + 1)] (o1 (by omega)) fun G => b7 ?_)))))); exact M7 G (k + 1) (by omega) (by omega) (rg 9) (by have h9 := b54 (R := (G7 p)) (p := p) (d := d) (cx := cx) (ss := ss) (c := c) (b := b) (n := n) (k := k) (by omega) (by assumption); rw [h9] <;> rfl)
   · refine l0 G (s4 4 [0, 1, 2, 10] (Q7 p ((ss.getD k cb2).value) (n7 (x9 hs (by omega)).1 (by omega)))) [(10, iA (i6 cx (i8 p (ss.getD k cb2).value)))] fun G => b7 (wp_seq (k8 G (s4 5 [0, 1, 2, 3, 4, 5, 6, 11] (ih ((ss.getD k cb2).body) (i6 cx (i8 p (ss.getD k cb2).value)) ((ac4 p d ss cx c b n k).fst) ((ac4 p d ss cx c b n k).snd.fst) ((ac4 p d ss cx c b n k).snd.snd) (by omega) ((x9 hs (by omega)).2.1) (aC9 (by omega) hn))) (rg 14) (dI p.vars :: dI p.arrays :: dT p.body :: .box [iA (aF5 p d ss cx c b n k).fst] :: .box [.bm 68 [pA 0]] :: .box [iA ((aF5 p d ss cx c b n k).snd.snd : Int)] :: .box [iA (aF5 p d ss cx c b n k).snd.fst] :: (bg6 ss k [])) ((2, iA cx) :: (3, Z3) :: (4, .ptr 8 0) :: (9, .ptr 13 0) :: (10, iA (i6 cx (i8 p (ss.getD k cb2).value))) :: (aE1 ss k [])) fun G => b7 (k8 G (s4 5 [0, 1, 2, 3, 4, 5, 6, 12] (ih ((ss.getD k cb2).els) (i6 cx (i8 p (ss.getD k cb2).value)) ((aF5 p d ss cx c b n k).fst) ((aF5 p d ss cx c b n k).snd.fst) ((aF5 p d ss cx c b n k).snd.snd) (by omega) ((x9 hs (by omega)).2.2) (aC8 (by omega) hn aH3))) (rg 9) [dI p.vars, dI p.arrays, dT p.body, .box [iA (aO4 p d ss cx c b n k).fst], .box [.bm 68 [pA 0]], .box [iA ((aO4 p d ss cx c b n k).snd.snd : Int)], .box [iA (aO4 p d ss cx c b n k).snd.fst], dT ss, .box (pL 0)] ((2, iA cx) :: (3, Z3) :: (4, .ptr 8 0) :: (aE1 ss k [])) fun G => m6 (b7 (D7 G d9 [(13, iA ((k : Int) + 1))] [wO ((k : Int) + 1)] (o1 (by omega)) fun G => b7 ?_))))); exact M7 G (k + 1) (by omega) (by omega) (rg 9) (by have e1 : ((O7 (G7 p) p d cx ss c b n (k + 1)).fst : Int) = ((aO4 p d ss cx c b n k).fst) := (congrArg Prod.fst (br6 (by omega) (by assumption))); have e2 : (((O7 (G7 p) p d cx ss c b n (k + 1)).snd.snd : Int) : Int) = (((aO4 p d ss cx c b n k).snd.snd : Int)) := (congrArg (fun x : Int × Int × Nat => Int.ofNat x.2.2) (br6 (by omega) (by assumption))); have e3 : ((O7 (G7 p) p d cx ss c b n (k + 1)).snd.fst : Int) = ((aO4 p d ss cx c b n k).snd.fst) := (congrArg (fun x : Int × Int × Nat => x.2.1) (br6 (by omega) (by assumption))); (first | rw [e1, e2, e3] | simp only [e1, e2, e3]) <;> rfl)
theorem bH1 (p : d7) : ∀ (d : Nat) (ss : List b6) (cx : Int) (c b : Int) (n : Nat), ss.all (f6 p.vars.length p.arrays.length d) = true → n + M4 ss ≤ 4000000 → i9.ok Tryz.prog ⟨93, [pA 0, .ref 7, iA cx, .fn 137 [.ptr 3 0, .ptr 4 0, .ptr 5 0, .ptr 6 0]], pS p ++ fcB aq8 c n b ++ [.dat (.stmts ss)],
   pS p ++ fcB aq8 ((x7 p d cx ss).foldl (f9 (G8 p)) (c, b, n)).1 ((x7 p d cx ss).foldl (f9 (G8 p)) (c, b, n)).2.2 ((x7 p d cx ss).foldl (f9 (G8 p)) (c, b, n)).2.1 ++ [.dat (.stmts ss)], .tup []⟩ := by
 intro d
 induction d with
 | zero =>
  intro ss cx c b n hs hn
  have h0 : ss = [] := by
   cases ss with
   | nil => rfl
   | cons a r => simp [f6] at hs
  subst h0
  exact a82 p 0 [] (fun _ _ _ _ _ h => absurd h (by simp)) cx c b n rfl hn
 | succ d ih => intro ss cx c b n hs hn; exact a82 p d ss (fun tt cx c b n _ h1 h2 => ih tt cx c b n h1 h2) cx c b n hs hn
theorem bH0 (p : d7) (h : l5 p = true) : i9.ok Tryz.prog ⟨93, [pA 0, .ref 2, iA 0, .fn 137 [.ptr 3 0, .ptr 4 0, .ptr 5 0, .ptr 6 0]], pS p ++ fcB aq8 0 0 (-1),
   pS p ++ fcB aq8 ((x7 p 5 0 p.body).foldl (f9 (G8 p)) (0, -1, 0)).1 ((x7 p 5 0 p.body).foldl (f9 (G8 p)) (0, -1, 0)).2.2 ((x7 p 5 0 p.body).foldl (f9 (G8 p)) (0, -1, 0)).2.1, .tup []⟩ :=
 i9.dup (S := pS p ++ fcB aq8 0 0 (-1)) (S' := pS p ++ fcB aq8 ((x7 p 5 0 p.body).foldl (f9 (G8 p)) (0, -1, 0)).1 ((x7 p 5 0 p.body).foldl (f9 (G8 p)) (0, -1, 0)).2.2 ((x7 p 5 0 p.body).foldl (f9 (G8 p)) (0, -1, 0)).2.1) (d := .stmts p.body) (i := 2) (bH1 p 5 p.body 0 0 (-1) 0 (H2 h).1 (by have := (H2 h).2; omega)) rfl rfl rfl (fun ρ h => by simp only [AV.vals, AV.val]; rw [show ρ 7 = ρ 2 from h]) rfl
theorem bg3 (p : d7) (h : l5 p = true) : i9.ok Tryz.prog (E1 66 [pA 0, .bm aq8 [pA 0]] (pS p) (.tup [iA ((x7 p 5 0 p.body).foldl (f9 (G8 p)) (0, -1, 0)).1, iA ((x7 p 5 0 p.body).foldl (f9 (G8 p)) (0, -1, 0)).2.1])) := by
 refine z7 16 Tryz.func66 [dI p.vars, dI p.arrays, dT p.body] [(0, pA 0), (1, .bm 67 [pA 0])] fun G => ?_; refine wp_seq (k8 G d9 [0, 1, 2, 3, 11] [dI p.vars, dI p.arrays, dT p.body, .box (pL 0), .box [.bm 67 [pA 0]]] [(0, pA 0), (2, .ptr 3 0), (3, .ptr 4 0), (4, iA 0), (5, iA 0)] fun G => b7 (wp_seq (k8 G d9 [0, 1, 2, 3, 4, 5, 13, 21] [dI p.vars, dI p.arrays, dT p.body, .box (pL 0), .box [.bm 67 [pA 0]], .box [iA 0], .box [iA (-1)], .box [iA 0]] [(0, pA 0), (2, .ptr 3 0), (3, .ptr 4 0), (4, iA 0), (5, iA 0), (6, .ptr 5 0), (7, .ptr 6 0), (8, .ptr 7 0)] fun G => b7 (wp_seq (k8 G (s4 4 [0, 1, 2, 5, 4, 7, 6] (bH0 p (by assumption))) [0, 1, 2, 5, 6] [dI p.vars, dI p.arrays, dT p.body, .box [iA (ce3 (f9 (G8 p)) (0, -1, 0) (x7 p 5 0 p.body)).fst], .box [iA (ce3 (f9 (G8 p)) (0, -1, 0) (x7 p 5 0 p.body)).snd.fst]] [(0, pA 0), (4, iA 0), (5, iA 0), (6, .ptr 3 0), (7, .ptr 4 0)] fun G => b7 (wp_seq (N3 G d9 [0, 0, 1, 7] [0, 1, 2] [dI p.vars, dI p.arrays, dT p.body] [(0, pA 0), (4, iA (ce3 (f9 (G8 p)) (0, -1, 0) (x7 p 5 0 p.body)).fst), (5, iA (ce3 (f9 (G8 p)) (0, -1, 0) (x7 p 5 0 p.body)).snd.fst)] fun G => b7 (wp_ret ?_)))))))); exact F6 G [0, 1, 2]
theorem bG9 (p : d7) : ∀ (d : Nat) (ss : List b6) (cx : Int) (c b : Int) (n : Nat), ss.all (f6 p.vars.length p.arrays.length d) = true → n + M4 ss ≤ 4000000 → i9.ok Tryz.prog ⟨93, [pA 0, .ref 7, iA cx, .fn 137 [.ptr 3 0, .ptr 4 0, .ptr 5 0, .ptr 6 0]], pS p ++ fcB aq7 c n b ++ [.dat (.stmts ss)],
   pS p ++ fcB aq7 ((x7 p d cx ss).foldl (f9 (G7 p)) (c, b, n)).1 ((x7 p d cx ss).foldl (f9 (G7 p)) (c, b, n)).2.2 ((x7 p d cx ss).foldl (f9 (G7 p)) (c, b, n)).2.1 ++ [.dat (.stmts ss)], .tup []⟩ := by
 intro d
 induction d with
 | zero =>
  intro ss cx c b n hs hn
  have h0 : ss = [] := by
   cases ss with
   | nil => rfl
   | cons a r => simp [f6] at hs
  subst h0
  exact a81 p 0 [] (fun _ _ _ _ _ h => absurd h (by simp)) cx c b n rfl hn
 | succ d ih => intro ss cx c b n hs hn; exact a81 p d ss (fun tt cx c b n _ h1 h2 => ih tt cx c b n h1 h2) cx c b n hs hn
theorem bG8 (p : d7) (h : l5 p = true) : i9.ok Tryz.prog ⟨93, [pA 0, .ref 2, iA 0, .fn 137 [.ptr 3 0, .ptr 4 0, .ptr 5 0, .ptr 6 0]], pS p ++ fcB aq7 0 0 (-1),
   pS p ++ fcB aq7 ((x7 p 5 0 p.body).foldl (f9 (G7 p)) (0, -1, 0)).1 ((x7 p 5 0 p.body).foldl (f9 (G7 p)) (0, -1, 0)).2.2 ((x7 p 5 0 p.body).foldl (f9 (G7 p)) (0, -1, 0)).2.1, .tup []⟩ :=
 i9.dup (S := pS p ++ fcB aq7 0 0 (-1)) (S' := pS p ++ fcB aq7 ((x7 p 5 0 p.body).foldl (f9 (G7 p)) (0, -1, 0)).1 ((x7 p 5 0 p.body).foldl (f9 (G7 p)) (0, -1, 0)).2.2 ((x7 p 5 0 p.body).foldl (f9 (G7 p)) (0, -1, 0)).2.1) (d := .stmts p.body) (i := 2) (bG9 p 5 p.body 0 0 (-1) 0 (H2 h).1 (by have := (H2 h).2; omega)) rfl rfl rfl (fun ρ h => by simp only [AV.vals, AV.val]; rw [show ρ 7 = ρ 2 from h]) rfl
theorem bg2 (p : d7) (h : l5 p = true) : i9.ok Tryz.prog (E1 66 [pA 0, .bm aq7 [pA 0]] (pS p) (.tup [iA ((x7 p 5 0 p.body).foldl (f9 (G7 p)) (0, -1, 0)).1, iA ((x7 p 5 0 p.body).foldl (f9 (G7 p)) (0, -1, 0)).2.1])) := by
 refine z7 16 Tryz.func66 [dI p.vars, dI p.arrays, dT p.body] [(0, pA 0), (1, .bm 68 [pA 0])] fun G => ?_; refine wp_seq (k8 G d9 [0, 1, 2, 3, 11] [dI p.vars, dI p.arrays, dT p.body, .box (pL 0), .box [.bm 68 [pA 0]]] [(0, pA 0), (2, .ptr 3 0), (3, .ptr 4 0), (4, iA 0), (5, iA 0)] fun G => b7 (wp_seq (k8 G d9 [0, 1, 2, 3, 4, 5, 13, 21] [dI p.vars, dI p.arrays, dT p.body, .box (pL 0), .box [.bm 68 [pA 0]], .box [iA 0], .box [iA (-1)], .box [iA 0]] [(0, pA 0), (2, .ptr 3 0), (3, .ptr 4 0), (4, iA 0), (5, iA 0), (6, .ptr 5 0), (7, .ptr 6 0), (8, .ptr 7 0)] fun G => b7 (wp_seq (k8 G (s4 4 [0, 1, 2, 5, 4, 7, 6] (bG8 p (by assumption))) [0, 1, 2, 5, 6] [dI p.vars, dI p.arrays, dT p.body, .box [iA (ce3 (f9 (G7 p)) (0, -1, 0) (x7 p 5 0 p.body)).fst], .box [iA (ce3 (f9 (G7 p)) (0, -1, 0) (x7 p 5 0 p.body)).snd.fst]] [(0, pA 0), (4, iA 0), (5, iA 0), (6, .ptr 3 0), (7, .ptr 4 0)] fun G => b7 (wp_seq (N3 G d9 [0, 0, 1, 7] [0, 1, 2] [dI p.vars, dI p.arrays, dT p.body] [(0, pA 0), (4, iA (ce3 (f9 (G7 p)) (0, -1, 0) (x7 p 5 0 p.body)).fst), (5, iA (ce3 (f9 (G7 p)) (0, -1, 0) (x7 p 5 0 p.body)).snd.fst)] fun G => b7 (wp_ret ?_)))))))); exact F6 G [0, 1, 2]
theorem av7 (p : d7) (hb : i5 p.body ≤ 1048576) : i9.ok Tryz.prog (E1 19 [pA 0] (pS p) (.tup [iA (C7 p false).1, iA (C7 p false).2])) := by
 refine z7 13 Tryz.func19 [dI p.vars, dI p.arrays, dT p.body] [(0, pA 0)] fun G => ?_; refine wp_seq (k8 G d9 (rg 4) [dI p.vars, dI p.arrays, dT p.body, .box (pL 0)] [(1, .ptr 3 0), (2, iA 0), (3, iA 0)] fun G => b7 (wp_seq (wp_seq (l0 G (s4 1 [0, 1, 2] (L5 p)) [(6, .v (.bool !l5 p))] fun G => b7 ?_)))); cases h0 : (!l5 p)
 ·have q0 : (l5 p) = true := (Eq.mp (cc4 _) h0); refine rF G _ h0 (wp_skip (b7 (wp_seq (k8 G (s4 3 [0, 1, 2] (bg3 p (by assumption))) [0, 1, 2] [dI p.vars, dI p.arrays, dT p.body] [(2, iA (ce3 (f9 (G8 p)) (0, -1, 0) (x7 p 5 0 p.body)).fst), (3, iA (ce3 (f9 (G8 p)) (0, -1, 0) (x7 p 5 0 p.body)).snd.fst)] fun G => b7 (wp_ret ?_))))); exact W2 (.tup [iA (ce3 (f9 (G8 p)) (0, -1, 0) (x7 p 5 0 p.body)).fst, iA (ce3 (f9 (G8 p)) (0, -1, 0) (x7 p 5 0 p.body)).snd.fst]) G [0, 1, 2] (by have e1 : ((C7 p false).fst : Int) = ((ce3 (f9 (G8 p)) (0, -1, 0) (x7 p 5 0 p.body)).fst) := ((bn3 (by assumption)).1.symm); have e2 : ((C7 p false).snd : Int) = ((ce3 (f9 (G8 p)) (0, -1, 0) (x7 p 5 0 p.body)).snd.fst) := ((bn3 (by assumption)).2.symm); (first | rw [e1, e2] | simp only [e1, e2]) <;> rfl)
 ·have q0 : (l5 p) = false := (Eq.mp (cc3 _) h0); refine rT G _ h0 (wp_seq (l0 G d9 [(2, iA 5), (3, iA (-1))] fun G => b7 (wp_ret (l7 ?_)))); exact W2 (.tup [iA 5, iA (-1)]) G [0, 1, 2] (by have e1 : ((C7 p false).fst : Int) = (5) := (by rw [bn1 (by assumption)]; done); have e2 : ((C7 p false).snd : Int) = (-1) := (by rw [bn1 (by assumption)]; done); (first | rw [e1, e2] | simp only [e1, e2]) <;> rfl)
theorem bX8 {p : d7} (h : (C7 p false).1 = 0) : l5 p = true := by
 unfold C7 at h
 split at h
 ·assumption
 ·cases h
theorem aj8 (p : d7) (hb : i5 p.body ≤ 1048576) : i9.ok Tryz.prog (E1 20 [pA 0] (pS p) (.tup [iA (ctR p).1, iA (ctR p).2])) := by
 refine z7 21 Tryz.func20 [dI p.vars, dI p.arrays, dT p.body] [(0, pA 0)] fun G => ?_; refine wp_seq (k8 G d9 (rg 4) [dI p.vars, dI p.arrays, dT p.body, .box (pL 0)] [(1, .ptr 3 0), (2, iA 0), (3, iA 0)] fun G => b7 (wp_seq (wp_seq (l0 G (s4 1 [0, 1, 2] (av7 p (by assumption))) [(4, iA (C7 p false).fst), (5, iA (C7 p false).snd)] fun G => b7 (wp_seq (l0 G d9 [(12, bA ((C7 p false).fst != 0))] fun G => b7 (rcN G (fun h0 q0 => ?_) fun h0 q0 => ?_)))))))
 ·refine wp_skip (b7 (wp_seq (k8 G (s4 3 [0, 1, 2] (bg2 p (bX8 (by assumption)))) [0, 1, 2] [dI p.vars, dI p.arrays, dT p.body] [(2, iA (ce3 (f9 (G7 p)) (0, -1, 0) (x7 p 5 0 p.body)).fst), (3, iA (ce3 (f9 (G7 p)) (0, -1, 0) (x7 p 5 0 p.body)).snd.fst)] fun G => b7 (wp_ret ?_)))); exact W2 (.tup [iA (ce3 (f9 (G7 p)) (0, -1, 0) (x7 p 5 0 p.body)).fst, iA (ce3 (f9 (G7 p)) (0, -1, 0) (x7 p 5 0 p.body)).snd.fst]) G [0, 1, 2] (by have e1 : ((ctR p).fst : Int) = ((ce3 (f9 (G7 p)) (0, -1, 0) (x7 p 5 0 p.body)).fst) := ((congrArg Prod.fst (b61 (by assumption))).trans (bn2 (bX8 (by assumption)) (by assumption)).1.symm); have e2 : ((ctR p).snd : Int) = ((ce3 (f9 (G7 p)) (0, -1, 0) (x7 p 5 0 p.body)).snd.fst) := ((congrArg Prod.snd (b61 (by assumption))).trans (bn2 (bX8 (by assumption)) (by assumption)).2.symm); (first | rw [e1, e2] | simp only [e1, e2]) <;> rfl)
 ·refine wp_seq (l0 G d9 [(2, iA (C7 p false).fst), (3, iA (C7 p false).snd)] fun G => b7 (wp_ret (l7 ?_))); exact W2 (.tup [iA (C7 p false).fst, iA (C7 p false).snd]) G [0, 1, 2] (by have e1 : ((ctR p).fst : Int) = ((C7 p false).fst) := (by rw [b60 (by assumption)]; done); have e2 : ((ctR p).snd : Int) = ((C7 p false).snd) := (by rw [b60 (by assumption)]; done); (first | rw [e1, e2] | simp only [e1, e2]) <;> rfl)
theorem bj1 {a b : b5} (h : ¬ a = b) : A9 a b = false := by
 cases e : A9 a b
 ·rfl
 ·exact absurd ((F3 a b).1 e) h
section
variable {a b : b5} {k : Nat}
theorem sx1 (h : ¬ a.kind = b.kind) : A9 a b = false := bj1 fun e => h (by rw [e])
theorem sx2 (h : ¬ a.value = b.value) : A9 a b = false := bj1 fun e => h (by rw [e])
theorem sx3 (h : ¬ (a.kids.length : Int) = b.kids.length) : A9 a b = false := bj1 fun e => h (by rw [e])
theorem sx4 (h : A9 (a.kids.getD k cb2) (b.kids.getD k cb2) = false) : A9 a b = false := bj1 fun e => by
 subst e
 rw [(F3 _ _).2 rfl] at h; cases h
theorem V3 {α : Type} {l m : List α} {k : Nat} {z : α} (h : l.take k = m.take k) (h1 : k < l.length) (h2 : k < m.length) (e : l.getD k z = m.getD k z) : l.take (k + 1) = m.take (k + 1) := by
 rw [o9 _ _ h1, o9 _ _ h2, h, ← m9 (d := z) h1, ← m9 (d := z) h2, e]
theorem ah1 {α : Type} {l m : List α} {k : Nat} (h : l.take k = m.take k) (h1 : l.length ≤ k) (h2 : (l.length : Int) = m.length) : l = m := by
 rw [cc8 h1, cc8 (by omega)] at h
 exact h
theorem sx5 (h1 : a.kind = b.kind) (h2 : a.value = b.value) (h3 : (a.kids.length : Int) = b.kids.length) (h : a.kids.take k = b.kids.take k) (hk : a.kids.length ≤ k) : A9 a b = true := by
 refine (F3 _ _).2 ?_
 rw [← b5.eta a, ← b5.eta b, h1, h2, ah1 h hk h3]
end
abbrev sxC (a b : b5) : i9 := E1 259 [eA a 0, eA b 1] [dE a.kids, dE b.kids] (bA (A9 a b))
theorem bI9 (x y : b5) (ih : ∀ (u : b5), u ∈ x.kids → ∀ (v : b5), i9.ok Tryz.prog (sxC u v)) : i9.ok Tryz.prog (sxC x y) := by
  refine z7 46 Tryz.func259 [dE x.kids, dE y.kids] [(0, eA x 0), (1, eA y 1)] fun G => ?_; have hl : x.kids.length ≤ 9223372036854775807 := G.len 0 (d := .exprs x.kids) (by kernel_rfl); refine wp_seq (k8 G d9 [0, 1, 2, 10] [dE x.kids, dE y.kids, .box (eL x 0), .box (eL y 1)] [(2, .ptr 2 0), (3, .ptr 3 0), (4, bA false)] fun G => b7 (wp_seq (wp_seq ?_))); cases h0 : (x.kind != y.kind)
  ·
   have q0 := bne_eq_false_iff_eq.1 h0; cases h1 : (x.value != y.value)
   ·
    have q1 := bne_eq_false_iff_eq.1 h1; refine l0 G (O5 (fc h0 (fc h1 fz)) (us [(6, 10, 0), (1011, 1011, 0), (13, 19, 1), (1020, 1020, 1)])) [(26, bA ((x.kids.length : Int) != (y.kids.length : Int)))] fun G => b7 (rcN G (fun h2 q2 => ?_) fun h2 q2 => ?_)
    ·
     refine wp_skip (b7 (wp_seq (wp_seq (C9 G d9 [(2, .ptr 2 0), (3, .ptr 3 0), (4, bA false), (5, iA 0)] fun G => b7 (wp_block ?_))))); refine o7 (κ := Nat) (fun k => k ≤ x.kids.length ∧ x.kids.take k = y.kids.take k) (fun k => x.kids.length - k) (fun k => [dE x.kids, dE y.kids, .box (eL x 0), .box (eL y 1)]) (fun k => [(2, .ptr 2 0), (3, .ptr 3 0), (4, bA false), (5, iA k)]) 0 (by simp [h0, h1, h2]) (s0.at G _ _) ?_; clear G; intro k ρ a w hp G; refine wp_seq (wp_seq (l0 G d9 [(31, bA (decide ((k : Int) < x.kids.length)))] fun G => b7 (N4 G (fun h3 q3 => ?_) fun h3 q3 => ?_)))
     · refine wp_exit (o0 (o0 (n5 (b7 (wp_seq (k8 G d9 [0, 1] [dE x.kids, dE y.kids] [(4, bA true)] fun G => b7 (wp_ret ?_))))))); exact A8 true G [0, 1] (sx5 (by omega) (by omega) (by omega) hp.2 (by omega))
     ·
      refine wp_skip (b7 (wp_seq (wp_block (wp_seq (ai2 G (s4 10 [36, 76] (ih (x.kids.getD k cb2) (ab5 (by omega)) (y.kids.getD k cb2))) [0, 1, 0, 7, 15, 0, 32, 0, 224, 480, 1023, 2047] [(45, .v (.bool !A9 (x.kids.getD k cb2) (y.kids.getD k cb2)))] (iX k k x.kids.length (iX k k y.kids.length [])) (iK (by have hp := hp; omega) (iK (by have hp := hp; omega) cc1)) fun G => b7 ?_))))); cases h4 : (!A9 (x.kids.getD k cb2) (y.kids.getD k cb2))
      · have q4 : (A9 (x.kids.getD k cb2) (y.kids.getD k cb2)) = true := (Eq.mp (cc4 _) h4); refine rF G _ h4 (wp_skip (m6 (b7 (D7 G d9 [(5, iA ((k : Int) + 1))] [wO ((k : Int) + 1)] (o1 (by omega)) fun G => b7 ?_)))); exact M7 G (k + 1) (⟨by omega, V3 hp.2 (by omega) (by omega) ((F3 _ _).1 (by with_reducible assumption))⟩) (by have hp := hp; omega) (rg 4)
      · have q4 : (A9 (x.kids.getD k cb2) (y.kids.getD k cb2)) = false := (Eq.mp (cc3 _) h4); refine rT G _ h4 (wp_seq (l0 G d9 [] fun G => b7 (wp_ret (z8 (l7 (l7 (z8 (l7 ?_)))))))); exact A8 false G [0, 1] (sx4 (by with_reducible assumption))
    · refine wp_seq (l0 G d9 [] fun G => b7 (wp_ret (l7 ?_))); exact A8 false G [0, 1] (sx3 (by omega))
   · have q1 := bne_iff_ne.1 h1; refine l0 G (O5 (fc h0 (fc h1 fz)) (us [(6, 10, 0), (1011, 1011, 0), (13, 19, 1), (1020, 1020, 1)])) [(26, bA true)] fun G => b7 (rT G true (by kernel_rfl) (wp_seq (l0 G d9 [] fun G => b7 (wp_ret (l7 ?_))))); exact A8 false G [0, 1] (sx2 (by omega))
  · have q0 := bne_iff_ne.1 h0; refine l0 G (O5 (fc h0 (fc (b := true) rfl fz)) (us [(6, 10, 0), (1011, 1011, 0), (13, 19, 1), (1020, 1020, 1)])) [(26, bA true)] fun G => b7 (rT G true (by kernel_rfl) (wp_seq (l0 G d9 [] fun G => b7 (wp_ret (l7 ?_))))); exact A8 false G [0, 1] (sx1 (by omega))
theorem ae8 (x : b5) : ∀ (y : b5), i9.ok Tryz.prog (sxC x y) :=
 b5.ind (P := fun x => ∀ (y : b5), i9.ok Tryz.prog (sxC x y)) (fun k n ks ih y => bI9 ⟨k, n, ks⟩ y fun u hu => ih u hu) x
theorem aj6 (xs ys : List Int) : i9.ok Tryz.prog (E1 225 [.ref 0, .ref 1] [dI xs, dI ys] (bA (decide (xs = ys)))) := by
  refine z7 26 Tryz.func225 [dI xs, dI ys] [(0, .ref 0), (1, .ref 1)] fun G => ?_; have hl : xs.length ≤ 9223372036854775807 := G.len 0 (d := .ints xs) (by kernel_rfl); refine wp_seq (C9 G d9 [(0, .ref 0), (1, .ref 1), (4, bA false)] fun G => b7 (wp_seq (wp_seq (l0 G d9 [(10, bA ((xs.length : Int) != (ys.length : Int)))] fun G => b7 (rcN G (fun h0 q0 => ?_) fun h0 q0 => ?_)))))
  ·
   refine wp_skip (b7 (wp_seq (wp_seq (C9 G d9 [(0, .ref 0), (1, .ref 1), (4, bA false), (5, iA 0)] fun G => b7 (wp_block ?_))))); refine o7 (κ := Nat) (fun k => k ≤ xs.length ∧ xs.take k = ys.take k) (fun k => xs.length - k) (fun k => [dI xs, dI ys]) (fun k => [(0, .ref 0), (1, .ref 1), (4, bA false), (5, iA k)]) 0 (by simp [h0]) (s0.at G _ _) ?_; clear G; intro k ρ a w hp G; refine wp_seq (wp_seq (l0 G d9 [(14, bA (decide ((k : Int) < xs.length)))] fun G => b7 (N4 G (fun h1 q1 => ?_) fun h1 q1 => ?_)))
   · refine wp_exit (o0 (o0 (n5 (b7 (wp_seq (l0 G d9 [(4, bA true)] fun G => b7 (wp_ret ?_))))))); exact A8 true G [0, 1] (decide_eq_true (ah1 hp.2 (by omega) (by omega)))
   ·
    refine wp_skip (b7 (wp_seq (wp_block (wp_seq (ai2 G d9 [0, 0, 3, 7, 0, 0, 48, 112, 255] [(25, bA (xs.getD k 0 != ys.getD k 0))] (iX k k xs.length (iX k k ys.length [])) (iK (by have hp := hp; omega) (iK (by have hp := hp; omega) cc1)) fun G => b7 (rcN G (fun h2 q2 => ?_) fun h2 q2 => ?_))))))
    · refine wp_skip (m6 (b7 (D7 G d9 [(5, iA ((k : Int) + 1))] [wO ((k : Int) + 1)] (o1 (by omega)) fun G => b7 ?_))); exact M7 G (k + 1) (⟨by omega, V3 hp.2 (by omega) (by omega) (by omega)⟩) (by have hp := hp; omega) [0, 1]
    · refine wp_seq (l0 G d9 [] fun G => b7 (wp_ret (z8 (l7 (l7 (z8 (l7 ?_))))))); exact A8 false G [0, 1] (by exact decide_eq_false fun e => by subst e; omega)
  · refine wp_seq (l0 G d9 [] fun G => b7 (wp_ret (l7 ?_))); exact A8 false G [0, 1] (by exact decide_eq_false fun e => by subst e; omega)
theorem aH4 {s t : b6} (h : ¬ s = t) : I7 s t = false := by
 cases e : I7 s t
 ·rfl
 ·exact absurd ((ab1 s t).1 e) h
theorem bQ9 {l m : List b6} (h : ¬ l = m) : p6 l m = false := by
 cases e : p6 l m
 ·rfl
 ·exact absurd ((F2 l m).1 e) h
section
variable {s t : b6} {l m : List b6} {k : Nat}
theorem sr1 (h : ¬ s.kind = t.kind) : I7 s t = false := aH4 fun e => h (by rw [e])
theorem sr2 (h : ¬ s.target = t.target) : I7 s t = false := aH4 fun e => h (by rw [e])
theorem sr3 (h : ¬ s.count = t.count) : I7 s t = false := aH4 fun e => h (by rw [e])
theorem sr4 (h : A9 s.index t.index = false) : I7 s t = false := aH4 fun e => by subst e; rw [(F3 _ _).2 rfl] at h; cases h
theorem sr5 (h : A9 s.value t.value = false) : I7 s t = false := aH4 fun e => by subst e; rw [(F3 _ _).2 rfl] at h; cases h
theorem sr6 (h : p6 s.body t.body = false) : I7 s t = false := aH4 fun e => by subst e; rw [(F2 _ _).2 rfl] at h; cases h
theorem sr7 (h : p6 s.els t.els = false) : I7 s t = false := aH4 fun e => by subst e; rw [(F2 _ _).2 rfl] at h; cases h
theorem sr8 (h1 : s.kind = t.kind) (h2 : s.target = t.target) (h3 : s.count = t.count) (h4 : A9 s.index t.index = true) (h5 : A9 s.value t.value = true) (h6 : p6 s.body t.body = true) : I7 s t = p6 s.els t.els := by
 cases e : p6 s.els t.els
 ·exact sr7 e
 ·refine (ab1 _ _).2 ?_
  rw [← b6.eta s, ← b6.eta t, h1, h2, h3, (F3 _ _).1 h4, (F3 _ _).1 h5, (F2 _ _).1 h6, (F2 _ _).1 e]
theorem sb1 (h : ¬ (l.length : Int) = m.length) : p6 l m = false := bQ9 fun e => h (by rw [e])
theorem sb2 (h : I7 (l.getD k cb2) (m.getD k cb2) = false) : p6 l m = false := bQ9 fun e => by
 subst e
 rw [(ab1 _ _).2 rfl] at h; cases h
theorem sb3 (h3 : (l.length : Int) = m.length) (h : l.take k = m.take k) (hk : l.length ≤ k) : p6 l m = true := (F2 _ _).2 (ah1 h hk h3)
end
abbrev sbC (l m : List b6) : i9 := E1 226 [.ref 0, .ref 1] [dT l, dT m] (bA (p6 l m))
abbrev ssC (s t : b6) : i9 := E1 248 [sA s 0, sA t 4] (sS s ++ sS t) (bA (I7 s t))
abbrev ar1 (s : b6) (t : b6) (r0 : List It) : List It := dE s.index.kids :: dE s.value.kids :: dT s.body :: dT s.els :: dE t.index.kids :: dE t.value.kids :: dT t.body :: dT t.els :: r0
theorem bJ0 (s t : b6) (ih1 : ∀ (m : List b6), i9.ok Tryz.prog (sbC s.body m)) (ih2 : ∀ (m : List b6), i9.ok Tryz.prog (sbC s.els m)) : i9.ok Tryz.prog (ssC s t) := by
  refine z7 52 Tryz.func248 (ar1 s t []) [(0, sA s 0), (1, sA t 4)] fun G => ?_; refine wp_seq (k8 G d9 [0, 1, 2, 3, 4, 5, 6, 7, 8, 16] (ar1 s t [.box (sL s 0), .box (sL t 4)]) [(2, .ptr 8 0), (3, .ptr 9 0), (4, bA false)] fun G => b7 (wp_seq ?_)); cases h0 : (s.kind == t.kind)
  · have q0 := ne_of_beq_false h0; refine k8 G (O5 (fc h0 (fc (b := false) rfl fz)) (us [(6, 10, 0), (1011, 1011, 0), (13, 17, 1), (1018, 1018, 1), (20, 24, 1), (1025, 1025, 1), (27, 31, 1), (1032, 1032, 1), (34, 38, 1), (1039, 1039, 1), (41, 45, 1), (1046, 1046, 1)])) (rg 8) (ar1 s t []) [(4, bA false)] fun G => b7 (wp_ret ?_); exact A8 false G (rg 8) (sr1 (by omega))
  ·
   have q0 := eq_of_beq h0; cases h1 : (s.target == t.target)
   · have q1 := ne_of_beq_false h1; refine k8 G (O5 (fc h0 (fc h1 (fc (b := false) rfl fz))) (us [(6, 10, 0), (1011, 1011, 0), (13, 17, 1), (1018, 1018, 1), (20, 24, 2), (1025, 1025, 2), (27, 31, 2), (1032, 1032, 2), (34, 38, 2), (1039, 1039, 2), (41, 45, 2), (1046, 1046, 2)])) (rg 8) (ar1 s t []) [(4, bA false)] fun G => b7 (wp_ret ?_); exact A8 false G (rg 8) (sr2 (by omega))
   ·
    have q1 := eq_of_beq h1; cases h2 : (s.count == t.count)
    · have q2 := ne_of_beq_false h2; refine k8 G (O5 (fc h0 (fc h1 (fc h2 (fc (b := false) rfl fz)))) (us [(6, 10, 0), (1011, 1011, 0), (13, 17, 1), (1018, 1018, 1), (20, 24, 2), (1025, 1025, 2), (27, 31, 3), (1032, 1032, 3), (34, 38, 3), (1039, 1039, 3), (41, 45, 3), (1046, 1046, 3)])) (rg 8) (ar1 s t []) [(4, bA false)] fun G => b7 (wp_ret ?_); exact A8 false G (rg 8) (sr3 (by omega))
    ·
     have q2 := eq_of_beq h2; cases h3 : (A9 s.index t.index)
     · refine k8 G (t4 (l8 24 [0, 4] (ae8 s.index t.index) t3) (fc h0 (fc h1 (fc h2 (fc h3 (fc (b := false) rfl fz))))) (us [(6, 10, 0), (1011, 1011, 0), (13, 17, 1), (1018, 1018, 1), (20, 24, 2), (1025, 1025, 2), (27, 31, 3), (1032, 1032, 3), (34, 38, 4), (1039, 1039, 4), (41, 45, 4), (1046, 1046, 4)])) (rg 8) (ar1 s t []) [(4, bA false)] fun G => b7 (wp_ret ?_); exact A8 false G (rg 8) (sr4 (by with_reducible assumption))
     ·
      cases h4 : (A9 s.value t.value)
      · refine k8 G (t4 (l8 24 [0, 4] (ae8 s.index t.index) (l8 31 [1, 5] (ae8 s.value t.value) t3)) (fc h0 (fc h1 (fc h2 (fc h3 (fc h4 (fc (b := false) rfl fz)))))) (us [(6, 10, 0), (1011, 1011, 0), (13, 17, 1), (1018, 1018, 1), (20, 24, 2), (1025, 1025, 2), (27, 31, 3), (1032, 1032, 3), (34, 38, 4), (1039, 1039, 4), (41, 45, 5), (1046, 1046, 5)])) (rg 8) (ar1 s t []) [(4, bA false)] fun G => b7 (wp_ret ?_); exact A8 false G (rg 8) (sr5 (by with_reducible assumption))
      ·
       cases h5 : (p6 s.body t.body)
       · refine k8 G (t4 (l8 24 [0, 4] (ae8 s.index t.index) (l8 31 [1, 5] (ae8 s.value t.value) (l8 38 [2, 6] (ih1 t.body) t3))) (fc h0 (fc h1 (fc h2 (fc h3 (fc h4 (fc h5 fz)))))) (us [(6, 10, 0), (1011, 1011, 0), (13, 17, 1), (1018, 1018, 1), (20, 24, 2), (1025, 1025, 2), (27, 31, 3), (1032, 1032, 3), (34, 38, 4), (1039, 1039, 4), (41, 45, 5), (1046, 1046, 5)])) (rg 8) (ar1 s t []) [(4, bA false)] fun G => b7 (wp_ret ?_); exact A8 false G (rg 8) (sr6 (by with_reducible assumption))
       · refine k8 G (t4 (l8 24 [0, 4] (ae8 s.index t.index) (l8 31 [1, 5] (ae8 s.value t.value) (l8 38 [2, 6] (ih1 t.body) (l8 45 [3, 7] (ih2 t.els) t3)))) (fc h0 (fc h1 (fc h2 (fc h3 (fc h4 (fc h5 fz)))))) (us [(6, 10, 0), (1011, 1011, 0), (13, 17, 1), (1018, 1018, 1), (20, 24, 2), (1025, 1025, 2), (27, 31, 3), (1032, 1032, 3), (34, 38, 4), (1039, 1039, 4), (41, 45, 5), (1046, 1046, 5)])) (rg 8) (ar1 s t []) [(4, bA (p6 s.els t.els))] fun G => b7 (wp_ret ?_); exact A8 (p6 s.els t.els) G (rg 8) (sr8 (by omega) (by omega) (by omega) (by with_reducible assumption) (by with_reducible assumption) (by with_reducible assumption))
theorem aV8 (l m : List b6) (ih : ∀ (s : b6), s ∈ l → ∀ (t : b6), i9.ok Tryz.prog (ssC s t)) : i9.ok Tryz.prog (sbC l m) := by
  refine z7 27 Tryz.func226 [dT l, dT m] [(0, .ref 0), (1, .ref 1)] fun G => ?_; have hl : l.length ≤ 9223372036854775807 := G.len 0 (d := .stmts l) (by kernel_rfl); refine wp_seq (C9 G d9 [(0, .ref 0), (1, .ref 1), (4, bA false)] fun G => b7 (wp_seq (wp_seq (l0 G d9 [(10, bA ((l.length : Int) != (m.length : Int)))] fun G => b7 (rcN G (fun h0 q0 => ?_) fun h0 q0 => ?_)))))
  ·
   refine wp_skip (b7 (wp_seq (wp_seq (C9 G d9 [(0, .ref 0), (1, .ref 1), (4, bA false), (5, iA 0)] fun G => b7 (wp_block ?_))))); refine o7 (κ := Nat) (fun k => k ≤ l.length ∧ l.take k = m.take k) (fun k => l.length - k) (fun k => [dT l, dT m]) (fun k => [(0, .ref 0), (1, .ref 1), (4, bA false), (5, iA k)]) 0 (by simp [h0]) (s0.at G _ _) ?_; clear G; intro k ρ a w hp G; refine wp_seq (wp_seq (l0 G d9 [(14, bA (decide ((k : Int) < l.length)))] fun G => b7 (N4 G (fun h1 q1 => ?_) fun h1 q1 => ?_)))
   · refine wp_exit (o0 (o0 (n5 (b7 (wp_seq (l0 G d9 [(4, bA true)] fun G => b7 (wp_ret ?_))))))); exact A8 true G [0, 1] (sb3 (by omega) hp.2 (by omega))
   ·
    refine wp_skip (b7 (wp_seq (wp_block (wp_seq (ai2 G (s4 8 [26, 27, 28, 29, 58, 59, 60, 61] (ih (l.getD k cb2) (X2 (by omega)) (m.getD k cb2))) [0, 0, 3, 7, 0, 0, 48, 112, 255, 511] [(26, .v (.bool !I7 (l.getD k cb2) (m.getD k cb2)))] (iX k k l.length (iX k k m.length [])) (iK (by have hp := hp; omega) (iK (by have hp := hp; omega) cc1)) fun G => b7 ?_))))); cases h2 : (!I7 (l.getD k cb2) (m.getD k cb2))
    · have q2 : (I7 (l.getD k cb2) (m.getD k cb2)) = true := (Eq.mp (cc4 _) h2); refine rF G _ h2 (wp_skip (m6 (b7 (D7 G d9 [(5, iA ((k : Int) + 1))] [wO ((k : Int) + 1)] (o1 (by omega)) fun G => b7 ?_)))); exact M7 G (k + 1) (⟨by omega, V3 hp.2 (by omega) (by omega) ((ab1 _ _).1 (by with_reducible assumption))⟩) (by have hp := hp; omega) [0, 1]
    · have q2 : (I7 (l.getD k cb2) (m.getD k cb2)) = false := (Eq.mp (cc3 _) h2); refine rT G _ h2 (wp_seq (l0 G d9 [] fun G => b7 (wp_ret (z8 (l7 (l7 (z8 (l7 ?_)))))))); exact A8 false G [0, 1] (sb2 (by with_reducible assumption))
  · refine wp_seq (l0 G d9 [] fun G => b7 (wp_ret (l7 ?_))); exact A8 false G [0, 1] (sb1 (by omega))
theorem bU0 (s : b6) : ∀ (t : b6), i9.ok Tryz.prog (ssC s t) :=
 b6.ind (P := fun s => ∀ (t : b6), i9.ok Tryz.prog (ssC s t)) (fun k t i v c b e h1 h2 u => bJ0 ⟨k, t, i, v, c, b, e⟩ u (fun m => aV8 b m fun s hs => h1 s hs) fun m => aV8 e m fun s hs => h2 s hs) s
theorem bN6 (l m : List b6) : i9.ok Tryz.prog (sbC l m) := aV8 l m fun s _ => bU0 s
theorem aN6 (xs xt : List Int) (l : List b6) (ys yt : List Int) (m : List b6) : i9.ok Tryz.prog (E1 185 [pA 0, pA 3] [dI xs, dI xt, dT l, dI ys, dI yt, dT m] (bA (decide (xs = ys) && (decide (xt = yt) && p6 l m)))) := by
  refine z7 24 Tryz.func185 [dI xs, dI xt, dT l, dI ys, dI yt, dT m] [(0, pA 0), (1, pA 3)] fun G => ?_; refine wp_seq (k8 G d9 [0, 1, 2, 3, 4, 5, 6, 14] [dI xs, dI xt, dT l, dI ys, dI yt, dT m, .box (pL 0), .box (pL 3)] [(2, .ptr 6 0), (3, .ptr 7 0), (4, bA false)] fun G => b7 (wp_seq ?_)); cases h0 : (decide (xs = ys))
  · have q0 := dFf h0; refine k8 G (t4 (l8 4 [0, 3] (aj6 xs ys) t3) (fc h0 (fc (b := false) rfl fz)) (us [(6, 10, 0), (1011, 1011, 0), (13, 17, 1), (1018, 1018, 1)])) (rg 6) [dI xs, dI xt, dT l, dI ys, dI yt, dT m] [(4, bA false)] fun G => b7 (wp_ret ?_); exact F6 G (rg 6)
  ·
   have q0 := dTt h0; cases h1 : (decide (xt = yt))
   · have q1 := dFf h1; refine k8 G (t4 (l8 4 [0, 3] (aj6 xs ys) (l8 10 [1, 4] (aj6 xt yt) t3)) (fc h0 (fc h1 fz)) (us [(6, 10, 0), (1011, 1011, 0), (13, 17, 1), (1018, 1018, 1)])) (rg 6) [dI xs, dI xt, dT l, dI ys, dI yt, dT m] [(4, bA false)] fun G => b7 (wp_ret ?_); exact F6 G (rg 6)
   · have q1 := dTt h1; refine k8 G (t4 (l8 4 [0, 3] (aj6 xs ys) (l8 10 [1, 4] (aj6 xt yt) (l8 17 [2, 5] (bN6 l m) t3))) (fc h0 (fc h1 fz)) (us [(6, 10, 0), (1011, 1011, 0), (13, 17, 1), (1018, 1018, 1)])) (rg 6) [dI xs, dI xt, dT l, dI ys, dI yt, dT m] [(4, bA (p6 l m))] fun G => b7 (wp_ret ?_); exact F6 G (rg 6)
theorem X4 (vs ars : List Int) (b : List b6) (e : b5) (he : f5 vs.length ars.length 5 e = true) : i9.ok Tryz.prog (E1 159 [pA 0, eA e 3] ([dI vs, dI ars, dT b] ++ eS e) (iA (b9 vs ars 5 e))) := K5 ⟨vs, ars, b⟩ e he
theorem ab8 (vs ars : List Int) (b : List b6) (hb : vs.length + ars.length + i5 b ≤ 1048576) : i9.ok Tryz.prog ⟨78, [pA 0], [dI vs, dI ars, dT b], [dI vs, dI ars, dT b, .row 3 (.ints vs), .row 3 (.ints ars), .tree (.stmts b)], oA 3⟩ := bG1 ⟨vs, ars, b⟩ hb
theorem V0 (vs ars : List Int) (b : List b6) (hb : i5 b ≤ 1048576) : i9.ok Tryz.prog (E1 77 [pA 0] [dI vs, dI ars, dT b] (.tup [iA (C7 ⟨vs, ars, b⟩ false).1, iA (C7 ⟨vs, ars, b⟩ false).2])) := a86 ⟨vs, ars, b⟩ hb
section
variable {vs ars : List Int} {cx : Int} {s : b6} {d : Nat} {b : Bool}
theorem on1 (k : s.kind = 1) : I1 (vs, ars) s cx = (vs.set s.target.toNat (i6 (i6 (vs.getD s.target.toNat 0) (b9 vs ars 5 s.value)) cx), ars) := if_pos k
theorem on2 (k : s.kind = 2) : I1 (vs, ars) s cx = (vs, ars.set s.target.toNat (i6 (i6 (i6 (ars.getD s.target.toNat 0) (b9 vs ars 5 s.value)) (b9 vs ars 5 s.index)) cx)) := by unfold I1; rw [if_neg (by omega), if_pos k]
theorem on0 {q : J9} (k1 : ¬ s.kind = 1) (k2 : ¬ s.kind = 2) : I1 q s cx = q := by unfold I1; rw [if_neg k1, if_neg k2]
theorem up1 {q : J9} (h1 : s.body = []) (h2 : s.els = []) : upS b (d + 1) q cx s = I1 q s cx := by rw [ag9, h1, h2]; rfl
theorem up3 {q : J9} (k : s.kind = 3) : upS true (d + 1) q cx s = y6 true d (y6 true d q (i6 cx (b9 q.1 q.2 5 s.value)) s.body) (i6 cx (b9 (y6 true d q (i6 cx (b9 q.1 q.2 5 s.value)) s.body).1 (y6 true d q (i6 cx (b9 q.1 q.2 5 s.value)) s.body).2 5 s.value)) s.els := by
 rw [ag9, on0 (by omega) (by omega)]
 unfold af9
 simp only [if_pos k, if_true]
theorem up4 {q : J9} (k : s.kind = 4) (h2 : s.els = []) : upS b (d + 1) q cx s = y6 b d q cx s.body := by
 rw [ag9, on0 (by omega) (by omega), h2]
 unfold af9
 simp only [if_neg (show ¬ s.kind = 3 by omega)]
 rfl
theorem ah0 {q : J9} {ss : List b6} {k : Nat} (hk : k < ss.length) : y6 b d q cx (ss.take (k + 1)) = upS b d (y6 b d q cx (ss.take k)) cx (ss.getD k cb2) := by
 unfold y6
 rw [o9 _ _ hk, List.foldl_append, m9 hk]; rfl
theorem aB7 {nv na d k : Nat} {ss : List b6} (hs : ss.all (f6 nv na (d + 1)) = true) (hk : k < ss.length) (k3 : ¬ (ss.getD k cb2).kind = 3) : (ss.getD k cb2).els = [] ∧ (¬ (ss.getD k cb2).kind = 4 → (ss.getD k cb2).body = []) := by
 have h0 := cc2.1 hs _ (cd7 hk)
 rw [← m9 (d := cb2) hk] at h0
 rw [f6, cb3] at h0
 have h1 := h0.1
 unfold y7 at h1
 by_cases k4 : (ss.getD k cb2).kind = 4
 ·rw [if_pos (.inr k4), if_pos k4] at h1
  simp only [cb3, decide_eq_true_eq] at h1
  exact ⟨cc7 h1.2.1.1.1.1, fun h => absurd k4 h⟩
 ·rw [if_neg (by omega)] at h1
  simp only [cb3, decide_eq_true_eq] at h1
  exact ⟨cc7 h1.1.1.2, fun _ => cc7 h1.1.1.1⟩
section
variable {nv na d k : Nat} {ss : List b6} {q : J9} {cx : Int}
theorem rn1 (hs : ss.all (f6 nv na (d + 1)) = true) (hk : k < ss.length) (k1 : (ss.getD k cb2).kind = 1) : y6 true (d + 1) q cx (ss.take (k + 1)) = ((y6 true (d + 1) q cx (ss.take k)).1.set (ss.getD k cb2).target.toNat (i6 (i6 ((y6 true (d + 1) q cx (ss.take k)).1.getD (ss.getD k cb2).target.toNat 0) (b9 (y6 true (d + 1) q cx (ss.take k)).1 (y6 true (d + 1) q cx (ss.take k)).2 5 (ss.getD k cb2).value)) cx), (y6 true (d + 1) q cx (ss.take k)).2) := by
 have h1 := aB7 hs hk (by omega)
 rw [ah0 hk, up1 (h1.2 (by omega)) h1.1]
 exact on1 k1
theorem rn2 (hs : ss.all (f6 nv na (d + 1)) = true) (hk : k < ss.length) (k2 : (ss.getD k cb2).kind = 2) : y6 true (d + 1) q cx (ss.take (k + 1)) = ((y6 true (d + 1) q cx (ss.take k)).1, (y6 true (d + 1) q cx (ss.take k)).2.set (ss.getD k cb2).target.toNat (i6 (i6 (i6 ((y6 true (d + 1) q cx (ss.take k)).2.getD (ss.getD k cb2).target.toNat 0) (b9 (y6 true (d + 1) q cx (ss.take k)).1 (y6 true (d + 1) q cx (ss.take k)).2 5 (ss.getD k cb2).value)) (b9 (y6 true (d + 1) q cx (ss.take k)).1 (y6 true (d + 1) q cx (ss.take k)).2 5 (ss.getD k cb2).index)) cx)) := by
 have h1 := aB7 hs hk (by omega)
 rw [ah0 hk, up1 (h1.2 (by omega)) h1.1]
 exact on2 k2
theorem rn3 (hk : k < ss.length) (k3 : (ss.getD k cb2).kind = 3) : y6 true (d + 1) q cx (ss.take (k + 1)) = y6 true d (y6 true d (y6 true (d + 1) q cx (ss.take k)) (i6 cx (b9 (y6 true (d + 1) q cx (ss.take k)).1 (y6 true (d + 1) q cx (ss.take k)).2 5 (ss.getD k cb2).value)) (ss.getD k cb2).body) (i6 cx (b9 (y6 true d (y6 true (d + 1) q cx (ss.take k)) (i6 cx (b9 (y6 true (d + 1) q cx (ss.take k)).1 (y6 true (d + 1) q cx (ss.take k)).2 5 (ss.getD k cb2).value)) (ss.getD k cb2).body).1 (y6 true d (y6 true (d + 1) q cx (ss.take k)) (i6 cx (b9 (y6 true (d + 1) q cx (ss.take k)).1 (y6 true (d + 1) q cx (ss.take k)).2 5 (ss.getD k cb2).value)) (ss.getD k cb2).body).2 5 (ss.getD k cb2).value)) (ss.getD k cb2).els := by
 rw [ah0 hk, up3 k3]
theorem rn4 (hs : ss.all (f6 nv na (d + 1)) = true) (hk : k < ss.length) (k4 : (ss.getD k cb2).kind = 4) : y6 true (d + 1) q cx (ss.take (k + 1)) = y6 true d (y6 true (d + 1) q cx (ss.take k)) cx (ss.getD k cb2).body := by
 rw [ah0 hk, up4 k4 (aB7 hs hk (by omega)).1]
theorem rn0 (hs : ss.all (f6 nv na (d + 1)) = true) (hk : k < ss.length) (k1 : ¬ (ss.getD k cb2).kind = 1) (k2 : ¬ (ss.getD k cb2).kind = 2) (k3 : ¬ (ss.getD k cb2).kind = 3) (k4 : ¬ (ss.getD k cb2).kind = 4) : y6 true (d + 1) q cx (ss.take (k + 1)) = y6 true (d + 1) q cx (ss.take k) := by
 have h1 := aB7 hs hk k3
 rw [ah0 hk, up1 (h1.2 k4) h1.1, on0 k1 k2]
theorem by2 (hk : ss.length ≤ k) : y6 true (d + 1) q cx ss = y6 true (d + 1) q cx (ss.take k) := by rw [cc8 hk]
theorem aV0 {q r : J9} {s : b6} (h : shP q r) (hv : q.1.length = nv) (ha : q.2.length = na) (hh : t5 nv na s = true) (k : ¬ s.kind = 4) : f5 r.1.length r.2.length 5 s.value = true := by rw [h.1, h.2, hv, ha]; exact n7 hh k
theorem bT8 {q r : J9} {s : b6} (h : shP q r) (hv : q.1.length = nv) (ha : q.2.length = na) (hh : t5 nv na s = true) (k : s.kind = 2) : f5 r.1.length r.2.length 5 s.index = true := by rw [h.1, h.2, hv, ha]; exact X1 hh k
end
end
abbrev raC (vs ars : List Int) (d : Nat) (bd ss : List b6) (cx : Int) : i9 := ⟨184, [pA 0, .ref 3, iA cx], [.row 3 (.ints vs), .row 3 (.ints ars), dT bd, dT ss], [.row 3 (.ints (y6 true d (vs, ars) cx ss).1), .row 3 (.ints (y6 true d (vs, ars) cx ss).2), dT bd, dT ss], .tup []⟩
abbrev ag4 (d : Nat) (ss : List b6) (vs : List Int) (ars : List Int) (cx : Int) (k : Nat) := y6 true d (y6 true (d + 1) (vs, ars) cx (cc0 k ss)) (i6 cx (b9 (y6 true (d + 1) (vs, ars) cx (cc0 k ss)).fst (y6 true (d + 1) (vs, ars) cx (cc0 k ss)).snd 5 (ss.getD k cb2).value)) (ss.getD k cb2).body
abbrev t2 (d : Nat) (ss : List b6) (vs : List Int) (ars : List Int) (cx : Int) (k : Nat) := y6 true (d + 1) (vs, ars) cx (cc0 k ss)
abbrev bh4 (d : Nat) (ss : List b6) (vs : List Int) (ars : List Int) (cx : Int) (k : Nat) := y6 true d (ag4 d ss vs ars cx k) (i6 cx (b9 (ag4 d ss vs ars cx k).fst (ag4 d ss vs ars cx k).snd 5 (ss.getD k cb2).value)) (ss.getD k cb2).els
abbrev aD9 (cx : Int) (k : Nat) (r0 : List (Nat × AV)) : List (Nat × AV) := (1, .ref 3) :: (2, iA cx) :: (3, .ptr 4 0) :: (6, iA (k : Int)) :: r0
theorem aP9 (nv na d : Nat) (bd ss : List b6) (ih : ∀ (vs ars : List Int) (tt : List b6) (cx : Int), 0 < ss.length → vs.length = nv → ars.length = na → tt.all (f6 nv na d) = true → i9.ok Tryz.prog (raC vs ars d bd tt cx))
    (vs ars : List Int) (cx : Int) (hv : vs.length = nv) (ha : ars.length = na) (hs : ss.all (f6 nv na (d + 1)) = true) : i9.ok Tryz.prog (raC vs ars (d + 1) bd ss cx) := by
  refine z7 94 Tryz.func184 [.row 3 (D.ints vs), .row 3 (D.ints ars), dT bd, dT ss] [(0, pA 0), (1, .ref 3), (2, iA cx)] fun G => ?_; have hlen : ss.length ≤ 9223372036854775807 := G.len 3 (d := .stmts ss) (by kernel_rfl); refine wp_seq (k8 G d9 (rg 5) [.row 3 (D.ints vs), .row 3 (D.ints ars), dT bd, dT ss, .box (pL 0)] [(1, .ref 3), (2, iA cx), (3, .ptr 4 0)] fun G => b7 (wp_seq (C9 G d9 [(1, .ref 3), (2, iA cx), (3, .ptr 4 0), (6, iA 0)] fun G => b7 (wp_block ?_)))); refine o7 (κ := Nat) (fun k => k ≤ ss.length) (fun k => ss.length - k) (fun k => [.row 3 (.ints (y6 true (d + 1) (vs, ars) cx (ss.take k)).1), .row 3 (.ints (y6 true (d + 1) (vs, ars) cx (ss.take k)).2), dT bd, dT ss, .box (pL 0)]) (fun k => [(1, .ref 3), (2, iA cx), (3, .ptr 4 0), (6, iA k)]) 0 (by simp [hs]) (s0.at G _ _) ?_; clear G; intro k ρ a w hp G; replace G := s0.at G [.row 3 (D.ints (t2 d ss vs ars cx k).fst), .row 3 (D.ints (t2 d ss vs ars cx k).snd), dT bd, dT ss, .box (pL 0)] (aD9 cx k []); have hsh : shP (vs, ars) (y6 true (d + 1) (vs, ars) cx (ss.take k)) := ap0; refine wp_seq (wp_seq (l0 G d9 [(11, bA (decide ((k : Int) < ss.length)))] fun G => b7 (N4 G (fun h0 q0 => ?_) fun h0 q0 => ?_)))
  · refine wp_exit (o0 (o0 (n5 ?_))); exact am2 G (rg 4) (by show _ = mR (rg 4) [.row 3 (D.ints (y6 true (d + 1) (vs, ars) cx ss).fst), .row 3 (D.ints (y6 true (d + 1) (vs, ars) cx ss).snd), dT bd, dT ss]; have e1 : ((y6 true (d + 1) (vs, ars) cx ss).fst : List Int) = ((t2 d ss vs ars cx k).fst) := (congrArg Prod.fst (by2 (by omega))); have e2 : ((y6 true (d + 1) (vs, ars) cx ss).snd : List Int) = ((t2 d ss vs ars cx k).snd) := (congrArg Prod.snd (by2 (by omega))); (first | rw [e1, e2] | simp only [e1, e2]) <;> rfl)
  ·
   refine wp_skip (b7 (wp_seq (wp_block (wp_seq (N5 G d9 [0, 1, 2, 3, 4, 29, 30, 31, 32, 37] [.row 3 (D.ints (t2 d ss vs ars cx k).fst), .row 3 (D.ints (t2 d ss vs ars cx k).snd), dT bd, dT ss, .box (pL 0), dE (ss.getD k cb2).index.kids, dE (ss.getD k cb2).value.kids, dT (ss.getD k cb2).body, dT (ss.getD k cb2).els, .box (sL (ss.getD k cb2) 5)] (aD9 cx k [(7, .ptr 9 0)]) (iX k k ss.length []) (iK (by omega) cc1) fun G => b7 (wp_seq (l0 G d9 [(19, iA (ss.getD k cb2).kind)] fun G => b7 (wp_block (wp_seq (l0 G d9 [(20, bA ((ss.getD k cb2).kind == 1))] fun G => b7 (P4 G (fun h1 q1 => ?_) fun h1 q1 => ?_)))))))))))
   ·
    refine wp_seq (l0 G d9 [(40, bA ((ss.getD k cb2).kind == 2))] fun G => b7 (P4 G (fun h2 q2 => ?_) fun h2 q2 => ?_))
    ·
     refine wp_seq (l0 G d9 [(65, bA ((ss.getD k cb2).kind == 3))] fun G => b7 (P4 G (fun h3 q3 => ?_) fun h3 q3 => ?_))
     ·
      refine wp_seq (l0 G d9 [(87, bA ((ss.getD k cb2).kind == 4))] fun G => b7 (P4 G (fun h4 q4 => ?_) fun h4 q4 => ?_))
      · refine wp_skip (m6 (m6 (b7 (N5 G d9 (rg 5) [.row 3 (D.ints (t2 d ss vs ars cx k).fst), .row 3 (D.ints (t2 d ss vs ars cx k).snd), dT bd, dT ss, .box (pL 0)] [(1, .ref 3), (2, iA cx), (3, .ptr 4 0), (6, iA ((k : Int) + 1))] [wO ((k : Int) + 1)] (o1 (by omega)) fun G => b7 ?_)))); exact M7 G (k + 1) (by omega) (by omega) (rg 5) (by have e1 : ((y6 true (d + 1) (vs, ars) cx (cc0 (k + 1) ss)).fst : List Int) = ((t2 d ss vs ars cx k).fst) := (congrArg Prod.fst (rn0 hs (by omega) (by omega) (by omega) (by omega) (by omega))); have e2 : ((y6 true (d + 1) (vs, ars) cx (cc0 (k + 1) ss)).snd : List Int) = ((t2 d ss vs ars cx k).snd) := (congrArg Prod.snd (rn0 hs (by omega) (by omega) (by omega) (by omega) (by omega))); (first | rw [e1, e2] | simp only [e1, e2]) <;> rfl)
      · refine k8 G (s4 4 [0, 1, 2, 7] (ih ((t2 d ss vs ars cx k).fst) ((t2 d ss vs ars cx k).snd) ((ss.getD k cb2).body) cx (by omega) (hsh.1.trans hv) (hsh.2.trans ha) ((x9 hs (by omega)).2.1))) (rg 5) [.row 3 (D.ints (y6 true d (t2 d ss vs ars cx k) cx (ss.getD k cb2).body).fst), .row 3 (D.ints (y6 true d (t2 d ss vs ars cx k) cx (ss.getD k cb2).body).snd), dT bd, dT ss, .box (pL 0)] (aD9 cx k []) fun G => m6 (m6 (b7 (D7 G d9 [(6, iA ((k : Int) + 1))] [wO ((k : Int) + 1)] (o1 (by omega)) fun G => b7 ?_))); exact M7 G (k + 1) (by omega) (by omega) (rg 5) (by have e1 : ((y6 true (d + 1) (vs, ars) cx (cc0 (k + 1) ss)).fst : List Int) = ((y6 true d (t2 d ss vs ars cx k) cx (ss.getD k cb2).body).fst) := (congrArg Prod.fst (rn4 hs (by omega) (by omega))); have e2 : ((y6 true (d + 1) (vs, ars) cx (cc0 (k + 1) ss)).snd : List Int) = ((y6 true d (t2 d ss vs ars cx k) cx (ss.getD k cb2).body).snd) := (congrArg Prod.snd (rn4 hs (by omega) (by omega))); (first | rw [e1, e2] | simp only [e1, e2]) <;> rfl)
     · refine wp_seq (N3 G (t4 (l8 7 [0, 1, 2, 6] (i9.lend (X4 ((t2 d ss vs ars cx k).fst) ((t2 d ss vs ars cx k).snd) bd ((ss.getD k cb2).value) (aV0 hsh hv ha (x9 hs (by omega)).1 (by omega))) [.row 3, .row 3]) (l8 9 [0, 1, 2, 7] (ih ((t2 d ss vs ars cx k).fst) ((t2 d ss vs ars cx k).snd) ((ss.getD k cb2).body) (i6 cx (b9 (t2 d ss vs ars cx k).fst (t2 d ss vs ars cx k).snd 5 (ss.getD k cb2).value)) (by omega) (hsh.1.trans hv) (hsh.2.trans ha) ((x9 hs (by omega)).2.1)) t3)) fz []) [0, 0, 2, 0, 0, 0, 32, 112, 248, 511] (rg 10) [.row 3 (D.ints (ag4 d ss vs ars cx k).fst), .row 3 (D.ints (ag4 d ss vs ars cx k).snd), dT bd, dT ss, .box (pL 0), dE (ss.getD k cb2).index.kids, dE (ss.getD k cb2).value.kids, dT (ss.getD k cb2).body, dT (ss.getD k cb2).els, .box (sL (ss.getD k cb2) 5)] (aD9 cx k [(7, .ptr 9 0)]) fun G => b7 (N3 G (t4 (l8 7 [0, 1, 2, 6] (i9.lend (X4 ((ag4 d ss vs ars cx k).fst) ((ag4 d ss vs ars cx k).snd) bd ((ss.getD k cb2).value) (aV0 (hsh.trans ap0) hv ha (x9 hs (by omega)).1 (by omega))) [.row 3, .row 3]) (l8 9 [0, 1, 2, 8] (ih ((ag4 d ss vs ars cx k).fst) ((ag4 d ss vs ars cx k).snd) ((ss.getD k cb2).els) (i6 cx (b9 (ag4 d ss vs ars cx k).fst (ag4 d ss vs ars cx k).snd 5 (ss.getD k cb2).value)) (by omega) ((hsh.trans ap0).1.trans hv) ((hsh.trans ap0).2.trans ha) ((x9 hs (by omega)).2.2)) t3)) fz []) [0, 0, 2, 0, 0, 0, 32, 112, 248, 511] (rg 5) [.row 3 (D.ints (bh4 d ss vs ars cx k).fst), .row 3 (D.ints (bh4 d ss vs ars cx k).snd), dT bd, dT ss, .box (pL 0)] (aD9 cx k []) fun G => m6 (m6 (b7 (D7 G d9 [(6, iA ((k : Int) + 1))] [wO ((k : Int) + 1)] (o1 (by omega)) fun G => b7 ?_))))); exact M7 G (k + 1) (by omega) (by omega) (rg 5) (by have e1 : ((y6 true (d + 1) (vs, ars) cx (cc0 (k + 1) ss)).fst : List Int) = ((bh4 d ss vs ars cx k).fst) := (congrArg Prod.fst (rn3 (by omega) (by omega))); have e2 : ((y6 true (d + 1) (vs, ars) cx (cc0 (k + 1) ss)).snd : List Int) = ((bh4 d ss vs ars cx k).snd) := (congrArg Prod.snd (rn3 (by omega) (by omega))); (first | rw [e1, e2] | simp only [e1, e2]) <;> rfl)
    · refine F7 G (t4 (l8 13 [0, 1, 2, 6] (i9.lend (X4 ((t2 d ss vs ars cx k).fst) ((t2 d ss vs ars cx k).snd) bd ((ss.getD k cb2).value) (aV0 hsh hv ha (x9 hs (by omega)).1 (by omega))) [.row 3, .row 3]) (l8 18 [0, 1, 2, 5] (i9.lend (X4 ((t2 d ss vs ars cx k).fst) ((t2 d ss vs ars cx k).snd) bd ((ss.getD k cb2).index) (bT8 hsh hv ha (x9 hs (by omega)).1 (by omega))) [.row 3, .row 3]) t3)) fz []) [0, 1, 0, 4, 0, 16, 0, 64, 240, 496, 0, 0, 2048, 7168, 16368, 0, 0, 65536, 244736, 524272, 0, 2097136, 4194303, 8388607] (rg 5) [.row 3 (D.ints (t2 d ss vs ars cx k).fst), .row 3 (D.ints ((t2 d ss vs ars cx k).snd.set (ss.getD k cb2).target.toNat (i6 (i6 (i6 ((t2 d ss vs ars cx k).snd.getD (ss.getD k cb2).target.toNat 0) (b9 (t2 d ss vs ars cx k).fst (t2 d ss vs ars cx k).snd 5 (ss.getD k cb2).value)) (b9 (t2 d ss vs ars cx k).fst (t2 d ss vs ars cx k).snd 5 (ss.getD k cb2).index)) cx))), dT bd, dT ss, .box (pL 0)] (aD9 cx k []) (iX ((ss.getD k cb2).target) ((ss.getD k cb2).target.toNat) ((y6 true (d + (1 : Nat)) (vs, ars) cx (cc0 k ss)).snd.length) (iX ((ss.getD k cb2).target) ((ss.getD k cb2).target.toNat) ((y6 true (d + (1 : Nat)) (vs, ars) cx (cc0 k ss)).snd.length) [])) (iK (by have h9 := aa2 (x9 (k := k) hs (by omega)).1 (by omega); have h8 := hsh.2.trans ha; omega) (iK (by have h9 := aa2 (x9 (k := k) hs (by omega)).1 (by omega); have h8 := hsh.2.trans ha; omega) cc1)) fun G => m6 (m6 (b7 (D7 G d9 [(6, iA ((k : Int) + 1))] [wO ((k : Int) + 1)] (o1 (by omega)) fun G => b7 ?_))); exact M7 G (k + 1) (by have h9 := aa2 (x9 (k := k) hs (by omega)).1 (by omega); have h8 := hsh.2.trans ha; omega) (by have h9 := aa2 (x9 (k := k) hs (by omega)).1 (by omega); have h8 := hsh.2.trans ha; omega) (rg 5) (by have e2 : ((y6 true (d + 1) (vs, ars) cx (cc0 (k + 1) ss)).snd : List Int) = ((t2 d ss vs ars cx k).snd.set (ss.getD k cb2).target.toNat (i6 (i6 (i6 ((t2 d ss vs ars cx k).snd.getD (ss.getD k cb2).target.toNat 0) (b9 (t2 d ss vs ars cx k).fst (t2 d ss vs ars cx k).snd 5 (ss.getD k cb2).value)) (b9 (t2 d ss vs ars cx k).fst (t2 d ss vs ars cx k).snd 5 (ss.getD k cb2).index)) cx)) := (congrArg Prod.snd (rn2 hs (by omega) (by omega))); have h9 := rn2 (q := (vs, ars)) (cx := cx) hs (show k < _ by omega) (by omega); rw [e2, h9] <;> rfl)
   · refine F7 G (s4 13 [0, 1, 2, 6] (i9.lend (X4 ((t2 d ss vs ars cx k).fst) ((t2 d ss vs ars cx k).snd) bd ((ss.getD k cb2).value) (aV0 hsh hv ha (x9 hs (by omega)).1 (by omega))) [.row 3, .row 3])) [0, 1, 0, 4, 0, 16, 0, 64, 240, 496, 0, 0, 2048, 7168, 16368, 0, 65520, 131071, 262143] (rg 5) [.row 3 (D.ints ((t2 d ss vs ars cx k).fst.set (ss.getD k cb2).target.toNat (i6 (i6 ((t2 d ss vs ars cx k).fst.getD (ss.getD k cb2).target.toNat 0) (b9 (t2 d ss vs ars cx k).fst (t2 d ss vs ars cx k).snd 5 (ss.getD k cb2).value)) cx))), .row 3 (D.ints (t2 d ss vs ars cx k).snd), dT bd, dT ss, .box (pL 0)] (aD9 cx k []) (iX ((ss.getD k cb2).target) ((ss.getD k cb2).target.toNat) ((y6 true (d + (1 : Nat)) (vs, ars) cx (cc0 k ss)).fst.length) (iX ((ss.getD k cb2).target) ((ss.getD k cb2).target.toNat) ((y6 true (d + (1 : Nat)) (vs, ars) cx (cc0 k ss)).fst.length) [])) (iK (by have h9 := X0 (x9 (k := k) hs (by omega)).1 (by omega); have h8 := hsh.1.trans hv; omega) (iK (by have h9 := X0 (x9 (k := k) hs (by omega)).1 (by omega); have h8 := hsh.1.trans hv; omega) cc1)) fun G => m6 (m6 (b7 (D7 G d9 [(6, iA ((k : Int) + 1))] [wO ((k : Int) + 1)] (o1 (by omega)) fun G => b7 ?_))); exact M7 G (k + 1) (by have h9 := X0 (x9 (k := k) hs (by omega)).1 (by omega); have h8 := hsh.1.trans hv; omega) (by have h9 := X0 (x9 (k := k) hs (by omega)).1 (by omega); have h8 := hsh.1.trans hv; omega) (rg 5) (by have e1 : ((y6 true (d + 1) (vs, ars) cx (cc0 (k + 1) ss)).fst : List Int) = ((t2 d ss vs ars cx k).fst.set (ss.getD k cb2).target.toNat (i6 (i6 ((t2 d ss vs ars cx k).fst.getD (ss.getD k cb2).target.toNat 0) (b9 (t2 d ss vs ars cx k).fst (t2 d ss vs ars cx k).snd 5 (ss.getD k cb2).value)) cx)) := (congrArg Prod.fst (rn1 hs (by omega) (by omega))); have h9 := rn1 (q := (vs, ars)) (cx := cx) hs (show k < _ by omega) (by omega); rw [e1, h9] <;> rfl)
theorem bf4 (nv na : Nat) (bd : List b6) : ∀ (d : Nat) (vs ars : List Int) (ss : List b6) (cx : Int), vs.length = nv → ars.length = na → ss.all (f6 nv na d) = true → i9.ok Tryz.prog (raC vs ars d bd ss cx) := by
 intro d
 induction d with
 | zero =>
  intro vs ars ss cx hv ha hs
  have h0 : ss = [] := by
   cases ss with
   | nil => rfl
   | cons a r => simp [f6] at hs
  subst h0
  exact aP9 nv na 0 bd [] (fun _ _ _ _ h => absurd h (by simp)) vs ars cx hv ha rfl
 | succ d ih => intro vs ars ss cx hv ha hs; exact aP9 nv na d bd ss (fun vs ars tt cx _ h1 h2 h3 => ih vs ars tt cx h1 h2 h3) vs ars cx hv ha hs
theorem bf3 (vs ars : List Int) (b : List b6) (hs : b.all (f6 vs.length ars.length 5) = true) : i9.ok Tryz.prog ⟨184, [pA 0, .ref 2, iA 0], [.row 3 (.ints vs), .row 3 (.ints ars), dT b], [.row 3 (.ints (y6 true 5 (vs, ars) 0 b).1), .row 3 (.ints (y6 true 5 (vs, ars) 0 b).2), dT b], .tup []⟩ :=
 i9.dup (S := [.row 3 (.ints vs), .row 3 (.ints ars), dT b]) (S' := [.row 3 (.ints (y6 true 5 (vs, ars) 0 b).1), .row 3 (.ints (y6 true 5 (vs, ars) 0 b).2), dT b]) (d := .stmts b) (i := 2) (bf4 _ _ b 5 vs ars b 0 rfl rfl hs) rfl rfl rfl (fun ρ h => by simp only [AV.vals, AV.val]; rw [show ρ 3 = ρ 2 from h]) rfl
def pkX (b : List UInt8) (k : Int) : Int := ((b.getD (k.tmod b.length).toNat 0).toNat : Int) * 131 + ((b.getD ((k * 7 + 3).tmod b.length).toNat 0).toNat : Int) * 1117 + k * 29 + k.tdiv b.length * 53
def pk (b : List UInt8) (k n : Int) : Int :=
 if n < 1 ∨ b.length = 0 then 0 else if k < b.length then ((b.getD k.toNat 0).toNat : Int).tmod n else (ba3 (pkX b k) ((pkX b k).tdiv 64)).tmod n
def nm (b : List UInt8) (k : Int) (l : List Int) : Int := l.getD (pk b k l.length).toNat 0
theorem bH8 {x y : Int} (hx : 0 ≤ x) (hx2 : x < 9223372036854775808) (hy : 0 ≤ y) (hy2 : y < 9223372036854775808) : 0 ≤ ba3 x y := by
 obtain ⟨a, rfl⟩ := Int.eq_ofNat_of_zero_le hx
 obtain ⟨c, rfl⟩ := Int.eq_ofNat_of_zero_le hy
 have ha : a < 2 ^ 63 := by omega
 have hc : c < 2 ^ 63 := by omega
 have h : (BitVec.ofInt (IntKind.bits .i64) (a : Int) ^^^ BitVec.ofInt (IntKind.bits .i64) (c : Int)).toNat < 2 ^ 63 := by
  rw [BitVec.toNat_xor]
  refine Nat.xor_lt_two_pow ?_ ?_
  ·simp only [BitVec.ofInt_natCast, BitVec.toNat_ofNat, IntKind.bits]; omega
  ·simp only [BitVec.ofInt_natCast, BitVec.toNat_ofNat, IntKind.bits]; omega
 unfold ba3
 generalize (BitVec.ofInt (IntKind.bits .i64) (a : Int) ^^^ BitVec.ofInt (IntKind.bits .i64) (c : Int)).toNat = z at h ⊢
 rw [w64 (by omega) (by omega)]
 omega
theorem aP2 (x : UInt8) : ((x.toNat : Nat) : Int) ≤ 255 := by have := x.toNat_lt; omega
theorem a14 {k n : Int} (hk : 0 ≤ k) (hn : 1 ≤ n) : 0 ≤ k.tdiv n ∧ k.tdiv n ≤ k := by
 refine ⟨Int.tdiv_nonneg hk (by omega), ?_⟩
 rw [Int.tdiv_eq_ediv_of_nonneg hk]
 exact Int.ediv_le_self _ hk
theorem a34 {b : List UInt8} {k : Int} (hk : 0 ≤ k) (hk2 : k ≤ 1000000000) (hb : b.length ≠ 0) : 0 ≤ pkX b k ∧ pkX b k ≤ 100000000000 := by
 unfold pkX
 have h1 := aP2 (b.getD (k.tmod b.length).toNat 0)
 have h2 := aP2 (b.getD ((k * 7 + 3).tmod b.length).toNat 0)
 have h3 := a14 (n := b.length) hk (by omega)
 omega
theorem ba7 {x n : Int} (hx : 0 ≤ x) (hn : 1 ≤ n) : 0 ≤ x.tmod n ∧ x.tmod n < n := ⟨Int.tmod_nonneg _ hx, Int.tmod_lt_of_pos _ (by omega)⟩
theorem af2 {b : List UInt8} {k : Int} (hk : 0 ≤ k) (hk2 : k ≤ 1000000000) (hb : b.length ≠ 0) : 0 ≤ (pkX b k).tdiv 64 ∧ (pkX b k).tdiv 64 ≤ 100000000000 := by
 have h := a34 hk hk2 hb
 have h2 := a14 (n := 64) h.1 (by omega)
 omega
theorem b80 (b : List UInt8) {k n : Int} (hk : 0 ≤ k) (hk2 : k ≤ 1000000000) (hn : 1 ≤ n) : 0 ≤ pk b k n ∧ pk b k n < n := by
 unfold pk
 split
 ·omega
 ·split
  ·exact ba7 (by omega) hn
  ·have h := a34 hk hk2 (show b.length ≠ 0 by omega)
   have h2 := af2 hk hk2 (show b.length ≠ 0 by omega)
   exact ba7 (bH8 h.1 (by omega) h2.1 (by omega)) hn
theorem bk9 (b : List UInt8) {k : Int} (hk : 0 ≤ k) (hk2 : k ≤ 1000000000) {l : List Int} (hl : l ≠ []) : 0 ≤ pk b k l.length ∧ pk b k l.length < l.length ∧ (pk b k l.length).toNat < l.length := by
 have h0 : 0 < l.length := List.length_pos_iff.2 hl
 have h := b80 b (n := l.length) hk hk2 (by omega)
 omega
theorem aX0 (b : List UInt8) {k : Int} (hk : 0 ≤ k) (hk2 : k ≤ 1000000000) {l : List Int} (hl : l ≠ []) : nm b k l ∈ l := by
 unfold nm
 rw [m9 (bk9 b hk hk2 hl).2.2]
 exact cd7 _
abbrev l1L : List Int := [-1] ++ ([4] ++ ([9223372036854775807] ++ ([-9223372036854775808] ++ [])))
def l1D (b : List UInt8) (k : Int) : Int := if pk b k 12 = 0 then nm b (k + 1) l1L else pk b (k + 1) 4
def G0 {α : Type} (f : Int → α × Int) : Nat → Int → List α × Int
 | 0, k => ([], k)
 | n + 1, k => ((G0 f n k).1 ++ [(f (G0 f n k).2).1], (f (G0 f n k).2).2)
theorem aY9 {α : Type} (f : Int → α × Int) (n : Nat) (k : Int) : (G0 f n k).1.length = n := by
 induction n with
 | zero => rfl
 | succ n ih => simp [G0, ih]
theorem bE8 {α : Type} {f : Int → α × Int} {c : Int} (hc : 0 ≤ c) {m : Nat} : ∀ (n : Nat) (k : Int), n ≤ m → (∀ j, k ≤ j → j ≤ k + m * c → j ≤ (f j).2 ∧ (f j).2 ≤ j + c) → k ≤ (G0 f n k).2 ∧ (G0 f n k).2 ≤ k + n * c := by
 intro n
 induction n with
 | zero => intro k _ _; simp [G0]
 | succ n ih =>
  intro k hm h
  have h1 := ih k (by omega) h
  have e : ((n + 1 : Nat) : Int) * c = n * c + c := by rw [Int.natCast_add, Int.add_mul]; simp
  have h3 : ((n + 1 : Nat) : Int) * c ≤ m * c := cf2 (by omega) hc
  have h2 := h (G0 f n k).2 h1.1 (by omega)
  simp only [G0]
  rw [e]
  omega
theorem bM8 {α : Type} {f : Int → α × Int} {Q : α → Prop} (h : ∀ j, Q (f j).1) (n : Nat) (k : Int) : ∀ x ∈ (G0 f n k).1, Q x := by
 induction n with
 | zero => intro x hx; cases hx
 | succ n ih =>
  intro x hx
  simp only [G0, cc9, cd1] at hx
  rcases hx with hx | rfl
  ·exact ih x hx
  ·exact h _
abbrev atL : List Int := [1] ++ ([0] ++ ([2] ++ ([3] ++ ([255] ++ ([7] ++ ([128] ++ []))))))
def o5 (b : List UInt8) (nv : Int) (k : Int) : b5 := if pk b k 3 = 0 then ⟨1, nm b (k + 1) atL, []⟩ else ⟨2, pk b (k + 1) nv, []⟩
abbrev M5 : List Int := [4] ++ ([10] ++ ([8] ++ ([9] ++ ([3] ++ ([6] ++ ([7] ++ ([5] ++ ([11] ++ []))))))))
def K8 (b : List UInt8) (nv na : Int) : Nat → Int → b5 × Int
 | 0, k => (o5 b nv k, k + 2)
 | d + 1, k => if d = 0 then (o5 b nv k, k + 2) else if pk b k 4 = 0 then (o5 b nv (k + 1), k + 3)
  else if nm b (k + 1) M5 = 3 then (if na = 0 then (o5 b nv (k + 2), k + 4) else (⟨3, pk b (k + 2) na, [o5 b nv (k + 3)]⟩, k + 5))
  else (⟨nm b (k + 1) M5, 0, (G0 (K8 b nv na d) (n4 (nm b (k + 1) M5)).toNat (k + 2)).1⟩, (G0 (K8 b nv na d) (n4 (nm b (k + 1) M5)).toNat (k + 2)).2)
def cE : Nat → Int
 | 0 => 2
 | d + 1 => 5 + 3 * cE d
theorem aL7 (d : Nat) : 2 ≤ cE d := by
 induction d with
 | zero => exact Int.le_refl _
 | succ d ih => simp only [cE]; omega
theorem ar3 (k : Int) : (n4 k).toNat ≤ 3 := by unfold n4; (repeat' split) <;> decide
theorem a66 (b : List UInt8) (nv na : Int) : ∀ (d : Nat) (k : Int), k ≤ (K8 b nv na d k).2 ∧ (K8 b nv na d k).2 ≤ k + cE d
 | 0, k => by simp only [K8, cE]; omega
 | d + 1, k => by
  have hc := aL7 d
  rw [K8]
  simp only [cE]
  split
  ·simp only; omega
  ·split
   ·simp only; omega
   ·split
    ·split <;> (simp only; omega)
    ·have h3 := ar3 (nm b (k + 1) M5)
     have h := bE8 (f := K8 b nv na d) (c := cE d) (m := 3) (by omega) (n4 (nm b (k + 1) M5)).toNat (k + 2) h3 fun j _ _ => a66 b nv na d j
     have h4 : ((n4 (nm b (k + 1) M5)).toNat : Int) * cE d ≤ 3 * cE d := cf2 (by omega) (by omega)
     simp only
     omega
theorem bi8 {c : Nat} : ∀ {l : List b5}, (∀ x ∈ l, v5 x ≤ c) → n9 l ≤ l.length * (1 + c)
 | [], _ => ce8 _
 | e :: r, h => by
  have h1 := h e (cd0 ..)
  have h2 := bi8 (l := r) fun x hx => h x (cd4 _ hx)
  simp only [n9, cb4]
  rw [Nat.add_mul]
  omega
theorem bE9 (b : List UInt8) (nv na : Int) : ∀ (d : Nat) (k : Int), (v5 (K8 b nv na d k).1 : Int) ≤ cE d
 | 0, k => by
  simp only [K8, cE, o5]
  split <;> simp [v5, n9]
 | d + 1, k => by
  have hc := aL7 d
  have ha : ∀ j, v5 (o5 b nv j) = 0 := fun j => by unfold o5; split <;> rfl
  rw [K8]
  simp only [cE]
  split
  ·simp only [ha]; omega
  ·split
   ·simp only [ha]; omega
   ·split
    ·split
     ·simp only [ha]; omega
     ·simp only [v5, n9, ha]; omega
    ·have h3 := ar3 (nm b (k + 1) M5)
     have h1 := bM8 (f := K8 b nv na d) (Q := fun x => v5 x ≤ (cE d).toNat) (fun j => by have := bE9 b nv na d j; omega) (n4 (nm b (k + 1) M5)).toNat (k + 2)
     have h2 := bi8 h1
     rw [aY9] at h2
     simp only [v5]
     have h4 := ce9 (1 + (cE d).toNat) h3
     omega
abbrev dpL : List Int := [2] ++ ([3] ++ ([2] ++ ([1] ++ ([4] ++ []))))
def t7 (b : List UInt8) (nv na : Nat) (k : Int) : b5 × Int :=
 if l6 nv na (K8 b nv na (nm b k dpL).toNat (k + 1)).1 = true then K8 b nv na (nm b k dpL).toNat (k + 1)
 else (o5 b nv (K8 b nv na (nm b k dpL).toNat (k + 1)).2, (K8 b nv na (nm b k dpL).toNat (k + 1)).2 + 2)
theorem cE4 {d : Nat} (h : d ≤ 4) : cE d ≤ 364 := by
 match d, h with
 | 0, _ => decide
 | 1, _ => decide
 | 2, _ => decide
 | 3, _ => decide
 | 4, _ => decide
theorem dp4 (b : List UInt8) {k : Int} (hk : 0 ≤ k) (hk2 : k ≤ 1000000000) : 1 ≤ nm b k dpL ∧ nm b k dpL ≤ 4 ∧ (nm b k dpL).toNat ≤ 4 := by
 have h := aX0 b hk hk2 (l := dpL) (by simp)
 simp only [cc9, ce4, List.not_mem_nil, or_false] at h
 omega
theorem bX5 (b : List UInt8) {k : Int} (hk : 0 ≤ k) (hk2 : k ≤ 1000000000) : nm b k dpL = ((nm b k dpL).toNat : Int) := by have := dp4 b hk hk2; omega
theorem bj4 (b : List UInt8) (nv na : Nat) {k : Int} (hk : 0 ≤ k) (hk2 : k ≤ 1000000000) : k ≤ (t7 b nv na k).2 ∧ (t7 b nv na k).2 ≤ k + 367 := by
 have h := a66 b nv na (nm b k dpL).toNat (k + 1)
 have h2 := cE4 (dp4 b hk hk2).2.2
 unfold t7
 split
 ·omega
 ·simp only; omega
theorem a89 (b : List UInt8) (nv j : Int) : v5 (o5 b nv j) = 0 := by unfold o5; split <;> rfl
theorem bb4 (b : List UInt8) (nv na : Nat) {k : Int} (hk : 0 ≤ k) (hk2 : k ≤ 1000000000) : v5 (t7 b nv na k).1 ≤ 364 := by
 have h := bE9 b nv na (nm b k dpL).toNat (k + 1)
 have h2 := cE4 (dp4 b hk hk2).2.2
 unfold t7
 split
 ·omega
 ·rw [a89]; omega
abbrev noE : b5 := ⟨0, 0, []⟩
abbrev K0 : List Int := [1] ++ ([1] ++ ([2] ++ ([3] ++ ([4] ++ ([1] ++ ([3] ++ ([5] ++ [])))))))
abbrev ibL : List Int := [1] ++ ([2] ++ ([1] ++ ([0] ++ [])))
abbrev ieL : List Int := [0] ++ ([1] ++ ([0] ++ ([2] ++ [])))
abbrev rcL : List Int := [2] ++ ([1] ++ ([3] ++ []))
abbrev rbL : List Int := [1] ++ ([2] ++ ([1] ++ []))
def dfS (b : List UInt8) (nv na : Nat) (kd k : Int) : b6 × Int := (⟨if kd = 5 then 5 else 1, pk b k nv, noE, (t7 b nv na (k + 1)).1, 0, [], []⟩, (t7 b nv na (k + 1)).2)
def soS (b : List UInt8) (nv na : Nat) (k : Int) : b6 × Int := (⟨2, pk b k na, o5 b nv (k + 1), (t7 b nv na (k + 1 + 2)).1, 0, [], []⟩, (t7 b nv na (k + 1 + 2)).2)
def mnD (b : List UInt8) (f : Int → b6 × Int) (l : List Int) (k : Int) : List b6 × Int := G0 f (nm b k l).toNat (k + 1)
def ifS (b : List UInt8) (nv na : Nat) (f : Int → b6 × Int) (k : Int) : b6 × Int :=
 (⟨3, 0, noE, (t7 b nv na k).1, 0, (mnD b f ibL (t7 b nv na k).2).1, (mnD b f ieL (mnD b f ibL (t7 b nv na k).2).2).1⟩, (mnD b f ieL (mnD b f ibL (t7 b nv na k).2).2).2)
def rpS (b : List UInt8) (f : Int → b6 × Int) (k : Int) : b6 × Int := (⟨4, 0, noE, noE, nm b k rcL, (mnD b f rbL (k + 1)).1, []⟩, (mnD b f rbL (k + 1)).2)
def B4 (b : List UInt8) (nv na : Nat) : Nat → Int → b6 × Int
 | 0, k => if nm b k K0 = 2 ∧ na ≠ 0 then soS b nv na (k + 1) else dfS b nv na (nm b k K0) (k + 1)
 | d + 1, k => if nm b k K0 = 2 ∧ na ≠ 0 then soS b nv na (k + 1) else if nm b k K0 = 3 ∧ d ≠ 0 then ifS b nv na (B4 b nv na d) (k + 1) else if nm b k K0 = 4 ∧ d ≠ 0 then rpS b (B4 b nv na d) (k + 1)
  else dfS b nv na (nm b k K0) (k + 1)
def cS : Nat → Int
 | 0 => 402
 | d + 1 => 402 + 4 * cS d
theorem aA7 (d : Nat) : 402 ≤ cS d := by
 induction d with
 | zero => exact Int.le_refl _
 | succ d ih => simp only [cS]; omega
section
variable (b : List UInt8) (nv na : Nat) {k : Int}
theorem bS7 (kd : Int) (hk : 0 ≤ k) (hk2 : k + 400 ≤ 1000000000) : k ≤ (dfS b nv na kd k).2 ∧ (dfS b nv na kd k).2 ≤ k + 368 := by
 have h := bj4 b nv na (k := k + 1) (by omega) (by omega)
 simp only [dfS]; omega
theorem bQ8 (hk : 0 ≤ k) (hk2 : k + 400 ≤ 1000000000) : k ≤ (soS b nv na k).2 ∧ (soS b nv na k).2 ≤ k + 370 := by
 have h := bj4 b nv na (k := k + 1 + 2) (by omega) (by omega)
 simp only [soS]; omega
theorem nm2 {l : List Int} (hl : l ≠ []) (h : ∀ x ∈ l, 0 ≤ x ∧ x ≤ 2) (hk : 0 ≤ k) (hk2 : k ≤ 1000000000) : (nm b k l).toNat ≤ 2 ∧ nm b k l = ((nm b k l).toNat : Int) := by
 have := h _ (aX0 b hk hk2 hl); omega
theorem bA3 {f : Int → b6 × Int} {c : Int} {l : List Int} (hl : l ≠ []) (h : ∀ x ∈ l, 0 ≤ x ∧ x ≤ 2) (hc : 0 ≤ c) (hk : 0 ≤ k) (hk2 : k + 1 + 2 * c ≤ 1000000000) (hf : ∀ j, 0 ≤ j → j + c ≤ 1000000000 → j ≤ (f j).2 ∧ (f j).2 ≤ j + c) : k ≤ (mnD b f l k).2 ∧ (mnD b f l k).2 ≤ k + 1 + 2 * c := by
 have h2 := (nm2 b hl h hk (by omega)).1
 have h3 : ∀ m : Nat, m ≤ 2 → k + 1 ≤ (G0 f m (k + 1)).2 ∧ (G0 f m (k + 1)).2 ≤ k + 1 + m * c := by
  intro m
  induction m with
  | zero => intro _; simp [G0]
  | succ m ih =>
   intro hm
   have h4 := ih (by omega)
   have h6 : (m : Int) * c ≤ 1 * c := cf2 (by omega) hc
   have h5 := hf (G0 f m (k + 1)).2 (by omega) (by omega)
   have e : ((m + 1 : Nat) : Int) * c = m * c + c := by rw [Int.natCast_add, Int.add_mul]; simp
   simp only [G0]
   rw [e]
   omega
 have h4 := h3 _ h2
 have h6 : ((nm b k l).toNat : Int) * c ≤ 2 * c := cf2 (by omega) hc
 unfold mnD
 omega
theorem be3 : ∀ x : Int, x ∈ ibL → 0 ≤ x ∧ x ≤ 2 := by intro x hx; simp only [cc9, ce4, List.not_mem_nil, or_false] at hx; omega
theorem be1 : ∀ x : Int, x ∈ ieL → 0 ≤ x ∧ x ≤ 2 := by intro x hx; simp only [cc9, ce4, List.not_mem_nil, or_false] at hx; omega
theorem bc3 : ∀ x : Int, x ∈ rbL → 0 ≤ x ∧ x ≤ 2 := by intro x hx; simp only [cc9, ce4, List.not_mem_nil, or_false] at hx; omega
theorem bS3 {f : Int → b6 × Int} {c : Int} (hc : 0 ≤ c) (hk : 0 ≤ k) (hk2 : k + 380 + 4 * c ≤ 1000000000) (hf : ∀ j, 0 ≤ j → j + c ≤ 1000000000 → j ≤ (f j).2 ∧ (f j).2 ≤ j + c) : k ≤ (t7 b nv na k).2 ∧ (t7 b nv na k).2 ≤ k + 367 ∧ (t7 b nv na k).2 ≤ (mnD b f ibL (t7 b nv na k).2).2 ∧ (mnD b f ibL (t7 b nv na k).2).2 ≤ k + 370 + 2 * c ∧ k ≤ (ifS b nv na f k).2 ∧ (ifS b nv na f k).2 ≤ k + 380 + 4 * c := by
 have h1 := bj4 b nv na (k := k) (by omega) (by omega)
 have h2 := bA3 b (k := (t7 b nv na k).2) (f := f) (c := c) (l := ibL) (by simp) be3 hc (by omega) (by omega) hf
 have h3 := bA3 b (k := (mnD b f ibL (t7 b nv na k).2).2) (f := f) (c := c) (l := ieL) (by simp) be1 hc (by omega) (by omega) hf
 simp only [ifS]
 omega
theorem b15 {f : Int → b6 × Int} {c : Int} (hc : 0 ≤ c) (hk : 0 ≤ k) (hk2 : k + 10 + 2 * c ≤ 1000000000) (hf : ∀ j, 0 ≤ j → j + c ≤ 1000000000 → j ≤ (f j).2 ∧ (f j).2 ≤ j + c) : k ≤ (rpS b f k).2 ∧ (rpS b f k).2 ≤ k + 10 + 2 * c := by
 have h2 := bA3 b (k := k + 1) (f := f) (c := c) (l := rbL) (by simp) bc3 hc (by omega) (by omega) hf
 simp only [rpS]; omega
theorem a18 : ∀ (d : Nat) (k : Int), 0 ≤ k → k + cS d ≤ 1000000000 → k ≤ (B4 b nv na d k).2 ∧ (B4 b nv na d k).2 ≤ k + cS d
 | 0, k, hk, hk2 => by
  rw [B4]
  simp only [cS] at hk2 ⊢
  have h1 := bQ8 b nv na (k := k + 1) (by omega) (by omega)
  have h2 := bS7 b nv na (k := k + 1) (nm b k K0) (by omega) (by omega)
  split <;> omega
 | d + 1, k, hk, hk2 => by
  rw [B4]
  simp only [cS] at hk2 ⊢
  have hc := aA7 d
  have ih := a18 d
  have h1 := bQ8 b nv na (k := k + 1) (by omega) (by omega)
  have h2 := bS7 b nv na (k := k + 1) (nm b k K0) (by omega) (by omega)
  have h3 := bS3 b nv na (k := k + 1) (f := B4 b nv na d) (c := cS d) (by omega) (by omega) (by omega) ih
  have h4 := b15 b (k := k + 1) (f := B4 b nv na d) (c := cS d) (by omega) (by omega) (by omega) ih
  (repeat' split) <;> omega
theorem bd1 : v5 noE = 0 := rfl
theorem bF0 (kd : Int) (hk : 0 ≤ k) (hk2 : k + 400 ≤ 1000000000) : D9 (dfS b nv na kd k).1 ≤ 364 := by
 have h := bb4 b nv na (k := k + 1) (by omega) (by omega)
 simp only [dfS, D9, i5, bd1]; omega
theorem bw5 (hk : 0 ≤ k) (hk2 : k + 400 ≤ 1000000000) : D9 (soS b nv na k).1 ≤ 364 := by
 have h := bb4 b nv na (k := k + 1 + 2) (by omega) (by omega)
 simp only [soS, D9, i5, a89]; omega
def Drw (f : Int → b6 × Int) (c : Int) : Prop := ∀ j, 0 ≤ j → j + c ≤ 1000000000 → j ≤ (f j).2 ∧ (f j).2 ≤ j + c ∧ (D9 (f j).1 : Int) ≤ c
theorem aY8 {f : Int → b6 × Int} {c : Int} (hc : 0 ≤ c) (hf : Drw f c) : ∀ (m : Nat) (k : Int), 0 ≤ k → k + m * c ≤ 1000000000 → k ≤ (G0 f m k).2 ∧ (G0 f m k).2 ≤ k + m * c ∧ (i5 (G0 f m k).1 : Int) ≤ m * (1 + c) := by
 intro m
 induction m with
 | zero => intro k _ _; simp [G0, i5]
 | succ m ih =>
  intro k hk hk2
  have e : ((m + 1 : Nat) : Int) * c = m * c + c := by rw [Int.natCast_add, Int.add_mul]; simp
  have e2 : ((m + 1 : Nat) : Int) * (1 + c) = m * (1 + c) + (1 + c) := by rw [Int.natCast_add, Int.add_mul]; simp
  rw [e] at hk2
  have h4 := ih k hk (by omega)
  have h5 := hf (G0 f m k).2 (by omega) (by omega)
  have h6 : i5 ((G0 f m k).1 ++ [(f (G0 f m k).2).1]) = i5 (G0 f m k).1 + (1 + D9 (f (G0 f m k).2).1) := by
   generalize (G0 f m k).1 = l
   induction l with
   | nil => simp [i5]
   | cons a r ih => simp only [List.cons_append, i5]; omega
  simp only [G0]
  rw [e, e2, h6]
  omega
theorem bd3 {f : Int → b6 × Int} {c : Int} {l : List Int} (hl : l ≠ []) (h : ∀ x ∈ l, 0 ≤ x ∧ x ≤ 2) (hc : 0 ≤ c) (hk : 0 ≤ k) (hk2 : k + 1 + 2 * c ≤ 1000000000) (hf : Drw f c) : (i5 (mnD b f l k).1 : Int) ≤ 2 * (1 + c) := by
 have h2 := (nm2 b hl h hk (by omega)).1
 have h6 : ((nm b k l).toNat : Int) * c ≤ 2 * c := cf2 (by omega) hc
 have h7 : ((nm b k l).toNat : Int) * (1 + c) ≤ 2 * (1 + c) := cf2 (by omega) (by omega)
 have h3 := (aY8 hc hf (nm b k l).toNat (k + 1) (by omega) (by omega)).2.2
 unfold mnD
 omega
theorem bb2 : ∀ (d : Nat) (k : Int), 0 ≤ k → k + cS d ≤ 1000000000 → (D9 (B4 b nv na d k).1 : Int) ≤ cS d
 | 0, k, hk, hk2 => by
  rw [B4]
  simp only [cS] at hk2 ⊢
  have h1 := bw5 b nv na (k := k + 1) (by omega) (by omega)
  have h2 := bF0 b nv na (k := k + 1) (nm b k K0) (by omega) (by omega)
  split <;> omega
 | d + 1, k, hk, hk2 => by
  rw [B4]
  simp only [cS] at hk2 ⊢
  have hc := aA7 d
  have ih := a18 b nv na d
  have hf : Drw (B4 b nv na d) (cS d) := fun j h1 h2 => ⟨(ih j h1 h2).1, (ih j h1 h2).2, bb2 d j h1 h2⟩
  have h1 := bw5 b nv na (k := k + 1) (by omega) (by omega)
  have h2 := bF0 b nv na (k := k + 1) (nm b k K0) (by omega) (by omega)
  have h3 := bS3 b nv na (k := k + 1) (f := B4 b nv na d) (c := cS d) (by omega) (by omega) (by omega) ih
  have h4 := bb4 b nv na (k := k + 1) (by omega) (by omega)
  have h5 := bd3 b (k := (t7 b nv na (k + 1)).2) (l := ibL) (by simp) be3 (by omega) (by omega) (by omega) hf
  have h6 := bd3 b (k := (mnD b (B4 b nv na d) ibL (t7 b nv na (k + 1)).2).2) (l := ieL) (by simp) be1 (by omega) (by omega) (by omega) hf
  have h7 := bd3 b (k := k + 1 + 1) (l := rbL) (by simp) bc3 (by omega) (by omega) (by omega) hf
  split
  ·omega
  ·split
   ·simp only [ifS, D9, bd1]; omega
   ·split
    ·simp only [rpS, D9, bd1, i5]; omega
    ·omega
theorem b55 (d : Nat) : Drw (B4 b nv na d) (cS d) := fun j h1 h2 => ⟨(a18 b nv na d j h1 h2).1, (a18 b nv na d j h1 h2).2, bb2 b nv na d j h1 h2⟩
theorem bS8 {d m i : Nat} {B : Int} (hB : (m : Int) * cS d ≤ B) (hi : i ≤ m) (hk : 0 ≤ k) (hk2 : k + B ≤ 1000000000) : k ≤ (G0 (B4 b nv na d) i k).2 ∧ (G0 (B4 b nv na d) i k).2 ≤ k + B := by
 have hc := aA7 d
 have h6 : (i : Int) * cS d ≤ m * cS d := cf2 (by omega) (by omega)
 have h := aY8 (by omega) (b55 b nv na d) i k hk (by omega)
 omega
theorem bo0 {d m i : Nat} {B : Int} (hB : (m : Int) * cS d ≤ B) (hi : i < m) (hk : 0 ≤ k) (hk2 : k + B ≤ 1000000000) : (G0 (B4 b nv na d) i k).2 + cS d ≤ k + B := by
 have hc := aA7 d
 have h6 : ((i + 1 : Nat) : Int) * cS d ≤ m * cS d := cf2 (by omega) (by omega)
 have e : ((i + 1 : Nat) : Int) * cS d = i * cS d + cS d := by rw [Int.natCast_add, Int.add_mul]; simp
 have h := aY8 (by omega) (b55 b nv na d) i k hk (by omega)
 omega
theorem b29 {m : Int} {c : Int} (h0 : 0 ≤ m) (hm : m ≤ 2) (hc : 0 ≤ c) : (m.toNat : Int) * c ≤ 2 * c := cf2 (by omega) hc
theorem b87 {m : Int} {c : Int} (h0 : 0 ≤ m) (hm : m ≤ 4) (hc : 0 ≤ c) : (m.toNat : Int) * c ≤ 4 * c := cf2 (by omega) hc
end
theorem aQ1 (b : List UInt8) {k : Int} {l : List Int} {m : Int} (hl : l ≠ []) (h : ∀ x ∈ l, 0 ≤ x ∧ x ≤ m) (hk : 0 ≤ k) (hk2 : k ≤ 1000000000) : 0 ≤ nm b k l ∧ nm b k l ≤ m := h _ (aX0 b hk hk2 hl)
def okI (p : d7) : Bool := l5 p && decide ((C7 ⟨(ax9 p).1, (ax9 p).2, p.body⟩ false).1 = 0)
def ag0 (p : d7) : d7 := if okI p = true then ⟨(ax9 p).1, (ax9 p).2, p.body⟩ else ⟨[], [], []⟩
theorem aI4 {p : d7} (h : l5 p = true) : p.vars.length + p.arrays.length ≤ 14 := by
 unfold l5 F4 at h
 simp only [cb3, decide_eq_true_eq] at h
 omega
section
variable {p : d7} {q : J9} {b : List b6} {X : J9}
theorem ab0 (h : (decide (X.1 = q.1) && (decide (X.2 = q.2) && p6 b b)) = true) : X = q := by
 simp only [cb3, decide_eq_true_eq] at h
 exact Prod.ext h.1 h.2.1
theorem bb8 (h : (decide (X.1 = q.1) && (decide (X.2 = q.2) && p6 b b)) = false) : ¬ X = q := fun e => by
 subst e
 rw [(F2 b b).2 rfl] at h
 simp at h
theorem bD1 {f : Bool} (hp : l5 p = true) (h : ag1 p.body (p.vars, p.arrays) q) (hne : ¬ y6 f 5 q 0 p.body = q) : 100 - aM7 (y6 f 5 q 0 p.body) < 100 - aM7 q := by
 have h1 := al2 (f := f) h
 have h2 := bj2 ap0 h.2.1 h1.2.1 aG5 hne
 have h3 := a15 h1.2.1
 have h4 := aI4 hp
 rw [h1.1.1, h1.1.2] at h3
 simp only at h3
 omega
theorem bL2 (hb : p.size ≤ 1048576) (h : ag1 p.body (p.vars, p.arrays) q) : q.1.length + q.2.length + i5 p.body ≤ 1048576 := by
 have h1 := h.1.1
 have h2 := h.1.2
 unfold d7.size at hb
 simp only at h1 h2
 omega
theorem br0 (hp : l5 p = true) (h : ag1 p.body (p.vars, p.arrays) q) : p.body.all (f6 q.1.length q.2.length 5) = true := by
 rw [h.1.1, h.1.2]; exact (H2 hp).1
theorem bA0 (h : l5 p = false) : okI p = false := by unfold okI; rw [h]; rfl
theorem bA1 (hp : l5 p = true) (h : ag1 p.body (p.vars, p.arrays) q) (hf : y6 true 5 q 0 p.body = q) : okI p = decide ((C7 ⟨q.1, q.2, p.body⟩ false).1 = 0) := by
 unfold okI; rw [hp, bm2 hp (aI4 hp) h hf]; rfl
theorem bm1 (h : okI p = false) : ag0 p = ⟨[], [], []⟩ := by unfold ag0; rw [h]; rfl
theorem bL4 (hp : l5 p = true) (h : ag1 p.body (p.vars, p.arrays) q) (hf : y6 true 5 q 0 p.body = q) (hk : okI p = true) : ag0 p = ⟨q.1, q.2, p.body⟩ := by unfold ag0; rw [hk, bm2 hp (aI4 hp) h hf]; rfl
theorem b24 (hp : l5 p = true) (h : ag1 p.body (p.vars, p.arrays) q) (hf : y6 true 5 q 0 p.body = q) (hc : (C7 ⟨q.1, q.2, p.body⟩ false).1 = 0) : okI p = true := by rw [bA1 hp h hf]; exact decide_eq_true hc
theorem b25 (hp : l5 p = true) (h : ag1 p.body (p.vars, p.arrays) q) (hf : y6 true 5 q 0 p.body = q) (hc : ¬ (C7 ⟨q.1, q.2, p.body⟩ false).1 = 0) : okI p = false := by rw [bA1 hp h hf]; exact decide_eq_false hc
end
abbrev aO2 (p : d7) : List It := [dI p.vars, dI p.arrays, dT p.body, .row 3 (D.ints (ag0 p).vars), .row 3 (D.ints (ag0 p).arrays), .tree (D.stmts (ag0 p).body)]
abbrev az5 : It := .box [.v (.slice none 0 0), .v (.slice none 0 0), .v (.slice none 0 0)]
abbrev aF4 : It := .box [.ref 4, .ref 5, .tref 6]
abbrev ar0 (p : d7) (q : J9) (r0 : List It) : List It := .row 3 (D.ints q.fst) :: .row 3 (D.ints q.snd) :: .tree (D.stmts p.body) :: r0
abbrev ag2 (r0 : List (Nat × AV)) : List (Nat × AV) := (2, .ptr 3 0) :: (3, bA false) :: (4, .ptr 7 0) :: r0
abbrev S9 (p : d7) (r0 : List It) : List It := dI p.vars :: dI p.arrays :: dT p.body :: r0
theorem aN7 (p : d7) (hb : p.size ≤ 1048576) : i9.ok Tryz.prog ⟨124, [pA 0], pS p, pS p ++ oP (ag0 p), .tup [oA 3, bA (okI p)]⟩ := by
  refine z7 33 Tryz.func124 (S9 p []) [(0, pA 0)] fun G => ?_
  have hb1 : p.vars.length ≤ 1048576 ∧ p.arrays.length ≤ 1048576 ∧ i5 p.body ≤ 1048576 := by unfold d7.size at hb; omega
  refine wp_seq (k8 G d9 [0, 1, 2, 3, 11] (S9 p [.box (pL 0), az5]) [(1, .ptr 3 0), (2, .ptr 4 0), (3, bA false)] fun G => b7 (wp_seq (wp_seq (l0 G (s4 1 [0, 1, 2] (X6 p hb1.2.2)) [(10, .v (.bool !l5 p))] fun G => b7 ?_)))); cases h0 : (!l5 p)
  ·
   have q0 : (l5 p) = true := (Eq.mp (cc4 _) h0); refine rF G _ h0 (wp_skip (b7 (wp_seq (k8 G (s4 1 [0, 1, 2] (ab8 p.vars p.arrays p.body (by assumption))) [0, 1, 2, 4, 13, 14, 15, 21] (S9 p [az5, .row 3 (D.ints p.vars), .row 3 (D.ints p.arrays), .tree (D.stmts p.body), aF4]) (ag2 []) fun G => b7 (wp_seq (wp_block ?_)))))); refine o7 (κ := J9) (fun q => ag1 p.body (p.vars, p.arrays) q) (fun q => 100 - aM7 q) (fun q => (S9 p [az5, .row 3 (.ints q.1), .row 3 (.ints q.2), .tree (D.stmts p.body), aF4])) (fun q => (ag2 [])) ((p.vars, p.arrays)) (aq1 (aY0 (by with_reducible assumption))) (s0.at G _ _) ?_; clear G; intro q ρ a w hp G; replace G := s0.at G (S9 p (az5 :: (ar0 p q [aF4]))) (ag2 []); refine wp_block (wp_seq (k8 G (s4 1 [4, 5, 6] (i9.lend (ab8 q.fst q.snd p.body (bL2 hb (by with_reducible assumption))) [.row 3, .row 3, .tree])) [0, 1, 2, 3, 4, 5, 6, 7, 16, 17, 18, 24] (S9 p (az5 :: (ar0 p q (aF4 :: (ar0 p q [.box [.ref 8, .ref 9, .tref 10]]))))) (ag2 [(5, .ptr 11 0)]) fun G => b7 (wp_seq (k8 G (s4 3 [8, 9, 10] (i9.lend (bf3 q.fst q.snd p.body (br0 (by with_reducible assumption) (by with_reducible assumption))) [.no, .no, .tree])) (rg 12) (S9 p (az5 :: (ar0 p q [aF4, .row 3 (D.ints (y6 true 5 q 0 p.body).fst), .row 3 (D.ints (y6 true 5 q 0 p.body).snd), .tree (D.stmts p.body), .box [.ref 8, .ref 9, .tref 10]]))) (ag2 [(5, .ptr 11 0)]) fun G => b7 (wp_seq (wp_seq (C9 G (s4 2 [8, 9, 10, 4, 5, 6] (i9.lend (aN6 ((y6 true 5 q 0 p.body).fst) ((y6 true 5 q 0 p.body).snd) p.body q.fst q.snd p.body) [.row 3, .row 3, .tree, .row 3, .row 3, .tree])) (ag2 [(5, .ptr 11 0), (22, bA (decide ((y6 true 5 q 0 p.body).fst = q.fst) && (decide ((y6 true 5 q 0 p.body).snd = q.snd) && p6 p.body p.body)))]) fun G => b7 ?_))))))); cases h1 : (decide ((y6 true (5 : Nat) q (0 : Int) p.body).fst = q.fst) && (decide ((y6 true (5 : Nat) q (0 : Int) p.body).snd = q.snd) && p6 p.body p.body))
   · have q1 : (¬ ((y6 true 5 q 0 p.body).fst = q.fst)) ∨ ((¬ ((y6 true 5 q 0 p.body).snd = q.snd)) ∨ ((p6 p.body p.body) = false)) := Or.imp (fun hq => of_decide_eq_false hq) (fun hq => Or.imp (fun hq => of_decide_eq_false hq) (fun hq => (hq)) (cd2.1 hq)) (cd2.1 h1); refine rF G _ h1 (wp_skip (b7 (k8 G d9 [0, 1, 2, 3, 7, 8, 9, 10] (S9 p [az5, .box [.ref 5, .ref 6, .tref 7], .row 3 (D.ints (y6 true 5 q 0 p.body).fst), .row 3 (D.ints (y6 true 5 q 0 p.body).snd), .tree (D.stmts p.body)]) [(2, .ptr 3 0), (3, bA false), (4, .ptr 4 0)] fun G => m6 (b7 ?_)))); exact M7 G (y6 true 5 q 0 p.body) (al2 (by with_reducible assumption)) (bD1 (by with_reducible assumption) (by with_reducible assumption) (bb8 (by with_reducible assumption))) [0, 1, 2, 3, 5, 6, 7, 4]
   ·
    have q1 : ((y6 true 5 q 0 p.body).fst = q.fst) ∧ (((y6 true 5 q 0 p.body).snd = q.snd) ∧ ((p6 p.body p.body) = true)) := And.imp (fun hq => of_decide_eq_true hq) (fun hq => And.imp (fun hq => of_decide_eq_true hq) (fun hq => (hq)) (cd5.1 hq)) (cd5.1 h1); refine rT G _ h1 (wp_exit (o0 ?_)); refine bO6 (by kernel_rfl) ?_; refine o0 (n5 (b7 (wp_seq (k8 G (s4 1 [4, 5, 6] (i9.lend (V0 q.fst q.snd p.body hb1.2.2) [.row 3, .row 3, .tree])) (rg 8) (S9 p (az5 :: (ar0 p q [aF4]))) (ag2 [(6, iA (C7 (d7.mk q.fst q.snd p.body) false).fst)]) fun G => b7 (wp_seq (wp_seq (l0 G d9 [(30, bA ((C7 (d7.mk q.fst q.snd p.body) false).fst != 0))] fun G => b7 (rcN G (fun h2 q2 => ?_) fun h2 q2 => ?_))))))))
    · refine wp_skip (b7 (wp_seq (k8 G d9 (rg 7) (S9 p (aF4 :: (ar0 p q []))) [(2, .ptr 3 0), (3, bA true)] fun G => b7 (wp_ret ?_)))); exact W2 (.tup [.agg [.ref 4, .ref 5, .tref 6], bA true]) G [0, 1, 2, 4, 5, 6] (by have e1 : (okI p : Bool) = (true) := (b24 (by with_reducible assumption) (by with_reducible assumption) (ab0 (by with_reducible assumption)) (by with_reducible assumption)); (first | rw [e1] | simp only [e1]) <;> rfl) (by show _ = mR [0, 1, 2, 4, 5, 6] (aO2 p); unfold aO2; rw [bL4 (by with_reducible assumption) (by with_reducible assumption) (ab0 (by with_reducible assumption)) (b24 (by with_reducible assumption) (by with_reducible assumption) (ab0 (by with_reducible assumption)) (by with_reducible assumption))] <;> rfl)
    · refine wp_seq (C9 G d9 (ag2 []) fun G => b7 (wp_ret (l7 ?_))); obtain ⟨ρ, G⟩ := G.nil 8 3 (.ints []) 1 (S9 p (.box [.ref 8, .v (.slice none 0 0), .v (.slice none 0 0)] :: (ar0 p q [.box [.ref 4, .ref 5, .tref 6]]))) (ag2 []); obtain ⟨ρ, G⟩ := G.nil 9 3 (.ints []) 1 (S9 p (.box [.ref 8, .ref 9, .v (.slice none 0 0)] :: (ar0 p q [.box [.ref 4, .ref 5, .tref 6], .row 3 (D.ints [])]))) (ag2 []); obtain ⟨ρ, G⟩ := G.nilT 10 (.stmts []) (S9 p (.box [.ref 8, .ref 9, .tref 10] :: (ar0 p q [.box [.ref 4, .ref 5, .tref 6], .row 3 (D.ints []), .row 3 (D.ints [])]))) (ag2 []); exact W2 (.tup [.agg [.ref 8, .ref 9, .tref 10], bA false]) G [0, 1, 2, 8, 9, 10] (by have e1 : (okI p : Bool) = (false) := (b25 (by with_reducible assumption) (by with_reducible assumption) (ab0 (by with_reducible assumption)) (by with_reducible assumption)); (first | rw [e1] | simp only [e1]) <;> rfl) (by show _ = mR [0, 1, 2, 8, 9, 10] (aO2 p); unfold aO2; rw [bm1 (b25 (by with_reducible assumption) (by with_reducible assumption) (ab0 (by with_reducible assumption)) (by with_reducible assumption))] <;> rfl)
  · have q0 : (l5 p) = false := (Eq.mp (cc3 _) h0); refine rT G _ h0 (wp_seq (C9 G d9 [(1, .ptr 3 0), (2, .ptr 4 0), (3, bA false)] fun G => b7 (wp_ret (l7 ?_)))); obtain ⟨ρ, G⟩ := G.nil 5 3 (.ints []) 1 (S9 p [.box (pL 0), .box [.ref 5, .v (.slice none 0 0), .v (.slice none 0 0)]]) [(1, .ptr 3 0), (2, .ptr 4 0), (3, bA false)]; obtain ⟨ρ, G⟩ := G.nil 6 3 (.ints []) 1 (S9 p [.box (pL 0), .box [.ref 5, .ref 6, .v (.slice none 0 0)], .row 3 (D.ints [])]) [(1, .ptr 3 0), (2, .ptr 4 0), (3, bA false)]; obtain ⟨ρ, G⟩ := G.nilT 7 (.stmts []) (S9 p [.box (pL 0), .box [.ref 5, .ref 6, .tref 7], .row 3 (D.ints []), .row 3 (D.ints [])]) [(1, .ptr 3 0), (2, .ptr 4 0), (3, bA false)]; exact W2 (.tup [.agg [.ref 5, .ref 6, .tref 7], bA false]) G [0, 1, 2, 5, 6, 7] (by have e1 : (okI p : Bool) = (false) := (bA0 (by with_reducible assumption)); (first | rw [e1] | simp only [e1]) <;> rfl) (by show _ = mR [0, 1, 2, 5, 6, 7] (aO2 p); unfold aO2; rw [bm1 (bA0 (by with_reducible assumption))] <;> rfl)
abbrev nvL : List Int := [3] ++ ([4] ++ ([2] ++ ([5] ++ [])))
abbrev viL : List Int := [0] ++ ([1] ++ ([0] ++ ([1] ++ ([2] ++ ([3] ++ [])))))
abbrev naL : List Int := [1] ++ ([2] ++ ([0] ++ ([1] ++ [])))
abbrev aiL : List Int := [0] ++ ([1] ++ ([0] ++ ([1] ++ ([3] ++ []))))
abbrev nbL : List Int := [2] ++ ([3] ++ ([1] ++ ([4] ++ [])))
def nsD (b : List UInt8) (l : List Int) (n : Nat) (k : Int) : List Int := (cd9 n).map fun (i : Nat) => nm b (k + (i : Int)) l
theorem ak9 (b : List UInt8) (l : List Int) (n : Nat) (k : Int) : (nsD b l n k).length = n := by simp [nsD]
theorem bA2 (b : List UInt8) (l : List Int) (n : Nat) (k : Int) : nsD b l (n + 1) k = nsD b l n k ++ [nm b (k + (n : Int)) l] := by
 unfold nsD; rw [List.range_succ, List.map_append]; rfl
def H3 (b : List UInt8) (k : Int) : Int := k + 1 + nm b k nvL
def kp2 (b : List UInt8) (k : Int) : Int := H3 b k + 1 + nm b (H3 b k) naL
def vsD (b : List UInt8) (k : Int) : List Int := nsD b viL (nm b k nvL).toNat (k + 1)
def asD (b : List UInt8) (k : Int) : List Int := nsD b aiL (nm b (H3 b k) naL).toNat (H3 b k + 1)
def bdD (b : List UInt8) (k : Int) : List b6 × Int := G0 (B4 b (vsD b k).length (asD b k).length 3) (nm b (kp2 b k) nbL).toNat (kp2 b k + 1)
def rwD (b : List UInt8) (k : Int) : d7 := ⟨vsD b k, asD b k, (bdD b k).1⟩
def fbP : d7 := ⟨[0, 1], [], [⟨1, 1, noE, ⟨2, 0, []⟩, 0, [], []⟩]⟩
def pgD (b : List UInt8) (k : Int) : d7 := if l5 (rwD b k) = true then rwD b k else fbP
section
variable (b : List UInt8) {k : Int}
theorem bV3 (hk : 0 ≤ k) (hk2 : k ≤ 1000000000) : 0 ≤ nm b k nvL ∧ nm b k nvL ≤ 5 := aQ1 b (by simp) (by simp) hk hk2
theorem b28 (hk : 0 ≤ k) (hk2 : k ≤ 1000000000) : 0 ≤ nm b k nbL ∧ nm b k nbL ≤ 4 := aQ1 b (by simp) (by simp) hk hk2
theorem bV6 (hk : 0 ≤ k) (hk2 : k ≤ 1000000000) : 0 ≤ nm b k naL ∧ nm b k naL ≤ 2 := aQ1 b (by simp) (by simp) hk hk2
theorem bC0 (hk : 0 ≤ k) (hk2 : k ≤ 10000000) : k + 1 ≤ H3 b k ∧ H3 b k ≤ k + 6 := by
 have := bV3 b hk (by omega); unfold H3; omega
theorem bl8 (hk : 0 ≤ k) (hk2 : k ≤ 10000000) : k + 2 ≤ kp2 b k ∧ kp2 b k ≤ k + 9 := by
 have h1 := bC0 b hk hk2
 have := bV6 b (k := H3 b k) (by omega) (by omega); unfold kp2; omega
theorem cS3 : cS 3 = 34170 ∧ cS 2 = 8442 := by decide
theorem ca9 (nv na : Nat) : Drw (B4 b nv na 3) 34170 := fun j h1 h2 => by
 have e := cS3.1
 have h3 := a18 b nv na 3 j h1 (by omega)
 have h4 := bb2 b nv na 3 j h1 (by omega)
 omega
theorem bo1 (hk : 0 ≤ k) (hk2 : k ≤ 10000000) : kp2 b k ≤ (bdD b k).2 ∧ (bdD b k).2 ≤ k + 150000 ∧ i5 (bdD b k).1 ≤ 150000 := by
 have h1 := bl8 b hk hk2
 have h2 := b28 b (k := kp2 b k) (by omega) (by omega)
 have h3 := aY8 (f := B4 b (vsD b k).length (asD b k).length 3) (by omega) (ca9 b _ _) (nm b (kp2 b k) nbL).toNat (kp2 b k + 1) (by omega) (by omega)
 unfold bdD
 omega
theorem bv1 (hk : 0 ≤ k) (hk2 : k ≤ 10000000) : (vsD b k).length ≤ 5 := by
 have := bV3 b hk (by omega); unfold vsD; rw [ak9]; omega
theorem bH3 (hk : 0 ≤ k) (hk2 : k ≤ 10000000) : (asD b k).length ≤ 2 := by
 have h1 := bC0 b hk hk2
 have := bV6 b (k := H3 b k) (by omega) (by omega); unfold asD; rw [ak9]; omega
theorem by9 (hk : 0 ≤ k) (hk2 : k ≤ 10000000) : (pgD b k).size ≤ 160000 := by
 have h1 := bo1 b hk hk2
 have h2 := bv1 b hk hk2
 have h3 := bH3 b hk hk2
 unfold pgD; split
 ·show (vsD b k).length + (asD b k).length + i5 (bdD b k).1 ≤ 160000
  omega
 ·decide
end
abbrev m2L : List Int := [0] ++ ([6] ++ ([1] ++ ([5] ++ ([2] ++ []))))
abbrev m3L : List Int := [-1] ++ ([12] ++ ([1] ++ ([9223372036854775807] ++ [])))
abbrev m4L : List Int := [-1] ++ ([256] ++ ([12] ++ ([1] ++ [])))
abbrev m5L : List Int := [1] ++ ([4] ++ ([-1] ++ ([2] ++ [])))
def kdS (s : b6) (x : Int) : b6 := ⟨x, s.target, s.index, s.value, s.count, s.body, s.els⟩
def tgS (s : b6) (x : Int) : b6 := ⟨s.kind, x, s.index, s.value, s.count, s.body, s.els⟩
def vvS (s : b6) (x : Int) : b6 := ⟨s.kind, s.target, s.index, ⟨s.value.kind, x, s.value.kids⟩, s.count, s.body, s.els⟩
def ctS (s : b6) (x : Int) : b6 := ⟨s.kind, s.target, s.index, s.value, x, s.body, s.els⟩
def mtD (b : List UInt8) (p : d7) (k : Int) : d7 × Int :=
 if pk b k 60 = 0 then (if 0 < p.vars.length then (⟨p.vars.set 0 (l1D b (k + 1)), p.arrays, p.body⟩, k + 1 + 2) else (p, k + 1))
 else if pk b k 60 = 1 then (⟨p.vars ++ ce0 (13 - p.vars.length) 1, p.arrays, p.body⟩, k + 1)
 else if pk b k 60 = 2 then (if 0 < p.body.length then (⟨p.vars, p.arrays, p.body.set 0 (kdS (p.body.getD 0 cb2) (nm b (k + 1) m2L))⟩, k + 1 + 1) else (p, k + 1))
 else if pk b k 60 = 3 then (if 0 < p.body.length then (⟨p.vars, p.arrays, p.body.set ((p.body.length : Int) - 1).toNat (tgS (p.body.getD ((p.body.length : Int) - 1).toNat cb2) (nm b (k + 1) m3L))⟩, k + 1 + 1) else (p, k + 1))
 else if pk b k 60 = 4 then (if 0 < p.body.length then (⟨p.vars, p.arrays, p.body.set 0 (vvS (p.body.getD 0 cb2) (nm b (k + 1) m4L))⟩, k + 1 + 1) else (p, k + 1))
 else if pk b k 60 = 5 then (if 0 < p.body.length then (⟨p.vars, p.arrays, p.body.set 0 (ctS (p.body.getD 0 cb2) (nm b (k + 1) m5L))⟩, k + 1 + 1) else (p, k + 1))
 else if pk b k 60 = 6 then (⟨[], [], []⟩, k + 1)
 else (p, k + 1)
theorem bv5 {l : List b6} {i : Nat} {s : b6} (h : D9 s ≤ D9 (l.getD i cb2)) : i5 (l.set i s) ≤ i5 l := by
 induction l generalizing i with
 | nil => simp [i5]
 | cons a r ih =>
  cases i with
  | zero => simp only [List.set_cons_zero, i5]; simp at h; omega
  | succ i =>
   simp only [List.set_cons_succ, i5]
   have := ih (i := i) (by simpa using h)
   omega
theorem bW1 (s : b6) (x : Int) : D9 (kdS s x) = D9 s := by cases s; rfl
theorem bT4 (s : b6) (x : Int) : D9 (tgS s x) = D9 s := by cases s; rfl
theorem bT3 (s : b6) (x : Int) : D9 (vvS s x) = D9 s := by obtain ⟨_, _, _, ⟨_, _, _⟩, _, _, _⟩ := s; rfl
theorem bX9 (s : b6) (x : Int) : D9 (ctS s x) = D9 s := by cases s; rfl
theorem bV7 (b : List UInt8) (p : d7) (k : Int) : (mtD b p k).1.size ≤ p.size + 13 ∧ k ≤ (mtD b p k).2 ∧ (mtD b p k).2 ≤ k + 3 := by
 have hs : ∀ i s, D9 s = D9 (p.body.getD i cb2) → i5 (p.body.set i s) ≤ i5 p.body := fun i s h => bv5 (by omega)
 have h2 := hs 0 _ (bW1 (p.body.getD 0 cb2) (nm b (k + 1) m2L))
 have h3 := hs ((p.body.length : Int) - 1).toNat _ (bT4 (p.body.getD ((p.body.length : Int) - 1).toNat cb2) (nm b (k + 1) m3L))
 have h4 := hs 0 _ (bT3 (p.body.getD 0 cb2) (nm b (k + 1) m4L))
 have h5 := hs 0 _ (bX9 (p.body.getD 0 cb2) (nm b (k + 1) m5L))
 unfold mtD
 simp only [d7.size]
 (repeat' split) <;> (simp only [List.length_set, cb5, cd8, cb6, i5]; omega)
def R6 (b : List UInt8) (k : Int) : d7 := if pk b (bdD b k).2 4 = 0 then pgD b k else if okI (pgD b k) = true then ag0 (pgD b k) else pgD b k
theorem bL3 {p : d7} : (ag0 p).size ≤ p.size := by
 unfold ag0
 split
 ·have h := (aK1 (p := p) (by rename_i h; unfold okI at h; simp at h; exact h.1)).1
  show (ax9 p).1.length + (ax9 p).2.length + i5 p.body ≤ _
  unfold d7.size
  have h1 : (ax9 p).1.length = p.vars.length := h.1
  have h2 : (ax9 p).2.length = p.arrays.length := h.2
  omega
 ·simp [d7.size, i5]
theorem ba6 (b : List UInt8) {k : Int} (hk : 0 ≤ k) (hk2 : k ≤ 10000000) : (R6 b k).size ≤ 160000 := by
 have h1 := by9 b hk hk2
 have h2 := bL3 (p := pgD b k)
 unfold R6
 (repeat' split) <;> omega
def bsD (c : List UInt8) : List UInt8 := c.take 2000
theorem b84 {b : List UInt8} {j n : Int} (h : n < 1) : pk b j n = 0 := by unfold pk; rw [if_pos (.inl h)]
theorem b83 {b : List UInt8} {j n : Int} (h : (b.length : Int) = 0) : pk b j n = 0 := by unfold pk; rw [if_pos (.inr (by omega))]
theorem b82 {b : List UInt8} {j n : Int} (h : ¬ n < 1) (h1 : ¬ (b.length : Int) = 0) (h2 : j + 1 - 1 < b.length) : pk b j n = ((b.getD (j + 1 - 1).toNat 0).toNat : Int).tmod n := by
 unfold pk; rw [if_neg (by omega), if_pos (by omega), Int.add_sub_cancel]
theorem b81 {b : List UInt8} {j n : Int} (h : ¬ n < 1) (h1 : ¬ (b.length : Int) = 0) (h2 : ¬ j + 1 - 1 < b.length) : pk b j n = (ba3 (pkX b (j + 1 - 1)) ((pkX b (j + 1 - 1)).tdiv 64)).tmod n := by
 unfold pk; rw [if_neg (by omega), if_neg (by omega), Int.add_sub_cancel]
theorem bq3 {x : Int} {n : Nat} (hx : 0 ≤ x) (hn : ¬ (n : Int) = 0) : 0 ≤ x.tmod n ∧ x.tmod n < n ∧ (x.tmod n).toNat < n := by
 have := ba7 (x := x) (n := n) hx (by omega); omega
theorem L8 (b : List UInt8) (j n : Int) (r0 : 0 ≤ j) (r1 : j ≤ 1000000000) : i9.ok Tryz.prog ⟨120, [.ptr 0 0, iA n], [.box [.ref 1, iA j], dY b], [.box [.ref 1, iA (j + 1)], dY b], iA (pk b j n)⟩ := by
  refine z7 99 Tryz.func120 [.box [.ref 1, iA j], dY b] [(0, .ptr 0 0), (1, iA n)] fun G => ?_; have hu1 := aP2 (b.getD ((j + 1 - 1).tmod b.length).toNat 0); have hu2 := aP2 (b.getD (((j + 1 - 1) * 7 + 3).tmod b.length).toNat 0); refine wp_seq (l0 G d9 [(4, iA 0)] fun G => b7 (wp_seq (N5 G d9 [0, 1] [.box [.ref 1, iA (j + 1)], dY b] [(0, .ptr 0 0), (1, iA n), (4, iA 0)] [wO (j + 1)] ⟨(by have := aP2 (b.getD (j + 1 - 1).toNat 0); exact w64 (by omega) (by omega)), cc1⟩ fun G => b7 (wp_seq (wp_seq ?_))))); cases h0 : (decide (n < 1))
  ·
   have q0 := dFf h0; refine l0 G (O5 (fc h0 fz) (us [(3, 8, 0), (1009, 1009, 0)])) [(24, bA ((b.length : Int) == 0))] fun G => b7 (P4 G (fun h1 q1 => ?_) fun h1 q1 => ?_)
   ·
    refine wp_skip (b7 (wp_seq (D7 G d9 [(5, iA (j + 1 - 1))] [wO (j + 1 - 1)] ⟨(by have := af2 (b := b) (k := j + 1 - 1) (by omega) (by omega) (by omega); exact w64 (by unfold pkX at this; omega) (by unfold pkX at this; omega)), cc1⟩ fun G => b7 (wp_seq (wp_seq (l0 G d9 [(36, bA (decide (j + 1 - 1 < (b.length : Int))))] fun G => b7 (N4 G (fun h2 q2 => ?_) fun h2 q2 => ?_)))))))
    ·
     refine wp_skip (b7 (wp_seq (ai2 G d9 [0, 1, 3, 7, 0, 0, 32, 96, 224, 480, 1008, 2047, 4095, 8191, 16383, 0, 32768, 98304, 229376, 0, 524288, 1572864, 0, 4194304, 12582912, 29360128, 62914560, 133693440, 268402688, 536838144, 1073709056, 2147450880, 4294967295, 0, 8589934592, 34359738367, 0, 0, 137438953472, 412316860416, 962072674304, 2061584302080, 4329327034368, 8727373545472, 17592186044415, 35184372088831] [(6, iA (((b.getD ((j + 1 - 1).tmod (b.length : Int)).toNat 0).toNat : Int) * 131 + ((b.getD (((j + 1 - 1) * 7 + 3).tmod (b.length : Int)).toNat 0).toNat : Int) * 1117 + (j + 1 - 1) * 29 + (j + 1 - 1).tdiv (b.length : Int) * 53))] [(b.length : Int) ≠ 0, (0 : Int) ≤ (j + 1 - 1).tmod (b.length : Int), (j + 1 - 1).tmod (b.length : Int) < b.length, ((j + 1 - 1).tmod (b.length : Int)).toNat < b.length, IntKind.i64.wrap ((b.getD ((j + 1 - 1).tmod (b.length : Int)).toNat (0 : UInt8)).toNat : Int) = ((b.getD ((j + 1 - 1).tmod (b.length : Int)).toNat (0 : UInt8)).toNat : Int), wO (((b.getD ((j + 1 - 1).tmod (b.length : Int)).toNat (0 : UInt8)).toNat : Int) * 131), wO ((j + 1 - 1) * 7), wO ((j + 1 - 1) * 7 + 3), (b.length : Int) ≠ 0, (0 : Int) ≤ ((j + 1 - 1) * 7 + 3).tmod (b.length : Int), ((j + 1 - 1) * 7 + 3).tmod (b.length : Int) < b.length, (((j + 1 - 1) * 7 + 3).tmod (b.length : Int)).toNat < b.length, IntKind.i64.wrap ((b.getD (((j + 1 - 1) * 7 + 3).tmod (b.length : Int)).toNat (0 : UInt8)).toNat : Int) = ((b.getD (((j + 1 - 1) * 7 + 3).tmod (b.length : Int)).toNat (0 : UInt8)).toNat : Int), wO (((b.getD (((j + 1 - 1) * 7 + 3).tmod (b.length : Int)).toNat (0 : UInt8)).toNat : Int) * 1117), wO (((b.getD ((j + 1 - 1).tmod (b.length : Int)).toNat (0 : UInt8)).toNat : Int) * 131 + ((b.getD (((j + 1 - 1) * 7 + 3).tmod (b.length : Int)).toNat (0 : UInt8)).toNat : Int) * 1117), wO ((j + 1 - 1) * 29), wO (((b.getD ((j + 1 - 1).tmod (b.length : Int)).toNat (0 : UInt8)).toNat : Int) * 131 + ((b.getD (((j + 1 - 1) * 7 + 3).tmod (b.length : Int)).toNat (0 : UInt8)).toNat : Int) * 1117 + (j + 1 - 1) * 29), (b.length : Int) ≠ 0, wO ((j + 1 - 1).tdiv (b.length : Int)), wO ((j + 1 - 1).tdiv (b.length : Int) * 53), wO (((b.getD ((j + 1 - 1).tmod (b.length : Int)).toNat (0 : UInt8)).toNat : Int) * 131 + ((b.getD (((j + 1 - 1) * 7 + 3).tmod (b.length : Int)).toNat (0 : UInt8)).toNat : Int) * 1117 + (j + 1 - 1) * 29 + (j + 1 - 1).tdiv (b.length : Int) * 53)] ⟨(by assumption), ((bq3 (by omega) (by omega)).1), ((bq3 (by omega) (by omega)).2.1), ((bq3 (by omega) (by omega)).2.2), (by have := af2 (b := b) (k := j + 1 - 1) (by omega) (by omega) (by omega); exact w64 (by unfold pkX at this; omega) (by unfold pkX at this; omega)), (by have := af2 (b := b) (k := j + 1 - 1) (by omega) (by omega) (by omega); exact w64 (by unfold pkX at this; omega) (by unfold pkX at this; omega)), (by have := af2 (b := b) (k := j + 1 - 1) (by omega) (by omega) (by omega); exact w64 (by unfold pkX at this; omega) (by unfold pkX at this; omega)), (by have := af2 (b := b) (k := j + 1 - 1) (by omega) (by omega) (by omega); exact w64 (by unfold pkX at this; omega) (by unfold pkX at this; omega)), (by assumption), ((bq3 (by omega) (by omega)).1), ((bq3 (by omega) (by omega)).2.1), ((bq3 (by omega) (by omega)).2.2), (by have := af2 (b := b) (k := j + 1 - 1) (by omega) (by omega) (by omega); exact w64 (by unfold pkX at this; omega) (by unfold pkX at this; omega)), (by have := af2 (b := b) (k := j + 1 - 1) (by omega) (by omega) (by omega); exact w64 (by unfold pkX at this; omega) (by unfold pkX at this; omega)), (by have := af2 (b := b) (k := j + 1 - 1) (by omega) (by omega) (by omega); exact w64 (by unfold pkX at this; omega) (by unfold pkX at this; omega)), (by have := af2 (b := b) (k := j + 1 - 1) (by omega) (by omega) (by omega); exact w64 (by unfold pkX at this; omega) (by unfold pkX at this; omega)), (by have := af2 (b := b) (k := j + 1 - 1) (by omega) (by omega) (by omega); exact w64 (by unfold pkX at this; omega) (by unfold pkX at this; omega)), (by assumption), (by have := a34 (b := b) (k := j + 1 - 1) (by omega) (by omega) (by omega); exact w64 (by unfold pkX at this; omega) (by unfold pkX at this; omega)), (by have := a34 (b := b) (k := j + 1 - 1) (by omega) (by omega) (by omega); exact w64 (by unfold pkX at this; omega) (by unfold pkX at this; omega)), (by have := a34 (b := b) (k := j + 1 - 1) (by omega) (by omega) (by omega); exact w64 (by unfold pkX at this; omega) (by unfold pkX at this; omega)), cc1⟩ fun G => ?_)))
     refine b7 (wp_seq (D7 G d9 [(6, iA (ba3 (((b.getD ((j + 1 - 1).tmod (b.length : Int)).toNat 0).toNat : Int) * 131 + ((b.getD (((j + 1 - 1) * 7 + 3).tmod (b.length : Int)).toNat 0).toNat : Int) * 1117 + (j + 1 - 1) * 29 + (j + 1 - 1).tdiv (b.length : Int) * 53) ((((b.getD ((j + 1 - 1).tmod (b.length : Int)).toNat 0).toNat : Int) * 131 + ((b.getD (((j + 1 - 1) * 7 + 3).tmod (b.length : Int)).toNat 0).toNat : Int) * 1117 + (j + 1 - 1) * 29 + (j + 1 - 1).tdiv (b.length : Int) * 53).tdiv 64)))] [(64 : Int) ≠ 0, wO ((((b.getD ((j + 1 - 1).tmod (b.length : Int)).toNat (0 : UInt8)).toNat : Int) * 131 + ((b.getD (((j + 1 - 1) * 7 + 3).tmod (b.length : Int)).toNat (0 : UInt8)).toNat : Int) * 1117 + (j + 1 - 1) * 29 + (j + 1 - 1).tdiv (b.length : Int) * 53).tdiv (64 : Int))] ⟨(by simp [h0, h1, h2]), (by have := af2 (b := b) (k := j + 1 - 1) (by omega) (by omega) (by omega); exact w64 (by unfold pkX at this; omega) (by unfold pkX at this; omega)), cc1⟩ fun G => b7 (wp_seq (D7 G d9 [(4, iA ((ba3 (((b.getD ((j + 1 - 1).tmod (b.length : Int)).toNat 0).toNat : Int) * 131 + ((b.getD (((j + 1 - 1) * 7 + 3).tmod (b.length : Int)).toNat 0).toNat : Int) * 1117 + (j + 1 - 1) * 29 + (j + 1 - 1).tdiv (b.length : Int) * 53) ((((b.getD ((j + 1 - 1).tmod (b.length : Int)).toNat 0).toNat : Int) * 131 + ((b.getD (((j + 1 - 1) * 7 + 3).tmod (b.length : Int)).toNat 0).toNat : Int) * 1117 + (j + 1 - 1) * 29 + (j + 1 - 1).tdiv (b.length : Int) * 53).tdiv 64)).tmod n))] [n ≠ 0] ⟨(by omega), cc1⟩ fun G => b7 (wp_ret ?_))))); exact K3 ((ba3 (((b.getD ((j + 1 - 1).tmod (b.length : Int)).toNat 0).toNat : Int) * 131 + ((b.getD (((j + 1 - 1) * 7 + 3).tmod (b.length : Int)).toNat 0).toNat : Int) * 1117 + (j + 1 - 1) * 29 + (j + 1 - 1).tdiv (b.length : Int) * 53) ((((b.getD ((j + 1 - 1).tmod (b.length : Int)).toNat 0).toNat : Int) * 131 + ((b.getD (((j + 1 - 1) * 7 + 3).tmod (b.length : Int)).toNat 0).toNat : Int) * 1117 + (j + 1 - 1) * 29 + (j + 1 - 1).tdiv (b.length : Int) * 53).tdiv 64)).tmod n) G [0, 1] (b81 (by omega) (by omega) (by omega))
    · refine wp_seq (D7 G d9 [(4, iA (((b.getD (j + 1 - 1).toNat 0).toNat : Int).tmod n))] (iX (j + 1 - 1) ((j + 1 - 1).toNat) b.length ((IntKind.i64.wrap ((b.getD (j + 1 - 1).toNat (0 : UInt8)).toNat : Int) = ((b.getD (j + 1 - 1).toNat (0 : UInt8)).toNat : Int)) :: ((n ≠ 0) :: []))) (iK (by omega) ⟨(by have := aP2 (b.getD (j + 1 - 1).toNat 0); exact w64 (by omega) (by omega)), ⟨(by omega), cc1⟩⟩) fun G => b7 (wp_ret (l7 ?_))); exact K3 (((b.getD (j + 1 - 1).toNat 0).toNat : Int).tmod n) G [0, 1] (b82 (by omega) (by omega) (by omega))
   · refine wp_seq (l0 G d9 [] fun G => b7 (wp_ret (l7 ?_))); exact K3 0 G [0, 1] (b83 (by omega))
  · have q0 := dTt h0; refine l0 G (O5 (fc h0 fz) (us [(3, 8, 0), (1009, 1009, 0)])) [(24, bA true)] fun G => b7 (rT G true (by kernel_rfl) (wp_seq (l0 G d9 [] fun G => b7 (wp_ret (l7 ?_))))); exact K3 0 G [0, 1] (b84 (by omega))
theorem O9 (b : List UInt8) (j : Int) (l : List Int) (hl : l ≠ []) (r0 : 0 ≤ j) (r1 : j ≤ 1000000000) : i9.ok Tryz.prog ⟨122, [.ptr 0 0, .ref 2], [.box [.ref 1, iA j], dY b, dI l], [.box [.ref 1, iA (j + 1)], dY b, dI l], iA (nm b j l)⟩ := by
 refine z7 12 Tryz.func122 [.box [.ref 1, iA j], dY b, dI l] [(0, .ptr 0 0), (1, .ref 2)] fun G => ?_; refine wp_seq (l0 G d9 [(4, iA 0)] fun G => b7 (wp_seq (N5 G (s4 4 [0, 1] (L8 b j ((l.length : Int)) (by assumption) (by assumption))) [0, 1, 2] [.box [.ref 1, iA (j + 1)], dY b, dI l] [(4, iA (l.getD (pk b j (l.length : Int)).toNat 0))] [(0 : Int) ≤ pk b j (l.length : Int), pk b j (l.length : Int) < l.length, (pk b j (l.length : Int)).toNat < l.length] ⟨((bk9 b r0 r1 hl).1), ((bk9 b r0 r1 hl).2.1), ((bk9 b r0 r1 hl).2.2), cc1⟩ fun G => b7 (wp_ret ?_)))); exact F6 G [0, 1, 2]
theorem bG2 (b : List UInt8) (j : Int) (r0 : 0 ≤ j) (r1 : j ≤ 900000000) : i9.ok Tryz.prog ⟨121, [.ptr 0 0], [.box [.ref 1, iA j], dY b], [.box [.ref 1, iA (j + 2)], dY b], iA (l1D b j)⟩ := by
 refine z7 11 Tryz.func121 [.box [.ref 1, iA j], dY b] [(0, .ptr 0 0)] fun G => ?_; refine wp_seq (l0 G d9 [(2, iA 0)] fun G => b7 (wp_seq (wp_seq (k8 G (s4 1 [0, 1] (L8 b j 12 (by assumption) (by omega))) [0, 1] [.box [.ref 1, iA (j + 1)], dY b] [(0, .ptr 0 0), (2, iA 0), (5, bA (pk b j 12 == 0))] fun G => b7 (P4 G (fun h0 q0 => ?_) fun h0 q0 => ?_)))))
 ·refine wp_skip (b7 (wp_seq (k8 G (s4 1 [0, 1] (L8 b (j + 1) 4 (by omega) (by omega))) [0, 1] [.box [.ref 1, iA (j + 1 + 1)], dY b] [(2, iA (pk b (j + 1) 4))] fun G => b7 (wp_ret ?_)))); exact K3 (pk b (j + 1) 4) G [0, 1] (by unfold l1D; rw [if_neg (by omega)]; done) (by show _ = mR [0, 1] [.box [.ref 1, iA (j + 2)], dY b]; have e1 : (j + 2 : Int) = (j + 1 + 1) := (by omega); (first | rw [e1] | simp only [e1]) <;> rfl)
 ·refine wp_seq (k8 G (s4 2 [0, 1, 10] (i9.lend (O9 b (j + 1) l1L (by simp [h0]) (by omega) (by omega)) [.no, .no, .row 3])) [0, 1] [.box [.ref 1, iA (j + 1 + 1)], dY b] [(0, .ptr 0 0), (2, iA (nm b (j + 1) l1L))] fun G => b7 (wp_ret (l7 ?_))); exact K3 (nm b (j + 1) l1L) G [0, 1] (by unfold l1D; rw [if_pos (by omega)]; done) (by show _ = mR [0, 1] [.box [.ref 1, iA (j + 2)], dY b]; have e1 : (j + 2 : Int) = (j + 1 + 1) := (by omega); (first | rw [e1] | simp only [e1]) <;> rfl)
theorem bg1 (c : List UInt8) (hc : c.length ≤ 2000) : i9.ok Tryz.prog ⟨54, [.ref 0], [dY c], [dY c, .box [.ref 0, iA 0]], .ptr 1 0⟩ := by
 refine z7 11 Tryz.func54 [dY c] [(0, .ref 0)] fun G => ?_; refine wp_seq (l0 G d9 [(2, .v (.pointer none))] fun G => b7 (wp_seq (wp_seq (C9 G d9 [(0, .ref 0), (2, .v (.pointer none)), (5, bA (decide ((c.length : Int) > 2000)))] fun G => b7 ?_)))); cases h0 : (decide ((c.length : Int) > 2000))
 ·have q0 := dFf h0; refine rF G _ h0 (wp_skip (b7 (wp_seq (k8 G d9 [0, 17] [dY c, .box [.ref 0, iA 0]] [(2, .ptr 1 0)] fun G => b7 (wp_ret ?_))))); exact F6 G [0, 1]
 ·have q0 := dTt h0; exact False.elim (by omega)
theorem bg0 (c : List UInt8) (hc : 2000 < c.length) : i9.ok Tryz.prog ⟨54, [.ref 0], [dY c], [dY c, .box [.ref 2, iA 0], dY ((c.take 2000).drop 0)], .ptr 1 0⟩ := by
 refine z7 11 Tryz.func54 [dY c] [(0, .ref 0)] fun G => ?_; refine wp_seq (l0 G d9 [(2, .v (.pointer none))] fun G => b7 (wp_seq (wp_seq (C9 G d9 [(0, .ref 0), (2, .v (.pointer none)), (5, bA (decide ((c.length : Int) > 2000)))] fun G => b7 ?_)))); cases h0 : (decide ((c.length : Int) > 2000))
 ·have q0 := dFf h0; exact False.elim (by omega)
 ·have q0 := dTt h0; refine rT G _ h0 (N5 G d9 [0, 9] [dY c, dY (List.drop 0 (cc0 (Int.toNat 2000) c))] [(0, .ref 1), (2, .v (.pointer none))] [(0 : Int) ≤ 2000, (2000 : Int) ≤ c.length] ⟨(by simp [h0]), (by omega), cc1⟩ fun G => b7 (wp_seq (k8 G d9 [0, 1, 18] [dY c, dY (List.drop 0 (cc0 (Int.toNat 2000) c)), .box [.ref 1, iA 0]] [(2, .ptr 2 0)] fun G => b7 (wp_ret ?_)))); exact F6 G [0, 2, 1]
abbrev dwS (b : List UInt8) (j : Int) (vs ars : List Int) (bd : List b6) : List It := [.box [.ref 1, iA j], dY b, dI vs, dI ars, dT bd]
abbrev exO (e : b5) : List It := [.tree (.exprs e.kids)]
abbrev exA (e : b5) (r : Nat) : AV := .agg [iA e.kind, iA e.value, .tref r]
theorem b67 {b : List UInt8} {nv j : Int} (h : pk b j 3 = 0) : o5 b nv j = ⟨1, nm b (j + 1) atL, []⟩ := if_pos h
theorem b66 {b : List UInt8} {nv j : Int} (h : ¬ pk b j 3 = 0) : o5 b nv j = ⟨2, pk b (j + 1) nv, []⟩ := if_neg h
theorem ay9 (b : List UInt8) (j : Int) (vs ars : List Int) (bd : List b6) (r0 : 0 ≤ j) (r1 : j ≤ 900000000) : i9.ok Tryz.prog ⟨246, [.ptr 0 0, pA 2], dwS b j vs ars bd, dwS b (j + 2) vs ars bd ++ exO (o5 b vs.length j), exA (o5 b vs.length j) 5⟩ := by
 refine z7 18 Tryz.func246 [.box [.ref 1, iA j], dY b, dI vs, dI ars, dT bd] [(0, .ptr 0 0), (1, pA 2)] fun G => ?_; refine wp_seq (k8 G d9 [0, 1, 2, 3, 4, 5, 13] [.box [.ref 1, iA j], dY b, dI vs, dI ars, dT bd, .box (pL 2), .box [iA 0, iA 0, .v (.slice none 0 0)]] [(0, .ptr 0 0), (3, .ptr 5 0), (4, .ptr 6 0)] fun G => b7 (wp_seq (wp_seq (k8 G (s4 1 [0, 1] (L8 b j 3 (by assumption) (by omega))) (rg 7) [.box [.ref 1, iA (j + 1)], dY b, dI vs, dI ars, dT bd, .box (pL 2), .box [iA 0, iA 0, .v (.slice none 0 0)]] [(0, .ptr 0 0), (3, .ptr 5 0), (4, .ptr 6 0), (7, bA (pk b j 3 == 0))] fun G => b7 (P4 G (fun h0 q0 => ?_) fun h0 q0 => ?_)))))
 ·refine wp_skip (b7 (wp_seq (k8 G (s4 4 [0, 1] (L8 b (j + 1) ((vs.length : Int)) (by omega) (by omega))) [0, 1, 2, 3, 4, 6] [.box [.ref 1, iA (j + 1 + 1)], dY b, dI vs, dI ars, dT bd, .box [iA 2, iA (pk b (j + 1) (vs.length : Int)), .v (.slice none 0 0)]] [(4, .ptr 5 0)] fun G => b7 (wp_ret ?_)))); obtain ⟨ρ, G⟩ := G.nilT 6 (.exprs []) [.box [.ref 1, iA (j + 1 + 1)], dY b, dI vs, dI ars, dT bd, .box [iA 2, iA (pk b (j + 1) (vs.length : Int)), .tref 6]] [(4, .ptr 5 0)]; exact W2 (.agg [iA 2, iA (pk b (j + 1) (vs.length : Int)), .tref 6]) G [0, 1, 2, 3, 4, 6] (by show _ = AV.ren (nth [0, 1, 2, 3, 4, 6]) (.agg [iA (o5 b (vs.length : Int) j).kind, iA (o5 b (vs.length : Int) j).value, .tref 5]); rw [b66 (by omega)] <;> rfl) (by show _ = mR [0, 1, 2, 3, 4, 6] [.box [.ref 1, iA (j + 2)], dY b, dI vs, dI ars, dT bd, .tree (D.exprs (o5 b (vs.length : Int) j).kids)]; have e1 : (j + 2 : Int) = (j + 1 + 1) := (by omega); rw [e1, b66 (by omega)] <;> rfl)
 ·refine wp_seq (k8 G (s4 2 [0, 1, 15] (i9.lend (O9 b (j + 1) atL (by simp [h0]) (by omega) (by omega)) [.no, .no, .row 3])) (rg 7) [.box [.ref 1, iA (j + 1 + 1)], dY b, dI vs, dI ars, dT bd, .box (pL 2), .box [iA 1, iA (nm b (j + 1) atL), .v (.slice none 0 0)]] [(0, .ptr 0 0), (3, .ptr 5 0), (4, .ptr 6 0)] fun G => b7 (wp_ret (l7 ?_))); obtain ⟨ρ, G⟩ := G.nilT 7 (.exprs []) [.box [.ref 1, iA (j + 1 + 1)], dY b, dI vs, dI ars, dT bd, .box (pL 2), .box [iA 1, iA (nm b (j + 1) atL), .tref 7]] [(0, .ptr 0 0), (3, .ptr 5 0), (4, .ptr 6 0)]; exact W2 (.agg [iA 1, iA (nm b (j + 1) atL), .tref 7]) G [0, 1, 2, 3, 4, 7] (by show _ = AV.ren (nth [0, 1, 2, 3, 4, 7]) (.agg [iA (o5 b (vs.length : Int) j).kind, iA (o5 b (vs.length : Int) j).value, .tref 5]); rw [b67 (by omega)] <;> rfl) (by show _ = mR [0, 1, 2, 3, 4, 7] [.box [.ref 1, iA (j + 2)], dY b, dI vs, dI ars, dT bd, .tree (D.exprs (o5 b (vs.length : Int) j).kids)]; have e1 : (j + 2 : Int) = (j + 1 + 1) := (by omega); rw [e1, b67 (by omega)] <;> rfl)
theorem bf9 (vs ars : List Int) (bd : List b6) (e : b5) : i9.ok Tryz.prog (E1 233 [pA 0, eA e 3] ([dI vs, dI ars, dT bd] ++ eS e) (bA (l6 vs.length ars.length e))) := bs7 ⟨vs, ars, bd⟩ e
abbrev drC (b : List UInt8) (vs ars : List Int) (bd : List b6) (d : Nat) (j n : Int) : i9 := ⟨258, [.ptr 0 0, pA 2, iA n], dwS b j vs ars bd, dwS b (K8 b vs.length ars.length d j).2 vs ars bd ++ exO (K8 b vs.length ars.length d j).1, exA (K8 b vs.length ars.length d j).1 5⟩
section
variable {b : List UInt8} {nv na : Int} {d : Nat} {j : Int}
theorem b57 (h : d < 2) : K8 b nv na d j = (o5 b nv j, j + 2) := by
 match d, h with
 | 0, _ => rfl
 | 1, _ => simp [K8]
theorem bX4 (h : 0 < d) (h1 : pk b j 4 = 0) : K8 b nv na (d + 1) j = (o5 b nv (j + 1), j + 3) := by rw [K8, if_neg (by omega), if_pos h1]
theorem bM7 (h : 0 < d) (h1 : ¬ pk b j 4 = 0) (h2 : nm b (j + 1) M5 = 3) (h3 : na = 0) : K8 b nv na (d + 1) j = (o5 b nv (j + 2), j + 4) := by rw [K8, if_neg (by omega), if_neg h1, if_pos h2, if_pos h3]
theorem bM6 (h : 0 < d) (h1 : ¬ pk b j 4 = 0) (h2 : nm b (j + 1) M5 = 3) (h3 : ¬ na = 0) : K8 b nv na (d + 1) j = (⟨3, pk b (j + 2) na, [o5 b nv (j + 3)]⟩, j + 5) := by rw [K8, if_neg (by omega), if_neg h1, if_pos h2, if_neg h3]
abbrev drK (b : List UInt8) (nv na : Int) (d : Nat) (j : Int) (k : Nat) : List b5 × Int := G0 (K8 b nv na d) k (j + 2)
theorem b56 (h : 0 < d) (h1 : ¬ pk b j 4 = 0) (h2 : ¬ nm b (j + 1) M5 = 3) {m : Int} (h3 : 0 ≤ m) (h4 : ¬ m > 0) : K8 b nv na (d + 1) j = (⟨nm b (j + 1) M5, 0, (drK b nv na d j (n4 (nm b (j + 1) M5) - m).toNat).1⟩, (drK b nv na d j (n4 (nm b (j + 1) M5) - m).toNat).2) := by
 have e : m = 0 := by omega
 rw [e, Int.sub_zero, K8, if_neg (by omega), if_neg h1, if_neg h2]
theorem bn0 {x m : Int} (h3 : m > 0) (h4 : m ≤ x) : drK b nv na d j (x - (m - 1)).toNat = ((drK b nv na d j (x - m).toNat).1 ++ [(K8 b nv na d (drK b nv na d j (x - m).toNat).2).1], (K8 b nv na d (drK b nv na d j (x - m).toNat).2).2) := by
 rw [show (x - (m - 1)).toNat = (x - m).toNat + 1 by omega]; rfl
theorem b68 (r0 : 0 ≤ j) (r1 : j ≤ 900000000) : 0 ≤ n4 (nm b (j + 1) M5) ∧ n4 (nm b (j + 1) M5) ≤ 3 := by
 have h := aX0 b (k := j + 1) (l := M5) (by omega) (by omega) (by simp)
 simp only [cc9, ce4, List.not_mem_nil, or_false] at h
 rcases h with h | h | h | h | h | h | h | h | h <;> rw [h] <;> decide
theorem b59 (r0 : 0 ≤ j) {k : Nat} (hk : k ≤ 3) : j + 2 ≤ (drK b nv na d j k).2 ∧ (drK b nv na d j k).2 ≤ j + 2 + 3 * cE d := by
 have hc := aL7 d
 have h := bE8 (f := K8 b nv na d) (c := cE d) (m := 3) (by omega) k (j + 2) hk fun i _ _ => a66 b nv na d i
 have h4 : (k : Int) * cE d ≤ 3 * cE d := cf2 (by omega) (by omega)
 unfold drK; omega
theorem b58 {x m : Int} (r0 : 0 ≤ j) (h3 : m > 0) (h4 : m ≤ x) (h5 : x ≤ 3) (r1 : j + cE (d + 1) ≤ 800000000) : (drK b nv na d j (x - m).toNat).2 + cE d ≤ 800000000 := by
 have hc := aL7 d
 have hce : cE (d + 1) = 5 + 3 * cE d := rfl
 have hm : (x - m).toNat ≤ 2 := by omega
 have h := bE8 (f := K8 b nv na d) (c := cE d) (m := 2) (by omega) (x - m).toNat (j + 2) hm fun i _ _ => a66 b nv na d i
 have h4 : ((x - m).toNat : Int) * cE d ≤ 2 * cE d := cf2 (by omega) (by omega)
 unfold drK; omega
end
theorem bj7 (b : List UInt8) (vs ars : List Int) (bd : List b6) (d : Nat) (hd : d < 2) (j n : Int) (hn : n = d) (r0 : 0 ≤ j) (r1 : j ≤ 900000000) : i9.ok Tryz.prog (drC b vs ars bd d j n) := by
 refine z7 62 Tryz.func258 [.box [.ref 1, iA j], dY b, dI vs, dI ars, dT bd] [(0, .ptr 0 0), (1, pA 2), (2, iA n)] fun G => ?_; refine wp_seq (k8 G d9 [0, 1, 2, 3, 4, 5, 13] [.box [.ref 1, iA j], dY b, dI vs, dI ars, dT bd, .box (pL 2), .box [iA 0, iA 0, .v (.slice none 0 0)]] [(0, .ptr 0 0), (2, iA n), (4, .ptr 5 0), (6, .ptr 6 0)] fun G => b7 (wp_seq (wp_seq ?_))); cases h0 : (decide (n < 2))
 ·have q0 := dFf h0; exact False.elim (by omega)
 ·have q0 := dTt h0; refine l0 G (O5 (fc h0 fz) [(3, 0), (4, 0), (5, 0), (1006, 0)]) [(16, bA true)] fun G => b7 (rT G true (by kernel_rfl) (wp_seq (k8 G (s4 2 (rg 5) (ay9 b j vs ars bd (by assumption) (by assumption))) [0, 1, 2, 3, 4, 5, 6, 23] [.box [.ref 1, iA (j + 2)], dY b, dI vs, dI ars, dT bd, .box (pL 2), .box [iA (o5 b (vs.length : Int) j).kind, iA (o5 b (vs.length : Int) j).value, .tref 7], .tree (D.exprs (o5 b (vs.length : Int) j).kids)] [(0, .ptr 0 0), (2, iA n), (4, .ptr 5 0), (6, .ptr 6 0)] fun G => b7 (wp_ret (l7 ?_))))); exact W2 (.agg [iA (o5 b (vs.length : Int) j).kind, iA (o5 b (vs.length : Int) j).value, .tref 7]) G [0, 1, 2, 3, 4, 7] (by show _ = AV.ren (nth [0, 1, 2, 3, 4, 7]) (.agg [iA (K8 b (vs.length : Int) (ars.length : Int) d j).fst.kind, iA (K8 b (vs.length : Int) (ars.length : Int) d j).fst.value, .tref 5]); rw [b57 hd] <;> rfl) (by show _ = mR [0, 1, 2, 3, 4, 7] [.box [.ref 1, iA (K8 b (vs.length : Int) (ars.length : Int) d j).snd], dY b, dI vs, dI ars, dT bd, .tree (D.exprs (K8 b (vs.length : Int) (ars.length : Int) d j).fst.kids)]; rw [b57 hd] <;> rfl)
abbrev aG2 (b : List UInt8) (vs : List Int) (ars : List Int) (d : Nat) (j : Int) (k : Int) := drK b (vs.length : Int) (ars.length : Int) d j (n4 (nm b (j + 1) M5) - k).toNat
abbrev az8 (b : List UInt8) (vs : List Int) (ars : List Int) (d : Nat) (j : Int) : AV := (.agg [iA (K8 b (vs.length : Int) (ars.length : Int) (d + 1) j).fst.kind, iA (K8 b (vs.length : Int) (ars.length : Int) (d + 1) j).fst.value, .tref 5])
abbrev az7 (b : List UInt8) (vs : List Int) (ars : List Int) (bd : List b6) (d : Nat) (j : Int) : List It := [.box [.ref 1, iA (K8 b (vs.length : Int) (ars.length : Int) (d + 1) j).snd], dY b, dI vs, dI ars, dT bd, .tree (D.exprs (K8 b (vs.length : Int) (ars.length : Int) (d + 1) j).fst.kids)]
abbrev aP1 : It := .box [iA 0, iA 0, .v (.slice none 0 0)]
abbrev af1 (n : Int) (r0 : List (Nat × AV)) : List (Nat × AV) := (0, .ptr 0 0) :: (2, iA n) :: (4, .ptr 5 0) :: (6, .ptr 6 0) :: r0
theorem bJ1 (b : List UInt8) (vs ars : List Int) (bd : List b6) (d : Nat) (hd : 0 < d) (hd2 : d ≤ 100) (ih : ∀ (j n : Int), n = d → 0 ≤ j → j + cE d ≤ 800000000 → i9.ok Tryz.prog (drC b vs ars bd d j n)) (j n : Int) (hn : n = ((d + 1 : Nat) : Int)) (r0 : 0 ≤ j) (r1 : j + cE (d + 1) ≤ 800000000) : i9.ok Tryz.prog (drC b vs ars bd (d + 1) j n) := by
  refine z7 62 Tryz.func258 [.box [.ref 1, iA j], dY b, dI vs, dI ars, dT bd] [(0, .ptr 0 0), (1, pA 2), (2, iA n)] fun G => ?_; have hc := aL7 d; have hce : cE (d + 1) = 5 + 3 * cE d := rfl; have har := b68 (b := b) (j := j) r0 (by omega); refine wp_seq (k8 G d9 [0, 1, 2, 3, 4, 5, 13] [.box [.ref 1, iA j], dY b, dI vs, dI ars, dT bd, .box (pL 2), aP1] (af1 n []) fun G => b7 (wp_seq (wp_seq ?_))); cases h0 : (decide (n < 2))
  ·
   have q0 := dFf h0; refine k8 G (t4 (l8 4 [0, 1] (L8 b j 4 (by assumption) (by omega)) t3) (fc h0 fz) [(3, 0), (4, 0), (5, 0), (1006, 0)]) (rg 7) [.box [.ref 1, iA (j + 1)], dY b, dI vs, dI ars, dT bd, .box (pL 2), aP1] (af1 n [(16, bA (pk b j 4 == 0))]) fun G => b7 (P4 G (fun h1 q1 => ?_) fun h1 q1 => ?_)
   ·
    refine wp_skip (b7 (wp_seq (k8 G (s4 2 [0, 1, 15] (i9.lend (O9 b (j + 1) M5 (by simp [h0, h1]) (by omega) (by omega)) [.no, .no, .row 3])) (rg 7) [.box [.ref 1, iA (j + 1 + 1)], dY b, dI vs, dI ars, dT bd, .box (pL 2), aP1] (af1 n [(7, iA (nm b (j + 1) M5))]) fun G => b7 (wp_seq (wp_seq (l0 G d9 [(24, bA (nm b (j + 1) M5 == 3))] fun G => b7 (P4 G (fun h2 q2 => ?_) fun h2 q2 => ?_)))))))
    ·
     refine wp_skip (b7 (wp_seq (k8 G d9 [0, 1, 2, 3, 4, 5, 6, 23] [.box [.ref 1, iA (j + 1 + 1)], dY b, dI vs, dI ars, dT bd, .box (pL 2), aP1, .box [iA (nm b (j + 1) M5), iA 0, .v (.slice none 0 0)]] (af1 n [(7, iA (nm b (j + 1) M5)), (8, .ptr 7 0)]) fun G => b7 (wp_seq (wp_seq (C9 G (s4 1 [] (bs9 (nm b (j + 1) M5))) (af1 n [(8, .ptr 7 0), (9, iA (n4 (nm b (j + 1) M5)))]) fun G => b7 (wp_block ?_))))))); obtain ⟨ρ, G⟩ := G.nilT 8 (.exprs []) [.box [.ref 1, iA (j + 1 + 1)], dY b, dI vs, dI ars, dT bd, .box (pL 2), .box [iA 0, iA 0, .v (.slice none 0 0)], .box [iA (nm b (j + 1) M5), iA 0, .tref 8]] (af1 n [(8, .ptr 7 0), (9, iA (n4 (nm b (j + 1) M5)))]); replace G := G.as [.box [.ref 1, iA (drK b (vs.length : Int) (ars.length : Int) d j (n4 (nm b (j + 1) M5) - n4 (nm b (j + 1) M5)).toNat).snd], dY b, dI vs, dI ars, dT bd, .box (pL 2), .box [iA 0, iA 0, .v (.slice none 0 0)], .box [iA (nm b (j + 1) M5), iA 0, .tref 8], .tree (D.exprs (drK b (vs.length : Int) (ars.length : Int) d j (n4 (nm b (j + 1) M5) - n4 (nm b (j + 1) M5)).toNat).fst)] (af1 n [(8, .ptr 7 0), (9, iA (n4 (nm b (j + 1) M5)))]) (by have e1 : ((drK b (vs.length : Int) (ars.length : Int) d j (n4 (nm b (j + 1) M5) - n4 (nm b (j + 1) M5)).toNat).snd : Int) = (j + 1 + 1) := (by rw [Int.sub_self]; show j + 2 = j + 1 + 1; omega); have e2 : ((drK b (vs.length : Int) (ars.length : Int) d j (n4 (nm b (j + 1) M5) - n4 (nm b (j + 1) M5)).toNat).fst : List b5) = ([]) := (by rw [Int.sub_self]; rfl); (first | rw [e1, e2] | simp only [e1, e2]) <;> rfl) (by kernel_rfl); refine o7 (κ := Int) (fun k => 0 ≤ k ∧ k ≤ n4 (nm b (j + 1) M5)) (fun k => k.toNat) (fun k => [.box [.ref 1, iA (drK b vs.length ars.length d j (n4 (nm b (j + 1) M5) - k).toNat).2], dY b, dI vs, dI ars, dT bd, .box (pL 2), .box [iA 0, iA 0, .v (.slice none 0 0)], .box [iA (nm b (j + 1) M5), iA 0, .tref 8], .tree (.exprs (drK b vs.length ars.length d j (n4 (nm b (j + 1) M5) - k).toNat).1)]) (fun k => [(0, .ptr 0 0), (2, iA n), (4, .ptr 5 0), (6, .ptr 6 0), (8, .ptr 7 0), (9, iA k)]) (n4 (nm b (j + 1) M5)) (by omega) (s0.at G _ _) ?_; clear G; intro k ρ a w hp G; replace G := s0.at G [.box [.ref 1, iA (aG2 b vs ars d j k).snd], dY b, dI vs, dI ars, dT bd, .box (pL 2), aP1, .box [iA (nm b (j + 1) M5), iA 0, .tref 8], .tree (D.exprs (aG2 b vs ars d j k).fst)] (af1 n [(8, .ptr 7 0), (9, iA k)]); have hkb := b59 (b := b) (nv := vs.length) (na := ars.length) (d := d) (j := j) r0 (k := (n4 (nm b (j + 1) M5) - k).toNat) (by omega); have hkl : (drK b vs.length ars.length d j (n4 (nm b (j + 1) M5) - k).toNat).1.length = (n4 (nm b (j + 1) M5) - k).toNat := aY9 _ _ _; refine wp_seq (wp_seq (l0 G d9 [(48, bA (decide (k > 0)))] fun G => b7 (N4 G (fun h4 q4 => ?_) fun h4 q4 => ?_)))
     · refine wp_exit (o0 (o0 (n5 (b7 (wp_seq (k8 G d9 [0, 1, 2, 3, 4, 6, 8] [.box [.ref 1, iA (aG2 b vs ars d j k).snd], dY b, dI vs, dI ars, dT bd, .box [iA (nm b (j + 1) M5), iA 0, .tref 6], .tree (D.exprs (aG2 b vs ars d j k).fst)] [(6, .ptr 5 0)] fun G => b7 (wp_ret ?_))))))); exact W2 (.agg [iA (nm b (j + 1) M5), iA 0, .tref 6]) G [0, 1, 2, 3, 4, 6] (by show _ = AV.ren (nth [0, 1, 2, 3, 4, 6]) (az8 b vs ars d j); unfold az8; rw [b56 (m := k) hd (by omega) (by omega) (by omega) (by omega)] <;> rfl) (by show _ = mR [0, 1, 2, 3, 4, 6] (az7 b vs ars bd d j); unfold az7; rw [b56 (m := k) hd (by omega) (by omega) (by omega) (by omega)] <;> rfl)
     · refine wp_skip (b7 (wp_seq (wp_block (F7 G (s4 6 (rg 5) (ih ((drK b (vs.length : Int) (ars.length : Int) d j (n4 (nm b (j + 1) M5) - k).toNat).snd) (n - 1) (by omega) (by omega) (b58 (by omega) (by omega) (by omega) (by omega) r1))) [0, 1, 0, 0, 0, 16, 60, 124, 255, 511, 1023] [0, 1, 2, 3, 4, 5, 6, 7, 73] [.box [.ref 1, iA (K8 b (vs.length : Int) (ars.length : Int) d (aG2 b vs ars d j k).snd).snd], dY b, dI vs, dI ars, dT bd, .box (pL 2), aP1, .box [iA (nm b (j + 1) M5), iA 0, .tref 8], .tree (D.exprs ((aG2 b vs ars d j k).fst ++ [m8 (K8 b (vs.length : Int) (ars.length : Int) d (aG2 b vs ars d j k).snd).fst]))] (af1 n [(8, .ptr 7 0), (9, iA k)]) ((wO (n - 1)) :: (aP ((drK b (vs.length : Int) (ars.length : Int) d j (n4 (nm b (j + 1) M5) - k).toNat).fst.length + 1) 40 [])) ⟨oW (by omega), (aK (by omega) cc1)⟩ fun G => m6 (b7 (D7 G d9 [(9, iA (k - 1))] [wO (k - 1)] (o1 (by omega)) fun G => b7 ?_)))))); exact M7 G (k - 1) (by omega) (by omega) (rg 9) (by have e1 : ((drK b (vs.length : Int) (ars.length : Int) d j (n4 (nm b (j + 1) M5) - (k - 1)).toNat).snd : Int) = ((K8 b (vs.length : Int) (ars.length : Int) d (drK b (vs.length : Int) (ars.length : Int) d j (n4 (nm b (j + 1) M5) - k).toNat).snd).snd) := (by rw [bn0 (by omega) (by omega)]; done); have e2 : ((drK b (vs.length : Int) (ars.length : Int) d j (n4 (nm b (j + 1) M5) - (k - 1)).toNat).fst : List b5) = ((drK b (vs.length : Int) (ars.length : Int) d j (n4 (nm b (j + 1) M5) - k).toNat).fst ++ [m8 (K8 b (vs.length : Int) (ars.length : Int) d (drK b (vs.length : Int) (ars.length : Int) d j (n4 (nm b (j + 1) M5) - k).toNat).snd).fst]) := (by rw [bn0 (by omega) (by omega)]; (simp only [b5.eta]; done)); (first | rw [e1, e2] | simp only [e1, e2]) <;> rfl)
    ·
     refine wp_seq (wp_seq (l0 G d9 [(28, bA ((ars.length : Int) == 0))] fun G => b7 (P4 G (fun h3 q3 => ?_) fun h3 q3 => ?_)))
     · refine wp_skip (b7 (wp_seq (N3 G (t4 (l8 5 [0, 1] (L8 b (j + 1 + 1) ((ars.length : Int)) (by omega) (by omega)) (l8 8 (rg 5) (ay9 b (j + 1 + 1 + 1) vs ars bd (by omega) (by omega)) t3)) fz []) [0, 0, 0, 4, 12, 30, 0, 0, 254, 510, 1023, 2047] [0, 1, 2, 3, 4, 5, 6, 79] [.box [.ref 1, iA (j + 1 + 1 + 1 + 2)], dY b, dI vs, dI ars, dT bd, .box (pL 2), .box [iA (nm b (j + 1) M5), iA (pk b (j + 1 + 1) (ars.length : Int)), .tref 7], .tree (D.exprs [m8 (o5 b (vs.length : Int) (j + 1 + 1 + 1))])] (af1 n [(7, iA (nm b (j + 1) M5))]) fun G => b7 (wp_ret (l7 ?_))))); exact W2 (.agg [iA (nm b (j + 1) M5), iA (pk b (j + 1 + 1) (ars.length : Int)), .tref 7]) G [0, 1, 2, 3, 4, 7] (by show _ = AV.ren (nth [0, 1, 2, 3, 4, 7]) (az8 b vs ars d j); unfold az8; have e1 : ((K8 b (vs.length : Int) (ars.length : Int) (d + 1) j).fst.kind : Int) = (nm b (j + 1) M5) := (by rw [bM6 hd (by omega) (by omega) (by omega)]; (simp only [Int.add_assoc, Int.reduceAdd, b5.eta, b5.kids, b5.kind, b5.value]; omega)); have e2 : ((K8 b (vs.length : Int) (ars.length : Int) (d + 1) j).fst.value : Int) = (pk b (j + 1 + 1) (ars.length : Int)) := (by rw [bM6 hd (by omega) (by omega) (by omega)]; (simp only [Int.add_assoc, Int.reduceAdd, b5.eta, b5.kids, b5.kind, b5.value]; done)); (first | rw [e1, e2] | simp only [e1, e2]) <;> rfl) (by show _ = mR [0, 1, 2, 3, 4, 7] (az7 b vs ars bd d j); unfold az7; have e1 : ((K8 b (vs.length : Int) (ars.length : Int) (d + 1) j).snd : Int) = (j + 1 + 1 + 1 + 2) := (by rw [bM6 hd (by omega) (by omega) (by omega)]; (simp only [Int.add_assoc, Int.reduceAdd, b5.eta, b5.kids, b5.kind, b5.value]; done)); have e2 : ((K8 b (vs.length : Int) (ars.length : Int) (d + 1) j).fst.kids : List b5) = ([m8 (o5 b (vs.length : Int) (j + 1 + 1 + 1))]) := (by rw [bM6 hd (by omega) (by omega) (by omega)]; show [_] = _; simp only [Int.add_assoc, Int.reduceAdd, b5.eta]; done); (first | rw [e1, e2] | simp only [e1, e2]) <;> rfl)
     · refine wp_seq (k8 G (s4 2 (rg 5) (ay9 b (j + 1 + 1) vs ars bd (by omega) (by omega))) [0, 1, 2, 3, 4, 5, 6, 23] [.box [.ref 1, iA (j + 1 + 1 + 2)], dY b, dI vs, dI ars, dT bd, .box (pL 2), .box [iA (o5 b (vs.length : Int) (j + 1 + 1)).kind, iA (o5 b (vs.length : Int) (j + 1 + 1)).value, .tref 7], .tree (D.exprs (o5 b (vs.length : Int) (j + 1 + 1)).kids)] (af1 n [(7, iA (nm b (j + 1) M5))]) fun G => b7 (wp_ret (l7 (l7 ?_)))); exact W2 (.agg [iA (o5 b (vs.length : Int) (j + 1 + 1)).kind, iA (o5 b (vs.length : Int) (j + 1 + 1)).value, .tref 7]) G [0, 1, 2, 3, 4, 7] (by show _ = AV.ren (nth [0, 1, 2, 3, 4, 7]) (az8 b vs ars d j); unfold az8; have e1 : ((K8 b (vs.length : Int) (ars.length : Int) (d + 1) j).fst.kind : Int) = ((o5 b (vs.length : Int) (j + 1 + 1)).kind) := (by rw [bM7 hd (by omega) (by omega) (by omega)]; (simp only [Int.add_assoc, Int.reduceAdd, b5.eta, b5.kids, b5.kind, b5.value]; done)); have e2 : ((K8 b (vs.length : Int) (ars.length : Int) (d + 1) j).fst.value : Int) = ((o5 b (vs.length : Int) (j + 1 + 1)).value) := (by rw [bM7 hd (by omega) (by omega) (by omega)]; (simp only [Int.add_assoc, Int.reduceAdd, b5.eta, b5.kids, b5.kind, b5.value]; done)); (first | rw [e1, e2] | simp only [e1, e2]) <;> rfl) (by show _ = mR [0, 1, 2, 3, 4, 7] (az7 b vs ars bd d j); unfold az7; have e1 : ((K8 b (vs.length : Int) (ars.length : Int) (d + 1) j).snd : Int) = (j + 1 + 1 + 2) := (by rw [bM7 hd (by omega) (by omega) (by omega)]; (simp only [Int.add_assoc, Int.reduceAdd, b5.eta, b5.kids, b5.kind, b5.value]; done)); have e2 : ((K8 b (vs.length : Int) (ars.length : Int) (d + 1) j).fst : b5) = (o5 b (vs.length : Int) (j + 1 + 1)) := (by rw [bM7 hd (by omega) (by omega) (by omega)]; (simp only [Int.add_assoc, Int.reduceAdd, b5.eta, b5.kids, b5.kind, b5.value]; done)); (first | rw [e1, e2] | simp only [e1, e2]) <;> rfl)
   · refine wp_seq (k8 G (s4 2 (rg 5) (ay9 b (j + 1) vs ars bd (by omega) (by omega))) [0, 1, 2, 3, 4, 5, 6, 23] [.box [.ref 1, iA (j + 1 + 2)], dY b, dI vs, dI ars, dT bd, .box (pL 2), .box [iA (o5 b (vs.length : Int) (j + 1)).kind, iA (o5 b (vs.length : Int) (j + 1)).value, .tref 7], .tree (D.exprs (o5 b (vs.length : Int) (j + 1)).kids)] (af1 n []) fun G => b7 (wp_ret (l7 ?_))); exact W2 (.agg [iA (o5 b (vs.length : Int) (j + 1)).kind, iA (o5 b (vs.length : Int) (j + 1)).value, .tref 7]) G [0, 1, 2, 3, 4, 7] (by show _ = AV.ren (nth [0, 1, 2, 3, 4, 7]) (az8 b vs ars d j); unfold az8; rw [bX4 hd (by omega)] <;> rfl) (by show _ = mR [0, 1, 2, 3, 4, 7] (az7 b vs ars bd d j); unfold az7; have e1 : ((K8 b (vs.length : Int) (ars.length : Int) (d + 1) j).snd : Int) = (j + 1 + 2) := (by rw [bX4 hd (by omega)]; (simp only [Int.add_assoc, Int.reduceAdd, b5.eta, b5.kids, b5.kind, b5.value]; done)); rw [e1, bX4 hd (by omega)] <;> rfl)
  · have q0 := dTt h0; exact False.elim (by omega)
theorem bH2 (b : List UInt8) (vs ars : List Int) (bd : List b6) : ∀ (d : Nat) (j n : Int), d ≤ 100 → n = d → 0 ≤ j → j + cE d ≤ 800000000 → i9.ok Tryz.prog (drC b vs ars bd d j n)
 | 0, j, n, _, hn, r0, r1 => bj7 b vs ars bd 0 (by omega) j n hn r0 (by have := aL7 0; omega)
 | 1, j, n, _, hn, r0, r1 => bj7 b vs ars bd 1 (by omega) j n hn r0 (by have := aL7 1; omega)
 | d + 2, j, n, hd, hn, r0, r1 => bJ1 b vs ars bd (d + 1) (by omega) (by omega) (fun j n => bH2 b vs ars bd (d + 1) j n (by omega)) j n hn r0 r1
abbrev smC (b : List UInt8) (vs ars : List Int) (bd : List b6) (j : Int) : i9 := ⟨247, [.ptr 0 0, pA 2], dwS b j vs ars bd, dwS b (t7 b vs.length ars.length j).2 vs ars bd ++ exO (t7 b vs.length ars.length j).1, exA (t7 b vs.length ars.length j).1 5⟩
section
variable {b : List UInt8} {nv na : Nat} {j : Int}
theorem b12 (h : l6 nv na (K8 b nv na (nm b j dpL).toNat (j + 1)).1 = true) : t7 b nv na j = K8 b nv na (nm b j dpL).toNat (j + 1) := if_pos h
theorem b11 (h : l6 nv na (K8 b nv na (nm b j dpL).toNat (j + 1)).1 = false) : t7 b nv na j = (o5 b nv (K8 b nv na (nm b j dpL).toNat (j + 1)).2, (K8 b nv na (nm b j dpL).toNat (j + 1)).2 + 2) := if_neg (by rw [h]; decide)
theorem b77 (r0 : 0 ≤ j) (r1 : j ≤ 700000000) : cE (nm b j dpL).toNat ≤ 364 := cE4 (dp4 b r0 (by omega)).2.2
end
abbrev aa7 (b : List UInt8) (vs : List Int) (ars : List Int) (j : Int) := K8 b (vs.length : Int) (ars.length : Int) (nm b j dpL).toNat (j + 1)
theorem ae6 (b : List UInt8) (vs ars : List Int) (bd : List b6) (j : Int) (r0 : 0 ≤ j) (r1 : j ≤ 700000000) : i9.ok Tryz.prog (smC b vs ars bd j) := by
 have hdr := fun (i n : Int) => bH2 b vs ars bd (nm b j dpL).toNat i n (cd3 (dp4 b r0 (by omega)).2.2 (by omega))
 refine z7 19 Tryz.func247 [.box [.ref 1, iA j], dY b, dI vs, dI ars, dT bd] [(0, .ptr 0 0), (1, pA 2)] fun G => ?_; have hd4 := b77 (b := b) r0 r1; have hdb := a66 b vs.length ars.length (nm b j dpL).toNat (j + 1); refine wp_seq (k8 G d9 [0, 1, 2, 3, 4, 5, 13] [.box [.ref 1, iA j], dY b, dI vs, dI ars, dT bd, .box (pL 2), .box [iA 0, iA 0, .v (.slice none 0 0)]] [(0, .ptr 0 0), (3, .ptr 5 0), (4, .ptr 6 0)] fun G => b7 (wp_seq (N3 G (t4 (l8 4 [0, 1, 31] (i9.lend (O9 b j dpL (List.cons_ne_nil _ _) (by assumption) (by omega)) [.no, .no, .row 3]) (l8 5 (rg 5) (hdr (j + 1) (nm b j dpL) (bX5 b (by omega) (by omega)) (by omega) (by omega)) t3)) fz []) [0, 0, 0, 0, 12, 31, 0, 127] [0, 1, 2, 3, 4, 5, 6, 47, 55] [.box [.ref 1, iA (aa7 b vs ars j).snd], dY b, dI vs, dI ars, dT bd, .box (pL 2), .box [iA 0, iA 0, .v (.slice none 0 0)], .tree (D.exprs (aa7 b vs ars j).fst.kids), .box [iA (aa7 b vs ars j).fst.kind, iA (aa7 b vs ars j).fst.value, .tref 7]] [(0, .ptr 0 0), (3, .ptr 5 0), (4, .ptr 6 0), (5, .ptr 8 0)] fun G => b7 (wp_seq (wp_seq (l0 G (s4 2 [2, 3, 4, 7] (i9.lend (bf9 vs ars bd ((K8 b (vs.length : Int) (ars.length : Int) (nm b j dpL).toNat (j + 1)).fst)) [.no, .no, .no, .tree])) [(14, bA (l6 vs.length ars.length (aa7 b vs ars j).fst))] fun G => b7 (rcB (b := l6 vs.length ars.length (K8 b (vs.length : Int) (ars.length : Int) (nm b j dpL).toNat (j + 1)).fst) G (fun h0 => ?_) fun h0 => ?_)))))))
 ·refine wp_skip (b7 (wp_seq (k8 G (s4 2 (rg 5) (ay9 b ((K8 b (vs.length : Int) (ars.length : Int) (nm b j dpL).toNat (j + 1)).snd) vs ars bd (by omega) (by omega))) [0, 1, 2, 3, 4, 6, 25] [.box [.ref 1, iA ((aa7 b vs ars j).snd + 2)], dY b, dI vs, dI ars, dT bd, .box [iA (o5 b (vs.length : Int) (aa7 b vs ars j).snd).kind, iA (o5 b (vs.length : Int) (aa7 b vs ars j).snd).value, .tref 6], .tree (D.exprs (o5 b (vs.length : Int) (aa7 b vs ars j).snd).kids)] [(4, .ptr 5 0)] fun G => b7 (wp_ret ?_)))); exact W2 (.agg [iA (o5 b (vs.length : Int) (K8 b (vs.length : Int) (ars.length : Int) (nm b j dpL).toNat (j + 1)).snd).kind, iA (o5 b (vs.length : Int) (K8 b (vs.length : Int) (ars.length : Int) (nm b j dpL).toNat (j + 1)).snd).value, .tref 6]) G [0, 1, 2, 3, 4, 6] (by show _ = AV.ren (nth [0, 1, 2, 3, 4, 6]) (.agg [iA (t7 b vs.length ars.length j).fst.kind, iA (t7 b vs.length ars.length j).fst.value, .tref 5]); rw [b11 (by with_reducible assumption)] <;> rfl) (by show _ = mR [0, 1, 2, 3, 4, 6] [.box [.ref 1, iA (t7 b vs.length ars.length j).snd], dY b, dI vs, dI ars, dT bd, .tree (D.exprs (t7 b vs.length ars.length j).fst.kids)]; rw [b11 (by with_reducible assumption)] <;> rfl)
 ·refine wp_seq (k8 G d9 (rg 8) [.box [.ref 1, iA (aa7 b vs ars j).snd], dY b, dI vs, dI ars, dT bd, .box (pL 2), .box [iA (aa7 b vs ars j).fst.kind, iA (aa7 b vs ars j).fst.value, .tref 7], .tree (D.exprs (aa7 b vs ars j).fst.kids)] [(0, .ptr 0 0), (3, .ptr 5 0), (4, .ptr 6 0)] fun G => b7 (wp_ret (l7 ?_))); exact W2 (.agg [iA (K8 b (vs.length : Int) (ars.length : Int) (nm b j dpL).toNat (j + 1)).fst.kind, iA (K8 b (vs.length : Int) (ars.length : Int) (nm b j dpL).toNat (j + 1)).fst.value, .tref 7]) G [0, 1, 2, 3, 4, 7] (by show _ = AV.ren (nth [0, 1, 2, 3, 4, 7]) (.agg [iA (t7 b vs.length ars.length j).fst.kind, iA (t7 b vs.length ars.length j).fst.value, .tref 5]); rw [b12 (by with_reducible assumption)] <;> rfl) (by show _ = mR [0, 1, 2, 3, 4, 7] [.box [.ref 1, iA (t7 b vs.length ars.length j).snd], dY b, dI vs, dI ars, dT bd, .tree (D.exprs (t7 b vs.length ars.length j).fst.kids)]; rw [b12 (by with_reducible assumption)] <;> rfl)
end Go.Proofs.YthikdkjjdeehoaaGreat
