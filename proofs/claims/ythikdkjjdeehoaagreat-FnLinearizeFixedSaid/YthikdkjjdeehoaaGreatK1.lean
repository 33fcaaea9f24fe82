/-
  Texts of this claim, part 1: what the functions on the way do, and plain laws. Conditions: as each statement says.
-/
import Derived.WalkKit
import Derived.ProofKit
import Derived.Handy
import Derived.WalkSmall
import Derived.Deep.QuietTactic
import Derived.BigQuiet
import Derived.StillTailTactics
import Derived.Test.YthikdkjjdeehoaaGreatRows
import Derived.OpenShut
import Derived.ChangeOld
import Derived.Deep.Slices
import Derived.Lib.SmallJoins
import Derived.Deep.Quiet
import Derived.StillTail
import Derived.Maps.AppendAt
import Derived.ArgAppend
import Derived.Deep.Upon
import Derived.Laws.Small
import Derived.Great.BuildSlice
set_option maxRecDepth 100000
set_option maxHeartbeats 16000000
open Bool renaming and_eq_true → b86
open Inhabited renaming default → b85
open List renaming all_eq_true → b93, eq_nil_of_length_eq_zero → ca0, getD_eq_getElem?_getD → b91, getElem?_append_left → ca9, getElem?_append_right → cc6, getElem?_eq_getElem → b90, getElem?_eq_none → cb5, getElem?_eq_some_iff → b98, getElem_mem → cb0, length_append → b88, length_cons → b87, length_nil → b89, map_cons → cb9, mem_append → ca2, mem_cons → cb7, mem_cons_of_mem → ca8, mem_cons_self → ca1, mem_of_getElem? → cb4, mem_singleton → ca5, range → cb2, replicate → cb3, take_of_length_le → ca3
open Nat renaming le_refl → b99, le_trans → ca7, lt_or_ge → cc0, mul_le_mul_right → cc2, succ_mul → cb8, zero_add → cc3, zero_le → cc1
open Option renaming isSome_iff_exists → cc4, map_eq_some_iff → b92
open True renaming intro → b94

namespace Go.Proofs.YthikdkjjdeehoaaGreat
set_option linter.unusedVariables false
set_option linter.unusedSimpArgs false
open Go Go.RowKit
def Z9 (w : World) (v : Value) (n sz : Nat) (xs : List Value) : Prop :=
 xs.length = n * sz ∧ ∃ a cap, v = .slice a n cap ∧ n ≤ cap ∧ cap ≤ maxLen ∧
  (0 < n → ∃ b off, a = some ⟨b, off, none⟩ ∧ b < w.heap.size ∧ ∀ j u, xs[j]? = some u → w.cell? ⟨b, off + j, none⟩ = some u)
theorem aR3 {W w1 : World} (hb : Below W.heap.size W w1) : (∀ b o, b < W.heap.size → w1.cell? ⟨b, o, none⟩ = W.cell? ⟨b, o, none⟩) ∧ (∀ b o, b < W.heap.size → w1.frozen? ⟨b, o, none⟩ = W.frozen? ⟨b, o, none⟩) :=
 ⟨fun b o h => hb.cell (p := ⟨b, o, none⟩) h, fun b o h => hb.frozen (p := ⟨b, o, none⟩) h⟩
theorem Z9.below {w w' : World} {v : Value} {n sz : Nat} {xs : List Value} (h : Z9 w v n sz xs) (hb : Below w.heap.size w w') : Z9 w' v n sz xs := by
 obtain ⟨hl, a, cap, rfl, h1, h2, h3⟩ := h
 refine ⟨hl, a, cap, rfl, h1, h2, fun hn => ?_⟩
 obtain ⟨b, off, rfl, hbk, hc⟩ := h3 hn
 exact ⟨b, off, rfl, Nat.lt_of_lt_of_le hbk hb.size, fun j u hj => ((aR3 hb).1 b _ hbk).trans (hc j u hj)⟩
theorem Z9.len {w : World} {v : Value} {n sz : Nat} {xs : List Value} (h : Z9 w v n sz xs) : n ≤ 9223372036854775807 := by
 obtain ⟨_, a, cap, rfl, h1, h2, _⟩ := h; unfold maxLen at h2; omega
theorem Z9.nil (w : World) (sz : Nat) : Z9 w (.slice none 0 0) 0 sz [] := ⟨by simp, none, 0, rfl, b99 _, by unfold maxLen; omega, fun h => absurd h (by omega)⟩
theorem Z9.open {w : World} {v : Value} {n sz : Nat} {xs : List Value} (h : Z9 w v n sz xs) : ∃ a cap, v = .slice a n cap ∧ n ≤ cap ∧ n ≤ 9223372036854775807 ∧ cap ≤ 9223372036854775807 ∧
  ∀ i, i < n → ∃ b off, a = some ⟨b, off, none⟩ ∧ b < w.heap.size ∧ ∀ j, j < sz → w.cell? ⟨b, off + i * sz + j, none⟩ = xs[i * sz + j]? := by
 obtain ⟨hl, a, cap, rfl, h1, h2, h3⟩ := h
 unfold maxLen at h2
 refine ⟨a, cap, rfl, h1, by omega, by omega, fun i hi => ?_⟩
 obtain ⟨b, off, rfl, hbk, hc⟩ := h3 (by omega)
 refine ⟨b, off, rfl, hbk, fun j hj => ?_⟩
 have hlt : i * sz + j < xs.length := by
  rw [hl]; have := cc2 sz (Nat.succ_le_of_lt hi); rw [cb8] at this; omega
 rw [b90 hlt, Nat.add_assoc]
 exact hc _ _ (b90 hlt)
theorem Z9.form {w : World} {v : Value} {n sz : Nat} {xs : List Value} (h : Z9 w v n sz xs) : ∃ a cap, v = .slice a n cap := by
 obtain ⟨_, a, cap, hv, _⟩ := h
 exact ⟨a, cap, hv⟩
theorem Z9.open1 {w : World} {v : Value} {n : Nat} {xs : List Value} (h : Z9 w v n 1 xs) : ∃ a cap, v = .slice a n cap ∧ n ≤ cap ∧ n ≤ 9223372036854775807 ∧ cap ≤ 9223372036854775807 ∧
  ∀ i, i < n → ∃ b off, a = some ⟨b, off, none⟩ ∧ b < w.heap.size ∧ w.cell? ⟨b, off + i, none⟩ = xs[i]? := by
 obtain ⟨a, cap, h0, h1, h2, h3, h4⟩ := h.open
 refine ⟨a, cap, h0, h1, h2, h3, fun i hi => ?_⟩
 obtain ⟨b, off, e, hb, hc⟩ := h4 i hi
 exact ⟨b, off, e, hb, by simpa using hc 0 (by omega)⟩
theorem ai1 {w : World} {base : Nat} {e : TypeId} {sz : Nat} {v : Value} {n : Nat} {xs : List Value} (h : w.ownsRow base e sz v n xs) : Z9 w v n sz xs := by
 refine ⟨h.1, ?_⟩
 rcases h.2 with ⟨rfl, rfl⟩ | ⟨g, cap, cur, rfl, hbg, hg, hnc, hcm, hcs, ht⟩
 ·exact ⟨none, 0, rfl, b99 _, by unfold maxLen; omega, fun h => absurd h (by omega)⟩
 ·refine ⟨some ⟨g, 0, none⟩, cap, rfl, hnc, hcm, fun _ => ⟨g, 0, rfl, (Array.getElem?_eq_some_iff.1 hg).1, fun j u hj => ?_⟩⟩
  have hadd : (⟨g, 0, none⟩ : Addr).add j = ⟨g, 0 + j, none⟩ := by unfold Addr.add; split <;> simp_all
  rw [← hadd]
  exact h.cells (g := g) rfl j u hj
theorem aa9 {w : World} {base base' : Nat} {e : TypeId} {sz : Nat} {v : Value} {n : Nat} {xs : List Value} (h : w.ownsRow base e sz v n xs) (hb : base' ≤ base) : w.ownsRow base' e sz v n xs := by
 refine ⟨h.1, ?_⟩
 rcases h.2 with hn | ⟨g, cap, cur, rfl, hbg, r⟩
 ·exact .inl hn
 ·exact .inr ⟨g, cap, cur, rfl, by omega, r⟩
def Own (w : World) (lo hi : Nat) (e : TypeId) (sz : Nat) (v : Value) (n : Nat) (xs : List Value) : Prop :=
 w.ownsRow lo e sz v n xs ∧ ∀ g, v.ownBlock = some g → g < hi
structure Out (lo hi : Nat) (w w' : World) : Prop where
 os : w'.os = w.os
 tape : w'.tape = w.tape
 output : w'.output = w.output
 size : w.heap.size ≤ w'.heap.size
 block : ∀ k, k < w.heap.size → (k < lo ∨ hi ≤ k) → w'.heap[k]? = w.heap[k]?
theorem Out.refl (lo hi : Nat) (w : World) : Out lo hi w w := ⟨rfl, rfl, rfl, b99 _, fun _ _ _ => rfl⟩
theorem Out.trans {lo hi : Nat} {a b c : World} (h : Out lo hi a b) (k : Out lo hi b c) : Out lo hi a c :=
 ⟨k.os.trans h.os, k.tape.trans h.tape, k.output.trans h.output, ca7 h.size k.size, fun i hi ho => (k.block i (Nat.lt_of_lt_of_le hi h.size) ho).trans (h.block i hi ho)⟩
theorem Out.below {lo hi B : Nat} {a b : World} (h : Out lo hi a b) (h1 : B ≤ lo) (h2 : B ≤ a.heap.size) : Below B a b :=
 ⟨h.os, h.tape, h.output, h.size, fun k hk => h.block k (by omega) (by omega)⟩
theorem Out.of_below {lo hi B : Nat} {a b : World} (h : Below B a b) (h1 : a.heap.size ≤ B) : Out lo hi a b :=
 ⟨h.os, h.tape, h.output, h.size, fun k hk _ => h.block k (by omega)⟩
theorem Out.setCell {lo hi : Nat} {a w : World} (h : Out lo hi a w) {p : Addr} (h1 : lo ≤ p.block) (h2 : p.block < hi) (u : Value) : Out lo hi a (w.setCell p u) :=
 h.trans ⟨rfl, rfl, rfl, by simp [World.setCell], fun k _ ho => Below.heap_setCell _ _ _ _ (by omega)⟩
theorem Own.lt {w : World} {lo hi : Nat} {e : TypeId} {sz : Nat} {v : Value} {n : Nat} {xs : List Value} (h : Own w lo hi e sz v n xs) : ∀ g, v.ownBlock = some g → lo ≤ g ∧ g < hi ∧ g < w.heap.size :=
 fun g hg => ⟨(h.1.lt g hg).1, h.2 g hg, (h.1.lt g hg).2⟩
theorem Own.row {w : World} {lo hi : Nat} {e : TypeId} {sz : Nat} {v : Value} {n : Nat} {xs : List Value} (h : Own w lo hi e sz v n xs) : Z9 w v n sz xs := ai1 h.1
theorem Own.mk' {w : World} {lo : Nat} {e : TypeId} {sz : Nat} {v : Value} {n : Nat} {xs : List Value} (h : w.ownsRow lo e sz v n xs) : Own w lo w.heap.size e sz v n xs :=
 ⟨h, fun g hg => (h.lt g hg).2⟩
theorem Own.form {w : World} {lo hi : Nat} {e : TypeId} {sz : Nat} {v : Value} {n : Nat} {xs : List Value} (h : Own w lo hi e sz v n xs) : ∃ a cap, v = .slice a n cap := by
 obtain ⟨_, a, cap, hv, _⟩ := h.row
 exact ⟨a, cap, hv⟩
theorem Own.same {w w' : World} {lo hi : Nat} {e : TypeId} {sz : Nat} {v : Value} {n : Nat} {xs : List Value} (h : Own w lo hi e sz v n xs)
  (hs : ∀ g, v.ownBlock = some g → w'.heap[g]? = w.heap[g]?) : Own w' lo hi e sz v n xs := by
 refine ⟨⟨h.1.1, ?_⟩, h.2⟩
 rcases h.1.2 with hn | ⟨g, cap, cur, rfl, hbg, hg, r⟩
 ·exact .inl hn
 ·exact .inr ⟨g, cap, cur, rfl, hbg, (hs g rfl).trans hg, r⟩
theorem Own.keep {w w' : World} {lo hi B : Nat} {e : TypeId} {sz : Nat} {v : Value} {n : Nat} {xs : List Value} (h : Own w lo hi e sz v n xs) (hb : Below B w w') (hB : hi ≤ B) : Own w' lo hi e sz v n xs :=
 h.same fun g hg => hb.block g (by have := h.lt g hg; omega)
theorem Own.out {w w' : World} {lo hi lo' hi' : Nat} {e : TypeId} {sz : Nat} {v : Value} {n : Nat} {xs : List Value} (h : Own w lo hi e sz v n xs) (ho : Out lo' hi' w w') (hd : hi ≤ lo' ∨ hi' ≤ lo) : Own w' lo hi e sz v n xs :=
 h.same fun g hg => ho.block g (h.lt g hg).2.2 (by have := h.lt g hg; omega)
theorem Own.open {w : World} {lo hi : Nat} {e : TypeId} {sz : Nat} {v : Value} {n : Nat} {xs : List Value} (h : Own w lo hi e sz v n xs) (hn : 0 < n) :
  ∃ g cap, v = .slice (some ⟨g, 0, none⟩) n cap ∧ lo ≤ g ∧ g < hi ∧ g < w.heap.size ∧ n ≤ cap ∧ cap ≤ maxLen ∧ (∀ o, w.frozen? ⟨g, o, none⟩ = false) ∧ ∀ j u, xs[j]? = some u → w.cell? ⟨g, j, none⟩ = some u := by
 have hl := h.lt
 rcases h.1.2 with ⟨_, h0⟩ | ⟨g, cap, cur, rfl, hbg, hg, hnc, hcm, hcs, ht⟩
 ·omega
 ·obtain ⟨l1, l2, l3⟩ := hl g rfl
  refine ⟨g, cap, rfl, l1, l2, l3, hnc, hcm, fun o => ?_, fun j u hj => ?_⟩
  ·simp only [World.frozen?, hg]; simp
  ·have hadd : (⟨g, 0, none⟩ : Addr).add j = ⟨g, j, none⟩ := by unfold Addr.add; split <;> simp_all
   rw [← hadd]
   exact h.1.cells (g := g) rfl j u hj
theorem Own.at {w : World} {lo hi : Nat} {e : TypeId} {sz : Nat} {v : Value} {n : Nat} {xs : List Value} (h : Own w lo hi e sz v n xs) {j : Nat} (hj : j < xs.length) :
  ∃ g cap, v = .slice (some ⟨g, 0, none⟩) n cap ∧ lo ≤ g ∧ g < hi ∧ g < w.heap.size ∧ w.frozen? ⟨g, j, none⟩ = false ∧ ∃ u, w.cell? ⟨g, j, none⟩ = some u := by
 have hn : 0 < n := by
  rcases Nat.eq_zero_or_pos n with h0 | h0
  ·subst h0; have := h.1.1; omega
  ·exact h0
 obtain ⟨g, cap, hv, h1, h2, h3, _, _, h4, h5⟩ := h.open hn
 exact ⟨g, cap, hv, h1, h2, h3, h4 j, _, h5 j _ (b90 hj)⟩
theorem Own.setCell {w : World} {lo hi : Nat} {e : TypeId} {sz : Nat} {n cap g : Nat} {xs : List Value} (h : Own w lo hi e sz (.slice (some ⟨g, 0, none⟩) n cap) n xs) {j : Nat} (_hj : j < xs.length) (u : Value) :
  Own (w.setCell ⟨g, j, none⟩ u) lo hi e sz (.slice (some ⟨g, 0, none⟩) n cap) n (xs.set j u) := by
 refine ⟨⟨by rw [List.length_set]; exact h.1.1, ?_⟩, h.2⟩
 rcases h.1.2 with ⟨hv, _⟩ | ⟨g', cap', cur, hv, hbg, hg, hnc, hcm, hcs, ht⟩
 ·cases hv
 ·cases hv
  refine .inr ⟨g, cap, cur.setIfInBounds j u, rfl, hbg, ?_, hnc, hcm, by simpa using hcs, ?_⟩
  ·have hlt := (Array.getElem?_eq_some_iff.1 hg).1
   simp only [World.setCell, Array.getElem?_modify]
   simp [hg]
  ·rw [Array.toList_setIfInBounds, List.take_set, ht]
theorem f7 {a b : Bool} (h : a = b) : Ending.returned (.bool a) = .returned (.bool b) := by rw [h]
theorem U0 {k : IntKind} {a b : Int} (h : a = b) : Ending.returned (.int k a) = .returned (.int k b) := by rw [h]
theorem r9 {α : Type} (l : List α) (k : Nat) (h : k < l.length) : l.take (k + 1) = l.take k ++ [l[k]] := by
 rw [List.take_succ_eq_append_getElem h]
theorem am8 {α : Type} (ys : List α) (k : Nat) (u : α) (h : k < ys.length) : (ys.set k u).take (k + 1) = ys.take k ++ [u] := by
 rw [r9 _ _ (by simpa using h), List.take_set_of_le (b99 _)]; simp
def D3 (z : List Value) (n : Nat) : List Value := (cb3 n z).flatten
theorem M5 (z : List Value) (n : Nat) : (D3 z n).length = n * z.length := by simp [D3]
theorem az1 (z : Value) (n : Nat) : D3 [z] n = cb3 n z := by
 unfold D3
 induction n with
 | zero => rfl
 | succ n ih => rw [List.replicate_succ, List.flatten_cons, ih]; rfl
theorem aI6 (z : Array Value) (n : Nat) (_hz : 0 < z.size) : madeCells z (n * z.size) = (D3 z.toList n).toArray := by
 apply Array.ext
 ·simp [size_madeCells, M5]
 ·intro i h1 h2
  simp only [madeCells, Array.getElem_map, Array.getElem_range, List.getElem_toArray]
  have hlt : i < (D3 z.toList n).length := by simpa using h2
  have key : ∀ (m i : Nat), i < (D3 z.toList m).length → (D3 z.toList m)[i]? = some (z[i % z.size]!) := by
   intro m
   induction m with
   | zero => intro i hi; simp [D3] at hi
   | succ m ih =>
    intro i hi
    have e : D3 z.toList (m + 1) = z.toList ++ D3 z.toList m := by simp [D3, List.replicate_succ]
    rw [e]
    by_cases hlt : i < z.size
    ·rw [ca9 (by simpa using hlt), Nat.mod_eq_of_lt hlt]
     simp [hlt]
    ·rw [cc6 (by simp; omega)]
     have := ih (i - z.toList.length) (by rw [e, b88] at hi; rw [Array.length_toList] at hi ⊢; omega)
     rw [this]
     congr 2
     rw [Array.length_toList]
     exact (Nat.mod_eq_sub_mod (by omega)).symm
  have := key n i hlt
  rw [b90 hlt] at this
  exact (Option.some.inj this).symm
theorem by7 {P : Program} {t e : TypeId} {z : Value} {size bytes : Nat} (ht : P.underlying t = some (.slice e)) (hi : (P.info? e).map (fun i => (i.zero, i.size, i.bytes)) = some (some z, size, bytes))
  (hz : z.cells.size = size) (hs : 0 < size) (n : Nat) (hn : bytes * n ≤ 281474976710656) (hm : n ≤ 9223372036854775807) :
  ∀ w, (Instr.makeSlice t (.int .i64 n) (.int .i64 n)).run P w = .ok (.slice (some ⟨w.heap.size, 0, none⟩) n n) (w.alloc (.cells (D3 z.cells.toList n).toArray e)) := by
 intro w
 obtain ⟨i, h1, h2, h3, h4⟩ := info_parts hi
 have := run_make (P := P) w t e i z ht h1 h2 .i64 .i64 n n (by omega) (Int.le_refl _) (by rw [h4, ← Int.natCast_mul]; omega) (by omega)
 rw [this]
 simp only [Int.toNat_natCast, h3]
 subst hz
 rw [aI6 _ _ hs]
theorem ak6 (w : World) {g : Nat} (cs : Array Value) (n sz : Nat) (e : TypeId) (hg : g = w.heap.size) (hz : cs.size = n * sz) (hm : n ≤ 9223372036854775807) :
  Own (w.alloc (.cells cs e)) w.heap.size (w.heap.size + 1) e sz (.slice (some ⟨g, 0, none⟩) n n) n cs.toList := by
 subst hg
 refine ⟨⟨by simpa using hz, .inr ⟨w.heap.size, n, _, rfl, b99 _, heap_alloc_new w _, b99 _, by unfold maxLen; omega, hz, ?_⟩⟩, fun g hg => by cases hg; exact Nat.lt_succ_self _⟩
 rw [← hz]
 exact ca3 (by simp)
theorem bx2 (w : World) (z : List Value) (n sz : Nat) (e : TypeId) (hz : z.length = sz) (hm : n ≤ 9223372036854775807) :
  Own (w.alloc (.cells (D3 z n).toArray e)) w.heap.size (w.heap.size + 1) e sz (.slice (some ⟨w.heap.size, 0, none⟩) n n) n (D3 z n) := by
 refine ⟨⟨by rw [M5, hz], .inr ⟨w.heap.size, n, _, rfl, b99 _, heap_alloc_new w _, b99 _, by unfold maxLen; omega, by simp [M5, hz], ?_⟩⟩, fun g hg => by cases hg; exact Nat.lt_succ_self _⟩
 have : (D3 z n).length = n * sz := by rw [M5, hz]
 rw [← this]
 simp
def setFrom (ys : List Value) (p : Nat) : List Value → List Value
 | [] => ys
 | u :: r => setFrom (ys.set p u) (p + 1) r
def World.setFrom (w : World) (g p : Nat) : List Value → World
 | [] => w
 | u :: r => World.setFrom (w.setCell ⟨g, p, none⟩ u) g (p + 1) r
theorem J2 (us : List Value) : ∀ (ys : List Value) (p : Nat), (setFrom ys p us).length = ys.length := by
 induction us with
 | nil => intro ys p; rfl
 | cons u r ih => intro ys p; simp [setFrom, ih]
theorem as6 (us : List Value) : ∀ (ys : List Value) (p : Nat), p + us.length ≤ ys.length → (setFrom ys p us).take (p + us.length) = ys.take p ++ us := by
 induction us with
 | nil => intro ys p h; simp [setFrom]
 | cons u r ih =>
  intro ys p h
  simp only [b87] at h
  have := ih (ys.set p u) (p + 1) (by simp; omega)
  simp only [setFrom, b87]
  rw [show p + (r.length + 1) = p + 1 + r.length by omega, this, am8 _ _ _ (by omega)]
  simp
theorem Own.setFrom {lo hi : Nat} {e : TypeId} {sz n cap g : Nat} (us : List Value) : ∀ {w : World} {xs : List Value} {p : Nat}, Own w lo hi e sz (.slice (some ⟨g, 0, none⟩) n cap) n xs → p + us.length ≤ xs.length →
  Own (World.setFrom w g p us) lo hi e sz (.slice (some ⟨g, 0, none⟩) n cap) n (setFrom xs p us) := by
 induction us with
 | nil => intro w xs p h _; exact h
 | cons u r ih =>
  intro w xs p h hl
  simp only [b87] at hl
  exact ih (h.setCell (by omega) u) (by simp; omega)
theorem Out.setFrom {lo hi g : Nat} {a : World} (us : List Value) : ∀ {w : World} {p : Nat}, Out lo hi a w → lo ≤ g → g < hi → Out lo hi a (World.setFrom w g p us) := by
 induction us with
 | nil => intro w p h _ _; exact h
 | cons u r ih => intro w p h h1 h2; exact ih (h.setCell h1 h2 u) h1 h2
def bs0 (u v : Value) : Prop := ∀ g, u.ownBlock = some g → v.ownBlock ≠ some g
theorem bs0.symm {u v : Value} (h : bs0 u v) : bs0 v u := fun g h1 h2 => h g h2 h1
def Blk (w : World) (b : Nat) (cs : List Value) : Prop := ∃ T, w.heap[b]? = some (.cells cs.toArray T (0, 0))
theorem Blk.lt {w : World} {b : Nat} {cs : List Value} (h : Blk w b cs) : b < w.heap.size := by
 obtain ⟨T, h⟩ := h; exact (Array.getElem?_eq_some_iff.1 h).1
theorem Blk.cell {w : World} {b : Nat} {cs : List Value} (h : Blk w b cs) (j : Nat) : w.cell? ⟨b, j, none⟩ = cs[j]? := by
 obtain ⟨T, h⟩ := h; simp [World.cell?, h]
theorem Blk.free {w : World} {b : Nat} {cs : List Value} (h : Blk w b cs) (j : Nat) : w.frozen? ⟨b, j, none⟩ = false := by
 obtain ⟨T, h⟩ := h; simp only [World.frozen?, h]; simp
theorem Blk.below {w w' : World} {b B : Nat} {cs : List Value} (h : Blk w b cs) (hb : Below B w w') (hB : b < B) : Blk w' b cs := by
 obtain ⟨T, h⟩ := h; exact ⟨T, (hb.block b hB).trans h⟩
theorem Blk.out {w w' : World} {b lo hi : Nat} {cs : List Value} (h : Blk w b cs) (hb : Out lo hi w w') (hB : b < lo ∨ hi ≤ b) : Blk w' b cs := by
 have hlt := h.lt
 obtain ⟨T, h⟩ := h; exact ⟨T, (hb.block b hlt hB).trans h⟩
theorem Blk.set {w : World} {b j : Nat} {cs : List Value} (h : Blk w b cs) (u : Value) : Blk (w.setCell ⟨b, j, none⟩ u) b (cs.set j u) := by
 obtain ⟨T, h⟩ := h
 refine ⟨T, ?_⟩
 simp only [World.setCell, Array.getElem?_modify]
 simp [h]
theorem Blk.new (w : World) (cs : List Value) (T : TypeId) : Blk (w.alloc (.cells cs.toArray T)) w.heap.size cs := ⟨T, heap_alloc_new w _⟩
theorem Blk.alloc {w : World} {b : Nat} {cs : List Value} (h : Blk w b cs) (o : Obj) : Blk (w.alloc o) b cs := by
 have hlt := h.lt
 obtain ⟨T, h⟩ := h; exact ⟨T, (Below.heap_alloc w o b hlt).trans h⟩
theorem Blk.drew {w : World} {b : Nat} {cs : List Value} (h : Blk w b cs) : Blk w.drew b cs := h
theorem Out.cell (w : World) (b j : Nat) (u : Value) : Out b (b + 1) w (w.setCell ⟨b, j, none⟩ u) :=
 Out.setCell (p := ⟨b, j, none⟩) (Out.refl b (b + 1) w) (b99 b) (Nat.lt_succ_self b) u
end Go.Proofs.YthikdkjjdeehoaaGreat

namespace Go.Proofs.YthikdkjjdeehoaaGreat
set_option linter.unusedVariables false
set_option linter.unusedSimpArgs false
open Go Go.RowKit Go.ChangeShapes Go.WideShapes Go.Deep
theorem own : ownKnob Tryz.prog.godebug = none := by kernel_rfl
theorem bJ0 : laidOutB Tryz.prog = true := by kernel_rfl
section
variable {H : Type} {enc : TypeId × Value → H} {W : World}
theorem bC1 {C : Nat → List Value} {sz : Nat} (hC : ∀ i, (C i).length = sz) : ∀ (n i j : Nat), i < n → j < sz → ((cb2 n).flatMap C)[i * sz + j]? = (C i)[j]? := by
 intro n
 induction n with
 | zero => intro i j h; omega
 | succ n ih =>
  intro i j h hj
  have hlen : ((cb2 n).flatMap C).length = n * sz := by
   clear ih h
   induction n with
   | zero => simp
   | succ n ih2 => rw [List.range_succ, List.flatMap_append, b88, ih2]; simp [hC, cb8]
  rw [List.range_succ, List.flatMap_append]
  by_cases hin : i < n
  ·rw [ca9 (by rw [hlen]; have := cc2 sz (Nat.succ_le_of_lt hin); rw [cb8] at this; omega)]
   exact ih i j hin hj
  ·obtain rfl : i = n := by omega
   rw [cc6 (by omega), hlen]
   simp
theorem a47 {C : Nat → List Value} {sz : Nat} (hC : ∀ i, (C i).length = sz) (n : Nat) : ((cb2 n).flatMap C).length = n * sz := by
 induction n with
 | zero => simp
 | succ n ih2 => rw [List.range_succ, List.flatMap_append, b88, ih2]; simp [hC, cb8]
theorem a18 {t e : TypeId} {fuel : Nat} {v : Value} {x : DataW H × List MemPlace} {sz : Nat} (ht : Tryz.prog.underlying t = some (.slice e)) (hc : Tryz.prog.cellsOf e = sz) (hsz : 0 < sz)
  (h : DataW.trod enc Tryz.prog W 0 (fun _ => true) true fuel t [v] = some x) :
  ∃ (n m : Nat) (C : Nat → List Value), Z9 W v n sz ((cb2 n).flatMap C) ∧ (∀ i, (C i).length = sz) ∧ ∀ i, i < n → ∃ y, DataW.trod enc Tryz.prog W 0 (fun _ => true) true m e (C i) = some y := by
 rcases open_slice ht h with ⟨hcs, _⟩ | ⟨a, len, cap, m, k, D, Pl, hcs, _, hl, hm, hmm, _, hx⟩
 ·cases hcs
  exact ⟨0, 0, fun _ => cb3 sz undef, Z9.nil _ _, by simp, fun i hi => by omega⟩
 ·cases hcs
  rw [hc] at hx
  have hmc : len ≤ m := by rw [hmm]; simp; omega
  obtain ⟨C, hC⟩ := choose_lt (α := List Value) (n := len) (p := fun i cs => cs.length = sz ∧ (∀ j, j < sz → W.cell? (a.add (i * sz + j)) = cs[j]?) ∧ ∃ y, DataW.trod enc Tryz.prog W 0 (fun _ => true) true k e cs = some y) (fun i hi => by
   obtain ⟨cs', h1, h2⟩ := hx i (by omega)
   obtain ⟨_, hlen, hcell⟩ := World.cells?_some h1
   exact ⟨cs', hlen, fun j hj => by rw [← add_add]; exact hcell j hj, _, h2⟩)
  let C' : Nat → List Value := fun i => if i < len then C i else cb3 sz undef
  have hC' : ∀ i, (C' i).length = sz := fun i => by
   by_cases hi : i < len
   ·simp only [C', if_pos hi]; exact (hC i hi).1
   ·simp [C', if_neg hi]
  refine ⟨len, k, C', ⟨a47 hC' len, some a, cap, rfl, hl, hm, fun hn => ?_⟩, hC', fun i hi => ?_⟩
  ·obtain ⟨b, off, spot⟩ := a
   have h00 := (hC 0 hn).2.1 0 hsz
   have hlen0 := (hC 0 hn).1
   rw [b90 (by omega)] at h00
   have hs : spot = none := by
    simpa [Addr.add] using World.cell?_spot h00
   subst hs
   have hb : b < W.heap.size := by simpa [Addr.add] using World.block_lt_of_cell? W _ h00
   refine ⟨b, off, rfl, hb, fun j u hj => ?_⟩
   have hjl : j < len * sz := by have := (b98.1 hj).1; rw [a47 hC'] at this; exact this
   have hi : j / sz < len := Nat.div_lt_of_lt_mul (by rw [Nat.mul_comm]; exact hjl)
   have hr : j % sz < sz := Nat.mod_lt _ hsz
   have hjj : j / sz * sz + j % sz = j := Nat.div_add_mod' j sz
   have hg := bC1 hC' len (j / sz) (j % sz) hi hr
   rw [hjj, hj] at hg
   have hcc := (hC _ hi).2.1 _ hr
   simp only [C', if_pos hi] at hg
   rw [hjj, ← hg] at hcc
   have hadd : (⟨b, off, none⟩ : Addr).add j = ⟨b, off + j, none⟩ := by unfold Addr.add; split <;> simp_all
   rw [hadd] at hcc
   exact hcc
  ·obtain ⟨y, hy⟩ := (hC i hi).2.2
   exact ⟨y, by simp only [C', if_pos hi]; exact hy⟩
theorem aI5 {α : Type} (n : Nat) (C : Nat → List Value) (f : α → Value) (g : Nat → α) (h : ∀ i, i < n → C i = [f (g i)]) : (cb2 n).flatMap C = ((cb2 n).map g).map f := by
 rw [List.map_map, List.flatMap_def]
 rw [List.map_congr_left (g := fun i => [f (g i)]) (fun i hi => h i (by simpa using hi))]
 induction n with
 | zero => simp
 | succ n ih =>
  rw [List.range_succ, List.map_append, List.flatten_append, List.map_append, ih (fun i hi => h i (by omega))]
  simp
end
end Go.Proofs.YthikdkjjdeehoaaGreat

namespace Go.Proofs.YthikdkjjdeehoaaGreat
set_option linter.unusedVariables false
set_option linter.unusedSimpArgs false
open Go Go.RowKit
def _root_.Go.World.ext (w X : World) : World := { w with heap := w.heap ++ X.heap, drawn := X.drawn }
theorem v9 (w : World) (X : World) : Below w.heap.size w (w.ext X) :=
 ⟨rfl, rfl, rfl, by simp [World.ext], fun k hk => by simp only [World.ext]; rw [Array.getElem?_append_left hk]⟩
theorem aR2 {w w' : World} (h : Below w.heap.size w w') : ∃ X, w' = w.ext X := by
 refine ⟨{ w' with heap := w'.heap.extract w.heap.size w'.heap.size }, ?_⟩
 obtain ⟨h1, h2, h3, h4, h5⟩ := h
 have hh : w'.heap = w.heap ++ w'.heap.extract w.heap.size w'.heap.size := by
  apply Array.ext_getElem?
  intro i
  rcases cc0 i w.heap.size with hi | hi
  ·rw [Array.getElem?_append_left hi, h5 i hi]
  ·rw [Array.getElem?_append_right hi, Array.getElem?_extract]
   split
   ·rw [show w.heap.size + (i - w.heap.size) = i by omega]
   ·rename_i hn
    rw [Array.getElem?_eq_none]
    simp at hn
    omega
 cases w; cases w'
 simp only [World.ext] at *
 subst h1 h2 h3
 rw [← hh]
theorem r6 {w : World} {b o : Nat} {v : Value} (h : w.cell? ⟨b, o, none⟩ = some v) (X : World) : (w.ext X).cell? ⟨b, o, none⟩ = some v := by
 have hb : b < w.heap.size := World.block_lt_of_cell? w ⟨b, o, none⟩ h
 rw [(aR3 (v9 w X)).1 b o hb]; exact h
theorem Calls.ext_of' {P : Program} {f : FuncId} {args : Array Value} {w : World} {X : World} {v : Value}
  (h : Calls P f args (w.ext X) fun e w' => e = .returned v ∧ Below (w.ext X).heap.size (w.ext X) w') : Calls P f args (w.ext X) fun e w'' => e = .returned v ∧ ∃ Y, w'' = w.ext Y :=
 h.mono fun _ _ ⟨he, hb⟩ => ⟨he, aR2 ((v9 w X).trans (hb.mono (v9 w X).size))⟩
theorem s8 {P : Program} {id : Nat} {Q : Exit → Act → World → Prop} {a : Act} {w : World} {l : List Oper} (hm : P.follows .mixedOrders = true) (hB : Region.lexB .any l.toArray = true)
  (h : wpQuiet P l.toArray (fun w' => ∃ X, w' = w.ext X) (fun a' => ∀ w', (∃ X, w' = w.ext X) → Q .normal a' w') l a) : (Code.region id l.toArray true).wp P Q a w :=
 wp_region_quiet (C := fun w' => ∃ X, w' = w.ext X) hm hB (aR2 (w' := w.drew) (Below.refl _ _).drew) (by simpa using h)
theorem aQ6 {P : Program} {f : FuncId} {fn : Func} {c : Code} (hf : P.funcs[f]? = some fn) (hn : (fn.name == "runtime.NumGoroutine") = false) (hb : fn.body = some c) :
  ∀ args w, (callFunc f args).run P w = .ok (.enter f args) w := by
 intro args w
 have h1 : fn.name ≠ "runtime.NumGoroutine" := by simpa using hn
 simp [callFunc, hf, h1, hb, mark]
end Go.Proofs.YthikdkjjdeehoaaGreat

namespace Go.Proofs.YthikdkjjdeehoaaGreat
set_option linter.unusedVariables false
set_option linter.unusedSimpArgs false
theorem F8 {α : Type} (l : List α) (k : Nat) (h : k < l.length) : l.take (k + 1) = l.take k ++ [l[k]] := by
 rw [List.take_succ_eq_append_getElem h]
theorem an4 {α : Type} (p : α → Bool) (l : List α) (k : Nat) (h : k < l.length) : (l.take (k + 1)).all p = ((l.take k).all p && p l[k]) := by
 rw [F8 l k h, List.all_append]; simp
theorem bi9 {α : Type} {p : α → Bool} {l : List α} {k : Nat} (h : k < l.length) (hp : p l[k] = false) : l.all p = false := by
 rw [List.all_eq_false]; exact ⟨l[k], cb0 h, by simp [hp]⟩
structure aa0 where
 op : Int
 a : Int
 b : Int
 c : Int
 d : Int
def aa0.l (x : aa0) : List Int := [x.op, x.a, x.b, x.c, x.d]
def am0 : List aa0 → List Int
 | [] => []
 | x :: r => x.op :: x.a :: x.b :: x.c :: x.d :: am0 r
theorem bB0 (l : List aa0) : (am0 l).length = l.length * 5 := by
 induction l with
 | nil => rfl
 | cons x r ih => simp [am0, ih]; omega
theorem aa0.ext' {x y : aa0} (h : x.l = y.l) : x = y := by
 cases x; cases y; simp [aa0.l] at h; simp [h]
theorem bB1 (l : List aa0) (i : Nat) (hi : i < l.length) : (am0 l)[i * 5]? = some l[i].op ∧ (am0 l)[i * 5 + 1]? = some l[i].a ∧ (am0 l)[i * 5 + 2]? = some l[i].b ∧ (am0 l)[i * 5 + 3]? = some l[i].c ∧ (am0 l)[i * 5 + 4]? = some l[i].d := by
 induction l generalizing i with
 | nil => simp at hi
 | cons x r ih =>
  cases i with
  | zero => simp [am0]
  | succ i =>
   rw [cb8]
   have := ih i (by simpa using hi)
   simpa [am0, Nat.add_assoc] using this
structure I8 where
 vars : List Int
 arrays : List Int
 list : List aa0
def I8.size (c : I8) : Nat := c.vars.length + c.arrays.length + c.list.length
def I8.same (c d : I8) : Bool := decide (c.vars = d.vars) && decide (c.arrays = d.arrays) && decide (am0 c.list = am0 d.list)
def d8 (l : Int) : Bool := decide (0 ≤ l) && decide (l ≤ 3)
def F4 (vars arrays : List Int) : Bool := vars.all d8 && arrays.all d8 && decide (1 ≤ vars.length) && decide (vars.length ≤ 12) && decide (arrays.length ≤ 2)
def bH5 (c : I8) (kd : UInt8) (n : Int) : Bool :=
 if kd = 114 then decide (0 ≤ n) && decide (n < 14)
 else if kd = 99 then decide (0 ≤ n) && decide (n ≤ 255)
 else if kd = 118 then decide (0 ≤ n) && decide (n < c.vars.length)
 else if kd = 97 then decide (0 ≤ n) && decide (n < c.arrays.length)
 else if kd = 111 then decide (4 ≤ n) && decide (n ≤ 10)
 else decide (0 ≤ n) && decide (n < c.list.length)
def aX9 (op : Int) : List UInt8 :=
 if op = 1 then [114, 99] else if op = 2 then [114, 118] else if op = 3 then [118, 114] else if op = 4 then [114, 97, 114] else if op = 5 then [97, 114, 114]
 else if op = 6 then [114, 111, 114, 114] else if op = 7 then [114, 114, 114, 114] else if op = 8 then [116] else if op = 9 then [114, 116] else if op = 10 then [114, 116]
 else if op = 11 then [114] else []
def aV7 (c : I8) (kinds : List UInt8) (k : Nat) (n : Int) : Bool :=
 match kinds[k]? with
 | some kd => bH5 c kd n
 | none => decide (n = 0)
def bP5 (c : I8) (x : aa0) : Bool :=
 decide (1 ≤ x.op) && decide (x.op ≤ 13) && (aV7 c (aX9 x.op) 0 x.a && aV7 c (aX9 x.op) 1 x.b && aV7 c (aX9 x.op) 2 x.c && aV7 c (aX9 x.op) 3 x.d)
def bz9 (c : I8) : Bool := match c.list.getLast? with | some x => decide (x.op = 13) || decide (x.op = 8) | none => false
def aY5 (c : I8) : Bool := F4 c.vars c.arrays && decide (1 ≤ c.list.length) && decide (c.list.length ≤ 400) && c.list.all (bP5 c) && bz9 c
def bZ9 (x : aa0) (i : Int) : List Int := if x.op = 13 then [] else if x.op = 8 then [x.a] else if x.op = 9 ∨ x.op = 10 then [i + 1, x.b] else [i + 1]
def nx (c : I8) (t : Int) : List Int := match c.list[t.toNat]? with | some x => bZ9 x t | none => []
theorem au7 {c : I8} (h : aY5 c = true) : F4 c.vars c.arrays = true ∧ 1 ≤ c.list.length ∧ c.list.length ≤ 400 ∧ (∀ (i : Nat) (hi : i < c.list.length), bP5 c c.list[i] = true) ∧ bz9 c = true := by
 unfold aY5 at h
 simp only [b86, decide_eq_true_eq, b93] at h
 obtain ⟨⟨⟨⟨h1, h2⟩, h3⟩, h4⟩, h5⟩ := h
 exact ⟨h1, h2, h3, fun i hi => h4 _ (cb0 hi), h5⟩
inductive Rc (c : I8) : Int → Prop
 | zero : Rc c 0
 | step {i t : Int} : Rc c i → t ∈ nx c i → Rc c t
noncomputable def b51 (c : I8) : List Bool := (cb2 c.list.length).map fun (j : Nat) => @decide (Rc c (j : Int)) (Classical.propDecidable _)
theorem aQ7 {bs : List Bool} {k : Nat} (h : bs[k]? = some false) : (bs.set k true).count false + 1 = bs.count false := by
 induction bs generalizing k with
 | nil => simp at h
 | cons b r ih =>
  cases k with
  | zero => simp at h; subst h; simp
  | succ k =>
   simp at h
   have := ih h
   simp only [List.set_cons_succ, List.count_cons]
   omega
theorem aU4 {bs : List Bool} {k j : Nat} (h : (bs.set k true)[j]? = some true) : j = k ∨ bs[j]? = some true := by
 rw [List.getElem?_set] at h
 split at h
 ·rename_i e; exact .inl e.symm
 ·exact .inr h
theorem a11 {bs : List Bool} {k : Nat} (h : k < bs.length) : (bs.set k true)[k]? = some true := by simp [h]
structure b42 (c : I8) (qs : List Int) (bs : List Bool) : Prop where
 len : bs.length = c.list.length
 cnt : qs.length + bs.count false = c.list.length
 q : ∀ t ∈ qs, 0 ≤ t ∧ t < c.list.length ∧ Rc c t
 sound : ∀ j : Nat, bs[j]? = some true → Rc c j
 inq : ∀ j : Nat, bs[j]? = some true → (j : Int) ∈ qs
 zero : bs[0]? = some true
theorem b42.start {c : I8} (hc : aY5 c = true) : b42 c [0] ((cb3 c.list.length false).set 0 true) := by
 have hn := (au7 hc).2.1
 have hone : ∀ j : Nat, ((cb3 c.list.length false).set 0 true)[j]? = some true → j = 0 := by
  intro j h
  rcases aU4 h with h | h
  ·exact h
  ·rw [List.getElem?_replicate] at h; split at h <;> simp at h
 refine ⟨by simp, ?_, ?_, ?_, ?_, ?_⟩
 ·have := aQ7 (bs := cb3 c.list.length false) (k := 0) (by rw [List.getElem?_replicate, if_pos (by omega)])
  simp at this ⊢
  omega
 ·intro t ht
  simp at ht; subst ht
  exact ⟨by omega, by omega, .zero⟩
 ·intro j h; rw [hone j h]; exact .zero
 ·intro j h; rw [hone j h]; simp
 ·exact a11 (by simp; omega)
structure bF5 (c : I8) (ls : List Int) (bs : List Bool) : Prop where
 len : bs.length = c.list.length
 cnt : ls.length + 2 * bs.count false ≤ 2 * c.list.length + 1
 l : ∀ t ∈ ls, 0 ≤ t ∧ t < c.list.length ∧ Rc c t
 sound : ∀ j : Nat, bs[j]? = some true → Rc c j
 zero : bs[0]? = some true ∨ (0 : Int) ∈ ls
 clos : ∀ j : Nat, bs[j]? = some true → ∀ t ∈ nx c j, bs[t.toNat]? = some true ∨ t ∈ ls
theorem bF5.start {c : I8} (hc : aY5 c = true) : bF5 c [0] (cb3 c.list.length false) := by
 have hn := (au7 hc).2.1
 refine ⟨by simp, by simp; omega, ?_, ?_, .inr (by simp), ?_⟩
 ·intro t ht
  simp at ht; subst ht
  exact ⟨by omega, by omega, .zero⟩
 ·intro j h; rw [List.getElem?_replicate] at h; split at h <;> simp at h
 ·intro j h; rw [List.getElem?_replicate] at h; split at h <;> simp at h
theorem bF5.skip {c : I8} {ls : List Int} {i : Int} {bs : List Bool} (h : bF5 c (ls ++ [i]) bs) (hb : bs[i.toNat]? = some true) : bF5 c ls bs := by
 refine ⟨h.len, by have := h.cnt; simp at this; omega, fun t ht => h.l t (List.mem_append_left _ ht), h.sound, ?_, ?_⟩
 ·rcases h.zero with h0 | h0
  ·exact .inl h0
  ·rcases ca2.1 h0 with h0 | h0
   ·exact .inr h0
   ·simp at h0; subst h0; exact .inl hb
 ·intro j hj t ht
  rcases h.clos j hj t ht with h1 | h1
  ·exact .inl h1
  ·rcases ca2.1 h1 with h1 | h1
   ·exact .inr h1
   ·simp at h1; subst h1; exact .inl hb
end Go.Proofs.YthikdkjjdeehoaaGreat

namespace Go.Proofs.YthikdkjjdeehoaaGreat
set_option linter.unusedVariables false
set_option linter.unusedSimpArgs false
open Go Go.RowKit
section
variable {P : Program} {md : Region.Mode} {C : World → Prop}
theorem au6 {listed : Array Bool} {i : Nat} (h : listed.getD i true = false) : (listed.setIfInBounds i true).toList.count false + 1 = listed.toList.count false := by
 rw [Array.toList_setIfInBounds]
 refine aQ7 ?_
 rcases cc0 i listed.size with h' | h'
 ·simp [h'] at h ⊢; exact h
 ·simp [Array.getElem?_eq_none h'] at h
end
abbrev ints (l : List Int) : List Value := l.map (Value.int .i64)
theorem aJ6 (l : List Int) (k : Nat) (h : k < l.length) : (ints l)[k]? = some (.int .i64 l[k]) := by simp [ints, h]
theorem b16 : (Tryz.prog.info? 3).map (fun i => (i.zero, i.size, i.bytes)) = some (some (.int .i64 0), 1, 8) := by kernel_rfl
def bb9 (K n : Nat) : List Int := (cb2 n).map fun (j : Nat) => ((K : Int) + (j : Int))
abbrev bW4 (w : World) (v : Value) (l : List aa0) : Prop := Z9 w v l.length 5 (ints (am0 l))
abbrev aa0.v (x : aa0) : Value := .agg #[.int .i64 x.op, .int .i64 x.a, .int .i64 x.b, .int .i64 x.c, .int .i64 x.d]
def aD4 (w : World) (v : Value) (c : I8) : Prop :=
 ∃ v1 v2 v3, v = .agg #[v1, v2, v3] ∧ Z9 w v1 c.vars.length 1 (ints c.vars) ∧ Z9 w v2 c.arrays.length 1 (ints c.arrays) ∧ bW4 w v3 c.list
def Y9 (w : World) (lo hi : Nat) (v : Value) (c : I8) : Prop :=
 ∃ v1 v2 v3, v = .agg #[v1, v2, v3] ∧ Own w lo hi 3 1 v1 c.vars.length (ints c.vars) ∧ Own w lo hi 3 1 v2 c.arrays.length (ints c.arrays) ∧ Own w lo hi 86 5 v3 c.list.length (ints (am0 c.list)) ∧
  bs0 v1 v2 ∧ bs0 v1 v3 ∧ bs0 v2 v3
theorem aD4.below {w w' : World} {v : Value} {c : I8} (h : aD4 w v c) (hb : Below w.heap.size w w') : aD4 w' v c := by
 obtain ⟨v1, v2, v3, rfl, h1, h2, h3⟩ := h
 exact ⟨v1, v2, v3, rfl, h1.below hb, h2.below hb, h3.below hb⟩
theorem Y9.row {w : World} {lo hi : Nat} {v : Value} {c : I8} (h : Y9 w lo hi v c) : aD4 w v c := by
 obtain ⟨v1, v2, v3, rfl, h1, h2, h3, _⟩ := h
 exact ⟨v1, v2, v3, rfl, h1.row, h2.row, h3.row⟩
theorem Y9.keep {w w' : World} {lo hi B : Nat} {v : Value} {c : I8} (h : Y9 w lo hi v c) (hb : Below B w w') (hB : hi ≤ B) : Y9 w' lo hi v c := by
 obtain ⟨v1, v2, v3, rfl, h1, h2, h3, hd⟩ := h
 exact ⟨v1, v2, v3, rfl, h1.keep hb hB, h2.keep hb hB, h3.keep hb hB, hd⟩
theorem Y9.out {w w' : World} {lo hi lo' hi' : Nat} {v : Value} {c : I8} (h : Y9 w lo hi v c) (hb : Out lo' hi' w w') (hB : hi ≤ lo' ∨ hi' ≤ lo) : Y9 w' lo hi v c := by
 obtain ⟨v1, v2, v3, rfl, h1, h2, h3, hd⟩ := h
 exact ⟨v1, v2, v3, rfl, h1.out hb hB, h2.out hb hB, h3.out hb hB, hd⟩
def az0 (w : World) (v : Value) (K nv na nl : Nat) : Prop :=
 ∃ v1 v2 v3, v = .agg #[v1, v2, v3] ∧ Z9 w v1 nv 1 (ints (bb9 K nv)) ∧ Z9 w v2 na 1 (ints (bb9 (K + nv) na)) ∧ Z9 w v3 nl 5 (ints (bb9 (K + nv + na) (nl * 5)))
theorem az0.below {w w' : World} {v : Value} {K nv na nl : Nat} (h : az0 w v K nv na nl) (hb : Below w.heap.size w w') : az0 w' v K nv na nl := by
 obtain ⟨v1, v2, v3, rfl, h1, h2, h3⟩ := h
 exact ⟨v1, v2, v3, rfl, h1.below hb, h2.below hb, h3.below hb⟩
theorem bA8 {l : List Int} : ∀ u ∈ ints l, u.oneCell' = true := by
 intro u hu
 obtain ⟨x, _, rfl⟩ := List.mem_map.1 hu
 rfl
theorem a17 {P : Program} {w : World} {lo : Nat} {t ty e : TypeId} {i : TypeInfo} {size : Nat} (ht : P.underlying t = some (.slice e)) (hi : P.info? e = some i)
  {v : Value} {n : Nat} {xs : List Value} (hown : w.ownsRow lo e size v n xs) (c : Nat) : (Builtin.append_ #[t, t] ty #[v, .slice none 0 c]).run P w = .ok v w := by
 obtain ⟨_, h⟩ := hown
 rcases h with ⟨rfl, rfl⟩ | ⟨g, cap, cur, rfl, _, _, hnc, _⟩
 ·simp [Builtin.append_, run_underlying ht, sizeOf, typeInfo, hi, Builtin.lenOf, Builtin.firstCells]
 ·simp [Builtin.append_, run_underlying ht, sizeOf, typeInfo, hi, Builtin.lenOf, Builtin.firstCells, hnc, storeCells]
theorem aP8 {w : World} {lo : Nat} {e : TypeId} {sz : Nat} {v : Value} {n : Nat} {xs : List Value} (h : w.ownsRow lo e sz v n xs) : ∃ a k, v = .slice a n k := by
 rcases h.2 with ⟨rfl, rfl⟩ | ⟨g, cap, cur, rfl, _⟩
 ·exact ⟨_, _, rfl⟩
 ·exact ⟨_, _, rfl⟩
theorem as8 {P : Program} {w : World} {lo : Nat} {t ty e : TypeId} {z : Value} {size bytes : Nat} (ht : P.underlying t = some (.slice e)) (hi : (P.info? e).map (fun i => (i.zero, i.size, i.bytes)) = some (some z, size, bytes))
  (hzs : z.cells.size = size) (hsz : 0 < size) {v : Value} {n : Nat} {xs : List Value} (hown : w.ownsRow lo e size v n xs) {u : Value} {m : Nat} {news : List Value} (hr : Z9 w u m size news) (h1 : ∀ u ∈ news, u.oneCell' = true)
  (h63 : n + m ≤ 9223372036854775807) (hbytes : (n + m) * bytes ≤ 140737488355328) (hbase : lo ≤ w.heap.size) :
  ∃ a' k' w', (Builtin.append_ #[t, t] ty #[v, u]).run P w = .ok (.slice a' (n + m) k') w' ∧ w'.ownsRow lo e size (.slice a' (n + m) k') (n + m) (xs ++ news) ∧ Below lo w w' ∧ w.grownBy w' v.ownBlock ∧ (∀ g, (Value.slice a' (n + m) k').ownBlock = some g → v.ownBlock = some g ∨ w.heap.size ≤ g) := by
 obtain ⟨i, g1, g2, g3, g4⟩ := info_parts hi
 obtain ⟨hl, A, c, rfl, hmc, hc, hA⟩ := hr
 have below_of : ∀ {w' : World}, w.grownBy w' v.ownBlock → Below lo w w' := fun {w'} hg => by
  refine ⟨hg.os, hg.tape, hg.output, hg.size, fun k hk => hg.block k (by omega) fun he => ?_⟩
  have := hown.lt k he.symm
  omega
 rcases A with _ | a
 ·have hm : m = 0 := by
   rcases Nat.eq_zero_or_pos m with h0 | h0
   ·exact h0
   ·obtain ⟨_, _, he, _⟩ := hA h0; cases he
  subst hm
  have hn : news = [] := ca0 (by simpa using hl)
  subst hn
  obtain ⟨a', k', rfl⟩ := aP8 hown
  exact ⟨a', k', w, a17 ht g1 hown c, by simpa using hown, Below.refl _ _, ⟨rfl, rfl, rfl, b99 _, fun _ _ _ => rfl⟩, fun g hg => .inl hg⟩
 ·have hcells : ∀ j u, news[j]? = some u → w.cell? (a.add j) = some u := by
   intro j u hu
   have h0 : 0 < m := by
    rcases Nat.eq_zero_or_pos m with h0 | h0
    ·subst h0
     have hn : news = [] := ca0 (by simpa using hl)
     subst hn; simp at hu
    ·exact h0
   obtain ⟨b, off, he, hb, hx⟩ := hA h0
   cases he
   have hadd : (⟨b, off, none⟩ : Addr).add j = ⟨b, off + j, none⟩ := by unfold Addr.add; split <;> simp_all
   rw [hadd]
   exact hx j u hu
  obtain ⟨v', w', hrun, h2, h3, _, h5⟩ := run_append_own_at (P := P) w lo t ty e i z size bytes ht g1 g2 g3 g4 hzs hsz v n xs hown a m c news hl hcells h1 (by unfold maxLen; omega) hbytes hbase
  obtain ⟨a', k', rfl⟩ := aP8 h2
  exact ⟨a', k', w', hrun, h2, below_of h3, h3, fun g hg => h5.elim (fun h => .inl (h ▸ hg)) fun h => .inr (by rw [h] at hg; cases hg; exact b99 _)⟩
theorem a88 {P : Program} {w : World} {ops : Array Oper} {rest : List Oper} {o : Oper} {a : Act} {Q : Exit → Act → World → Prop} {lo : Nat} {t e : TypeId} {z : Value} {size bytes : Nat} {v : Value} {n : Nat} {xs : List Value} {u : Value} {m : Nat} {news : List Value}
  (hgd : o.guard = none) (s x : Operand) (ho : o.op = .call { callee := .builtin .append, args := #[s, x], argTypes := #[t, t] })
  (ht : P.underlying t = some (.slice e)) (hi : (P.info? e).map (fun i => (i.zero, i.size, i.bytes)) = some (some z, size, bytes))
  (hzs : z.cells.size = size) (hsz : 0 < size) (hs : a.eval s = v) (hown : w.ownsRow lo e size v n xs) (hx : a.eval x = u) (hr : Z9 w u m size news) (h1 : ∀ u ∈ news, u.oneCell' = true)
  (h63 : n + m ≤ 9223372036854775807) (hbytes : (n + m) * bytes ≤ 140737488355328) (hbase : lo ≤ w.heap.size)
  (h : ∀ a' k' w', w'.ownsRow lo e size (.slice a' (n + m) k') (n + m) (xs ++ news) → Below lo w w' → w.grownBy w' v.ownBlock → (∀ g, (Value.slice a' (n + m) k').ownBlock = some g → v.ownBlock = some g ∨ w.heap.size ≤ g) → wpList P ops Q rest (a.put o.dst (.slice a' (n + m) k')) w') : wpList P ops Q (o :: rest) a w := by
 refine wpList_plain hgd fun K hK => ?_
 obtain ⟨a', k', w', hrun, h2, h3, h4, h5⟩ := as8 (ty := o.type) ht hi hzs hsz hown hr h1 h63 hbytes hbase
 unfold Oper.wp execOp
 simp only [ho, resolve, invoke, builtin, Sem.run_bind, Sem.run_pure, Result.andThen_ok, List.map_toArray, cb9, List.map_nil, hs, hx, hrun]
 exact hK _ _ (h a' k' w' h2 h3 h4 h5)
section
variable {P : Program}
theorem bm6 {x : Oper} {a : Act} {w : World} {K : Act → World → Prop} {Q Q0 : Exit → Act → World → Prop} (h0 : ∀ e a w, Q0 e a w → e = .normal) (h : x.wp P a w K Q0) : x.wp P a w K Q := by
 unfold Oper.wp at *
 generalize (execOp a.eval x).run P w = r at *
 cases r with
 | ok n w' =>
  cases n <;> simp only [Oper.upon] at h ⊢ <;>
   first
    | exact h
    | exact Calls.mono h (fun e w'' he => by
      cases e
      ·exact he
      ·exact absurd (h0 _ _ _ he) (by simp)
      ·obtain ⟨a, w, hq⟩ := he; exact absurd (h0 _ _ _ hq) (by simp))
 | halt y w' =>
  cases y <;> simp only [Oper.upon] at h ⊢ <;> first | exact h | exact absurd (h0 _ _ _ h) (by simp)
end
section
variable {P : Program}
structure b84 (mk : (Nat → Value) → Act) (C : World → Prop) (R : Nat → Value → World → Prop) (n : Nat) (listed : Array Bool) (f : Nat → Value) (a : Act) (w : World) : Prop where
 act : a = mk f
 cls : C w
 val : ∀ i, i < n → listed.getD i false = true → R i (f i) w
end
def Agr (φ φ' : Nat → Prop) (w w' : World) : Prop := w.heap.size ≤ w'.heap.size ∧ ∀ b, b < w.heap.size → φ b → φ' b ∧ w'.heap[b]? = w.heap[b]?
def ae7 (R : World → (Nat → Prop) → Prop) : Prop := ∀ w w' φ φ', Agr φ φ' w w' → R w φ → R w' φ'
theorem Agr.below {φ : Nat → Prop} {w w' : World} (h : Below w.heap.size w w') : Agr φ φ w w' := ⟨h.size, fun b hb hf => ⟨hf, h.block b hb⟩⟩
theorem Agr.mono {φ φ' : Nat → Prop} {w : World} (h : ∀ b, b < w.heap.size → φ b → φ' b) : Agr φ φ' w w := ⟨b99 _, fun b hb hf => ⟨h b hb hf, rfl⟩⟩
theorem Agr.cell {φ φ' : Nat → Prop} {w w' : World} (h : Agr φ φ' w w') {b o : Nat} (hb : b < w.heap.size) (hf : φ b) : w'.cell? ⟨b, o, none⟩ = w.cell? ⟨b, o, none⟩ := by
 simp only [World.cell?, (h.2 b hb hf).2]
def z9 (w : World) (φ : Nat → Prop) (v : Value) (n sz : Nat) (xs : List Value) : Prop :=
 xs.length = n * sz ∧ ∃ a cap, v = .slice a n cap ∧ n ≤ cap ∧ cap ≤ maxLen ∧
  (0 < n → ∃ b off, a = some ⟨b, off, none⟩ ∧ b < w.heap.size ∧ φ b ∧ ∀ j u, xs[j]? = some u → w.cell? ⟨b, off + j, none⟩ = some u)
theorem z9.nice (v : Value) (n sz : Nat) (xs : List Value) : ae7 fun w φ => z9 w φ v n sz xs := by
 rintro w w' φ φ' ha ⟨hl, a, cap, rfl, h1, h2, h3⟩
 refine ⟨hl, a, cap, rfl, h1, h2, fun hn => ?_⟩
 obtain ⟨b, off, rfl, hb, hf, hc⟩ := h3 hn
 exact ⟨b, off, rfl, Nat.lt_of_lt_of_le hb ha.1, (ha.2 b hb hf).1, fun j u hj => (ha.cell hb hf).trans (hc j u hj)⟩
theorem z9.row {w : World} {φ : Nat → Prop} {v : Value} {n sz : Nat} {xs : List Value} (h : z9 w φ v n sz xs) : Z9 w v n sz xs := by
 obtain ⟨hl, a, cap, rfl, h1, h2, h3⟩ := h
 refine ⟨hl, a, cap, rfl, h1, h2, fun hn => ?_⟩
 obtain ⟨b, off, rfl, hb, _, hc⟩ := h3 hn
 exact ⟨b, off, rfl, hb, hc⟩
theorem Z9.rowF {w : World} {v : Value} {n sz : Nat} {xs : List Value} (h : Z9 w v n sz xs) {φ : Nat → Prop} (hf : ∀ b, b < w.heap.size → φ b) : z9 w φ v n sz xs := by
 obtain ⟨hl, a, cap, rfl, h1, h2, h3⟩ := h
 refine ⟨hl, a, cap, rfl, h1, h2, fun hn => ?_⟩
 obtain ⟨b, off, rfl, hb, hc⟩ := h3 hn
 exact ⟨b, off, rfl, hb, hf b hb, hc⟩
theorem z9.nil (w : World) (φ : Nat → Prop) (sz : Nat) : z9 w φ (.slice none 0 0) 0 sz [] := ⟨by simp, none, 0, rfl, b99 _, by unfold maxLen; omega, fun h => absurd h (by omega)⟩
theorem C1 {w : World} {lo : Nat} {e : TypeId} {sz : Nat} {v : Value} {n : Nat} {xs : List Value} (h : w.ownsRow lo e sz v n xs) {φ : Nat → Prop} (hf : ∀ g, v.ownBlock = some g → φ g) : z9 w φ v n sz xs := by
 obtain ⟨hl, a, cap, hv, h1, h2, h3⟩ := ai1 h
 refine ⟨hl, a, cap, hv, h1, h2, fun hn => ?_⟩
 obtain ⟨b, off, he, hb, hc⟩ := h3 hn
 refine ⟨b, off, he, hb, ?_, hc⟩
 rcases h.2 with ⟨hv', h0⟩ | ⟨g, cap', cur, hv', _⟩
 ·omega
 ·rw [hv'] at hv
  cases hv
  cases he
  exact hf _ (by rw [hv']; rfl)
inductive X5 where
 | box (b : Nat) (cs : List Value)
 | row (e : TypeId) (sz : Nat) (v : Value) (n : Nat) (xs : List Value)
 | dat (R : World → (Nat → Prop) → Prop)
 | own (S : Nat → Prop) (R : World → Prop)
def X5.blk : X5 → Nat → Prop
 | .box b _ => fun g => g = b
 | .row _ _ v _ _ => fun g => v.ownBlock = some g
 | .dat _ => fun _ => False
 | .own S _ => S
def Fr (φ : Nat → Prop) (L : List X5) (b : Nat) : Prop := φ b ∧ ∀ r ∈ L, ¬ r.blk b
def X5.holds (w : World) (φ : Nat → Prop) : X5 → Prop
 | .box b cs => Blk w b cs
 | .row e sz v n xs => w.ownsRow 0 e sz v n xs
 | .dat R => ae7 R ∧ R w φ
 | .own S R => (∀ w w', R w → (∀ b, S b → b < w.heap.size → w'.heap[b]? = w.heap[b]?) → R w') ∧ R w ∧ ∀ b, S b → b < w.heap.size
structure B8 (ψ : Nat → Prop) (w w' : World) : Prop where
 os : w'.os = w.os
 tape : w'.tape = w.tape
 output : w'.output = w.output
 size : w.heap.size ≤ w'.heap.size
 block : ∀ b, b < w.heap.size → ψ b → w'.heap[b]? = w.heap[b]?
theorem B8.refl (ψ : Nat → Prop) (w : World) : B8 ψ w w := ⟨rfl, rfl, rfl, b99 _, fun _ _ _ => rfl⟩
theorem B8.trans {ψ : Nat → Prop} {a b c : World} (h : B8 ψ a b) (k : B8 ψ b c) : B8 ψ a c :=
 ⟨k.os.trans h.os, k.tape.trans h.tape, k.output.trans h.output, ca7 h.size k.size, fun i hi hp => (k.block i (Nat.lt_of_lt_of_le hi h.size) hp).trans (h.block i hi hp)⟩
theorem B8.of_below {ψ : Nat → Prop} {w w' : World} {B : Nat} (h : Below B w w') (hB : ∀ b, b < w.heap.size → ψ b → b < B) : B8 ψ w w' := ⟨h.os, h.tape, h.output, h.size, fun b hb hp => h.block b (hB b hb hp)⟩
theorem B8.below {w w' : World} {ψ : Nat → Prop} (h : B8 ψ w w') (hp : ∀ b, b < w.heap.size → ψ b) : Below w.heap.size w w' := ⟨h.os, h.tape, h.output, h.size, fun b hb => h.block b hb (hp b hb)⟩
structure A9 (φ ψ : Nat → Prop) (w0 w : World) (L : List X5) : Prop where
 kept : B8 ψ w0 w
 fresh : ∀ b, w0.heap.size ≤ b → φ b
 holds : ∀ (r : X5), r ∈ L → r.holds w (Fr φ L)
 dis : ∀ (i j : Nat) (a b : X5) (g : Nat), L[i]? = some a → L[j]? = some b → i ≠ j → a.blk g → ¬ b.blk g
 ge : ∀ (r : X5) (b : Nat), r ∈ L → r.blk b → w0.heap.size ≤ b ∨ ¬ ψ b
section
variable {φ ψ : Nat → Prop} {w0 w w' : World} {L : List X5}
theorem A9.start (hf : ∀ b, w0.heap.size ≤ b → φ b) : A9 φ ψ w0 w0 [] := ⟨B8.refl _ _, hf, (fun _ h => by cases h), (fun i j a b g h => by simp at h), (fun _ _ h => by cases h)⟩
theorem X5.lt {r : X5} (h : r.holds w φ) {b : Nat} (hb : r.blk b) : b < w.heap.size := by
 cases r with
 | box b' cs => cases hb; exact Blk.lt h
 | row e sz v n xs => exact (World.ownsRow.lt h b hb).2
 | dat R => cases hb
 | own S R => exact h.2.2 b hb
theorem A9.lt (M : A9 φ ψ w0 w L) {r : X5} (hr : r ∈ L) {b : Nat} (hb : r.blk b) : b < w.heap.size := X5.lt (M.holds r hr) hb
theorem A9.size (M : A9 φ ψ w0 w L) : w0.heap.size ≤ w.heap.size := M.kept.size
theorem A9.below (M : A9 φ ψ w0 w L) (hp : ∀ b, b < w0.heap.size → ψ b) : Below w0.heap.size w0 w := M.kept.below hp
theorem X5.keep {φ' : Nat → Prop} {r : X5} (h : r.holds w φ) (ha : Agr φ φ' w w') (hb : ∀ b, r.blk b → w'.heap[b]? = w.heap[b]?) : r.holds w' φ' := by
 cases r with
 | box b cs => obtain ⟨T, h⟩ := h; exact ⟨T, (hb b rfl).trans h⟩
 | row e sz v n xs => exact (Own.same (lo := 0) (hi := w.heap.size) ⟨h, fun g hg => (World.ownsRow.lt h g hg).2⟩ hb).1
 | dat R => exact ⟨h.1, h.1 _ _ _ _ ha h.2⟩
 | own S R => exact ⟨h.1, h.1 _ _ h.2.1 fun b hs _ => hb b hs, fun b hs => Nat.lt_of_lt_of_le (h.2.2 b hs) ha.1⟩
theorem A9.call (M : A9 φ ψ w0 w L) (b : Below w.heap.size w w') : A9 φ ψ w0 w' L :=
 ⟨M.kept.trans (B8.of_below b fun _ h _ => h), M.fresh, fun r hr => X5.keep (M.holds r hr) (Agr.below b) fun g hg => b.block g (M.lt hr hg), M.dis, M.ge⟩
theorem A9.drew (M : A9 φ ψ w0 w L) : A9 φ ψ w0 w.drew L := M.call (Below.refl _ _).drew
theorem Fr.snoc {r : X5} {b : Nat} : Fr φ (L ++ [r]) b ↔ Fr φ L b ∧ ¬ r.blk b := by
 unfold Fr
 constructor
 ·rintro ⟨h1, h2⟩; exact ⟨⟨h1, fun x hx => h2 x (by simp [hx])⟩, h2 r (by simp)⟩
 ·rintro ⟨⟨h1, h2⟩, h3⟩
  refine ⟨h1, fun x hx => ?_⟩
  simp only [ca2, ca5] at hx
  rcases hx with hx | rfl
  ·exact h2 x hx
  ·exact h3
theorem A9.add (M : A9 φ ψ w0 w L) (b : Below w.heap.size w w') (r : X5) (h : r.holds w' (Fr φ (L ++ [r]))) (hg : ∀ g, r.blk g → w.heap.size ≤ g) : A9 φ ψ w0 w' (L ++ [r]) := by
 have M' := M.call b
 refine ⟨M'.kept, M.fresh, fun x hx => ?_, fun i j x y g hi hj hij hx hy => ?_, fun x g hx hxg => ?_⟩
 ·simp only [ca2, ca5] at hx
  rcases hx with hx | rfl
  ·exact X5.keep (M.holds x hx) ⟨b.size, fun c hc hf => ⟨Fr.snoc.2 ⟨hf, fun he => by have := hg c he; omega⟩, b.block c hc⟩⟩ fun g hgx => b.block g (M.lt hx hgx)
  ·exact h
 ·have lt : ∀ (k : Nat) (z : X5), (L ++ [r])[k]? = some z → (k < L.length ∧ L[k]? = some z) ∨ (k = L.length ∧ z = r) := by
   intro k z hz
   rcases cc0 k L.length with hk | hk
   ·rw [ca9 hk] at hz; exact .inl ⟨hk, hz⟩
   ·rw [cc6 hk] at hz
    have : k - L.length = 0 := by
     rcases Nat.eq_zero_or_pos (k - L.length) with h | h
     ·exact h
     ·rw [cb5 (by rw [List.length_singleton]; exact h)] at hz; cases hz
    rw [this] at hz; simp at hz
    exact .inr ⟨by omega, hz.symm⟩
  rcases lt i x hi with ⟨hi', h1⟩ | ⟨hi', rfl⟩ <;> rcases lt j y hj with ⟨hj', h2⟩ | ⟨hj', rfl⟩
  ·exact M.dis i j x y g h1 h2 hij hx hy
  ·have := M.lt (cb4 h1) hx; have := hg g hy; omega
  ·have := M.lt (cb4 h2) hy; have := hg g hx; omega
  ·omega
 ·simp only [ca2, ca5] at hx
  rcases hx with hx | rfl
  ·exact M.ge x g hx hxg
  ·exact .inl (ca7 M.size (hg g hxg))
theorem A9.box (M : A9 φ ψ w0 w L) (cs : List Value) (T : TypeId) : A9 φ ψ w0 (w.alloc (.cells cs.toArray T)) (L ++ [.box w.heap.size cs]) :=
 M.add ((Below.refl _ _).alloc (b99 _) _) _ (Blk.new w cs T) fun g hg => by cases hg; exact b99 _
theorem A9.box' (M : A9 φ ψ w0 w L) (cs : List Value) (T : TypeId) {b : Nat} (hb : b = w.heap.size) : A9 φ ψ w0 (w.alloc (.cells cs.toArray T)) (L ++ [.box b cs]) := by subst hb; exact M.box cs T
theorem A9.dat (M : A9 φ ψ w0 w L) {R : World → (Nat → Prop) → Prop} (hn : ae7 R) (h : R w (Fr φ L)) : A9 φ ψ w0 w (L ++ [.dat R]) :=
 M.add (Below.refl _ _) _ ⟨hn, hn _ _ _ _ (Agr.mono fun b _ hf => Fr.snoc.2 ⟨hf, fun h => by cases h⟩) h⟩ fun g hg => by cases hg
theorem A9.nil (M : A9 φ ψ w0 w L) (e : TypeId) (sz : Nat) : A9 φ ψ w0 w (L ++ [.row e sz (.slice none 0 0) 0 []]) :=
 M.add (Below.refl _ _) _ (World.ownsRow_nil _ _ _ _) fun g hg => by cases hg
theorem Fr.set {r : X5} {i : Nat} {a : X5} (_hi : L[i]? = some a) {b : Nat} (h : Fr φ L b) (hr : ¬ r.blk b) : Fr φ (L.set i r) b :=
 ⟨h.1, fun x hx => by
  rcases List.mem_or_eq_of_mem_set hx with hx | rfl
  ·exact h.2 x hx
  ·exact hr⟩
theorem A9.put (M : A9 φ ψ w0 w L) {i : Nat} {a : X5} (hi : L[i]? = some a) (r : X5) (hk : B8 (fun b => ¬ a.blk b) w w') (h : r.holds w' (Fr φ (L.set i r))) (hg : ∀ g, r.blk g → a.blk g ∨ w.heap.size ≤ g) : A9 φ ψ w0 w' (L.set i r) := by
 have hil := (b98.1 hi).1
 have ha := cb4 hi
 have get : ∀ (j : Nat) (z : X5), (L.set i r)[j]? = some z → (j ≠ i ∧ L[j]? = some z) ∨ (j = i ∧ z = r) := by
  intro j z hz
  by_cases e : j = i
  ·subst e; rw [List.getElem?_set_self hil] at hz; exact .inr ⟨rfl, (Option.some.inj hz).symm⟩
  ·rw [List.getElem?_set_ne (fun h => e h.symm)] at hz; exact .inl ⟨e, hz⟩
 refine ⟨⟨hk.os.trans M.kept.os, hk.tape.trans M.kept.tape, hk.output.trans M.kept.output, ca7 M.size hk.size, fun b hb hp => (hk.block b (Nat.lt_of_lt_of_le hb M.size) fun he => ?_).trans (M.kept.block b hb hp)⟩, M.fresh, fun x hx => ?_, fun j k x y g hj hk' hjk hx hy => ?_, fun x g hx hxg => ?_⟩
 ·rcases M.ge a b ha he with h' | h'
  ·omega
  ·exact h' hp
 ·obtain ⟨j, hj⟩ := List.mem_iff_getElem?.1 hx
  rcases get j x hj with ⟨hne, hj'⟩ | ⟨_, rfl⟩
  ·refine X5.keep (M.holds x (cb4 hj')) ⟨hk.size, fun b hb hf => ⟨Fr.set hi hf fun he => ?_, hk.block b hb (hf.2 a ha)⟩⟩ fun g hgx => hk.block g (M.lt (cb4 hj') hgx) fun he => M.dis i j a x g hi hj' (fun e => hne e.symm) he hgx
   rcases hg b he with h' | h'
   ·exact hf.2 a ha h'
   ·omega
  ·exact h
 ·rcases get j x hj with ⟨hne, hj'⟩ | ⟨e1, rfl⟩ <;> rcases get k y hk' with ⟨hne', hk''⟩ | ⟨e2, rfl⟩
  ·exact M.dis j k x y g hj' hk'' hjk hx hy
  ·rcases hg g hy with h' | h'
   ·exact M.dis j i x a g hj' hi hne hx h'
   ·have := M.lt (cb4 hj') hx; omega
  ·rcases hg g hx with h' | h'
   ·exact M.dis i k a y g hi hk'' (fun e => hne' e.symm) h' hy
   ·have := M.lt (cb4 hk'') hy; omega
  ·omega
 ·obtain ⟨j, hj⟩ := List.mem_iff_getElem?.1 hx
  rcases get j x hj with ⟨hne, hj'⟩ | ⟨_, rfl⟩
  ·exact M.ge x g (cb4 hj') hxg
  ·rcases hg g hxg with h' | h'
   ·exact M.ge a g ha h'
   ·exact .inl (ca7 M.size h')
theorem B8.mono {ψ ψ' : Nat → Prop} {w w' : World} (h : B8 ψ w w') (hp : ∀ b, ψ' b → ψ b) : B8 ψ' w w' := ⟨h.os, h.tape, h.output, h.size, fun b hb hp' => h.block b hb (hp b hp')⟩
theorem B8.setCell (w : World) (b j : Nat) (u : Value) : B8 (fun c => ¬ c = b) w (w.setCell ⟨b, j, none⟩ u) :=
 ⟨rfl, rfl, rfl, by simp [World.setCell], fun c _ hc => Below.heap_setCell _ _ _ _ hc⟩
theorem A9.set (M : A9 φ ψ w0 w L) (i : Nat) {b : Nat} {cs : List Value} (hi : L[i]? = some (.box b cs)) (j : Nat) (u : Value) : A9 φ ψ w0 (w.setCell ⟨b, j, none⟩ u) (L.set i (.box b (cs.set j u))) :=
 M.put hi _ (B8.setCell w b j u) (Blk.set (M.holds _ (cb4 hi)) u) fun _ hg => .inl hg
theorem A9.setFrom (us : List Value) : ∀ {w : World} {L : List X5} {p : Nat} {cs : List Value}, A9 φ ψ w0 w L → ∀ (i : Nat) {b : Nat}, L[i]? = some (.box b cs) → A9 φ ψ w0 (World.setFrom w b p us) (L.set i (.box b (Go.Proofs.YthikdkjjdeehoaaGreat.setFrom cs p us))) := by
 induction us with
 | nil =>
  intro w L p cs M i b hi
  have : L.set i (.box b cs) = L := by
   apply List.ext_getElem?
   intro j
   rw [List.getElem?_set]
   split
   ·rename_i e; subst e; rw [if_pos (b98.1 hi).1, hi]
   ·rfl
  show A9 φ ψ w0 w (L.set i (.box b cs))
  rw [this]; exact M
 | cons u r ih =>
  intro w L p cs M i b hi
  have h1 := M.set i hi p u
  have h2 := ih (p := p + 1) h1 i (by rw [List.getElem?_set_self (b98.1 hi).1])
  rw [List.set_set] at h2
  exact h2
theorem a15 {cs us : List Value} (h : us.length = cs.length) : Go.Proofs.YthikdkjjdeehoaaGreat.setFrom cs 0 us = us := by
 have h1 := as6 us cs 0 (by omega)
 rw [cc3, ca3 (by rw [J2]; omega)] at h1
 simpa using h1
theorem A9.fill (M : A9 φ ψ w0 w L) (i : Nat) {b : Nat} {cs : List Value} (hi : L[i]? = some (.box b cs)) (us : List Value) (h : us.length = cs.length) : A9 φ ψ w0 (World.setFrom w b 0 us) (L.set i (.box b us)) := by
 have h1 := M.setFrom us (p := 0) i hi
 rwa [a15 h] at h1
theorem A9.callB (M : A9 φ ψ w0 w L) (i : Nat) {b : Nat} {cs cs' : List Value} (hi : L[i]? = some (.box b cs)) (hk : B8 (fun c => ¬ c = b) w w') (h : Blk w' b cs') : A9 φ ψ w0 w' (L.set i (.box b cs')) :=
 M.put hi _ hk h fun _ hg => .inl hg
theorem A9.app (M : A9 φ ψ w0 w L) (i : Nat) {e : TypeId} {sz : Nat} {v v' : Value} {n n' : Nat} {xs xs' : List Value} (hi : L[i]? = some (.row e sz v n xs)) (h : w'.ownsRow 0 e sz v' n' xs') (hg : w.grownBy w' v.ownBlock) (hb : ∀ g, v'.ownBlock = some g → v.ownBlock = some g ∨ w.heap.size ≤ g) :
  A9 φ ψ w0 w' (L.set i (.row e sz v' n' xs')) :=
 M.put hi _ ⟨hg.os, hg.tape, hg.output, hg.size, fun b hb hn => hg.block b hb fun h => hn h.symm⟩ h hb
theorem A9.take (M : A9 φ ψ w0 w L) (k : Nat) : A9 φ ψ w0 w (L.take k) :=
 ⟨M.kept, M.fresh, fun r hr => X5.keep (M.holds r (List.mem_of_mem_take hr)) (Agr.mono fun _ _ hf => ⟨hf.1, fun x hx => hf.2 x (List.mem_of_mem_take hx)⟩) fun _ _ => rfl,
  fun i j a b g hi hj hij => M.dis i j a b g (by rw [List.getElem?_take] at hi; split at hi; exact hi; cases hi) (by rw [List.getElem?_take] at hj; split at hj; exact hj; cases hj) hij, fun r b hr => M.ge r b (List.mem_of_mem_take hr)⟩
theorem A9.sel (M : A9 φ ψ w0 w L) (is : List Nat) (L' : List X5) (h : L'.map some = is.map fun i => L[i]?) (hn : is.Nodup) : A9 φ ψ w0 w L' := by
 have hl : L'.length = is.length := by simpa using congrArg List.length h
 have get : ∀ (j : Nat) (r : X5), L'[j]? = some r → ∃ i, is[j]? = some i ∧ L[i]? = some r := by
  intro j r hj
  have h1 : (L'.map some)[j]? = some (some r) := by simp [hj]
  rw [h, List.getElem?_map] at h1
  cases hi : is[j]? with
  | none => rw [hi] at h1; cases h1
  | some i => rw [hi] at h1; exact ⟨i, rfl, Option.some.inj h1⟩
 have mem : ∀ r, r ∈ L' → r ∈ L := fun r hr => by
  obtain ⟨j, hj⟩ := List.mem_iff_getElem?.1 hr
  obtain ⟨i, _, hi⟩ := get j r hj
  exact cb4 hi
 refine ⟨M.kept, M.fresh, fun r hr => X5.keep (M.holds r (mem r hr)) (Agr.mono fun _ _ hf => ⟨hf.1, fun x hx => hf.2 x (mem x hx)⟩) fun _ _ => rfl, fun j k a b g hj hk hjk ha hb => ?_, fun r b hr => M.ge r b (mem r hr)⟩
 obtain ⟨i1, e1, h1⟩ := get j a hj
 obtain ⟨i2, e2, h2⟩ := get k b hk
 refine M.dis i1 i2 a b g h1 h2 (fun e => hjk ?_) ha hb
 subst e
 have hlt := (b98.1 e1).1
 exact (List.getElem?_inj hlt hn).1 (e1.trans e2.symm)
theorem A9.c (M : A9 φ ψ w0 w L) (i j : Nat) {b : Nat} {cs : List Value} {u : Value} (hi : L[i]? = some (.box b cs)) (hj : cs[j]? = some u) : w.cell? ⟨b, j, none⟩ = some u :=
 (Blk.cell (M.holds _ (cb4 hi)) j).trans hj
theorem A9.f (M : A9 φ ψ w0 w L) (i : Nat) {b : Nat} {cs : List Value} (hi : L[i]? = some (.box b cs)) : ∀ j, w.frozen? ⟨b, j, none⟩ = false := Blk.free (M.holds _ (cb4 hi))
theorem A9.blk (M : A9 φ ψ w0 w L) (i : Nat) {b : Nat} {cs : List Value} (hi : L[i]? = some (.box b cs)) : Blk w b cs := M.holds _ (cb4 hi)
theorem A9.d (M : A9 φ ψ w0 w L) (i : Nat) {R : World → (Nat → Prop) → Prop} (hi : L[i]? = some (.dat R)) : R w (Fr φ L) := (M.holds _ (cb4 hi)).2
theorem A9.dn (M : A9 φ ψ w0 w L) (i : Nat) {R : World → (Nat → Prop) → Prop} (hi : L[i]? = some (.dat R)) : ae7 R := (M.holds _ (cb4 hi)).1
theorem A9.out (M : A9 φ ψ w0 w L) (i : Nat) {R : World → (Nat → Prop) → Prop} (hi : L[i]? = some (.dat R)) : R w φ := M.dn i hi _ _ _ _ (Agr.mono fun _ _ hf => hf.1) (M.d i hi)
theorem A9.as (M : A9 φ ψ w0 w L) (L' : List X5) (h : L = L') : A9 φ ψ w0 w L' := h ▸ M
end
inductive Rs where
 | box (b : Nat) (cs : List Value)
 | row (e : TypeId) (sz : Nat) (v : Value) (n : Nat) (R : List Value → World → (Nat → Prop) → Prop)
 | dat (R : World → (Nat → Prop) → Prop)
 | own (S : Nat → Prop) (R : World → Prop)
def Rs.none : Rs := .dat fun _ _ => True
def Rs.blk : Rs → Nat → Prop
 | .box b _ => fun g => g = b
 | .row _ _ v _ _ => fun g => v.ownBlock = some g
 | .dat _ => fun _ => False
 | .own S _ => S
def FrF {ι : Type} (φ : Nat → Prop) (L : ι → Rs) (b : Nat) : Prop := φ b ∧ ∀ i, ¬ (L i).blk b
def Rs.holds (w : World) (φ : Nat → Prop) : Rs → Prop
 | .box b cs => Blk w b cs
 | .row e sz v n R => (∀ xs, ae7 (R xs)) ∧ ∃ xs, w.ownsRow 0 e sz v n xs ∧ R xs w φ
 | .dat R => ae7 R ∧ R w φ
 | .own S R => (∀ w w', R w → (∀ b, S b → b < w.heap.size → w'.heap[b]? = w.heap[b]?) → R w') ∧ R w ∧ ∀ b, S b → b < w.heap.size
theorem bo1 : ae7 fun _ _ => True := fun _ _ _ _ _ h => h
theorem Rs.none_holds (w : World) (φ : Nat → Prop) : Rs.none.holds w φ := ⟨bo1, b94⟩
structure m5 {ι : Type} (φ ψ : Nat → Prop) (w0 w : World) (L : ι → Rs) : Prop where
 kept : B8 ψ w0 w
 fresh : ∀ b, w0.heap.size ≤ b → φ b
 holds : ∀ i, (L i).holds w (FrF φ L)
 dis : ∀ i j g, i ≠ j → (L i).blk g → ¬ (L j).blk g
 ge : ∀ i b, (L i).blk b → w0.heap.size ≤ b ∨ ¬ ψ b
 ph : ∀ i b, (L i).blk b → φ b
section
variable {ι κ : Type} {φ ψ : Nat → Prop} {w0 w w' : World} {L : ι → Rs}
theorem Rs.lt {r : Rs} (h : r.holds w φ) {b : Nat} (hb : r.blk b) : b < w.heap.size := by
 cases r with
 | box b' cs => cases hb; exact Blk.lt h
 | row e sz v n R => obtain ⟨_, xs, h1, _⟩ := h; exact (World.ownsRow.lt h1 b hb).2
 | dat R => cases hb
 | own S R => exact h.2.2 b hb
theorem m5.lt (M : m5 φ ψ w0 w L) {i : ι} {b : Nat} (hb : (L i).blk b) : b < w.heap.size := Rs.lt (M.holds i) hb
theorem m5.size (M : m5 φ ψ w0 w L) : w0.heap.size ≤ w.heap.size := M.kept.size
theorem Rs.keep {φ' : Nat → Prop} {r : Rs} (h : r.holds w φ) (ha : Agr φ φ' w w') (hb : ∀ b, r.blk b → w'.heap[b]? = w.heap[b]?) : r.holds w' φ' := by
 cases r with
 | box b cs => obtain ⟨T, h⟩ := h; exact ⟨T, (hb b rfl).trans h⟩
 | row e sz v n R =>
  obtain ⟨hn, xs, h1, h2⟩ := h
  exact ⟨hn, xs, (Own.same (lo := 0) (hi := w.heap.size) ⟨h1, fun g hg => (World.ownsRow.lt h1 g hg).2⟩ hb).1, hn xs _ _ _ _ ha h2⟩
 | dat R => exact ⟨h.1, h.1 _ _ _ _ ha h.2⟩
 | own S R => exact ⟨h.1, h.1 _ _ h.2.1 fun b hs _ => hb b hs, fun b hs => Nat.lt_of_lt_of_le (h.2.2 b hs) ha.1⟩
theorem m5.call (M : m5 φ ψ w0 w L) (b : Below w.heap.size w w') : m5 φ ψ w0 w' L :=
 ⟨M.kept.trans (B8.of_below b fun _ h _ => h), M.fresh, fun i => Rs.keep (M.holds i) (Agr.below b) fun g hg => b.block g (M.lt hg), M.dis, M.ge, M.ph⟩
theorem m5.drew (M : m5 φ ψ w0 w L) : m5 φ ψ w0 w.drew L := M.call (Below.refl _ _).drew
theorem m5.put (M : m5 φ ψ w0 w L) (i : ι) {L' : ι → Rs} (ho : ∀ j, j ≠ i → L' j = L j) (hk : B8 (fun b => ¬ (L i).blk b) w w') (h : (L' i).holds w' (FrF φ L')) (hg : ∀ g, (L' i).blk g → (L i).blk g ∨ w.heap.size ≤ g) : m5 φ ψ w0 w' L' := by
 have hfr : ∀ b, b < w.heap.size → FrF φ L b → FrF φ L' b := fun b hb hf => ⟨hf.1, fun j hj => by
  by_cases e : j = i
  ·subst e
   rcases hg b hj with h | h
   ·exact hf.2 _ h
   ·omega
  ·rw [ho j e] at hj; exact hf.2 _ hj⟩
 refine ⟨⟨hk.os.trans M.kept.os, hk.tape.trans M.kept.tape, hk.output.trans M.kept.output, ca7 M.size hk.size, fun b hb hp => (hk.block b (Nat.lt_of_lt_of_le hb M.size) fun he => ?_).trans (M.kept.block b hb hp)⟩, M.fresh, fun j => ?_, fun j k g hjk hj hk' => ?_, fun j b hj => ?_, fun j b hj => ?_⟩
 ·rcases M.ge i b he with h' | h'
  ·omega
  ·exact h' hp
 ·by_cases e : j = i
  ·subst e; exact h
  ·rw [ho j e]
   exact Rs.keep (M.holds j) ⟨hk.size, fun b hb hf => ⟨hfr b hb hf, hk.block b hb (hf.2 i)⟩⟩ fun g hgx => hk.block g (M.lt hgx) fun he => M.dis j i g e hgx he
 ·by_cases e : j = i
  ·subst e
   rw [ho k (fun e => hjk e.symm)] at hk'
   rcases hg g hj with h' | h'
   ·exact M.dis _ _ g hjk h' hk'
   ·have := M.lt hk'; omega
  ·rw [ho j e] at hj
   by_cases e' : k = i
   ·subst e'
    rcases hg g hk' with h' | h'
    ·exact M.dis _ _ g hjk hj h'
    ·have := M.lt hj; omega
   ·rw [ho k e'] at hk'; exact M.dis _ _ g hjk hj hk'
 ·by_cases e : j = i
  ·subst e
   rcases hg b hj with h' | h'
   ·exact M.ge _ b h'
   ·exact .inl (ca7 M.size h')
  ·rw [ho j e] at hj; exact M.ge _ b hj
 ·by_cases e : j = i
  ·subst e
   rcases hg b hj with h' | h'
   ·exact M.ph _ b h'
   ·exact M.fresh b (ca7 M.size h')
  ·rw [ho j e] at hj; exact M.ph _ b hj
theorem m5.map (M : m5 φ ψ w0 w L) {L' : κ → Rs} (g : κ → Option ι) (hi : ∀ k k' i, g k = some i → g k' = some i → k = k') (h : ∀ k, (∃ i, g k = some i ∧ L' k = L i) ∨ L' k = Rs.none) : m5 φ ψ w0 w L' := by
 have hb : ∀ k b, (L' k).blk b → ∃ i, g k = some i ∧ L' k = L i := fun k b hb => by
  rcases h k with h | h
  ·exact h
  ·rw [h] at hb; exact hb.elim
 have hfr : ∀ b, FrF φ L b → FrF φ L' b := fun b hf => ⟨hf.1, fun k hk => by
  obtain ⟨i, _, e⟩ := hb k b hk
  rw [e] at hk; exact hf.2 i hk⟩
 refine ⟨M.kept, M.fresh, fun k => ?_, fun k k' b hkk h1 h2 => ?_, fun k b h1 => ?_, fun k b h1 => ?_⟩
 ·rcases h k with ⟨i, _, e⟩ | e
  ·rw [e]; exact Rs.keep (M.holds i) (Agr.mono fun b _ hf => hfr b hf) fun _ _ => rfl
  ·rw [e]; exact Rs.none_holds _ _
 ·obtain ⟨i, e1, e2⟩ := hb k b h1
  obtain ⟨j, f1, f2⟩ := hb k' b h2
  rw [e2] at h1; rw [f2] at h2
  exact M.dis i j b (fun e => hkk (hi k k' i e1 (e ▸ f1))) h1 h2
 ·obtain ⟨i, _, e2⟩ := hb k b h1
  rw [e2] at h1; exact M.ge i b h1
 ·obtain ⟨i, _, e2⟩ := hb k b h1
  rw [e2] at h1; exact M.ph i b h1
theorem m5.start (hf : ∀ b, w0.heap.size ≤ b → φ b) : m5 φ ψ w0 w0 (fun _ : ι => Rs.none) := ⟨B8.refl _ _, hf, fun _ => Rs.none_holds _ _, fun _ _ _ _ h => h.elim, fun _ _ h => h.elim, fun _ _ h => h.elim⟩
theorem m5.below (M : m5 φ ψ w0 w L) (hp : ∀ b, b < w0.heap.size → ψ b) : Below w0.heap.size w0 w := M.kept.below hp
end
end Go.Proofs.YthikdkjjdeehoaaGreat

namespace Go.Proofs.YthikdkjjdeehoaaGreat
set_option linter.unusedVariables false
set_option linter.unusedSimpArgs false
inductive b5 where
 | mk (kind value : Int) (kids : List b5)
def b5.kind : b5 → Int | ⟨k, _, _⟩ => k
def b5.value : b5 → Int | ⟨_, n, _⟩ => n
def b5.kids : b5 → List b5 | ⟨_, _, ks⟩ => ks
inductive b6 where
 | mk (kind target : Int) (index value : b5) (count : Int) (body els : List b6)
def b6.kind : b6 → Int | ⟨k, _, _, _, _, _, _⟩ => k
def b6.target : b6 → Int | ⟨_, t, _, _, _, _, _⟩ => t
def b6.index : b6 → b5 | ⟨_, _, i, _, _, _, _⟩ => i
def b6.value : b6 → b5 | ⟨_, _, _, v, _, _, _⟩ => v
def b6.count : b6 → Int | ⟨_, _, _, _, c, _, _⟩ => c
def b6.body : b6 → List b6 | ⟨_, _, _, _, _, b, _⟩ => b
def b6.els : b6 → List b6 | ⟨_, _, _, _, _, _, e⟩ => e
structure d7 where
 vars : List Int
 arrays : List Int
 body : List b6
mutual
theorem b5.ind {P : b5 → Prop} (h : ∀ k n ks, (∀ e ∈ ks, P e) → P ⟨k, n, ks⟩) : ∀ e : b5, P e
 | ⟨k, n, ks⟩ => h k n ks (b5.indL h ks)
theorem b5.indL {P : b5 → Prop} (h : ∀ k n ks, (∀ e ∈ ks, P e) → P ⟨k, n, ks⟩) : ∀ ks : List b5, ∀ e ∈ ks, P e
 | [] => fun _ hm => by cases hm
 | a :: r => fun _ hm => (cb7.1 hm).elim (fun he => he ▸ b5.ind h a) fun hm => b5.indL h r _ hm
end
mutual
theorem b6.ind {P : b6 → Prop} (h : ∀ k t i v c b e, (∀ s ∈ b, P s) → (∀ s ∈ e, P s) → P ⟨k, t, i, v, c, b, e⟩) : ∀ s : b6, P s
 | ⟨k, t, i, v, c, b, e⟩ => h k t i v c b e (b6.indL h b) (b6.indL h e)
theorem b6.indL {P : b6 → Prop} (h : ∀ k t i v c b e, (∀ s ∈ b, P s) → (∀ s ∈ e, P s) → P ⟨k, t, i, v, c, b, e⟩) : ∀ ss : List b6, ∀ s ∈ ss, P s
 | [] => fun _ hm => by cases hm
 | a :: r => fun _ hm => (cb7.1 hm).elim (fun he => he ▸ b6.ind h a) fun hm => b6.indL h r _ hm
end
mutual
def v7 : b5 → Nat
 | ⟨_, _, ks⟩ => n8 ks
def n8 : List b5 → Nat
 | [] => 0
 | e :: r => 1 + v7 e + n8 r
end
mutual
def D7 : b6 → Nat
 | ⟨_, _, i, v, _, b, e⟩ => v7 i + v7 v + i5 b + i5 e
def i5 : List b6 → Nat
 | [] => 0
 | s :: r => 1 + D7 s + i5 r
end
def d7.size (p : d7) : Nat := p.vars.length + p.arrays.length + i5 p.body
theorem L6 (a b : List b5) : n8 (a ++ b) = n8 a + n8 b := by
 induction a with
 | nil => simp [n8]
 | cons x r ih => simp [n8, ih]; omega
theorem x7 (a b : List b6) : i5 (a ++ b) = i5 a + i5 b := by
 induction a with
 | nil => simp [i5]
 | cons x r ih => simp [i5, ih]; omega
theorem as3 (a : List b5) : a.length ≤ n8 a := by
 induction a with
 | nil => simp
 | cons x r ih => simp only [n8, b87]; omega
theorem C3 (a : List b6) : a.length ≤ i5 a := by
 induction a with
 | nil => simp
 | cons x r ih => simp only [i5, b87]; omega
theorem bh2 {e : b5} {ks : List b5} (h : e ∈ ks) : v7 e < n8 ks := by
 induction ks with
 | nil => cases h
 | cons x r ih =>
  simp only [n8]
  rcases cb7.1 h with rfl | h
  ·omega
  ·have := ih h; omega
theorem I3 {s : b6} {ss : List b6} (h : s ∈ ss) : D7 s < i5 ss := by
 induction ss with
 | nil => cases h
 | cons x r ih =>
  simp only [i5]
  rcases cb7.1 h with rfl | h
  ·omega
  ·have := ih h; omega
mutual
def B3 : b5 → b5 → Bool
 | ⟨k, n, ks⟩, ⟨k', n', ks'⟩ => decide (k = k') && decide (n = n') && J3 ks ks'
def J3 : List b5 → List b5 → Bool
 | [], [] => true
 | e :: r, e' :: r' => B3 e e' && J3 r r'
 | _, _ => false
end
mutual
def I4 : b6 → b6 → Bool
 | ⟨k, t, i, v, c, b, e⟩, ⟨k', t', i', v', c', b', e'⟩ => decide (k = k') && decide (t = t') && B3 i i' && B3 v v' && decide (c = c') && n4 b b' && n4 e e'
def n4 : List b6 → List b6 → Bool
 | [], [] => true
 | s :: r, s' :: r' => I4 s s' && n4 r r'
 | _, _ => false
end
mutual
theorem F0 : ∀ (a b : b5), B3 a b = true ↔ a = b
 | ⟨k, n, ks⟩, ⟨k', n', ks'⟩ => by
  simp only [B3, b86, decide_eq_true_eq, b5.mk.injEq, aa8 ks ks', and_assoc]
theorem aa8 : ∀ (a b : List b5), J3 a b = true ↔ a = b
 | [], [] => by simp [J3]
 | [], _ :: _ => by simp [J3]
 | _ :: _, [] => by simp [J3]
 | e :: r, e' :: r' => by simp only [J3, b86, List.cons.injEq, F0 e e', aa8 r r']
end
mutual
theorem aa7 : ∀ (a b : b6), I4 a b = true ↔ a = b
 | ⟨k, t, i, v, c, b, e⟩, ⟨k', t', i', v', c', b', e'⟩ => by
  simp only [I4, b86, decide_eq_true_eq, b6.mk.injEq, F0 i i', F0 v v', E9 b b', E9 e e', and_assoc]
theorem E9 : ∀ (a b : List b6), n4 a b = true ↔ a = b
 | [], [] => by simp [n4]
 | [], _ :: _ => by simp [n4]
 | _ :: _, [] => by simp [n4]
 | e :: r, e' :: r' => by simp only [n4, b86, List.cons.injEq, aa7 e e', E9 r r']
end
def d7.same (p q : d7) : Bool := decide (p.vars = q.vars) && decide (p.arrays = q.arrays) && n4 p.body q.body
end Go.Proofs.YthikdkjjdeehoaaGreat

namespace Go.Proofs.YthikdkjjdeehoaaGreat
set_option linter.unusedVariables false
set_option linter.unusedSimpArgs false
open Go Go.RowKit
section
mutual
def O7 (w : World) (φ : Nat → Prop) : b5 → List Value → Prop
 | ⟨k, n, ks⟩, cs => ∃ v xs, cs = [.int .i64 k, .int .i64 n, v] ∧ z9 w φ v ks.length 3 xs ∧ x6 w φ ks xs
def x6 (w : World) (φ : Nat → Prop) : List b5 → List Value → Prop
 | [], xs => xs = []
 | e :: r, xs => ∃ c ys, xs = c ++ ys ∧ O7 w φ e c ∧ x6 w φ r ys
end
def s9 (w : World) (φ : Nat → Prop) (v : Value) (ks : List b5) : Prop := ∃ xs, z9 w φ v ks.length 3 xs ∧ x6 w φ ks xs
def ab7 (w : World) (φ : Nat → Prop) (v : Value) (e : b5) : Prop := ∃ kv, v = .agg #[.int .i64 e.kind, .int .i64 e.value, kv] ∧ s9 w φ kv e.kids
mutual
def N8 (w : World) (φ : Nat → Prop) : b6 → List Value → Prop
 | ⟨k, t, i, v, c, b, e⟩, cs => ∃ iv vv bv ev xb xe, cs = [.int .i64 k, .int .i64 t, .int .i64 i.kind, .int .i64 i.value, iv, .int .i64 v.kind, .int .i64 v.value, vv, .int .i64 c, bv, ev] ∧
   s9 w φ iv i.kids ∧ s9 w φ vv v.kids ∧ z9 w φ bv b.length 11 xb ∧ w5 w φ b xb ∧ z9 w φ ev e.length 11 xe ∧ w5 w φ e xe
def w5 (w : World) (φ : Nat → Prop) : List b6 → List Value → Prop
 | [], xs => xs = []
 | s :: r, xs => ∃ c ys, xs = c ++ ys ∧ N8 w φ s c ∧ w5 w φ r ys
end
def A8 (w : World) (φ : Nat → Prop) (v : Value) (ss : List b6) : Prop := ∃ xs, z9 w φ v ss.length 11 xs ∧ w5 w φ ss xs
def aj9 (w : World) (φ : Nat → Prop) (v : Value) (s : b6) : Prop :=
 ∃ iv vv bv ev, v = .agg #[.int .i64 s.kind, .int .i64 s.target, .int .i64 s.index.kind, .int .i64 s.index.value, iv, .int .i64 s.value.kind, .int .i64 s.value.value, vv, .int .i64 s.count, bv, ev] ∧
  s9 w φ iv s.index.kids ∧ s9 w φ vv s.value.kids ∧ A8 w φ bv s.body ∧ A8 w φ ev s.els
def bF4 (w : World) (φ : Nat → Prop) (v : Value) (p : d7) : Prop :=
 ∃ v1 v2 v3, v = .agg #[v1, v2, v3] ∧ z9 w φ v1 p.vars.length 1 (ints p.vars) ∧ z9 w φ v2 p.arrays.length 1 (ints p.arrays) ∧ A8 w φ v3 p.body
variable {w w' : World} {φ φ' : Nat → Prop}
mutual
theorem O7.agr (ha : Agr φ φ' w w') : ∀ (e : b5) (cs : List Value), O7 w φ e cs → O7 w' φ' e cs
 | ⟨_, _, ks⟩, _, ⟨v, xs, h1, h2, h3⟩ => ⟨v, xs, h1, z9.nice _ _ _ _ _ _ _ _ ha h2, x6.agr ha ks xs h3⟩
theorem x6.agr (ha : Agr φ φ' w w') : ∀ (ks : List b5) (xs : List Value), x6 w φ ks xs → x6 w' φ' ks xs
 | [], _, h => h
 | e :: r, _, ⟨c, ys, h1, h2, h3⟩ => ⟨c, ys, h1, O7.agr ha e c h2, x6.agr ha r ys h3⟩
end
theorem x6.nice (ks : List b5) (xs : List Value) : ae7 fun w φ => x6 w φ ks xs := fun _ _ _ _ ha h => x6.agr ha ks xs h
theorem s9.nice (v : Value) (ks : List b5) : ae7 fun w φ => s9 w φ v ks := fun _ _ _ _ ha ⟨xs, h1, h2⟩ => ⟨xs, z9.nice _ _ _ _ _ _ _ _ ha h1, x6.agr ha ks xs h2⟩
theorem ab7.nice (v : Value) (e : b5) : ae7 fun w φ => ab7 w φ v e := fun _ _ _ _ ha ⟨kv, h1, h2⟩ => ⟨kv, h1, s9.nice _ _ _ _ _ _ ha h2⟩
mutual
theorem N8.agr (ha : Agr φ φ' w w') : ∀ (s : b6) (cs : List Value), N8 w φ s cs → N8 w' φ' s cs
 | ⟨_, _, _, _, _, b, e⟩, _, ⟨iv, vv, bv, ev, xb, xe, h1, h2, h3, h4, h5, h6, h7⟩ =>
  ⟨iv, vv, bv, ev, xb, xe, h1, s9.nice _ _ _ _ _ _ ha h2, s9.nice _ _ _ _ _ _ ha h3, z9.nice _ _ _ _ _ _ _ _ ha h4, w5.agr ha b xb h5, z9.nice _ _ _ _ _ _ _ _ ha h6, w5.agr ha e xe h7⟩
theorem w5.agr (ha : Agr φ φ' w w') : ∀ (ss : List b6) (xs : List Value), w5 w φ ss xs → w5 w' φ' ss xs
 | [], _, h => h
 | s :: r, _, ⟨c, ys, h1, h2, h3⟩ => ⟨c, ys, h1, N8.agr ha s c h2, w5.agr ha r ys h3⟩
end
theorem w5.nice (ss : List b6) (xs : List Value) : ae7 fun w φ => w5 w φ ss xs := fun _ _ _ _ ha h => w5.agr ha ss xs h
theorem A8.nice (v : Value) (ss : List b6) : ae7 fun w φ => A8 w φ v ss := fun _ _ _ _ ha ⟨xs, h1, h2⟩ => ⟨xs, z9.nice _ _ _ _ _ _ _ _ ha h1, w5.agr ha ss xs h2⟩
theorem aj9.nice (v : Value) (s : b6) : ae7 fun w φ => aj9 w φ v s := fun _ _ _ _ ha ⟨iv, vv, bv, ev, h1, h2, h3, h4, h5⟩ =>
 ⟨iv, vv, bv, ev, h1, s9.nice _ _ _ _ _ _ ha h2, s9.nice _ _ _ _ _ _ ha h3, A8.nice _ _ _ _ _ _ ha h4, A8.nice _ _ _ _ _ _ ha h5⟩
theorem bF4.nice (v : Value) (p : d7) : ae7 fun w φ => bF4 w φ v p := fun _ _ _ _ ha ⟨v1, v2, v3, h1, h2, h3, h4⟩ =>
 ⟨v1, v2, v3, h1, z9.nice _ _ _ _ _ _ _ _ ha h2, z9.nice _ _ _ _ _ _ _ _ ha h3, A8.nice _ _ _ _ _ _ ha h4⟩
theorem O7.iff (e : b5) (cs : List Value) : O7 w φ e cs ↔ ∃ kv, cs = [.int .i64 e.kind, .int .i64 e.value, kv] ∧ s9 w φ kv e.kids := by
 cases e with
 | mk k n ks => exact ⟨fun ⟨v, xs, h1, h2, h3⟩ => ⟨v, h1, xs, h2, h3⟩, fun ⟨v, h1, xs, h2, h3⟩ => ⟨v, xs, h1, h2, h3⟩⟩
theorem N8.iff (s : b6) (cs : List Value) : N8 w φ s cs ↔ ∃ iv vv bv ev, cs = [.int .i64 s.kind, .int .i64 s.target, .int .i64 s.index.kind, .int .i64 s.index.value, iv, .int .i64 s.value.kind, .int .i64 s.value.value, vv, .int .i64 s.count, bv, ev] ∧
  s9 w φ iv s.index.kids ∧ s9 w φ vv s.value.kids ∧ A8 w φ bv s.body ∧ A8 w φ ev s.els := by
 cases s with
 | mk k t i v c b e =>
  exact ⟨fun ⟨iv, vv, bv, ev, xb, xe, h1, h2, h3, h4, h5, h6, h7⟩ => ⟨iv, vv, bv, ev, h1, h2, h3, ⟨xb, h4, h5⟩, ⟨xe, h6, h7⟩⟩,
   fun ⟨iv, vv, bv, ev, h1, h2, h3, ⟨xb, h4, h5⟩, ⟨xe, h6, h7⟩⟩ => ⟨iv, vv, bv, ev, xb, xe, h1, h2, h3, h4, h5, h6, h7⟩⟩
theorem ab7.iff {v : Value} {e : b5} : ab7 w φ v e ↔ ∃ cs : List Value, v = .agg cs.toArray ∧ O7 w φ e cs :=
 ⟨fun ⟨kv, h1, h2⟩ => ⟨_, h1, (O7.iff e _).2 ⟨kv, rfl, h2⟩⟩, fun ⟨cs, h1, h2⟩ => by obtain ⟨kv, rfl, h3⟩ := (O7.iff e cs).1 h2; exact ⟨kv, h1, h3⟩⟩
theorem aj9.iff {v : Value} {s : b6} : aj9 w φ v s ↔ ∃ cs : List Value, v = .agg cs.toArray ∧ N8 w φ s cs :=
 ⟨fun ⟨iv, vv, bv, ev, h1, h2⟩ => ⟨_, h1, (N8.iff s _).2 ⟨iv, vv, bv, ev, rfl, h2⟩⟩, fun ⟨cs, h1, h2⟩ => by obtain ⟨iv, vv, bv, ev, rfl, h3⟩ := (N8.iff s cs).1 h2; exact ⟨iv, vv, bv, ev, h1, h3⟩⟩
theorem x6.len : ∀ {ks : List b5} {xs : List Value}, x6 w φ ks xs → xs.length = ks.length * 3
 | [], _, h => by rw [show _ = [] from h]; rfl
 | e :: r, _, ⟨c, ys, h1, h2, h3⟩ => by
  obtain ⟨kv, rfl, _⟩ := (O7.iff e c).1 h2
  rw [h1, b88, x6.len h3, b87]; simp; omega
theorem w5.len : ∀ {ss : List b6} {xs : List Value}, w5 w φ ss xs → xs.length = ss.length * 11
 | [], _, h => by rw [show _ = [] from h]; rfl
 | s :: r, _, ⟨c, ys, h1, h2, h3⟩ => by
  obtain ⟨iv, vv, bv, ev, rfl, _⟩ := (N8.iff s c).1 h2
  rw [h1, b88, w5.len h3, b87]; simp; omega
theorem x6.at : ∀ {ks : List b5} {xs : List Value}, x6 w φ ks xs → ∀ (i : Nat) (hi : i < ks.length), ∃ kv, xs[i * 3]? = some (.int .i64 ks[i].kind) ∧ xs[i * 3 + 1]? = some (.int .i64 ks[i].value) ∧ xs[i * 3 + 2]? = some kv ∧ s9 w φ kv ks[i].kids
 | [], _, _, i, hi => by simp at hi
 | e :: r, _, ⟨c, ys, h1, h2, h3⟩, i, hi => by
  obtain ⟨kv, rfl, hk⟩ := (O7.iff e c).1 h2
  subst h1
  cases i with
  | zero => exact ⟨kv, rfl, rfl, rfl, hk⟩
  | succ i =>
   obtain ⟨kv', a, b, d, f⟩ := x6.at h3 i (by simpa using hi)
   refine ⟨kv', ?_, ?_, ?_, f⟩ <;> (rw [cb8]; simpa [Nat.add_assoc] using by assumption)
theorem w5.at : ∀ {ss : List b6} {xs : List Value}, w5 w φ ss xs → ∀ (i : Nat) (hi : i < ss.length), ∃ cs : List Value, cs.length = 11 ∧ N8 w φ ss[i] cs ∧ ∀ j, j < 11 → xs[i * 11 + j]? = cs[j]?
 | [], _, _, i, hi => by simp at hi
 | s :: r, _, ⟨c, ys, h1, h2, h3⟩, i, hi => by
  have hc : c.length = 11 := by obtain ⟨iv, vv, bv, ev, rfl, _⟩ := (N8.iff s c).1 h2; rfl
  subst h1
  cases i with
  | zero => exact ⟨c, hc, h2, fun j hj => by rw [ca9 (by omega)]; simp⟩
  | succ i =>
   obtain ⟨cs, a, b, d⟩ := w5.at h3 i (by simpa using hi)
   refine ⟨cs, a, b, fun j hj => ?_⟩
   rw [cc6 (by rw [hc, cb8]; omega), ← d j hj]
   congr 1
   rw [hc, cb8]; omega
theorem x6.append : ∀ {ks : List b5} {xs : List Value} {ls : List b5} {ys : List Value}, x6 w φ ks xs → x6 w φ ls ys → x6 w φ (ks ++ ls) (xs ++ ys)
 | [], _, _, _, h, k => by rw [show _ = [] from h]; exact k
 | e :: r, _, _, _, ⟨c, zs, h1, h2, h3⟩, k => ⟨c, zs ++ _, by rw [h1, List.append_assoc], h2, x6.append h3 k⟩
theorem x6.one {e : b5} {c : List Value} (h : O7 w φ e c) : x6 w φ [e] c := ⟨c, [], by simp, h, rfl⟩
theorem w5.append : ∀ {ks : List b6} {xs : List Value} {ls : List b6} {ys : List Value}, w5 w φ ks xs → w5 w φ ls ys → w5 w φ (ks ++ ls) (xs ++ ys)
 | [], _, _, _, h, k => by rw [show _ = [] from h]; exact k
 | e :: r, _, _, _, ⟨c, zs, h1, h2, h3⟩, k => ⟨c, zs ++ _, by rw [h1, List.append_assoc], h2, w5.append h3 k⟩
theorem w5.one {s : b6} {c : List Value} (h : N8 w φ s c) : w5 w φ [s] c := ⟨c, [], by simp, h, rfl⟩
theorem s9.open {v : Value} {ks : List b5} (h : s9 w φ v ks) : ∃ a cap, v = .slice a ks.length cap ∧ ks.length ≤ cap ∧ ks.length ≤ 9223372036854775807 ∧ cap ≤ 9223372036854775807 ∧
  ∀ i (hi : i < ks.length), ∃ b off kv, a = some ⟨b, off, none⟩ ∧ b < w.heap.size ∧ φ b ∧ w.cell? ⟨b, off + i * 3, none⟩ = some (.int .i64 ks[i].kind) ∧ w.cell? ⟨b, off + i * 3 + 1, none⟩ = some (.int .i64 ks[i].value) ∧ w.cell? ⟨b, off + i * 3 + 2, none⟩ = some kv ∧ s9 w φ kv ks[i].kids := by
 obtain ⟨xs, ⟨hl, a, cap, rfl, h1, h2, h3⟩, hx⟩ := h
 unfold maxLen at h2
 refine ⟨a, cap, rfl, h1, by omega, by omega, fun i hi => ?_⟩
 obtain ⟨b, off, rfl, hb, hf, hc⟩ := h3 (by omega)
 obtain ⟨kv, e0, e1, e2, hk⟩ := hx.at i hi
 exact ⟨b, off, kv, rfl, hb, hf, hc _ _ e0, hc _ _ e1, hc _ _ e2, hk⟩
theorem A8.open {v : Value} {ss : List b6} (h : A8 w φ v ss) : ∃ a cap, v = .slice a ss.length cap ∧ ss.length ≤ cap ∧ ss.length ≤ 9223372036854775807 ∧ cap ≤ 9223372036854775807 ∧
  ∀ i (hi : i < ss.length), ∃ b off iv vv bv ev, a = some ⟨b, off, none⟩ ∧ b < w.heap.size ∧ φ b ∧
   (w.cell? ⟨b, off + i * 11, none⟩ = some (.int .i64 ss[i].kind) ∧ w.cell? ⟨b, off + i * 11 + 1, none⟩ = some (.int .i64 ss[i].target) ∧ w.cell? ⟨b, off + i * 11 + 2, none⟩ = some (.int .i64 ss[i].index.kind) ∧ w.cell? ⟨b, off + i * 11 + 3, none⟩ = some (.int .i64 ss[i].index.value) ∧ w.cell? ⟨b, off + i * 11 + 4, none⟩ = some iv ∧
    w.cell? ⟨b, off + i * 11 + 5, none⟩ = some (.int .i64 ss[i].value.kind) ∧ w.cell? ⟨b, off + i * 11 + 6, none⟩ = some (.int .i64 ss[i].value.value) ∧ w.cell? ⟨b, off + i * 11 + 7, none⟩ = some vv ∧ w.cell? ⟨b, off + i * 11 + 8, none⟩ = some (.int .i64 ss[i].count) ∧ w.cell? ⟨b, off + i * 11 + 9, none⟩ = some bv ∧ w.cell? ⟨b, off + i * 11 + 10, none⟩ = some ev) ∧
   s9 w φ iv ss[i].index.kids ∧ s9 w φ vv ss[i].value.kids ∧ A8 w φ bv ss[i].body ∧ A8 w φ ev ss[i].els := by
 obtain ⟨xs, ⟨hl, a, cap, rfl, h1, h2, h3⟩, hx⟩ := h
 unfold maxLen at h2
 refine ⟨a, cap, rfl, h1, by omega, by omega, fun i hi => ?_⟩
 obtain ⟨b, off, rfl, hb, hf, hc⟩ := h3 (by omega)
 obtain ⟨cs, hl2, hs, hj⟩ := hx.at i hi
 obtain ⟨iv, vv, bv, ev, rfl, k1, k2, k3, k4⟩ := (N8.iff _ _).1 hs
 refine ⟨b, off, iv, vv, bv, ev, rfl, hb, hf, ⟨?_, ?_, ?_, ?_, ?_, ?_, ?_, ?_, ?_, ?_, ?_⟩, k1, k2, k3, k4⟩
 ·have := hc (i * 11 + 0) _ ((hj 0 (by omega)).trans rfl); simpa using this
 ·exact hc (i * 11 + 1) _ ((hj 1 (by omega)).trans rfl)
 ·exact hc (i * 11 + 2) _ ((hj 2 (by omega)).trans rfl)
 ·exact hc (i * 11 + 3) _ ((hj 3 (by omega)).trans rfl)
 ·exact hc (i * 11 + 4) _ ((hj 4 (by omega)).trans rfl)
 ·exact hc (i * 11 + 5) _ ((hj 5 (by omega)).trans rfl)
 ·exact hc (i * 11 + 6) _ ((hj 6 (by omega)).trans rfl)
 ·exact hc (i * 11 + 7) _ ((hj 7 (by omega)).trans rfl)
 ·exact hc (i * 11 + 8) _ ((hj 8 (by omega)).trans rfl)
 ·exact hc (i * 11 + 9) _ ((hj 9 (by omega)).trans rfl)
 ·exact hc (i * 11 + 10) _ ((hj 10 (by omega)).trans rfl)
theorem s9.nil (w : World) (φ : Nat → Prop) : s9 w φ (.slice none 0 0) [] := ⟨[], z9.nil _ _ _, rfl⟩
theorem A8.nil (w : World) (φ : Nat → Prop) : A8 w φ (.slice none 0 0) [] := ⟨[], z9.nil _ _ _, rfl⟩
end
inductive D where
 | ints (l : List Int)
 | bools (l : List Bool)
 | bytes (l : List UInt8)
 | strs (l : List ByteArray)
 | instrs (l : List aa0)
 | events (l : List (Int × Int))
 | rows (l : List (List Int))
 | brows (l : List (List Bool))
 | exprs (l : List b5)
 | stmts (l : List b6)
inductive X where
 | v (x : Value)
 | sl (d : D)
def D.len : D → Nat
 | .ints l => l.length
 | .bools l => l.length
 | .bytes l => l.length
 | .strs l => l.length
 | .instrs l => l.length
 | .events l => l.length
 | .rows l => l.length
 | .brows l => l.length
 | .exprs l => l.length
 | .stmts l => l.length
def D.sz : D → Nat
 | .instrs _ => 5
 | .events _ => 2
 | .exprs _ => 3
 | .stmts _ => 11
 | _ => 1
instance : Inhabited b5 := ⟨⟨0, 0, []⟩⟩
instance : Inhabited b6 := ⟨⟨0, 0, b85, b85, 0, [], []⟩⟩
instance : Inhabited aa0 := ⟨⟨0, 0, 0, 0, 0⟩⟩
def aK2 (e : b5) : List X := [.v (.int .i64 e.kind), .v (.int .i64 e.value), .sl (.exprs e.kids)]
def aG6 (s : b6) : List X := [.v (.int .i64 s.kind), .v (.int .i64 s.target), .v (.int .i64 s.index.kind), .v (.int .i64 s.index.value), .sl (.exprs s.index.kids), .v (.int .i64 s.value.kind), .v (.int .i64 s.value.value), .sl (.exprs s.value.kids), .v (.int .i64 s.count), .sl (.stmts s.body), .sl (.stmts s.els)]
def bc4 (x : aa0) : List X := [.v (.int .i64 x.op), .v (.int .i64 x.a), .v (.int .i64 x.b), .v (.int .i64 x.c), .v (.int .i64 x.d)]
def aq2 (x : Int × Int) : List X := [.v (.int .i64 x.1), .v (.int .i64 x.2)]
def D.elem : D → Nat → List X
 | .ints l, i => [.v (.int .i64 (l.getD i 0))]
 | .bools l, i => [.v (.bool (l.getD i false))]
 | .bytes l, i => [.v (.int .u8 ((l.getD i 0).toNat : Int))]
 | .strs l, i => [.v (.string (l.getD i ByteArray.empty))]
 | .instrs l, i => bc4 (l.getD i b85)
 | .events l, i => aq2 (l.getD i (0, 0))
 | .rows l, i => [.sl (.ints (l.getD i []))]
 | .brows l, i => [.sl (.bools (l.getD i []))]
 | .exprs l, i => aK2 (l.getD i b85)
 | .stmts l, i => aG6 (l.getD i b85)
theorem D.elem_len (d : D) (i : Nat) : (d.elem i).length = d.sz := by cases d <;> rfl
theorem n6 {α : Type} {l : List α} {i : Nat} {d : α} (h : i < l.length) : l.getD i d = l[i] := by simp [h]
def RD (w : World) (φ : Nat → Prop) : D → Value → Prop
 | .ints l, v => z9 w φ v l.length 1 (ints l)
 | .bools l, v => z9 w φ v l.length 1 (l.map Value.bool)
 | .bytes l, v => z9 w φ v l.length 1 (l.map fun b => Value.int .u8 (b.toNat : Int))
 | .strs l, v => z9 w φ v l.length 1 (l.map Value.string)
 | .instrs l, v => z9 w φ v l.length 5 (ints (am0 l))
 | .events l, v => z9 w φ v l.length 2 (l.flatMap fun x => [Value.int .i64 x.1, .int .i64 x.2])
 | .rows l, v => ∃ vs : List Value, z9 w φ v l.length 1 vs ∧ ∀ i (_ : i < l.length), ∃ u, vs[i]? = some u ∧ z9 w φ u l[i].length 1 (ints l[i])
 | .brows l, v => ∃ vs : List Value, z9 w φ v l.length 1 vs ∧ ∀ i (_ : i < l.length), ∃ u, vs[i]? = some u ∧ z9 w φ u l[i].length 1 (l[i].map Value.bool)
 | .exprs l, v => s9 w φ v l
 | .stmts l, v => A8 w φ v l
def XH (w : World) (φ : Nat → Prop) : X → Value → Prop
 | .v x, u => u = x
 | .sl d, u => RD w φ d u
theorem RD.nice (d : D) (v : Value) : ae7 fun w φ => RD w φ d v := by
 intro w w' φ φ' ha h
 cases d with
 | rows l => obtain ⟨vs, h1, h2⟩ := h; exact ⟨vs, z9.nice _ _ _ _ _ _ _ _ ha h1, fun i hi => let ⟨u, a, b⟩ := h2 i hi; ⟨u, a, z9.nice _ _ _ _ _ _ _ _ ha b⟩⟩
 | brows l => obtain ⟨vs, h1, h2⟩ := h; exact ⟨vs, z9.nice _ _ _ _ _ _ _ _ ha h1, fun i hi => let ⟨u, a, b⟩ := h2 i hi; ⟨u, a, z9.nice _ _ _ _ _ _ _ _ ha b⟩⟩
 | exprs l => exact s9.nice v l _ _ _ _ ha h
 | stmts l => exact A8.nice v l _ _ _ _ ha h
 | _ => exact z9.nice _ _ _ _ _ _ _ _ ha h
theorem XH.nice (x : X) (v : Value) : ae7 fun w φ => XH w φ x v := by
 intro w w' φ φ' ha h
 cases x with
 | v x => exact h
 | sl d => exact RD.nice d v _ _ _ _ ha h
def RW (w : World) (φ : Nat → Prop) (d : D) (xs : List Value) : Prop :=
 ∀ i, i < d.len → ∀ j x, (d.elem i)[j]? = some x → ∃ u, xs[i * d.sz + j]? = some u ∧ XH w φ x u
theorem RW.nice (d : D) (xs : List Value) : ae7 fun w φ => RW w φ d xs := fun _ _ _ _ ha h i hi j x hx => let ⟨u, a, b⟩ := h i hi j x hx; ⟨u, a, XH.nice x u _ _ _ _ ha b⟩
theorem aA1 {α : Type} (l : List α) (f : α → Value) (dflt : α) {i j : Nat} {x : X} (hi : i < l.length) (hx : ([X.v (f (l.getD i dflt))] : List X)[j]? = some x) : ∃ y, x = .v y ∧ (l.map f)[i * 1 + j]? = some y := by
 cases j with
 | zero => simp at hx; subst hx; exact ⟨_, rfl, by simp [hi]⟩
 | succ j => simp at hx
theorem bP8 (l : List aa0) {i j : Nat} {x : X} (hi : i < l.length) (hx : (bc4 (l.getD i b85))[j]? = some x) : ∃ y, x = .v y ∧ (ints (am0 l))[i * 5 + j]? = some y := by
 obtain ⟨g0, g1, g2, g3, g4⟩ := bB1 l i hi
 have e : l.getD i b85 = l[i] := by simp [hi]
 rw [e] at hx
 unfold bc4 at hx
 match j, hx with
 | 0, hx => simp at hx; subst hx; exact ⟨_, rfl, by simp [ints, g0]⟩
 | 1, hx => simp at hx; subst hx; exact ⟨_, rfl, by simp [ints, g1]⟩
 | 2, hx => simp at hx; subst hx; exact ⟨_, rfl, by simp [ints, g2]⟩
 | 3, hx => simp at hx; subst hx; exact ⟨_, rfl, by simp [ints, g3]⟩
 | 4, hx => simp at hx; subst hx; exact ⟨_, rfl, by simp [ints, g4]⟩
 | j + 5, hx => simp at hx
theorem bP9 (l : List (Int × Int)) : ∀ {i j : Nat} {x : X}, i < l.length → (aq2 (l.getD i (0, 0)))[j]? = some x → ∃ y, x = .v y ∧ (l.flatMap fun x => [Value.int .i64 x.1, .int .i64 x.2])[i * 2 + j]? = some y := by
 induction l with
 | nil => intro i j x hi; simp at hi
 | cons a r ih =>
  intro i j x hi hx
  cases i with
  | zero =>
   unfold aq2 at hx
   match j, hx with
   | 0, hx => simp at hx; subst hx; exact ⟨_, rfl, by simp⟩
   | 1, hx => simp at hx; subst hx; exact ⟨_, rfl, by simp⟩
   | j + 2, hx => simp at hx
  | succ i =>
   obtain ⟨y, h1, h2⟩ := ih (i := i) (j := j) (x := x) (by simpa using hi) (by simpa using hx)
   refine ⟨y, h1, ?_⟩
   rw [show (i + 1) * 2 + j = i * 2 + j + 2 by omega]
   simpa using h2
theorem z9.cellAt {w : World} {φ : Nat → Prop} {v : Value} {n sz : Nat} {xs : List Value} (h : z9 w φ v n sz xs) : ∃ a cap, v = .slice a n cap ∧ n ≤ cap ∧ cap ≤ maxLen ∧
  ∀ i, i < n → ∃ b off, a = some ⟨b, off, none⟩ ∧ b < w.heap.size ∧ φ b ∧ ∀ j u, xs[i * sz + j]? = some u → w.cell? ⟨b, off + (i * sz + j), none⟩ = some u := by
 obtain ⟨_, a, cap, rfl, h1, h2, h3⟩ := h
 refine ⟨a, cap, rfl, h1, h2, fun i hi => ?_⟩
 obtain ⟨b, off, rfl, hb, hf, hc⟩ := h3 (by omega)
 exact ⟨b, off, rfl, hb, hf, fun j u hj => hc _ u hj⟩
theorem bC4 {w : World} {φ : Nat → Prop} {e : b5} {c : List Value} (h : O7 w φ e c) {j : Nat} {x : X} (hx : (aK2 e)[j]? = some x) : ∃ u, c[j]? = some u ∧ XH w φ x u := by
 obtain ⟨kv, rfl, hk⟩ := (O7.iff e c).1 h
 unfold aK2 at hx
 match j, hx with
 | 0, hx => simp at hx; subst hx; exact ⟨_, rfl, rfl⟩
 | 1, hx => simp at hx; subst hx; exact ⟨_, rfl, rfl⟩
 | 2, hx => simp at hx; subst hx; exact ⟨_, rfl, hk⟩
 | j + 3, hx => simp at hx
theorem bu1 {w : World} {φ : Nat → Prop} {s : b6} {c : List Value} (h : N8 w φ s c) {j : Nat} {x : X} (hx : (aG6 s)[j]? = some x) : ∃ u, c[j]? = some u ∧ XH w φ x u := by
 obtain ⟨iv, vv, bv, ev, rfl, k1, k2, k3, k4⟩ := (N8.iff s c).1 h
 unfold aG6 at hx
 match j, hx with
 | 0, hx => simp at hx; subst hx; exact ⟨_, rfl, rfl⟩
 | 1, hx => simp at hx; subst hx; exact ⟨_, rfl, rfl⟩
 | 2, hx => simp at hx; subst hx; exact ⟨_, rfl, rfl⟩
 | 3, hx => simp at hx; subst hx; exact ⟨_, rfl, rfl⟩
 | 4, hx => simp at hx; subst hx; exact ⟨_, rfl, k1⟩
 | 5, hx => simp at hx; subst hx; exact ⟨_, rfl, rfl⟩
 | 6, hx => simp at hx; subst hx; exact ⟨_, rfl, rfl⟩
 | 7, hx => simp at hx; subst hx; exact ⟨_, rfl, k2⟩
 | 8, hx => simp at hx; subst hx; exact ⟨_, rfl, rfl⟩
 | 9, hx => simp at hx; subst hx; exact ⟨_, rfl, k3⟩
 | 10, hx => simp at hx; subst hx; exact ⟨_, rfl, k4⟩
 | j + 11, hx => simp at hx
theorem RW.exprs {w : World} {φ : Nat → Prop} {ks : List b5} {xs : List Value} (h : x6 w φ ks xs) : RW w φ (.exprs ks) xs := by
 intro i hi j x hx
 have hj : j < 3 := by
  have := (b98.1 hx).1
  rw [D.elem_len] at this; exact this
 have hi' : i < ks.length := hi
 obtain ⟨kv, e0, e1, e2, hk⟩ := h.at i hi'
 have hx' : (aK2 ks[i])[j]? = some x := by
  rw [← n6 (d := b85) hi']; exact hx
 obtain ⟨u, hu, hh⟩ := bC4 ((O7.iff ks[i] [.int .i64 ks[i].kind, .int .i64 ks[i].value, kv]).2 ⟨kv, rfl, hk⟩) hx'
 refine ⟨u, ?_, hh⟩
 rw [← hu]
 show xs[i * 3 + j]? = _
 match j, hj with
 | 0, _ => simpa using e0
 | 1, _ => simpa using e1
 | 2, _ => simpa using e2
theorem RW.stmts {w : World} {φ : Nat → Prop} {ks : List b6} {xs : List Value} (h : w5 w φ ks xs) : RW w φ (.stmts ks) xs := by
 intro i hi j x hx
 have hj : j < 11 := by
  have := (b98.1 hx).1
  rw [D.elem_len] at this; exact this
 have hi' : i < ks.length := hi
 obtain ⟨cs, hl, hs, hc⟩ := h.at i hi'
 have hx' : (aG6 ks[i])[j]? = some x := by
  rw [← n6 (d := b85) hi']; exact hx
 obtain ⟨u, hu, hh⟩ := bu1 hs hx'
 exact ⟨u, (hc j hj).trans hu, hh⟩
theorem RD.split {w : World} {φ : Nat → Prop} {d : D} {v : Value} (h : RD w φ d v) : ∃ xs, z9 w φ v d.len d.sz xs ∧ RW w φ d xs := by
 cases d with
 | ints l => exact ⟨_, h, fun i hi j x hx => let ⟨y, e, h1⟩ := aA1 l (Value.int .i64) 0 hi hx; ⟨y, h1, by subst e; rfl⟩⟩
 | bools l => exact ⟨_, h, fun i hi j x hx => let ⟨y, e, h1⟩ := aA1 l Value.bool false hi hx; ⟨y, h1, by subst e; rfl⟩⟩
 | bytes l => exact ⟨_, h, fun i hi j x hx => let ⟨y, e, h1⟩ := aA1 l (fun b => Value.int .u8 (b.toNat : Int)) 0 hi hx; ⟨y, h1, by subst e; rfl⟩⟩
 | strs l => exact ⟨_, h, fun i hi j x hx => let ⟨y, e, h1⟩ := aA1 l Value.string ByteArray.empty hi hx; ⟨y, h1, by subst e; rfl⟩⟩
 | instrs l => exact ⟨_, h, fun i hi j x hx => let ⟨y, e, h1⟩ := bP8 l hi hx; ⟨y, h1, by subst e; rfl⟩⟩
 | events l => exact ⟨_, h, fun i hi j x hx => let ⟨y, e, h1⟩ := bP9 l hi hx; ⟨y, h1, by subst e; rfl⟩⟩
 | rows l =>
  obtain ⟨vs, h1, h2⟩ := h
  refine ⟨vs, h1, fun i hi j x hx => ?_⟩
  cases j with
  | succ j => simp [D.elem] at hx
  | zero =>
   obtain ⟨u, e, h3⟩ := h2 i hi
   simp only [D.elem, List.getElem?_cons_zero, Option.some.injEq] at hx
   subst hx
   have hi' : i < l.length := hi
   exact ⟨u, by simpa [D.sz] using e, by show z9 _ _ _ _ _ _; rw [n6 hi']; exact h3⟩
 | brows l =>
  obtain ⟨vs, h1, h2⟩ := h
  refine ⟨vs, h1, fun i hi j x hx => ?_⟩
  cases j with
  | succ j => simp [D.elem] at hx
  | zero =>
   obtain ⟨u, e, h3⟩ := h2 i hi
   simp only [D.elem, List.getElem?_cons_zero, Option.some.injEq] at hx
   subst hx
   have hi' : i < l.length := hi
   exact ⟨u, by simpa [D.sz] using e, by show z9 _ _ _ _ _ _; rw [n6 hi']; exact h3⟩
 | exprs l => obtain ⟨xs, h1, h2⟩ := h; exact ⟨xs, h1, RW.exprs h2⟩
 | stmts l => obtain ⟨xs, h1, h2⟩ := h; exact ⟨xs, h1, RW.stmts h2⟩
theorem RD.open {w : World} {φ : Nat → Prop} {d : D} {v : Value} (h : RD w φ d v) : ∃ a cap, v = .slice a d.len cap ∧ d.len ≤ cap ∧ cap ≤ maxLen ∧
  ∀ i, i < d.len → ∃ b off, a = some ⟨b, off, none⟩ ∧ b < w.heap.size ∧ φ b ∧ ∀ j x, (d.elem i)[j]? = some x → ∃ u, w.cell? ⟨b, off + (i * d.sz + j), none⟩ = some u ∧ XH w φ x u := by
 obtain ⟨xs, h1, h2⟩ := h.split
 obtain ⟨a, cap, rfl, k1, k2, k3⟩ := h1.cellAt
 refine ⟨a, cap, rfl, k1, k2, fun i hi => ?_⟩
 obtain ⟨b, off, e, hb, hf, hc⟩ := k3 i hi
 exact ⟨b, off, e, hb, hf, fun j x hx => let ⟨u, hu, hh⟩ := h2 i hi j x hx; ⟨u, hc j u hu, hh⟩⟩
theorem bS4 {xs ys : List Value} (hl : xs.length = ys.length) (h : ∀ i, i < ys.length → xs[i]? = ys[i]?) : xs = ys := by
 apply List.ext_getElem?
 intro i
 rcases cc0 i ys.length with hi | hi
 ·exact h i hi
 ·rw [cb5 (by omega), cb5 hi]
theorem RW.drop {w : World} {φ : Nat → Prop} {a : b5} {r : List b5} {xs : List Value} (h : RW w φ (.exprs (a :: r)) xs) : RW w φ (.exprs r) (xs.drop 3) := by
 intro i hi j x hx
 have hi' : i < r.length := hi
 obtain ⟨u, h1, h2⟩ := h (i + 1) (by show i + 1 < (a :: r).length; simp; exact hi') j x (by simpa [D.elem] using hx)
 refine ⟨u, ?_, h2⟩
 rw [List.getElem?_drop, ← h1]
 congr 1
 simp only [D.sz]; omega
theorem RW.dropS {w : World} {φ : Nat → Prop} {a : b6} {r : List b6} {xs : List Value} (h : RW w φ (.stmts (a :: r)) xs) : RW w φ (.stmts r) (xs.drop 11) := by
 intro i hi j x hx
 have hi' : i < r.length := hi
 obtain ⟨u, h1, h2⟩ := h (i + 1) (by show i + 1 < (a :: r).length; simp; exact hi') j x (by simpa [D.elem] using hx)
 refine ⟨u, ?_, h2⟩
 rw [List.getElem?_drop, ← h1]
 congr 1
 simp only [D.sz]; omega
theorem bX5 {xs : List Value} {u0 u1 u2 : Value} (h0 : xs[0]? = some u0) (h1 : xs[1]? = some u1) (h2 : xs[2]? = some u2) : xs = [u0, u1, u2] ++ xs.drop 3 := by
 match xs, h0, h1, h2 with
 | a :: b :: c :: r, h0, h1, h2 => simp at h0 h1 h2; simp [h0, h1, h2]
theorem bQ9 {xs : List Value} {u0 u1 u2 u3 u4 u5 u6 u7 u8 u9 u10 : Value} (h0 : xs[0]? = some u0) (h1 : xs[1]? = some u1) (h2 : xs[2]? = some u2) (h3 : xs[3]? = some u3) (h4 : xs[4]? = some u4) (h5 : xs[5]? = some u5) (h6 : xs[6]? = some u6) (h7 : xs[7]? = some u7) (h8 : xs[8]? = some u8) (h9 : xs[9]? = some u9) (h10 : xs[10]? = some u10) : xs = [u0, u1, u2, u3, u4, u5, u6, u7, u8, u9, u10] ++ xs.drop 11 := by
 match xs, h0, h1, h2, h3, h4, h5, h6, h7, h8, h9, h10 with
 | a0 :: a1 :: a2 :: a3 :: a4 :: a5 :: a6 :: a7 :: a8 :: a9 :: a10 :: r, h0, h1, h2, h3, h4, h5, h6, h7, h8, h9, h10 =>
  simp at h0 h1 h2 h3 h4 h5 h6 h7 h8 h9 h10
  simp [h0, h1, h2, h3, h4, h5, h6, h7, h8, h9, h10]
theorem x6.of {w : World} {φ : Nat → Prop} : ∀ {ks : List b5} {xs : List Value}, xs.length = ks.length * 3 → RW w φ (.exprs ks) xs → x6 w φ ks xs
 | [], xs, hl, _ => by simp at hl; exact hl
 | a :: r, xs, hl, h => by
  have hp : 0 < (D.exprs (a :: r)).len := by show 0 < (a :: r).length; simp
  obtain ⟨u0, g0, rfl⟩ := h 0 hp 0 (.v (.int .i64 a.kind)) rfl
  obtain ⟨u1, g1, rfl⟩ := h 0 hp 1 (.v (.int .i64 a.value)) rfl
  obtain ⟨u2, g2, hk⟩ := h 0 hp 2 (.sl (.exprs a.kids)) rfl
  refine ⟨_, xs.drop 3, bX5 (by simpa using g0) (by simpa using g1) (by simpa using g2), (O7.iff a _).2 ⟨u2, rfl, hk⟩, x6.of (by simp at hl ⊢; omega) h.drop⟩
theorem w5.of {w : World} {φ : Nat → Prop} : ∀ {ks : List b6} {xs : List Value}, xs.length = ks.length * 11 → RW w φ (.stmts ks) xs → w5 w φ ks xs
 | [], xs, hl, _ => by simp at hl; exact hl
 | a :: r, xs, hl, h => by
  have hp : 0 < (D.stmts (a :: r)).len := by show 0 < (a :: r).length; simp
  obtain ⟨u0, g0, rfl⟩ := h 0 hp 0 (.v (.int .i64 a.kind)) rfl
  obtain ⟨u1, g1, rfl⟩ := h 0 hp 1 (.v (.int .i64 a.target)) rfl
  obtain ⟨u2, g2, rfl⟩ := h 0 hp 2 (.v (.int .i64 a.index.kind)) rfl
  obtain ⟨u3, g3, rfl⟩ := h 0 hp 3 (.v (.int .i64 a.index.value)) rfl
  obtain ⟨u4, g4, k4⟩ := h 0 hp 4 (.sl (.exprs a.index.kids)) rfl
  obtain ⟨u5, g5, rfl⟩ := h 0 hp 5 (.v (.int .i64 a.value.kind)) rfl
  obtain ⟨u6, g6, rfl⟩ := h 0 hp 6 (.v (.int .i64 a.value.value)) rfl
  obtain ⟨u7, g7, k7⟩ := h 0 hp 7 (.sl (.exprs a.value.kids)) rfl
  obtain ⟨u8, g8, rfl⟩ := h 0 hp 8 (.v (.int .i64 a.count)) rfl
  obtain ⟨u9, g9, k9⟩ := h 0 hp 9 (.sl (.stmts a.body)) rfl
  obtain ⟨u10, g10, k10⟩ := h 0 hp 10 (.sl (.stmts a.els)) rfl
  refine ⟨_, xs.drop 11, bQ9 (by simpa using g0) (by simpa using g1) (by simpa using g2) (by simpa using g3) (by simpa using g4) (by simpa using g5) (by simpa using g6) (by simpa using g7) (by simpa using g8) (by simpa using g9) (by simpa using g10), (N8.iff a _).2 ⟨u4, u7, u9, u10, rfl, k4, k7, k9, k10⟩, w5.of (by simp at hl ⊢; omega) h.dropS⟩
theorem al3 {w : World} {φ : Nat → Prop} {d : D} {xs ys : List Value} (hl : xs.length = d.len * d.sz) (hy : ys.length = d.len * d.sz) (h : RW w φ d xs)
  (hf : ∀ i j x, i < d.len → (d.elem i)[j]? = some x → ∃ y, x = .v y ∧ ys[i * d.sz + j]? = some y) : xs = ys := by
 refine bS4 (hl.trans hy.symm) fun p hp => ?_
 have hs : 0 < d.sz := by cases d <;> simp [D.sz]
 have hi : p / d.sz < d.len := by rw [hy] at hp; exact Nat.div_lt_of_lt_mul (by rw [Nat.mul_comm]; exact hp)
 have hj : p % d.sz < (d.elem (p / d.sz)).length := by rw [D.elem_len]; exact Nat.mod_lt _ hs
 obtain ⟨y, h1, h2⟩ := hf _ _ _ hi (b90 hj)
 obtain ⟨u, h3, h4⟩ := h _ hi _ _ (b90 hj)
 rw [h1] at h4
 have e : p / d.sz * d.sz + p % d.sz = p := by rw [Nat.mul_comm]; exact Nat.div_add_mod p d.sz
 rw [e] at h2 h3
 rw [h3, h2]
 exact congrArg some h4
theorem bd1 (l : List (Int × Int)) : (l.flatMap fun x => [Value.int .i64 x.1, .int .i64 x.2]).length = l.length * 2 := by
 induction l with
 | nil => rfl
 | cons a r ih => rw [List.flatMap_cons, b88, ih]; simp; omega
theorem RD.make {w : World} {φ : Nat → Prop} {d : D} {v : Value} {xs : List Value} (hr : z9 w φ v d.len d.sz xs) (h : RW w φ d xs) : RD w φ d v := by
 have hl := hr.1
 cases d with
 | ints l => rw [al3 hl (by simp [D.len, D.sz, ints]) h fun i j x hi hx => aA1 l (Value.int .i64) 0 hi hx] at hr; exact hr
 | bools l => rw [al3 hl (by simp [D.len, D.sz]) h fun i j x hi hx => aA1 l Value.bool false hi hx] at hr; exact hr
 | bytes l => rw [al3 hl (by simp [D.len, D.sz]) h fun i j x hi hx => aA1 l (fun b => Value.int .u8 (b.toNat : Int)) 0 hi hx] at hr; exact hr
 | strs l => rw [al3 hl (by simp [D.len, D.sz]) h fun i j x hi hx => aA1 l Value.string ByteArray.empty hi hx] at hr; exact hr
 | instrs l => rw [al3 hl (by simp [D.len, D.sz, ints, bB0]) h fun i j x hi hx => bP8 l hi hx] at hr; exact hr
 | events l => rw [al3 hl (bd1 l) h fun i j x hi hx => bP9 l hi hx] at hr; exact hr
 | rows l =>
  refine ⟨xs, hr, fun i hi => ?_⟩
  obtain ⟨u, h1, h2⟩ := h i hi 0 _ rfl
  exact ⟨u, by simpa [D.sz] using h1, by have h3 : z9 _ _ _ _ _ _ := h2; rw [n6 hi] at h3; exact h3⟩
 | brows l =>
  refine ⟨xs, hr, fun i hi => ?_⟩
  obtain ⟨u, h1, h2⟩ := h i hi 0 _ rfl
  exact ⟨u, by simpa [D.sz] using h1, by have h3 : z9 _ _ _ _ _ _ := h2; rw [n6 hi] at h3; exact h3⟩
 | exprs l => exact ⟨xs, hr, x6.of hl h⟩
 | stmts l => exact ⟨xs, hr, w5.of hl h⟩
section
mutual
def C8 (w : World) : b5 → (Nat → Prop) → List Value → Prop
 | ⟨k, n, ks⟩, S, cs => ∃ (v : Value) (xs : List Value) (S' : Nat → Prop), cs = [.int .i64 k, .int .i64 n, v] ∧ w.ownsRow 0 104 3 v ks.length xs ∧ (∀ g, v.ownBlock = some g → S g ∧ ¬ S' g) ∧ (∀ b, S' b → S b) ∧ o8 w ks S' xs
def o8 (w : World) : List b5 → (Nat → Prop) → List Value → Prop
 | [], _, xs => xs = []
 | e :: r, S, xs => ∃ (c ys : List Value) (S1 S2 : Nat → Prop), xs = c ++ ys ∧ (∀ b, S1 b → S b ∧ ¬ S2 b) ∧ (∀ b, S2 b → S b) ∧ C8 w e S1 c ∧ o8 w r S2 ys
end
def G0 (w : World) (v : Value) (ks : List b5) (S : Nat → Prop) : Prop :=
 ∃ (xs : List Value) (S' : Nat → Prop), w.ownsRow 0 104 3 v ks.length xs ∧ (∀ g, v.ownBlock = some g → S g ∧ ¬ S' g) ∧ (∀ b, S' b → S b) ∧ o8 w ks S' xs
mutual
def E4 (w : World) : b6 → (Nat → Prop) → List Value → Prop
 | ⟨k, t, i, v, c, b, e⟩, S, cs => ∃ (iv vv bv ev : Value) (xb xe : List Value) (Si Sv Sb Se Sb' Se' : Nat → Prop), cs = [.int .i64 k, .int .i64 t, .int .i64 i.kind, .int .i64 i.value, iv, .int .i64 v.kind, .int .i64 v.value, vv, .int .i64 c, bv, ev] ∧
   ((∀ b, Si b → S b ∧ ¬ Sv b ∧ ¬ Sb b ∧ ¬ Se b) ∧ (∀ b, Sv b → S b ∧ ¬ Sb b ∧ ¬ Se b) ∧ (∀ b, Sb b → S b ∧ ¬ Se b) ∧ (∀ b, Se b → S b)) ∧ G0 w iv i.kids Si ∧ G0 w vv v.kids Sv ∧
   (w.ownsRow 0 106 11 bv b.length xb ∧ (∀ g, bv.ownBlock = some g → Sb g ∧ ¬ Sb' g) ∧ (∀ b, Sb' b → Sb b) ∧ o3 w b Sb' xb) ∧
   (w.ownsRow 0 106 11 ev e.length xe ∧ (∀ g, ev.ownBlock = some g → Se g ∧ ¬ Se' g) ∧ (∀ b, Se' b → Se b) ∧ o3 w e Se' xe)
def o3 (w : World) : List b6 → (Nat → Prop) → List Value → Prop
 | [], _, xs => xs = []
 | s :: r, S, xs => ∃ (c ys : List Value) (S1 S2 : Nat → Prop), xs = c ++ ys ∧ (∀ b, S1 b → S b ∧ ¬ S2 b) ∧ (∀ b, S2 b → S b) ∧ E4 w s S1 c ∧ o3 w r S2 ys
end
def H9 (w : World) (v : Value) (ss : List b6) (S : Nat → Prop) : Prop :=
 ∃ (xs : List Value) (S' : Nat → Prop), w.ownsRow 0 106 11 v ss.length xs ∧ (∀ g, v.ownBlock = some g → S g ∧ ¬ S' g) ∧ (∀ b, S' b → S b) ∧ o3 w ss S' xs
def aA5 (w : World) (v : Value) (p : d7) (S : Nat → Prop) : Prop :=
 ∃ (v1 v2 v3 : Value) (S3 : Nat → Prop), v = .agg #[v1, v2, v3] ∧ w.ownsRow 0 3 1 v1 p.vars.length (ints p.vars) ∧ w.ownsRow 0 3 1 v2 p.arrays.length (ints p.arrays) ∧ H9 w v3 p.body S3 ∧
  (∀ g, v1.ownBlock = some g → S g ∧ ¬ S3 g ∧ v2.ownBlock ≠ some g) ∧ (∀ g, v2.ownBlock = some g → S g ∧ ¬ S3 g) ∧ (∀ b, S3 b → S b)
variable {w w' : World} {S S' φ : Nat → Prop}
theorem K1 {e : TypeId} {sz : Nat} {v : Value} {n : Nat} {xs : List Value} (h : w.ownsRow 0 e sz v n xs) (hs : ∀ g, v.ownBlock = some g → w'.heap[g]? = w.heap[g]?) : w'.ownsRow 0 e sz v n xs :=
 (Own.same (Own.mk' h) hs).1
mutual
theorem C8.same : ∀ (e : b5) (S : Nat → Prop) (cs : List Value), C8 w e S cs → (∀ b, S b → b < w.heap.size → w'.heap[b]? = w.heap[b]?) → C8 w' e S cs
 | ⟨_, _, ks⟩, S, _, ⟨v, xs, S', h1, h2, h3, h4, h5⟩, hs => ⟨v, xs, S', h1, K1 h2 fun g hg => hs g (h3 g hg).1 (World.ownsRow.lt h2 g hg).2, h3, h4, o8.same ks S' xs h5 fun b hb => hs b (h4 b hb)⟩
theorem o8.same : ∀ (ks : List b5) (S : Nat → Prop) (xs : List Value), o8 w ks S xs → (∀ b, S b → b < w.heap.size → w'.heap[b]? = w.heap[b]?) → o8 w' ks S xs
 | [], _, _, h, _ => h
 | e :: r, S, _, ⟨c, ys, S1, S2, h1, h2, h3, h4, h5⟩, hs => ⟨c, ys, S1, S2, h1, h2, h3, C8.same e S1 c h4 fun b hb => hs b (h2 b hb).1, o8.same r S2 ys h5 fun b hb => hs b (h3 b hb)⟩
end
theorem G0.same {v : Value} {ks : List b5} (h : G0 w v ks S) (hs : ∀ b, S b → b < w.heap.size → w'.heap[b]? = w.heap[b]?) : G0 w' v ks S := by
 obtain ⟨xs, S', h2, h3, h4, h5⟩ := h
 exact ⟨xs, S', K1 h2 fun g hg => hs g (h3 g hg).1 (World.ownsRow.lt h2 g hg).2, h3, h4, o8.same ks S' xs h5 fun b hb => hs b (h4 b hb)⟩
mutual
theorem E4.same : ∀ (s : b6) (S : Nat → Prop) (cs : List Value), E4 w s S cs → (∀ b, S b → b < w.heap.size → w'.heap[b]? = w.heap[b]?) → E4 w' s S cs
 | ⟨_, _, _, _, _, b, e⟩, S, _, ⟨iv, vv, bv, ev, xb, xe, Si, Sv, Sb, Se, Sb', Se', h1, ⟨d1, d2, d3, d4⟩, h2, h3, ⟨b1, b2, b3, b4⟩, ⟨e1, e2, e3, e4⟩⟩, hs =>
  ⟨iv, vv, bv, ev, xb, xe, Si, Sv, Sb, Se, Sb', Se', h1, ⟨d1, d2, d3, d4⟩, h2.same fun b hb => hs b (d1 b hb).1, h3.same fun b hb => hs b (d2 b hb).1,
   ⟨K1 b1 fun g hg => hs g (d3 g (b2 g hg).1).1 (World.ownsRow.lt b1 g hg).2, b2, b3, o3.same b Sb' xb b4 fun x hx => hs x (d3 x (b3 x hx)).1⟩,
   ⟨K1 e1 fun g hg => hs g (d4 g (e2 g hg).1) (World.ownsRow.lt e1 g hg).2, e2, e3, o3.same e Se' xe e4 fun x hx => hs x (d4 x (e3 x hx))⟩⟩
theorem o3.same : ∀ (ss : List b6) (S : Nat → Prop) (xs : List Value), o3 w ss S xs → (∀ b, S b → b < w.heap.size → w'.heap[b]? = w.heap[b]?) → o3 w' ss S xs
 | [], _, _, h, _ => h
 | s :: r, S, _, ⟨c, ys, S1, S2, h1, h2, h3, h4, h5⟩, hs => ⟨c, ys, S1, S2, h1, h2, h3, E4.same s S1 c h4 fun b hb => hs b (h2 b hb).1, o3.same r S2 ys h5 fun b hb => hs b (h3 b hb)⟩
end
theorem H9.same {v : Value} {ss : List b6} (h : H9 w v ss S) (hs : ∀ b, S b → b < w.heap.size → w'.heap[b]? = w.heap[b]?) : H9 w' v ss S := by
 obtain ⟨xs, S', h2, h3, h4, h5⟩ := h
 exact ⟨xs, S', K1 h2 fun g hg => hs g (h3 g hg).1 (World.ownsRow.lt h2 g hg).2, h3, h4, o3.same ss S' xs h5 fun b hb => hs b (h4 b hb)⟩
theorem aA5.same {v : Value} {p : d7} (h : aA5 w v p S) (hs : ∀ b, S b → b < w.heap.size → w'.heap[b]? = w.heap[b]?) : aA5 w' v p S := by
 obtain ⟨v1, v2, v3, S3, rfl, h1, h2, h3, d1, d2, d3⟩ := h
 exact ⟨v1, v2, v3, S3, rfl, K1 h1 fun g hg => hs g (d1 g hg).1 (World.ownsRow.lt h1 g hg).2, K1 h2 fun g hg => hs g (d2 g hg).1 (World.ownsRow.lt h2 g hg).2, h3.same fun b hb => hs b (d3 b hb), d1, d2, d3⟩
theorem G0.mono {v : Value} {ks : List b5} (h : G0 w v ks S) (hs : ∀ b, S b → S' b) : G0 w v ks S' := by
 obtain ⟨xs, T, h2, h3, h4, h5⟩ := h
 exact ⟨xs, T, h2, fun g hg => ⟨hs g (h3 g hg).1, (h3 g hg).2⟩, fun b hb => hs b (h4 b hb), h5⟩
theorem H9.mono {v : Value} {ss : List b6} (h : H9 w v ss S) (hs : ∀ b, S b → S' b) : H9 w v ss S' := by
 obtain ⟨xs, T, h2, h3, h4, h5⟩ := h
 exact ⟨xs, T, h2, fun g hg => ⟨hs g (h3 g hg).1, (h3 g hg).2⟩, fun b hb => hs b (h4 b hb), h5⟩
theorem aA5.mono {v : Value} {p : d7} (h : aA5 w v p S) (hs : ∀ b, S b → S' b) : aA5 w v p S' := by
 obtain ⟨v1, v2, v3, S3, rfl, h1, h2, h3, d1, d2, d3⟩ := h
 exact ⟨v1, v2, v3, S3, rfl, h1, h2, h3, fun g hg => ⟨hs g (d1 g hg).1, (d1 g hg).2⟩, fun g hg => ⟨hs g (d2 g hg).1, (d2 g hg).2⟩, fun b hb => hs b (d3 b hb)⟩
mutual
theorem C8.read : ∀ (e : b5) (S : Nat → Prop) (cs : List Value), C8 w e S cs → (∀ b, S b → φ b) → O7 w φ e cs
 | ⟨_, _, ks⟩, S, _, ⟨v, xs, S', h1, h2, h3, h4, h5⟩, hs => ⟨v, xs, h1, C1 h2 fun g hg => hs g (h3 g hg).1, o8.read ks S' xs h5 fun b hb => hs b (h4 b hb)⟩
theorem o8.read : ∀ (ks : List b5) (S : Nat → Prop) (xs : List Value), o8 w ks S xs → (∀ b, S b → φ b) → x6 w φ ks xs
 | [], _, _, h, _ => h
 | e :: r, S, _, ⟨c, ys, S1, S2, h1, h2, h3, h4, h5⟩, hs => ⟨c, ys, h1, C8.read e S1 c h4 fun b hb => hs b (h2 b hb).1, o8.read r S2 ys h5 fun b hb => hs b (h3 b hb)⟩
end
theorem G0.read {v : Value} {ks : List b5} (h : G0 w v ks S) (hs : ∀ b, S b → φ b) : s9 w φ v ks := by
 obtain ⟨xs, T, h2, h3, h4, h5⟩ := h
 exact ⟨xs, C1 h2 fun g hg => hs g (h3 g hg).1, o8.read ks T xs h5 fun b hb => hs b (h4 b hb)⟩
mutual
theorem E4.read : ∀ (s : b6) (S : Nat → Prop) (cs : List Value), E4 w s S cs → (∀ b, S b → φ b) → N8 w φ s cs
 | ⟨_, _, _, _, _, b, e⟩, S, _, ⟨iv, vv, bv, ev, xb, xe, Si, Sv, Sb, Se, Sb', Se', h1, ⟨d1, d2, d3, d4⟩, h2, h3, ⟨b1, b2, b3, b4⟩, ⟨e1, e2, e3, e4⟩⟩, hs =>
  ⟨iv, vv, bv, ev, xb, xe, h1, h2.read fun b hb => hs b (d1 b hb).1, h3.read fun b hb => hs b (d2 b hb).1,
   C1 b1 fun g hg => hs g (d3 g (b2 g hg).1).1, o3.read b Sb' xb b4 fun x hx => hs x (d3 x (b3 x hx)).1,
   C1 e1 fun g hg => hs g (d4 g (e2 g hg).1), o3.read e Se' xe e4 fun x hx => hs x (d4 x (e3 x hx))⟩
theorem o3.read : ∀ (ss : List b6) (S : Nat → Prop) (xs : List Value), o3 w ss S xs → (∀ b, S b → φ b) → w5 w φ ss xs
 | [], _, _, h, _ => h
 | s :: r, S, _, ⟨c, ys, S1, S2, h1, h2, h3, h4, h5⟩, hs => ⟨c, ys, h1, E4.read s S1 c h4 fun b hb => hs b (h2 b hb).1, o3.read r S2 ys h5 fun b hb => hs b (h3 b hb)⟩
end
theorem H9.read {v : Value} {ss : List b6} (h : H9 w v ss S) (hs : ∀ b, S b → φ b) : A8 w φ v ss := by
 obtain ⟨xs, T, h2, h3, h4, h5⟩ := h
 exact ⟨xs, C1 h2 fun g hg => hs g (h3 g hg).1, o3.read ss T xs h5 fun b hb => hs b (h4 b hb)⟩
theorem aA5.read {v : Value} {p : d7} (h : aA5 w v p S) (hs : ∀ b, S b → φ b) : bF4 w φ v p := by
 obtain ⟨v1, v2, v3, S3, rfl, h1, h2, h3, d1, d2, d3⟩ := h
 exact ⟨v1, v2, v3, rfl, C1 h1 fun g hg => hs g (d1 g hg).1, C1 h2 fun g hg => hs g (d2 g hg).1, h3.read fun b hb => hs b (d3 b hb)⟩
def b43 (R : World → (Nat → Prop) → Prop) (S : Nat → Prop) : World → (Nat → Prop) → Prop := fun w φ => R w S ∧ ∀ b, S b → b < w.heap.size ∧ φ b
theorem b43.nice {R : World → (Nat → Prop) → Prop} (S : Nat → Prop) (hR : ∀ w w' : World, R w S → (∀ b, S b → b < w.heap.size → w'.heap[b]? = w.heap[b]?) → R w' S) : ae7 (b43 R S) :=
 fun w w' _ _ ha ⟨h1, h2⟩ => ⟨hR w w' h1 fun b hb hlt => (ha.2 b hlt (h2 b hb).2).2, fun b hb => ⟨Nat.lt_of_lt_of_le (h2 b hb).1 ha.1, (ha.2 b (h2 b hb).1 (h2 b hb).2).1⟩⟩
theorem o8.mono : ∀ {ks : List b5} {S S' : Nat → Prop} {xs : List Value}, o8 w ks S xs → (∀ b, S b → S' b) → o8 w ks S' xs
 | [], _, _, _, h, _ => h
 | _ :: _, _, _, _, ⟨c, ys, S1, S2, h1, h2, h3, h4, h5⟩, hs => ⟨c, ys, S1, S2, h1, fun b hb => ⟨hs b (h2 b hb).1, (h2 b hb).2⟩, fun b hb => hs b (h3 b hb), h4, h5⟩
theorem o3.mono : ∀ {ks : List b6} {S S' : Nat → Prop} {xs : List Value}, o3 w ks S xs → (∀ b, S b → S' b) → o3 w ks S' xs
 | [], _, _, _, h, _ => h
 | _ :: _, _, _, _, ⟨c, ys, S1, S2, h1, h2, h3, h4, h5⟩, hs => ⟨c, ys, S1, S2, h1, fun b hb => ⟨hs b (h2 b hb).1, (h2 b hb).2⟩, fun b hb => hs b (h3 b hb), h4, h5⟩
theorem o8.snoc : ∀ {ks : List b5} {S S' T : Nat → Prop} {xs c : List Value} {e : b5}, o8 w ks S xs → C8 w e T c → (∀ b, S b → S' b ∧ ¬ T b) → (∀ b, T b → S' b) → o8 w (ks ++ [e]) S' (xs ++ c)
 | [], S, S', T, xs, c, e, h, k, d, f => by
  rw [show xs = [] from h]
  exact ⟨c, [], T, fun _ => False, by simp, fun b hb => ⟨f b hb, fun h => h⟩, fun b hb => hb.elim, k, rfl⟩
 | a :: r, S, S', T, _, c, e, ⟨x, ys, S1, S2, h1, h2, h3, h4, h5⟩, k, d, f =>
  ⟨x, ys ++ c, S1, fun b => S2 b ∨ T b, by rw [h1, List.append_assoc], fun b hb => ⟨(d b (h2 b hb).1).1, fun h => h.elim (h2 b hb).2 (d b (h2 b hb).1).2⟩, fun b hb => hb.elim (fun h => (d b (h3 b h)).1) (f b), h4,
   o8.snoc h5 k (fun b hb => ⟨.inl hb, (d b (h3 b hb)).2⟩) fun b hb => .inr hb⟩
theorem o3.snoc : ∀ {ks : List b6} {S S' T : Nat → Prop} {xs c : List Value} {e : b6}, o3 w ks S xs → E4 w e T c → (∀ b, S b → S' b ∧ ¬ T b) → (∀ b, T b → S' b) → o3 w (ks ++ [e]) S' (xs ++ c)
 | [], S, S', T, xs, c, e, h, k, d, f => by
  rw [show xs = [] from h]
  exact ⟨c, [], T, fun _ => False, by simp, fun b hb => ⟨f b hb, fun h => h⟩, fun b hb => hb.elim, k, rfl⟩
 | a :: r, S, S', T, _, c, e, ⟨x, ys, S1, S2, h1, h2, h3, h4, h5⟩, k, d, f =>
  ⟨x, ys ++ c, S1, fun b => S2 b ∨ T b, by rw [h1, List.append_assoc], fun b hb => ⟨(d b (h2 b hb).1).1, fun h => h.elim (h2 b hb).2 (d b (h2 b hb).1).2⟩, fun b hb => hb.elim (fun h => (d b (h3 b h)).1) (f b), h4,
   o3.snoc h5 k (fun b hb => ⟨.inl hb, (d b (h3 b hb)).2⟩) fun b hb => .inr hb⟩
theorem C8.iff (e : b5) (S : Nat → Prop) (cs : List Value) : C8 w e S cs ↔ ∃ kv, cs = [.int .i64 e.kind, .int .i64 e.value, kv] ∧ G0 w kv e.kids S := by
 cases e with
 | mk k n ks => exact ⟨fun ⟨v, xs, T, h1, h2⟩ => ⟨v, h1, xs, T, h2⟩, fun ⟨v, h1, xs, T, h2⟩ => ⟨v, xs, T, h1, h2⟩⟩
theorem E4.iff (s : b6) (S : Nat → Prop) (cs : List Value) : E4 w s S cs ↔ ∃ (iv vv bv ev : Value) (Si Sv Sb Se : Nat → Prop), cs = [.int .i64 s.kind, .int .i64 s.target, .int .i64 s.index.kind, .int .i64 s.index.value, iv, .int .i64 s.value.kind, .int .i64 s.value.value, vv, .int .i64 s.count, bv, ev] ∧
  ((∀ b, Si b → S b ∧ ¬ Sv b ∧ ¬ Sb b ∧ ¬ Se b) ∧ (∀ b, Sv b → S b ∧ ¬ Sb b ∧ ¬ Se b) ∧ (∀ b, Sb b → S b ∧ ¬ Se b) ∧ (∀ b, Se b → S b)) ∧ G0 w iv s.index.kids Si ∧ G0 w vv s.value.kids Sv ∧ H9 w bv s.body Sb ∧ H9 w ev s.els Se := by
 cases s with
 | mk k t i v c b e =>
  exact ⟨fun ⟨iv, vv, bv, ev, xb, xe, Si, Sv, Sb, Se, Sb', Se', h1, h2, h3, h4, h5, h6⟩ => ⟨iv, vv, bv, ev, Si, Sv, Sb, Se, h1, h2, h3, h4, ⟨xb, Sb', h5⟩, ⟨xe, Se', h6⟩⟩,
   fun ⟨iv, vv, bv, ev, Si, Sv, Sb, Se, h1, h2, h3, h4, ⟨xb, Sb', h5⟩, ⟨xe, Se', h6⟩⟩ => ⟨iv, vv, bv, ev, xb, xe, Si, Sv, Sb, Se, Sb', Se', h1, h2, h3, h4, h5, h6⟩⟩
end
def natEq (a b : Nat) : Bool := a == b
def M0 (w : World) : List (List Int) → (Nat → Prop) → List Value → Prop
 | [], _, xs => xs = []
 | r :: rs, S, xs => ∃ (v : Value) (ys : List Value) (S2 : Nat → Prop), xs = v :: ys ∧ w.ownsRow 0 3 1 v r.length (ints r) ∧ (∀ g, v.ownBlock = some g → S g ∧ ¬ S2 g) ∧ (∀ b, S2 b → S b) ∧ M0 w rs S2 ys
def N7 (w : World) : D → (Nat → Prop) → List Value → Prop
 | .exprs l, S, xs => o8 w l S xs
 | .stmts l, S, xs => o3 w l S xs
 | .rows l, S, xs => M0 w l S xs
 | _, _, _ => False
def am7 : D → Option TypeId
 | .exprs _ => some 104
 | .stmts _ => some 106
 | .rows _ => some 23
 | _ => none
def E3 (w : World) (S : Nat → Prop) (d : D) (v : Value) : Prop :=
 ∃ (e : TypeId) (xs : List Value) (S' : Nat → Prop), am7 d = some e ∧ w.ownsRow 0 e d.sz v d.len xs ∧ (∀ g, v.ownBlock = some g → S g ∧ ¬ S' g) ∧ (∀ b, S' b → S b) ∧ N7 w d S' xs
section
variable {w w' : World} {S S' T φ : Nat → Prop}
theorem M0.same : ∀ {l : List (List Int)} {S : Nat → Prop} {xs : List Value}, M0 w l S xs → (∀ b, S b → b < w.heap.size → w'.heap[b]? = w.heap[b]?) → M0 w' l S xs
 | [], _, _, h, _ => h
 | _ :: _, _, _, ⟨v, ys, S2, h1, h2, h3, h4, h5⟩, hs => ⟨v, ys, S2, h1, K1 h2 fun g hg => hs g (h3 g hg).1 (World.ownsRow.lt h2 g hg).2, h3, h4, M0.same h5 fun b hb => hs b (h4 b hb)⟩
theorem M0.mono : ∀ {l : List (List Int)} {S S' : Nat → Prop} {xs : List Value}, M0 w l S xs → (∀ b, S b → S' b) → M0 w l S' xs
 | [], _, _, _, h, _ => h
 | _ :: _, _, _, _, ⟨v, ys, S2, h1, h2, h3, h4, h5⟩, hs => ⟨v, ys, S2, h1, h2, fun g hg => ⟨hs g (h3 g hg).1, (h3 g hg).2⟩, fun b hb => hs b (h4 b hb), h5⟩
theorem M0.app : ∀ {a b : List (List Int)} {S T S' : Nat → Prop} {xs ys : List Value}, M0 w a S xs → M0 w b T ys → (∀ x, S x → S' x ∧ ¬ T x) → (∀ x, T x → S' x) → M0 w (a ++ b) S' (xs ++ ys)
 | [], b, _, _, _, xs, ys, h, k, _, f => by rw [show xs = [] from h]; exact k.mono f
 | _ :: _, b, _, T, _, _, ys, ⟨v, zs, S2, h1, h2, h3, h4, h5⟩, k, d, f =>
  ⟨v, zs ++ ys, fun x => S2 x ∨ T x, by rw [h1]; rfl, h2, fun g hg => ⟨(d g (h3 g hg).1).1, fun h => h.elim (h3 g hg).2 (d g (h3 g hg).1).2⟩, fun x hx => hx.elim (fun h => (d x (h4 x h)).1) (f x),
   M0.app h5 k (fun x hx => ⟨.inl hx, (d x (h4 x hx)).2⟩) fun x hx => .inr hx⟩
theorem o8.app : ∀ {a b : List b5} {S T S' : Nat → Prop} {xs ys : List Value}, o8 w a S xs → o8 w b T ys → (∀ x, S x → S' x ∧ ¬ T x) → (∀ x, T x → S' x) → o8 w (a ++ b) S' (xs ++ ys)
 | [], b, _, _, _, xs, ys, h, k, _, f => by rw [show xs = [] from h]; exact k.mono f
 | _ :: _, b, _, T, _, _, ys, ⟨c, zs, S1, S2, h1, h2, h3, h4, h5⟩, k, d, f =>
  ⟨c, zs ++ ys, S1, fun x => S2 x ∨ T x, by rw [h1, List.append_assoc], fun x hx => ⟨(d x (h2 x hx).1).1, fun h => h.elim (h2 x hx).2 (d x (h2 x hx).1).2⟩, fun x hx => hx.elim (fun h => (d x (h3 x h)).1) (f x), h4,
   o8.app h5 k (fun x hx => ⟨.inl hx, (d x (h3 x hx)).2⟩) fun x hx => .inr hx⟩
theorem o3.app : ∀ {a b : List b6} {S T S' : Nat → Prop} {xs ys : List Value}, o3 w a S xs → o3 w b T ys → (∀ x, S x → S' x ∧ ¬ T x) → (∀ x, T x → S' x) → o3 w (a ++ b) S' (xs ++ ys)
 | [], b, _, _, _, xs, ys, h, k, _, f => by rw [show xs = [] from h]; exact k.mono f
 | _ :: _, b, _, T, _, _, ys, ⟨c, zs, S1, S2, h1, h2, h3, h4, h5⟩, k, d, f =>
  ⟨c, zs ++ ys, S1, fun x => S2 x ∨ T x, by rw [h1, List.append_assoc], fun x hx => ⟨(d x (h2 x hx).1).1, fun h => h.elim (h2 x hx).2 (d x (h2 x hx).1).2⟩, fun x hx => hx.elim (fun h => (d x (h3 x h)).1) (f x), h4,
   o3.app h5 k (fun x hx => ⟨.inl hx, (d x (h3 x hx)).2⟩) fun x hx => .inr hx⟩
theorem N7.same {d : D} {xs : List Value} (h : N7 w d S xs) (hs : ∀ b, S b → b < w.heap.size → w'.heap[b]? = w.heap[b]?) : N7 w' d S xs := by
 cases d <;> simp only [N7] at h ⊢
 ·exact h.same hs
 ·exact o8.same _ _ _ h hs
 ·exact o3.same _ _ _ h hs
theorem N7.mono {d : D} {xs : List Value} (h : N7 w d S xs) (hs : ∀ b, S b → S' b) : N7 w d S' xs := by
 cases d <;> simp only [N7] at h ⊢
 ·exact h.mono hs
 ·exact o8.mono h hs
 ·exact o3.mono h hs
theorem N7.cut {d : D} {xs : List Value} (h : N7 w d S xs) : N7 w d (fun b => S b ∧ b < w.heap.size) xs := by
 cases d <;> simp only [N7] at h ⊢
 ·rename_i l
  have : ∀ {l : List (List Int)} {S : Nat → Prop} {xs : List Value}, M0 w l S xs → M0 w l (fun b => S b ∧ b < w.heap.size) xs := by
   intro l
   induction l with
   | nil => intro S xs h; exact h
   | cons r rs ih =>
    rintro S xs ⟨v, ys, S2, h1, h2, h3, h4, h5⟩
    exact ⟨v, ys, fun b => S2 b ∧ b < w.heap.size, h1, h2, fun g hg => ⟨⟨(h3 g hg).1, (World.ownsRow.lt h2 g hg).2⟩, fun h => (h3 g hg).2 h.1⟩, fun b hb => ⟨h4 b hb.1, hb.2⟩, ih h5⟩
  exact this h
 ·exact cutEs _ _ _ h
 ·exact cutSs _ _ _ h
where
 cutE : ∀ (e : b5) (S : Nat → Prop) (cs : List Value), C8 w e S cs → C8 w e (fun b => S b ∧ b < w.heap.size) cs
  | ⟨_, _, ks⟩, S, _, ⟨v, xs, S', h1, h2, h3, h4, h5⟩ => ⟨v, xs, fun b => S' b ∧ b < w.heap.size, h1, h2, fun g hg => ⟨⟨(h3 g hg).1, (World.ownsRow.lt h2 g hg).2⟩, fun h => (h3 g hg).2 h.1⟩, fun b hb => ⟨h4 b hb.1, hb.2⟩, cutEs ks S' xs h5⟩
 cutEs : ∀ (ks : List b5) (S : Nat → Prop) (xs : List Value), o8 w ks S xs → o8 w ks (fun b => S b ∧ b < w.heap.size) xs
  | [], _, _, h => h
  | e :: r, S, _, ⟨c, ys, S1, S2, h1, h2, h3, h4, h5⟩ => ⟨c, ys, fun b => S1 b ∧ b < w.heap.size, fun b => S2 b ∧ b < w.heap.size, h1, fun b hb => ⟨⟨(h2 b hb.1).1, hb.2⟩, fun h => (h2 b hb.1).2 h.1⟩, fun b hb => ⟨h3 b hb.1, hb.2⟩, cutE e S1 c h4, cutEs r S2 ys h5⟩
 cutS : ∀ (s : b6) (S : Nat → Prop) (cs : List Value), E4 w s S cs → E4 w s (fun b => S b ∧ b < w.heap.size) cs
  | ⟨_, _, i, v, _, b, e⟩, S, _, ⟨iv, vv, bv, ev, xb, xe, Si, Sv, Sb, Se, Sb', Se', h1, ⟨d1, d2, d3, d4⟩, ⟨xi, Ti, i1, i2, i3, i4⟩, ⟨xv, Tv, v1, v2, v3, v4⟩, ⟨b1, b2, b3, b4⟩, ⟨e1, e2, e3, e4⟩⟩ =>
   ⟨iv, vv, bv, ev, xb, xe, fun b => Si b ∧ b < w.heap.size, fun b => Sv b ∧ b < w.heap.size, fun b => Sb b ∧ b < w.heap.size, fun b => Se b ∧ b < w.heap.size, fun b => Sb' b ∧ b < w.heap.size, fun b => Se' b ∧ b < w.heap.size, h1,
    ⟨fun b hb => ⟨⟨(d1 b hb.1).1, hb.2⟩, fun h => (d1 b hb.1).2.1 h.1, fun h => (d1 b hb.1).2.2.1 h.1, fun h => (d1 b hb.1).2.2.2 h.1⟩, fun b hb => ⟨⟨(d2 b hb.1).1, hb.2⟩, fun h => (d2 b hb.1).2.1 h.1, fun h => (d2 b hb.1).2.2 h.1⟩, fun b hb => ⟨⟨(d3 b hb.1).1, hb.2⟩, fun h => (d3 b hb.1).2 h.1⟩, fun b hb => ⟨d4 b hb.1, hb.2⟩⟩,
    ⟨xi, fun b => Ti b ∧ b < w.heap.size, i1, fun g hg => ⟨⟨(i2 g hg).1, (World.ownsRow.lt i1 g hg).2⟩, fun h => (i2 g hg).2 h.1⟩, fun b hb => ⟨i3 b hb.1, hb.2⟩, cutEs _ _ _ i4⟩,
    ⟨xv, fun b => Tv b ∧ b < w.heap.size, v1, fun g hg => ⟨⟨(v2 g hg).1, (World.ownsRow.lt v1 g hg).2⟩, fun h => (v2 g hg).2 h.1⟩, fun b hb => ⟨v3 b hb.1, hb.2⟩, cutEs _ _ _ v4⟩,
    ⟨b1, fun g hg => ⟨⟨(b2 g hg).1, (World.ownsRow.lt b1 g hg).2⟩, fun h => (b2 g hg).2 h.1⟩, fun b hb => ⟨b3 b hb.1, hb.2⟩, cutSs _ _ _ b4⟩,
    ⟨e1, fun g hg => ⟨⟨(e2 g hg).1, (World.ownsRow.lt e1 g hg).2⟩, fun h => (e2 g hg).2 h.1⟩, fun b hb => ⟨e3 b hb.1, hb.2⟩, cutSs _ _ _ e4⟩⟩
 cutSs : ∀ (ks : List b6) (S : Nat → Prop) (xs : List Value), o3 w ks S xs → o3 w ks (fun b => S b ∧ b < w.heap.size) xs
  | [], _, _, h => h
  | e :: r, S, _, ⟨c, ys, S1, S2, h1, h2, h3, h4, h5⟩ => ⟨c, ys, fun b => S1 b ∧ b < w.heap.size, fun b => S2 b ∧ b < w.heap.size, h1, fun b hb => ⟨⟨(h2 b hb.1).1, hb.2⟩, fun h => (h2 b hb.1).2 h.1⟩, fun b hb => ⟨h3 b hb.1, hb.2⟩, cutS e S1 c h4, cutSs r S2 ys h5⟩
theorem E3.same {d : D} {v : Value} (h : E3 w S d v) (hs : ∀ b, S b → b < w.heap.size → w'.heap[b]? = w.heap[b]?) : E3 w' S d v := by
 obtain ⟨e, xs, S', h0, h1, h2, h3, h4⟩ := h
 exact ⟨e, xs, S', h0, K1 h1 fun g hg => hs g (h2 g hg).1 (World.ownsRow.lt h1 g hg).2, h2, h3, h4.same fun b hb => hs b (h3 b hb)⟩
theorem E3.mono {d : D} {v : Value} (h : E3 w S d v) (hs : ∀ b, S b → S' b) : E3 w S' d v := by
 obtain ⟨e, xs, T, h0, h1, h2, h3, h4⟩ := h
 exact ⟨e, xs, T, h0, h1, fun g hg => ⟨hs g (h2 g hg).1, (h2 g hg).2⟩, fun b hb => hs b (h3 b hb), h4⟩
theorem E3.cut {d : D} {v : Value} (h : E3 w S d v) : E3 w (fun b => S b ∧ b < w.heap.size) d v := by
 obtain ⟨e, xs, T, h0, h1, h2, h3, h4⟩ := h
 exact ⟨e, xs, fun b => T b ∧ b < w.heap.size, h0, h1, fun g hg => ⟨⟨(h2 g hg).1, (World.ownsRow.lt h1 g hg).2⟩, fun h => (h2 g hg).2 h.1⟩, fun b hb => ⟨h3 b hb.1, hb.2⟩, h4.cut⟩
theorem E3.kids {l : List b5} {v : Value} : E3 w S (.exprs l) v ↔ G0 w v l S :=
 ⟨fun ⟨_, xs, S', h0, h1, h2, h3, h4⟩ => ⟨xs, S', by cases h0; exact h1, h2, h3, h4⟩, fun ⟨xs, S', h1, h2, h3, h4⟩ => ⟨_, xs, S', rfl, h1, h2, h3, h4⟩⟩
theorem E3.block {l : List b6} {v : Value} : E3 w S (.stmts l) v ↔ H9 w v l S :=
 ⟨fun ⟨_, xs, S', h0, h1, h2, h3, h4⟩ => ⟨xs, S', by cases h0; exact h1, h2, h3, h4⟩, fun ⟨xs, S', h1, h2, h3, h4⟩ => ⟨_, xs, S', rfl, h1, h2, h3, h4⟩⟩
theorem M0.at : ∀ {l : List (List Int)} {S : Nat → Prop} {xs : List Value}, M0 w l S xs → xs.length = l.length ∧ ∀ i (_ : i < l.length), ∃ u, xs[i]? = some u ∧ w.ownsRow 0 3 1 u l[i].length (ints l[i]) ∧ ∀ g, u.ownBlock = some g → S g
 | [], _, xs, h => ⟨by rw [show xs = [] from h]; rfl, fun i hi => by simp at hi⟩
 | r :: rs, S, _, ⟨v, ys, S2, h1, h2, h3, h4, h5⟩ => by
  subst h1
  obtain ⟨k1, k2⟩ := M0.at h5
  refine ⟨by simp [k1], fun i hi => ?_⟩
  cases i with
  | zero => exact ⟨v, rfl, h2, fun g hg => (h3 g hg).1⟩
  | succ i =>
   obtain ⟨u, a, b, c⟩ := k2 i (by simpa using hi)
   exact ⟨u, by simpa using a, b, fun g hg => h4 g (c g hg)⟩
theorem E3.read {d : D} {v : Value} (h : E3 w S d v) (hs : ∀ b, S b → φ b) : RD w φ d v := by
 cases d with
 | exprs l => exact G0.read (E3.kids.1 h) hs
 | stmts l => exact H9.read (E3.block.1 h) hs
 | rows l =>
  obtain ⟨e, xs, S', h0, h1, h2, h3, h4⟩ := h
  obtain ⟨k1, k2⟩ := M0.at h4
  exact ⟨xs, C1 h1 fun g hg => hs g (h2 g hg).1, fun i hi => let ⟨u, a, b, c⟩ := k2 i hi; ⟨u, a, C1 b fun g hg => hs g (h3 g (c g hg))⟩⟩
 | ints l => obtain ⟨_, _, _, h0, _⟩ := h; cases h0
 | bools l => obtain ⟨_, _, _, h0, _⟩ := h; cases h0
 | bytes l => obtain ⟨_, _, _, h0, _⟩ := h; cases h0
 | strs l => obtain ⟨_, _, _, h0, _⟩ := h; cases h0
 | instrs l => obtain ⟨_, _, _, h0, _⟩ := h; cases h0
 | events l => obtain ⟨_, _, _, h0, _⟩ := h; cases h0
 | brows l => obtain ⟨_, _, _, h0, _⟩ := h; cases h0
def E7 : Value → Value
 | .tuple a => a.getD 0 undef
 | v => v
def H8 : Value → Nat → Prop
 | .tuple a => fun b => Value.int .u64 (b : Int) ∈ a.toList.drop 1
 | _ => fun _ => False
theorem aK4 (v : Value) (S : Nat → Prop) (n : Nat) (h : ∀ b, S b → b < n) : ∃ x, E7 x = v ∧ ∀ b, H8 x b ↔ S b := by
 classical
 refine ⟨.tuple (v :: ((cb2 n).filter fun b => decide (S b)).map fun b : Nat => Value.int .u64 (b : Int)).toArray, rfl, fun b => ?_⟩
 simp only [H8, List.drop_succ_cons, List.drop_zero, List.mem_map, List.mem_filter, List.mem_range, decide_eq_true_eq]
 constructor
 ·rintro ⟨a, ⟨_, h1⟩, h2⟩
  simp only [Value.int.injEq, true_and] at h2
  have : a = b := by omega
  subst this; exact h1
 ·intro hb; exact ⟨b, ⟨h b hb, hb⟩, rfl⟩
end
inductive AV where
 | v (x : Value)
 | ptr (id off : Nat)
 | ea (id i j sz : Nat)
 | ref (id : Nat)
 | agg (l : List AV)
 | tup (l : List AV)
 | fn (f : Nat) (l : List AV)
 | bm (f : Nat) (l : List AV)
 | tref (id : Nat)
def T3 : Value → Nat
 | .pointer (some a) => a.block
 | _ => 0
def aK5 (n : Nat) : Value → Addr
 | .slice (some a) _ _ => ⟨a.block, a.off + n, none⟩
 | _ => ⟨0, n, none⟩
mutual
def AV.val (ρ : Nat → Value) : AV → Value
 | .v x => x
 | .ptr id off => .pointer (some ⟨T3 (ρ id), off, none⟩)
 | .ea id i j sz => .pointer (some (aK5 (i * sz + j) (E7 (ρ id))))
 | .ref id => ρ id
 | .agg l => .agg (AV.vals ρ l).toArray
 | .tup l => .tuple (AV.vals ρ l).toArray
 | .fn f l => .func (.func f) #[] (AV.vals ρ l).toArray
 | .bm f l => .func (.func f) (AV.vals ρ l).toArray #[]
 | .tref id => E7 (ρ id)
def AV.vals (ρ : Nat → Value) : List AV → List Value
 | [] => []
 | x :: r => x.val ρ :: AV.vals ρ r
end
mutual
def AV.ids : AV → List Nat
 | .v _ => []
 | .ptr id _ => [id]
 | .ea id _ _ _ => [id]
 | .ref id => [id]
 | .agg l => AV.idsL l
 | .tup l => AV.idsL l
 | .fn _ l => AV.idsL l
 | .bm _ l => AV.idsL l
 | .tref id => [id]
def AV.idsL : List AV → List Nat
 | [] => []
 | x :: r => x.ids ++ AV.idsL r
end
mutual
def AV.ren (σ : Nat → Nat) : AV → AV
 | .v x => .v x
 | .ptr id off => .ptr (σ id) off
 | .ea id i j sz => .ea (σ id) i j sz
 | .ref id => .ref (σ id)
 | .agg l => .agg (AV.renL σ l)
 | .tup l => .tup (AV.renL σ l)
 | .fn f l => .fn f (AV.renL σ l)
 | .bm f l => .bm f (AV.renL σ l)
 | .tref id => .tref (σ id)
def AV.renL (σ : Nat → Nat) : List AV → List AV
 | [] => []
 | x :: r => x.ren σ :: AV.renL σ r
end
mutual
theorem AV.val_congr {ρ ρ' : Nat → Value} : ∀ (x : AV), (∀ id ∈ x.ids, ρ' id = ρ id) → x.val ρ' = x.val ρ
 | .v _, _ => rfl
 | .ptr id _, h => by simp only [AV.val]; rw [h id (by simp [AV.ids])]
 | .ea id _ _ _, h => by simp only [AV.val]; rw [h id (by simp [AV.ids])]
 | .ref id, h => h id (by simp [AV.ids])
 | .agg l, h => by simp only [AV.val]; rw [AV.vals_congr l h]
 | .tup l, h => by simp only [AV.val]; rw [AV.vals_congr l h]
 | .fn _ l, h => by simp only [AV.val]; rw [AV.vals_congr l h]
 | .bm _ l, h => by simp only [AV.val]; rw [AV.vals_congr l h]
 | .tref id, h => by simp only [AV.val]; rw [h id (by simp [AV.ids])]
theorem AV.vals_congr {ρ ρ' : Nat → Value} : ∀ (l : List AV), (∀ id ∈ AV.idsL l, ρ' id = ρ id) → AV.vals ρ' l = AV.vals ρ l
 | [], _ => rfl
 | x :: r, h => by
  simp only [AV.vals]
  rw [AV.val_congr x fun id hi => h id (by simp [AV.idsL, hi]), AV.vals_congr r fun id hi => h id (by simp [AV.idsL, hi])]
end
mutual
theorem AV.val_ren {ρ : Nat → Value} {σ : Nat → Nat} : ∀ (x : AV), (x.ren σ).val ρ = x.val fun i => ρ (σ i)
 | .v _ => rfl
 | .ptr _ _ => rfl
 | .ea _ _ _ _ => rfl
 | .ref _ => rfl
 | .agg l => by simp only [AV.ren, AV.val]; rw [AV.vals_ren l]
 | .tup l => by simp only [AV.ren, AV.val]; rw [AV.vals_ren l]
 | .fn _ l => by simp only [AV.ren, AV.val]; rw [AV.vals_ren l]
 | .bm _ l => by simp only [AV.ren, AV.val]; rw [AV.vals_ren l]
 | .tref _ => rfl
theorem AV.vals_ren {ρ : Nat → Value} {σ : Nat → Nat} : ∀ (l : List AV), AV.vals ρ (AV.renL σ l) = AV.vals (fun i => ρ (σ i)) l
 | [] => rfl
 | x :: r => by simp only [AV.renL, AV.vals]; rw [AV.val_ren x, AV.vals_ren r]
end
theorem AV.vals_length (ρ : Nat → Value) (l : List AV) : (AV.vals ρ l).length = l.length := by
 induction l with
 | nil => rfl
 | cons x r ih => simp [AV.vals, ih]
theorem AV.vals_get (ρ : Nat → Value) : ∀ (l : List AV) (i : Nat), (AV.vals ρ l)[i]? = (l[i]?).map (AV.val ρ)
 | [], i => by simp [AV.vals]
 | x :: r, 0 => by simp [AV.vals]
 | x :: r, i + 1 => by simp [AV.vals, AV.vals_get ρ r i]
theorem AV.vals_append (ρ : Nat → Value) (l m : List AV) : AV.vals ρ (l ++ m) = AV.vals ρ l ++ AV.vals ρ m := by
 induction l with
 | nil => rfl
 | cons x r ih => simp [AV.vals, ih]
theorem AV.vals_take (ρ : Nat → Value) : ∀ (l : List AV) (n : Nat), AV.vals ρ (l.take n) = (AV.vals ρ l).take n
 | [], n => by simp [AV.vals]
 | x :: r, 0 => by simp [AV.vals]
 | x :: r, n + 1 => by simp [AV.vals, AV.vals_take ρ r n]
theorem AV.vals_drop (ρ : Nat → Value) : ∀ (l : List AV) (n : Nat), AV.vals ρ (l.drop n) = (AV.vals ρ l).drop n
 | [], n => by simp [AV.vals]
 | x :: r, 0 => by simp [AV.vals]
 | x :: r, n + 1 => by simp [AV.vals, AV.vals_drop ρ r n]
inductive It where
 | none
 | dead
 | box (cs : List AV)
 | dat (d : D)
 | row (e : TypeId) (d : D)
 | tree (d : D)
 | kept (e : Option TypeId) (d : D)
def It.ids : It → List Nat
 | .box cs => AV.idsL cs
 | _ => []
def It.ren (σ : Nat → Nat) : It → It
 | .box cs => .box (AV.renL σ cs)
 | x => x
def It.res (ρ : Nat → Value) (id : Nat) : It → Rs
 | .none => Rs.none
 | .dead => Rs.none
 | .box cs => .box (T3 (ρ id)) (AV.vals ρ cs)
 | .dat d => .dat fun w φ => RD w φ d (ρ id)
 | .row e d => .row e d.sz (ρ id) d.len fun xs w φ => RW w φ d xs
 | .tree d => .own (H8 (ρ id)) fun w => E3 w (H8 (ρ id)) d (E7 (ρ id))
 | (.kept (Option.some e) d) => .row e d.sz (ρ id) d.len fun xs w φ => RW w φ d xs
 | (.kept Option.none d) => .own (H8 (ρ id)) fun w => E3 w (H8 (ρ id)) d (E7 (ρ id))
def It.unK : It → It
 | (.kept (Option.some e) d) => .row e d
 | (.kept Option.none d) => .tree d
 | x => x
theorem It.res_unK {ρ : Nat → Value} {i : Nat} (x : It) : x.unK.res ρ i = x.res ρ i := by
 cases x with
 | kept e d => cases e <;> rfl
 | _ => rfl
theorem It.ids_unK (x : It) : x.unK.ids = x.ids := by
 cases x with
 | kept e d => cases e <;> rfl
 | _ => rfl
theorem It.unK_ren (σ : Nat → Nat) (x : It) : (x.ren σ).unK = x.unK.ren σ := by
 cases x with
 | kept e d => cases e <;> rfl
 | _ => rfl
theorem It.res_congr {ρ ρ' : Nat → Value} {id : Nat} (x : It) (h : ∀ i ∈ x.ids, ρ' i = ρ i) (hid : x = .none ∨ x = .dead ∨ ρ' id = ρ id) : x.res ρ' id = x.res ρ id := by
 cases x with
 | none => rfl
 | dead => rfl
 | box cs => rcases hid with h0 | h0 | h0 <;> first | cases h0 | (simp only [It.res]; rw [h0, AV.vals_congr cs h])
 | dat d => rcases hid with h0 | h0 | h0 <;> first | cases h0 | (simp only [It.res]; rw [h0])
 | row e d => rcases hid with h0 | h0 | h0 <;> first | cases h0 | (simp only [It.res]; rw [h0])
 | tree d => rcases hid with h0 | h0 | h0 <;> first | cases h0 | (simp only [It.res]; rw [h0])
 | kept e d => cases e <;> (rcases hid with h0 | h0 | h0 <;> first | cases h0 | (simp only [It.res]; rw [h0]))
theorem It.res_ren {ρ : Nat → Value} {σ : Nat → Nat} {i : Nat} (x : It) : (x.ren σ).res ρ (σ i) = x.res (fun i => ρ (σ i)) i := by
 cases x with
 | box cs => simp only [It.ren, It.res]; rw [AV.vals_ren]
 | kept e d => cases e <;> rfl
 | _ => rfl
def s0 (l : List It) : Nat → It := fun i => l.getD i .none
def p7 {ι : Type} (F : ι → Rs) (ρ : Nat → Value) (S : Nat → It) : ι ⊕ Nat → Rs
 | .inl i => F i
 | .inr j => (S j).res ρ j
def o7 (S : Nat → It) : List (Nat × It) → Nat → It
 | [], i => S i
 | (j, x) :: r, i => if i = j then x else o7 S r i
theorem as2 {S : Nat → It} {l : List (Nat × It)} {i : Nat} (h : i ∉ l.map (·.1)) : o7 S l i = S i := by
 induction l with
 | nil => rfl
 | cons p r ih =>
  simp only [cb9, cb7, not_or] at h
  simp only [o7, if_neg h.1]; exact ih h.2
def Inv (S : Nat → It) (ρ : Nat → Value) (mk : List Nat) : Prop := ∀ ρ' : Nat → Value, (∀ id, id ∉ mk → ρ' id = ρ id) → ∀ j, (S j).res ρ' j = (S j).res ρ j
def C0 (mk : List Nat) (ρ ρ' : Nat → Value) : Prop := ∀ id, id ∉ mk → ρ' id = ρ id
theorem C0.refl (mk : List Nat) (ρ : Nat → Value) : C0 mk ρ ρ := fun _ _ => rfl
section
variable {P : Program} {ι : Type} {φ ψ : Nat → Prop} {w0 w w' : World} {F : ι → Rs} {ρ : Nat → Value} {S : Nat → It}
def K4 (P : Program) (o : Oper) (e : Operand → Value) (w : World) (K : Value → World → Prop) : Prop :=
 (∃ v w', (execOp e o).run P w = .ok (.value v) w' ∧ K v w') ∨ (∃ w', (execOp e o).run P w = .ok .skip w' ∧ K undef w') ∨
  ∃ f args w', (execOp e o).run P w = .ok (.enter f args) w' ∧ Calls P f args w' fun x w'' => ∃ v, x = .returned v ∧ K v w''
theorem K4.mono {o : Oper} {e : Operand → Value} {K K' : Value → World → Prop} (h : K4 P o e w K) (hk : ∀ v w', K v w' → K' v w') : K4 P o e w K' := by
 rcases h with ⟨v, w', h1, h2⟩ | ⟨w', h1, h2⟩ | ⟨f, args, w', h1, h2⟩
 ·exact .inl ⟨v, w', h1, hk _ _ h2⟩
 ·exact .inr (.inl ⟨w', h1, hk _ _ h2⟩)
 ·exact .inr (.inr ⟨f, args, w', h1, h2.mono fun x w'' ⟨v, h3, h4⟩ => ⟨v, h3, hk _ _ h4⟩⟩)
theorem K4.wp {ops : Array Oper} {Q : Exit → Act → World → Prop} {rest : List Oper} {o : Oper} {a : Act} (hw : Region.wanted o (yielded ops a.tmps) = true) (h : K4 P o a.eval w fun v w' => wpList P ops Q rest (a.put o.dst v) w') : wpList P ops Q (o :: rest) a w := by
 unfold wpList
 rw [if_pos hw]
 refine .inl ?_
 unfold Oper.wp
 rcases h with ⟨v, w', h1, h2⟩ | ⟨w', h1, h2⟩ | ⟨f, args, w', h1, h2⟩
 ·rw [h1]; exact h2
 ·rw [h1]; exact h2
 ·rw [h1]
  refine Calls.mono h2 fun x w'' ⟨v, h3, h4⟩ => ?_
  subst h3; exact h4
theorem bh8 {ops : Array Oper} {Q : Exit → Act → World → Prop} {rest : List Oper} {o : Oper} {a : Act} (hw : Region.wanted o (yielded ops a.tmps) = false) (h : wpList P ops Q rest (a.put o.dst undef) w) : wpList P ops Q (o :: rest) a w := by
 unfold wpList
 rw [if_neg (by simp [hw])]; exact h
theorem m5.one (M : m5 φ ψ w0 w (p7 F ρ S)) (id : Nat) (x : It) (mk : List Nat) {ρ' : Nat → Value} (hi : Inv S ρ mk) (ha : C0 mk ρ ρ')
  (hk : B8 (fun b => ¬ ((S id).res ρ id).blk b) w w') (hg : ∀ g, (x.res ρ' id).blk g → ((S id).res ρ id).blk g ∨ w.heap.size ≤ g)
  (h : (x.res ρ' id).holds w' (FrF φ (p7 F ρ' (o7 S [(id, x)])))) : m5 φ ψ w0 w' (p7 F ρ' (o7 S [(id, x)])) := by
 have e : p7 F ρ S = p7 F ρ' S := by
  funext k; cases k with
  | inl i => rfl
  | inr j => exact (hi ρ' ha j).symm
 have hx : p7 F ρ' (o7 S [(id, x)]) (.inr id) = x.res ρ' id := by simp [p7, o7]
 refine m5.put M (.inr id) (fun k hk' => ?_) hk (by rw [hx]; exact h) (fun g hg' => hg g (by rw [hx] at hg'; exact hg'))
 rw [e]
 cases k with
 | inl i => rfl
 | inr j =>
  have : j ≠ id := fun e => hk' (by rw [e])
  simp [p7, o7, this]
theorem B8.any {ψ : Nat → Prop} {w w' : World} (b : Below w.heap.size w w') : B8 ψ w w' := B8.of_below b fun _ h _ => h
def xav : List X → Nat → List AV
 | [], _ => []
 | .v x :: r, id => .v x :: xav r id
 | .sl _ :: r, id => .ref id :: xav r (id + 1)
def R4 : List X → Nat → List (Nat × It)
 | [], _ => []
 | .v _ :: r, id => R4 r id
 | .sl d :: r, id => (id, .dat d) :: R4 r (id + 1)
theorem aS8 : ∀ {xs : List X} {id j : Nat}, j ∈ (R4 xs id).map (·.1) → id ≤ j
 | [], _, _, h => by simp [R4] at h
 | .v _ :: r, id, j, h => aS8 (xs := r) h
 | .sl d :: r, id, j, h => by
  simp only [R4, cb9, cb7] at h
  rcases h with rfl | h
  ·exact b99 _
  ·have := aS8 h; omega
def XHs (w : World) (φ : Nat → Prop) : List X → List Value → Prop
 | [], [] => True
 | x :: r, u :: s => XH w φ x u ∧ XHs w φ r s
 | _, _ => False
theorem XHs.agr {φ φ' : Nat → Prop} (ha : Agr φ φ' w w') : ∀ {xs : List X} {us : List Value}, XHs w φ xs us → XHs w' φ' xs us
 | [], [], _ => trivial
 | _ :: _, _ :: _, h => ⟨XH.nice _ _ _ _ _ _ ha h.1, XHs.agr ha h.2⟩
 | [], _ :: _, h => h
 | _ :: _, [], h => h
theorem bt3 (S : Nat → It) (id : Nat) (x : It) (l : List (Nat × It)) (h : id ∉ l.map (·.1)) : o7 (o7 S [(id, x)]) l = o7 S ((id, x) :: l) := by
 funext i
 by_cases e : i = id
 ·subst e; rw [as2 h]; simp [o7]
 ·have : ∀ (l : List (Nat × It)), o7 (o7 S [(id, x)]) l i = o7 S l i := by
   intro l
   induction l with
   | nil => simp [o7, e]
   | cons p r ih => simp only [o7]; split; rfl; exact ih
  rw [this]; simp [o7, e]
theorem m5.dats : ∀ (xs : List X) (us : List Value) (id : Nat) {ρ : Nat → Value} {S : Nat → It}, m5 φ ψ w0 w (p7 F ρ S) → XHs w (FrF φ (p7 F ρ S)) xs us → (∀ j ∈ (R4 xs id).map (·.1), S j = .none) → Inv S ρ ((R4 xs id).map (·.1)) →
  ∃ ρ', C0 ((R4 xs id).map (·.1)) ρ ρ' ∧ m5 φ ψ w0 w (p7 F ρ' (o7 S (R4 xs id))) ∧ us = AV.vals ρ' (xav xs id)
 | [], [], _, ρ, S, M, _, _, _ => ⟨ρ, C0.refl _ _, M, rfl⟩
 | .v x :: r, u :: s, id, ρ, S, M, h, hn, hi => by
  obtain ⟨ρ', h1, h2, h3⟩ := m5.dats r s id M h.2 hn hi
  exact ⟨ρ', h1, h2, by simp only [xav, AV.vals]; rw [← h3, show u = x from h.1]; rfl⟩
 | .sl d :: r, u :: s, id, ρ, S, M, h, hn, hi => by
  have hid : S id = .none := hn id (by simp [R4])
  have hnot : id ∉ (R4 r (id + 1)).map (·.1) := fun h => by have := aS8 h; omega
  have ha : C0 ((R4 (.sl d :: r) id).map (·.1)) ρ (fun j => if j = id then u else ρ j) := fun j hj => by
   have : j ≠ id := fun e => hj (by simp [R4, e])
   simp [this]
  have hsame : ∀ b, FrF φ (p7 F ρ S) b → FrF φ (p7 F (fun j => if j = id then u else ρ j) (o7 S [(id, .dat d)])) b := fun b hb => ⟨hb.1, fun k hk => by
   cases k with
   | inl i => exact hb.2 (.inl i) hk
   | inr j =>
    by_cases e : j = id
    ·subst e; simp only [p7, o7, if_true] at hk; exact hk.elim
    ·simp only [p7, o7, if_neg e] at hk
     rw [hi _ ha j] at hk
     exact hb.2 (.inr j) hk⟩
  have M1 := M.one id (.dat d) _ hi ha (B8.refl _ _) (fun g hg => hg.elim) (by
   refine ⟨RD.nice _ _, ?_⟩
   simp only [if_true]
   exact RD.nice _ _ _ _ _ _ (Agr.mono fun b _ hb => hsame b hb) h.1)
  obtain ⟨ρ', h1, h2, h3⟩ := m5.dats r s (id + 1) M1 (XHs.agr (Agr.mono fun b _ hb => hsame b hb) h.2)
   (fun j hj => by
    have : j ≠ id := fun e => hnot (e ▸ hj)
    simp only [o7, if_neg this]; exact hn j (by simp only [R4, cb9, cb7]; exact .inr hj))
   (fun ρ2 h2 j => by
    have ha2 : C0 ((R4 (.sl d :: r) id).map (·.1)) ρ ρ2 := fun k hk => by
     have hk1 : k ≠ id := fun e => hk (by simp [R4, e])
     rw [h2 k fun hh => hk (by simp only [R4, cb9, cb7]; exact .inr hh)]; simp [hk1]
    by_cases e : j = id
    ·subst e
     simp only [o7, if_true, It.res]
     rw [h2 j hnot]; simp
    ·simp only [o7, if_neg e]
     rw [hi _ ha2 j, hi _ ha j])
  refine ⟨ρ', fun j hj => ?_, by rw [bt3 _ _ _ _ hnot] at h2; exact h2, ?_⟩
  ·rw [h1 j fun hh => hj (by simp only [R4, cb9, cb7]; exact .inr hh)]
   exact ha j hj
  ·simp only [xav, AV.vals]
   rw [← h3]
   simp only [AV.val]
   rw [h1 id hnot]; simp
 | [], _ :: _, _, _, _, _, h, _, _ => h.elim
 | _ :: _, [], _, _, _, _, h, _, _ => by cases h
end
def t8 : List Prop → Prop
 | [] => True
 | p :: r => p ∧ t8 r
theorem t8.append {l m : List Prop} : t8 (l ++ m) ↔ t8 l ∧ t8 m := by
 induction l with
 | nil => simp [t8]
 | cons p r ih => simp [t8, ih, and_assoc]
def a02 (P : Program) (t : TypeId) : Option Bool :=
 match P.underlying t with
 | some (.struct _) => some true
 | some (.array _ _) => some true
 | some _ => some false
 | none => none
def T6 (P : Program) (t : TypeId) : Option Nat := (P.info? t).map (·.size)
def J1 (P : Program) (t : TypeId) : Option Value := (P.info? t).bind (·.zero)
def aG3 (P : Program) (t : TypeId) (f : Nat) : Option (Nat × TypeId) :=
 match P.underlying t with
 | some (.struct fs) => (fs[f]?).map fun f => (f.offset, f.type)
 | _ => none
def V4 (P : Program) (t : TypeId) : Option TypeId :=
 match P.underlying t with
 | some (.slice e) => some e
 | _ => none
theorem ak4 {P : Program} {t : TypeId} {b : Bool} (h : a02 P t = some b) (w : World) : (isAgg t).run P w = .ok b w := by
 unfold a02 at h
 unfold isAgg
 cases hu : P.underlying t with
 | none => rw [hu] at h; cases h
 | some d =>
  rw [Sem.run_bind, run_underlying hu]
  simp only [Result.andThen_ok]
  rw [hu] at h
  cases d <;> (simp at h; subst h; rfl)
theorem D4 {P : Program} {t : TypeId} {n : Nat} (h : T6 P t = some n) (w : World) : (sizeOf t).run P w = .ok n w := by
 unfold T6 at h
 obtain ⟨i, h1, h2⟩ := b92.1 h
 simp [sizeOf, typeInfo, h1, h2]
theorem bn6 {P : Program} {t : TypeId} {v : Value} (h : J1 P t = some v) (w : World) : (zeroValue t).run P w = .ok v w := by
 unfold J1 at h
 cases hi : P.info? t with
 | none => rw [hi] at h; cases h
 | some i =>
  rw [hi] at h
  have h' : i.zero = some v := h
  simp [zeroValue, typeInfo, hi, h']
theorem bc8 {P : Program} {t : TypeId} {f off : Nat} {ft : TypeId} (h : aG3 P t f = some (off, ft)) : ∃ fs x, P.underlying t = some (.struct fs) ∧ fs[f]? = some x ∧ x.offset = off ∧ x.type = ft := by
 unfold aG3 at h
 cases hu : P.underlying t with
 | none => rw [hu] at h; cases h
 | some d =>
  rw [hu] at h
  cases d <;> first | cases h | skip
  rename_i fs
  obtain ⟨x, h1, h2⟩ := b92.1 h
  cases h2
  exact ⟨fs, x, rfl, h1, rfl, rfl⟩
theorem U3 {P : Program} {t e : TypeId} (h : V4 P t = some e) : P.underlying t = some (.slice e) := by
 unfold V4 at h
 cases hu : P.underlying t with
 | none => rw [hu] at h; cases h
 | some d =>
  rw [hu] at h
  cases d <;> first | (cases h; rfl) | cases h
def ev (tm : Nat → Option AV) : Operand → Option AV
 | .tmp t => tm t
 | .const v => some (.v v)
 | .global g => some (.v (.pointer (some ⟨g, 0, none⟩)))
 | .func f => some (.fn f [])
def br5 (op : BinOp) : Value → Value → Option (Value × List Prop)
 | .int k a, .int k' b =>
  if k = k' then
   match op with
   | .add => some (.int k (a + b), [k.wrap (a + b) = a + b])
   | .sub => some (.int k (a - b), [k.wrap (a - b) = a - b])
   | .mul => some (.int k (a * b), [k.wrap (a * b) = a * b])
   | .quo => some (.int k (a.tdiv b), [b ≠ 0, k.wrap (a.tdiv b) = a.tdiv b])
   | .rem => some (.int k (a.tmod b), [b ≠ 0])
   | .and => some (.int k (k.wrap (BitVec.ofInt k.bits a &&& BitVec.ofInt k.bits b).toNat), [])
   | .or => some (.int k (k.wrap (BitVec.ofInt k.bits a ||| BitVec.ofInt k.bits b).toNat), [])
   | .xor => some (.int k (k.wrap (BitVec.ofInt k.bits a ^^^ BitVec.ofInt k.bits b).toNat), [])
   | .andNot => some (.int k (k.wrap (BitVec.ofInt k.bits a &&& ~~~(BitVec.ofInt k.bits b)).toNat), [])
   | .eql => some (.bool (a == b), [])
   | .neq => some (.bool (a != b), [])
   | .lss => some (.bool (a < b), [])
   | .leq => some (.bool (a ≤ b), [])
   | .gtr => some (.bool (a > b), [])
   | .geq => some (.bool (a ≥ b), [])
   | _ => none
  else none
 | .string a, .string b =>
  match op with
  | .add => some (.string (a ++ b), [((a.size + b.size : Nat) : Int) ≤ 9223372036854775807])
  | .eql => some (.bool (a.toList == b.toList), [])
  | .neq => some (.bool !(a.toList == b.toList), [])
  | _ => none
 | _, _ => none
theorem bw3 {P : Program} {w : World} {op : BinOp} {t : TypeId} {a b r : Value} {obs : List Prop} {x y : Operand} (h : br5 op a b = some (r, obs)) (ho : t8 obs) :
  ((do eqGuard op t x y a b; Go.binOp op t a b) : Sem Value).run P w = .ok r w := by
 have hg : (eqGuard op t x y a b).run P w = .ok () w := by
  unfold eqGuard
  cases a <;> cases b <;> first | (simp [br5] at h; done) | (split <;> rfl)
 rw [Sem.run_bind, hg, Result.andThen_ok]
 cases a <;> cases b <;> first | (simp [br5] at h; done) | skip
 ·rename_i k a k' b
  simp only [br5] at h
  split at h
  ·rename_i hk
   subst hk
   cases op <;> simp only [reduceCtorEq] at h <;> first
    | (simp only [Option.some.injEq, Prod.mk.injEq] at h; obtain ⟨rfl, rfl⟩ := h; simp only [t8] at ho; simp [Go.binOp, Op.intArith, Op.intBits, Op.intCmp, Op.intDiv, ho]; done)
    | cases h
  ·cases h
 ·rename_i a b
  simp only [br5] at h
  cases op <;> simp only [reduceCtorEq] at h <;> first
   | (simp only [Option.some.injEq, Prod.mk.injEq] at h; obtain ⟨rfl, rfl⟩ := h; simp only [t8] at ho; simp [Go.binOp, Op.stringOp, IntKind.max, IntKind.bits, IntKind.signed]; try (have := ho.1; omega); done)
   | cases h
def ao8 {α : Type} (ys : List α) (p : Nat) : List α → List α
 | [] => ys
 | u :: r => ao8 (ys.set p u) (p + 1) r
theorem AV.vals_set (ρ : Nat → Value) : ∀ (l : List AV) (i : Nat) (x : AV), AV.vals ρ (l.set i x) = (AV.vals ρ l).set i (x.val ρ)
 | [], i, x => by simp [AV.vals]
 | y :: r, 0, x => by simp [AV.vals]
 | y :: r, i + 1, x => by simp [AV.vals, AV.vals_set ρ r i x]
theorem AV.vals_setL (ρ : Nat → Value) : ∀ (us l : List AV) (p : Nat), AV.vals ρ (ao8 l p us) = setFrom (AV.vals ρ l) p (AV.vals ρ us)
 | [], l, p => by simp [ao8, AV.vals, setFrom]
 | u :: r, l, p => by simp only [ao8, AV.vals, setFrom]; rw [AV.vals_setL ρ r _ _, AV.vals_set]
theorem V7 : ∀ (us ys : List Value) (p : Nat), p + us.length ≤ ys.length → setFrom ys p us = ys.take p ++ us ++ ys.drop (p + us.length)
 | [], ys, p, h => by simp [setFrom]
 | u :: r, ys, p, h => by
  simp only [b87] at h
  simp only [setFrom]
  rw [V7 r _ _ (by simp; omega), am8 _ _ _ (by omega), List.drop_set_of_lt (by omega)]
  simp [Nat.add_assoc, Nat.add_comm 1]
theorem aD5 : ∀ (l : List Value) (k off : Nat) (c : Array Value), (l.zipIdx k).foldl (fun cs (x : Value × Nat) => cs.setIfInBounds (off + x.2) x.1) c = (setFrom c.toList (off + k) l).toArray
 | [], k, off, c => by simp [setFrom]
 | a :: r, k, off, c => by
  simp only [List.zipIdx_cons, List.foldl_cons, setFrom]
  rw [aD5 r (k + 1) off]
  simp [Nat.add_assoc]
def AV.cells : AV → List AV
 | .agg l => l
 | x => [x]
def itD : It → Option D
 | .dat d => some d
 | .row _ d => some d
 | _ => none
def itB : It → Bool
 | .box _ => true
 | _ => false
def itT : It → Option D
 | .tree d => some d
 | _ => none
mutual
def okc (S : Nat → It) : AV → Bool
 | .v x => x.oneCell'
 | .ptr a _ => itB (S a)
 | .ea a _ _ _ => (itD (S a)).isSome
 | .ref a => (itD (S a)).isSome
 | .fn _ l => aI2 S l
 | .bm _ l => W0 S l
 | .tref a => (itT (S a)).isSome
 | .agg _ => false
 | .tup _ => false
def aI2 (S : Nat → It) : List AV → Bool
 | [] => true
 | x :: r => okc S x && aI2 S r
def W0 (S : Nat → It) : List AV → Bool
 | [] => true
 | x :: r => (match x with | .agg l => aI2 S l | y => okc S y) && W0 S r
end
def aA6 (S : Nat → It) (x : AV) : Bool := match x with
 | .agg l => aI2 S l
 | x => okc S x
mutual
theorem I5 {S : Nat → It} {id : Nat} (hS : S id = .none) : ∀ {x : AV}, okc S x = true → id ∉ x.ids
 | .v _, _ => by simp [AV.ids]
 | .ptr a _, h => by
  simp only [AV.ids, ca5]
  intro e; subst e; simp [okc, hS, itB] at h
 | .ea a _ _ _, h => by
  simp only [AV.ids, ca5]
  intro e; subst e; simp [okc, hS, itD] at h
 | .ref a, h => by
  simp only [AV.ids, ca5]
  intro e; subst e; simp [okc, hS, itD] at h
 | .fn _ l, h => at5 hS (by simpa [okc] using h)
 | .bm _ l, h => N0 hS (by simpa [okc] using h)
 | .tref a, h => by
  simp only [AV.ids, ca5]
  intro e; subst e; simp [okc, hS, itT] at h
 | .agg _, h => by simp [okc] at h
 | .tup _, h => by simp [okc] at h
theorem at5 {S : Nat → It} {id : Nat} (hS : S id = .none) : ∀ {l : List AV}, aI2 S l = true → id ∉ AV.idsL l
 | [], _ => by simp [AV.idsL]
 | x :: r, h => by
  simp only [aI2, b86] at h
  simp only [AV.idsL, ca2, not_or]
  exact ⟨I5 hS h.1, at5 hS h.2⟩
theorem N0 {S : Nat → It} {id : Nat} (hS : S id = .none) : ∀ {l : List AV}, W0 S l = true → id ∉ AV.idsL l
 | [], _ => by simp [AV.idsL]
 | .agg l :: r, h => by
  simp only [W0, b86] at h
  simp only [AV.idsL, AV.ids, ca2, not_or]
  exact ⟨at5 hS h.1, N0 hS h.2⟩
 | .v x :: r, h => by
  simp only [W0, b86] at h
  simp only [AV.idsL, ca2, not_or]
  exact ⟨I5 hS h.1, N0 hS h.2⟩
 | .ptr a b :: r, h => by
  simp only [W0, b86] at h
  simp only [AV.idsL, ca2, not_or]
  exact ⟨I5 hS h.1, N0 hS h.2⟩
 | .ea a b c d :: r, h => by
  simp only [W0, b86] at h
  simp only [AV.idsL, ca2, not_or]
  exact ⟨I5 hS h.1, N0 hS h.2⟩
 | .ref a :: r, h => by
  simp only [W0, b86] at h
  simp only [AV.idsL, ca2, not_or]
  exact ⟨I5 hS h.1, N0 hS h.2⟩
 | .tup l :: r, h => by
  simp only [W0, b86] at h
  simp [okc] at h
 | .fn f l :: r, h => by
  simp only [W0, b86] at h
  simp only [AV.idsL, ca2, not_or]
  exact ⟨I5 hS h.1, N0 hS h.2⟩
 | .bm f l :: r, h => by
  simp only [W0, b86] at h
  simp only [AV.idsL, ca2, not_or]
  exact ⟨I5 hS h.1, N0 hS h.2⟩
 | .tref a :: r, h => by
  simp only [W0, b86] at h
  simp only [AV.idsL, ca2, not_or]
  exact ⟨I5 hS h.1, N0 hS h.2⟩
end
theorem bx8 {S : Nat → It} {id : Nat} (hS : S id = .none) {x : AV} (h : aA6 S x = true) : id ∉ AV.idsL x.cells := by
 cases x with
 | agg l => exact at5 hS h
 | v y => simp [AV.cells, AV.idsL, AV.ids]
 | ptr a b => have := I5 hS (x := .ptr a b) h; simpa [AV.cells, AV.idsL] using this
 | ea a b c d => have := I5 hS (x := .ea a b c d) h; simpa [AV.cells, AV.idsL] using this
 | ref a => have := I5 hS (x := .ref a) h; simpa [AV.cells, AV.idsL] using this
 | fn a b => have := I5 hS (x := .fn a b) h; simpa [AV.cells, AV.idsL] using this
 | bm a b => have := I5 hS (x := .bm a b) h; simpa [AV.cells, AV.idsL] using this
 | tref a => have := I5 hS (x := .tref a) h; simpa [AV.cells, AV.idsL] using this
 | tup l => cases h
section
variable {P : Program} {ι : Type} {φ ψ : Nat → Prop} {w0 w w' : World} {F : ι → Rs} {ρ : Nat → Value} {S : Nat → It}
theorem m5.datAt (M : m5 φ ψ w0 w (p7 F ρ S)) {id : Nat} {d : D} (h : S id = .dat d) : RD w (FrF φ (p7 F ρ S)) d (ρ id) := by
 have := M.holds (.inr id)
 simp only [p7, h, It.res] at this
 exact this.2
theorem m5.rowAt (M : m5 φ ψ w0 w (p7 F ρ S)) {id : Nat} {e : TypeId} {d : D} (h : S id = .row e d) : ∃ xs, w.ownsRow 0 e d.sz (ρ id) d.len xs ∧ RW w (FrF φ (p7 F ρ S)) d xs := by
 have := M.holds (.inr id)
 simp only [p7, h, It.res] at this
 exact this.2
theorem m5.boxAt (M : m5 φ ψ w0 w (p7 F ρ S)) {id : Nat} {cs : List AV} (h : S id = .box cs) : Blk w (T3 (ρ id)) (AV.vals ρ cs) := by
 have := M.holds (.inr id)
 simp only [p7, h, It.res] at this
 exact this
theorem m5.sliceAt (M : m5 φ ψ w0 w (p7 F ρ S)) {id : Nat} {d : D} (h : itD (S id) = some d) : ∃ a cap, ρ id = .slice a d.len cap ∧ d.len ≤ cap ∧ cap ≤ maxLen ∧
  ∀ i, i < d.len → ∃ b off, a = some ⟨b, off, none⟩ ∧ ∀ j x, (d.elem i)[j]? = some x → ∃ u, w.cell? ⟨b, off + (i * d.sz + j), none⟩ = some u ∧ XH w (FrF φ (p7 F ρ S)) x u := by
 cases hS : S id with
 | dat d' =>
  rw [hS] at h; cases h
  obtain ⟨a, cap, h1, h2, h3, h4⟩ := (M.datAt hS).open
  exact ⟨a, cap, h1, h2, h3, fun i hi => let ⟨b, off, e, _, _, hc⟩ := h4 i hi; ⟨b, off, e, hc⟩⟩
 | row e d' =>
  rw [hS] at h; cases h
  obtain ⟨xs, h1, h2⟩ := M.rowAt hS
  obtain ⟨_, a, cap, hv, k1, k2, k3⟩ := ai1 h1
  refine ⟨a, cap, hv, k1, k2, fun i hi => ?_⟩
  obtain ⟨b, off, e, _, hc⟩ := k3 (by omega)
  exact ⟨b, off, e, fun j x hx => let ⟨u, hu, hh⟩ := h2 i hi j x hx; ⟨u, hc _ u hu, hh⟩⟩
 | none => rw [hS] at h; cases h
 | dead => rw [hS] at h; cases h
 | box cs => rw [hS] at h; cases h
 | tree d => rw [hS] at h; cases h
 | kept e d => rw [hS] at h; cases h
theorem m5.treeAt (M : m5 φ ψ w0 w (p7 F ρ S)) {id : Nat} {d : D} (h : itT (S id) = some d) : E3 w (H8 (ρ id)) d (E7 (ρ id)) ∧ ∀ b, H8 (ρ id) b → b < w.heap.size := by
 have hS : S id = .tree d := by
  cases hx : S id <;> rw [hx] at h <;> simp [itT] at h
  rw [h]
 have := M.holds (.inr id)
 simp only [p7, hS, It.res] at this
 exact ⟨this.2.1, this.2.2⟩
theorem aG4 {S : Nat → Prop} {d : D} {v : Value} (h : E3 w S d v) : ∃ a cap, v = .slice a d.len cap := by
 obtain ⟨e, xs, S', h0, h1, h2, h3, h4⟩ := h
 rcases h1.2 with ⟨hv, hn⟩ | ⟨g, cap, cur, hv, _⟩
 ·exact ⟨none, 0, by rw [hv, hn]⟩
 ·exact ⟨_, cap, hv⟩
theorem bi5 (M : m5 φ ψ w0 w (p7 F ρ S)) {x : AV} (h : okc S x = true) : (x.val ρ).oneCell' = true := by
 cases x with
 | v x => exact h
 | ref id =>
  obtain ⟨d, hd⟩ := cc4.1 (show (itD (S id)).isSome = true from h)
  obtain ⟨a, cap, e, _⟩ := M.sliceAt hd
  simp only [AV.val]; rw [e]; rfl
 | tref id =>
  obtain ⟨d, hd⟩ := cc4.1 (show (itT (S id)).isSome = true from h)
  obtain ⟨a, cap, e⟩ := aG4 (M.treeAt hd).1
  simp only [AV.val]; rw [e]; rfl
 | agg l => cases h
 | tup l => cases h
 | _ => rfl
theorem bi6 (M : m5 φ ψ w0 w (p7 F ρ S)) : ∀ {l : List AV}, aI2 S l = true → ∀ u ∈ AV.vals ρ l, u.oneCell' = true
 | [], _, u, hu => by simp [AV.vals] at hu
 | x :: r, h, u, hu => by
  simp only [aI2, b86] at h
  simp only [AV.vals, cb7] at hu
  rcases hu with rfl | hu
  ·exact bi5 M h.1
  ·exact bi6 M h.2 u hu
theorem aY6 {u : Value} (h : u.oneCell' = true) : u.cells = #[u] := by
 cases u <;> first | rfl | cases h
theorem V9 (M : m5 φ ψ w0 w (p7 F ρ S)) {x : AV} (h : okc S x = true) (hx : x.cells = [x]) : (x.val ρ).cells = (AV.vals ρ x.cells).toArray ∧ ∀ u ∈ AV.vals ρ x.cells, u.oneCell' = true := by
 have h1 := bi5 M h
 rw [hx]
 refine ⟨?_, ?_⟩
 ·rw [aY6 h1]; rfl
 ·intro u hu
  simp only [AV.vals, ca5] at hu
  subst hu; exact h1
theorem V8 (M : m5 φ ψ w0 w (p7 F ρ S)) {x : AV} (h : aA6 S x = true) : (x.val ρ).cells = (AV.vals ρ x.cells).toArray ∧ ∀ u ∈ AV.vals ρ x.cells, u.oneCell' = true := by
 cases x with
 | agg l => exact ⟨rfl, bi6 M h⟩
 | v y => exact V9 M (x := .v y) h rfl
 | ptr a b => exact V9 M (x := .ptr a b) h rfl
 | ea a b c d => exact V9 M (x := .ea a b c d) h rfl
 | ref a => exact V9 M (x := .ref a) h rfl
 | fn a b => exact V9 M (x := .fn a b) h rfl
 | bm a b => exact V9 M (x := .bm a b) h rfl
 | tref a => exact V9 M (x := .tref a) h rfl
 | tup l => cases h
def a51 (P : Program) (t : TypeId) (S : Nat → It) (e : Operand → Option AV) : List AV → List (Nat × Operand) → Option (List AV)
 | cs, [] => some cs
 | cs, (i, x) :: r =>
  match aG3 P t i, e x with
  | some (off, ft), some v => if aA6 S v && decide (T6 P ft = some v.cells.length) && decide (off + v.cells.length ≤ cs.length) then a51 P t S e (ao8 cs off v.cells) r else none
  | _, _ => none
theorem bk8 (M : m5 φ ψ w0 w (p7 F ρ S)) {t : TypeId} {fs : Array Field} (hu : P.underlying t = some (.struct fs)) {e : Operand → Option AV} {g : Operand → Value} {places : Array (Nat × Nat)}
  (hp : ∀ i off ft n, aG3 P t i = some (off, ft) → T6 P ft = some n → places[i]? = some (off, n)) :
  ∀ (parts : List (Nat × Operand)) (cs r : List AV), (∀ p ∈ parts, ∀ v, e p.2 = some v → g p.2 = v.val ρ) → a51 P t S e cs parts = some r → Instr.fill (places[·]?) (AV.vals ρ cs).toArray (parts.map fun p => (p.1, g p.2)) = some (AV.vals ρ r).toArray
 | [], cs, r, _, h => by simp only [a51, Option.some.injEq] at h; subst h; rfl
 | (i, x) :: rest, cs, r, hg, h => by
  simp only [a51] at h
  split at h
  ·rename_i off ft v h1 h2
   split at h
   ·rename_i hc
    simp only [b86, decide_eq_true_eq] at hc
    obtain ⟨⟨k1, k2⟩, k3⟩ := hc
    have hv := hg (i, x) ca1 v h2
    simp only at hv
    obtain ⟨c1, _⟩ := V8 M k1
    simp only [cb9, Instr.fill]
    rw [hp i off ft _ h1 k2, hv, c1]
    simp only [List.size_toArray, AV.vals_length]
    have : ¬ off + v.cells.length > cs.length := by omega
    simp only [ne_eq, not_true_eq_false, decide_false, Bool.false_or, decide_eq_true_eq, this, if_false]
    have ih := bk8 M hu hp rest (ao8 cs off v.cells) r (fun p hp' => hg p (ca8 _ hp')) h
    rw [AV.vals_setL] at ih
    rw [← ih]
    congr 1
    have hz := aD5 (AV.vals ρ v.cells) 0 off (AV.vals ρ cs).toArray
    simp only [Nat.add_zero] at hz
    rw [← hz]
    simp [Array.zipIdx, ← Array.foldl_toList, List.mapIdx_eq_zipIdx_map]
   ·cases h
  ·cases h
end
def D.sub : D → Nat → Nat → D
 | .ints x, l, h => .ints ((x.take h).drop l)
 | .bools x, l, h => .bools ((x.take h).drop l)
 | .bytes x, l, h => .bytes ((x.take h).drop l)
 | .strs x, l, h => .strs ((x.take h).drop l)
 | .instrs x, l, h => .instrs ((x.take h).drop l)
 | .events x, l, h => .events ((x.take h).drop l)
 | .rows x, l, h => .rows ((x.take h).drop l)
 | .brows x, l, h => .brows ((x.take h).drop l)
 | .exprs x, l, h => .exprs ((x.take h).drop l)
 | .stmts x, l, h => .stmts ((x.take h).drop l)
def bk1 (P : Program) (t : TypeId) : Bool := match P.underlying t with
 | some .bool => true
 | _ => false
def bW2 (P : Program) (t : TypeId) (op : BinOp) : Value → Value → Option (Value × List Prop)
 | .bool x, .bool y => if bk1 P t then match op with
   | .eql => some (.bool (x == y), [])
   | .neq => some (.bool !(x == y), [])
   | _ => none
  else none
 | a, c => br5 op a c
theorem bw2 {P : Program} {w : World} {op : BinOp} {t : TypeId} {a b r : Value} {obs : List Prop} {x y : Operand} (h : bW2 P t op a b = some (r, obs)) (ho : t8 obs) :
  ((do eqGuard op t x y a b; Go.binOp op t a b) : Sem Value).run P w = .ok r w := by
 unfold bW2 at h
 split at h
 ·rename_i x1 y1
  have hg : (eqGuard op t x y (.bool x1) (.bool y1)).run P w = .ok () w := by
   unfold eqGuard
   split <;> rfl
  rw [Sem.run_bind, hg, Result.andThen_ok]
  split at h
  ·rename_i hb
   have hu : P.underlying t = some .bool := by
    unfold bk1 at hb
    split at hb
    ·assumption
    ·cases hb
   split at h <;> first | cases h | skip
   ·exact run_eql_bool w t x1 y1 hu
   ·exact run_neq_bool w t x1 y1 hu
  ·cases h
 ·exact bw3 h ho
def Y4 (P : Program) (e : Operand → Option AV) (S : Nat → It) : Op → Option (AV × List Prop)
 | .move x => (e x).map fun r => (r, [])
 | .assign x => (e x).map fun r => (r, [])
 | .binOp b t x y _ => match e x, e y with
  | some (.v a), some (.v c) => (bW2 P t b a c).map fun r => (.v r.1, r.2)
  | _, _ => none
 | .unOp o _ x => match o, e x with
  | .not, some (.v (.bool b)) => some (.v (.bool !b), [])
  | .neg, some (.v (.int k n)) => some (.v (.int k (0 - n)), [k.wrap (0 - n) = 0 - n])
  | _, _ => none
 | .nilCheck x => match e x with
  | some (.ptr a b) => some (.ptr a b, [])
  | some (.ea a b c d) => some (.ea a b c d, [])
  | some (.fn a b) => some (.fn a b, [])
  | some (.bm a b) => some (.bm a b, [])
  | _ => none
 | .fieldAddr s x f => match aG3 P s f, e x with
  | some (off, ft), some (.ptr a b) => if (T6 P ft).any (0 < ·) then some (.ptr a (b + off), []) else none
  | some (off, ft), some (.ea a b c d) => if (T6 P ft).any (0 < ·) then some (.ea a b (c + off) d, []) else none
  | _, _ => none
 | .field s x f => match aG3 P s f, e x with
  | some (off, ft), some (.agg l) =>
   match a02 P ft, T6 P ft with
   | some true, some n => some (.agg ((l.drop off).take n), [])
   | some false, _ => (l[off]?).map fun r => (r, [])
   | _, _ => none
  | _, _ => none
 | .extract x i => match e x with
  | some (.tup l) => (l[i]?).map fun r => (r, [])
  | _ => none
 | .indexAddr t x ix => match e x, e ix with
  | some (.ref id), some (.v (.int _ i)) =>
   match itD (S id), (V4 P t).bind (T6 P) with
   | some d, some n => if n = d.sz then some (.ea id i.toNat 0 d.sz, [0 ≤ i, i < (d.len : Int)]) else none
   | _, _ => none
  | some (.tref id), some (.v (.int _ i)) =>
   match itT (S id), (V4 P t).bind (T6 P) with
   | some d, some n => if n = d.sz then some (.ea id i.toNat 0 d.sz, [0 ≤ i, i < (d.len : Int)]) else none
   | _, _ => none
  | _, _ => none
 | .index t x ix => match e x, e ix with
  | some (.v (.string s)), some (.v (.int _ i)) =>
   match P.underlying t with
   | some .string => some (.v (.int .u8 ((s.data.toList.getD i.toNat 0).toNat : Int)), [0 ≤ i, i < (s.size : Int)])
   | _ => none
  | _, _ => none
 | .convert s d x => match e x with
  | some (.v (.int _ n)) =>
   match (P.underlying s).isSome, P.underlying d with
   | true, some (.int k) => some (.v (.int k n), [k.wrap n = n])
   | _, _ => none
  | some (.v (.string x)) =>
   match (P.underlying s).isSome, P.underlying d with
   | true, some .string => some (.v (.string x), [])
   | _, _ => none
  | _ => none
 | .makeFunc (.func f) first cap =>
  if first.isEmpty then (cap.toList.mapM e).map fun l => (.fn f l, []) else if cap.isEmpty then (first.toList.mapM e).map fun l => (.bm f l, []) else none
 | .build t parts =>
  match J1 P t, P.underlying t with
  | some z, some (.struct fs) =>
   match fs.toList.mapM (fun f => (P.info? f.type).map fun i => (f.offset, i.size)) with
   | some _ => (a51 P t S e (z.cells.toList.map .v) parts.toList).map fun l => (.agg l, [])
   | none => none
  | _, _ => none
 | .call { callee := .builtin .len, args, argTypes } =>
  match args.toList, argTypes.toList with
  | [x], [t] => match e x, P.underlying t with
   | some (.ref id), some (.slice _) => (itD (S id)).map fun d => (.v (.int .i64 d.len), [])
   | some (.v (.slice _ n _)), some (.slice _) => some (.v (.int .i64 n), [])
   | some (.v (.string s)), some .string => some (.v (.int .i64 s.size), [])
   | some (.tref id), some (.slice _) => (itT (S id)).map fun d => (.v (.int .i64 d.len), [])
   | _, _ => none
  | _, _ => none
 | _ => none
section
variable {P : Program} {ι : Type} {φ ψ : Nat → Prop} {w0 w w' : World} {F : ι → Rs} {ρ : Nat → Value} {S : Nat → It}
theorem bC7 (n m : Nat) (v : Value) : (if m = 0 then aK5 n v else (⟨(aK5 n v).block, (aK5 n v).off + m, none⟩ : Addr)) = aK5 (n + m) v := by
 unfold aK5
 split
 ·rename_i h0
  subst h0
  split <;> simp
 ·split <;> simp [Nat.add_assoc]
theorem a30 {α β : Type} {f : α → Option β} : ∀ {l : List α} {r : List β}, l.mapM f = some r → ∀ {i : Nat} {x : α} {y : β}, l[i]? = some x → f x = some y → r[i]? = some y
 | [], _, _, _, _, _, hx, _ => by simp at hx
 | a :: l, r, h, i, x, y, hx, hy => by
  rw [List.mapM_cons] at h
  cases ha : f a with
  | none => rw [ha] at h; simp at h
  | some b =>
   cases hr : l.mapM f with
   | none => rw [ha, hr] at h; simp at h
   | some m =>
    rw [ha, hr] at h
    simp at h; subst h
    cases i with
    | zero => simp at hx; subst hx; rw [ha] at hy; cases hy; rfl
    | succ i => simpa using a30 hr (by simpa using hx) hy
theorem Y1 (ρ : Nat → Value) : ∀ (z : List Value), AV.vals ρ (z.map .v) = z
 | [] => rfl
 | a :: r => by simp only [cb9, AV.vals, AV.val]; rw [Y1 ρ r]
theorem ak8 {e : Operand → Option AV} {g : Operand → Value} : ∀ {xs : List Operand} {l : List AV}, (∀ x ∈ xs, ∀ v, e x = some v → g x = v.val ρ) → xs.mapM e = some l → xs.map g = AV.vals ρ l
 | [], l, _, h => by simp at h; subst h; rfl
 | x :: r, l, hg, h => by
  rw [List.mapM_cons] at h
  cases hx : e x with
  | none => rw [hx] at h; simp at h
  | some v =>
   cases hr : r.mapM e with
   | none => rw [hx, hr] at h; simp at h
   | some m =>
    rw [hx, hr] at h
    simp at h; subst h
    simp only [cb9, AV.vals]
    rw [hg x ca1 v hx, ak8 (fun y hy => hg y (ca8 _ hy)) hr]
theorem bH6 (M : m5 φ ψ w0 w (p7 F ρ S)) {o : Oper} {e : Operand → Option AV} {g : Operand → Value} (hg : ∀ x ∈ o.op.operands, ∀ v, e x = some v → g x = v.val ρ) {r : AV} {obs : List Prop} (h : Y4 P e S o.op = some (r, obs)) (ho : t8 obs) :
  (execOp g o).run P w = .ok (.value (r.val ρ)) w := by
 unfold execOp
 generalize o.op = op at *
 cases op <;> simp only [Y4] at h <;> first | cases h | skip
 case move x =>
  obtain ⟨v, h1, h2⟩ := b92.1 h
  cases h2
  simp [hg x (by simp [Op.operands]) _ h1]
 case assign x =>
  obtain ⟨v, h1, h2⟩ := b92.1 h
  cases h2
  simp [hg x (by simp [Op.operands]) _ h1]
 case binOp b t x y t' =>
  split at h
  ·rename_i a c h1 h2
   obtain ⟨v, h3, h4⟩ := b92.1 h
   cases h4
   have hx := hg x (by simp [Op.operands]) _ h1
   have hy := hg y (by simp [Op.operands]) _ h2
   simp only [AV.val] at hx hy
   have hr := bw2 (P := P) (w := w) (t := t) (x := x) (y := y) (r := v.1) (obs := v.2) h3 ho
   simp only [hx, hy]
   rw [Sem.run_bind, hr]; rfl
  ·cases h
 case unOp b t x =>
  split at h <;> first | cases h | skip
  ·rename_i b h1
   simp [hg x (by simp [Op.operands]) _ h1, AV.val, Op.unary]
  ·rename_i k n h1
   simp only [t8] at ho
   have ho1 := ho.1
   simp only [Int.zero_sub] at ho1
   simp [hg x (by simp [Op.operands]) _ h1, AV.val, Op.unary, Op.intArith, ho1]
 case nilCheck x =>
  split at h <;> first | cases h | skip
  ·rename_i a b h1
   simp [hg x (by simp [Op.operands]) _ h1, AV.val]
  ·rename_i a b c d h1
   simp [hg x (by simp [Op.operands]) _ h1, AV.val]
  ·rename_i a b h1
   simp [hg x (by simp [Op.operands]) _ h1, AV.val]
  ·rename_i a b h1
   simp [hg x (by simp [Op.operands]) _ h1, AV.val]
 case fieldAddr s x f =>
  have key : ∀ (a : Addr) (off : Nat) (ft : TypeId), aG3 P s f = some (off, ft) → (T6 P ft).any (0 < ·) = true → (Instr.fieldAt s (.pointer (some a)) f).run P w = .ok (.pointer (some (a.add off))) w := by
   intro a off ft h1 h2
   obtain ⟨fs, y, k1, k2, k3, k4⟩ := bc8 h1
   cases hn : T6 P ft with
   | none => rw [hn] at h2; cases h2
   | some n =>
    rw [hn] at h2
    simp at h2
    subst k4
    simp [Instr.fieldAt, run_underlying k1, k2, Instr.sureAddr, fieldPlace, D4 hn, k3]
    intro h0; omega
  split at h
  ·rename_i off ft a b h1 h2
   split at h
   ·rename_i hs
    cases h
    simp only [hg x (by simp [Op.operands]) _ h2, AV.val]
    rw [Sem.run_bind, key _ _ _ h1 hs]
    simp only [Result.andThen_ok, Sem.run_pure, Addr.add]
    split
    ·rename_i h0; subst h0; rfl
    ·rfl
   ·cases h
  ·rename_i off ft a b c d h1 h2
   split at h
   ·rename_i hs
    cases h
    simp only [hg x (by simp [Op.operands]) _ h2, AV.val]
    rw [Sem.run_bind, key _ _ _ h1 hs]
    simp only [Result.andThen_ok, Sem.run_pure, Addr.add]
    rw [bC7, Nat.add_assoc]
   ·cases h
  ·cases h
 case field s x f =>
  split at h <;> first | cases h | skip
  rename_i off ft l h1 h2
  obtain ⟨fs, y, k1, k2, k3, k4⟩ := bc8 h1
  subst k3; subst k4
  have hx := hg x (by simp [Op.operands]) _ h2
  simp only [AV.val] at hx
  split at h <;> first | cases h | skip
  ·rename_i n h3 h4
   simp [Instr.field, run_underlying k1, k2, hx, asAgg, part, ak4 h3, D4 h4, AV.val, AV.vals_take, AV.vals_drop, List.take_drop]
  ·rename_i z h3
   obtain ⟨v, h5, h6⟩ := b92.1 h
   cases h6
   simp [Instr.field, run_underlying k1, k2, hx, asAgg, part, ak4 h3, AV.vals_get, h5]
 case extract x i =>
  split at h <;> first | cases h | skip
  rename_i l h1
  obtain ⟨v, h2, h3⟩ := b92.1 h
  cases h3
  simp [Instr.extract, hg x (by simp [Op.operands]) _ h1, AV.val, AV.vals_get, h2]
 case indexAddr t x ix =>
  split at h <;> first | cases h | skip
  ·rename_i id k i h1 h2
   split at h <;> first | cases h | skip
   rename_i d n h3 h4
   split at h <;> first | cases h | skip
   rename_i hn
   subst hn
   simp only [t8] at ho
   obtain ⟨e', h5, h6⟩ := Option.bind_eq_some_iff.1 h4
   obtain ⟨a, cap, hr, _, _, hc⟩ := M.sliceAt h3
   obtain ⟨b, off, rfl, _⟩ := hc i.toNat (by omega)
   have hx := hg x (by simp [Op.operands]) _ h1
   have hi := hg ix (by simp [Op.operands]) _ h2
   simp only [AV.val] at hx hi
   rw [hr] at hx
   simp [Instr.indexAt, hx, hi, asIntOf, run_underlying (U3 h5), D4 h6, ho.1, ho.2.1, AV.val, hr, E7, aK5, Addr.add]
  ·rename_i id k i h1 h2
   split at h <;> first | cases h | skip
   rename_i d n h3 h4
   split at h <;> first | cases h | skip
   rename_i hn
   subst hn
   simp only [t8] at ho
   obtain ⟨e', h5, h6⟩ := Option.bind_eq_some_iff.1 h4
   obtain ⟨e2, xs, S', _, k1, _⟩ := (M.treeAt h3).1
   rcases k1.2 with ⟨_, k2⟩ | ⟨b, cap, cur, hr, _⟩
   ·exfalso; omega
   have hx := hg x (by simp [Op.operands]) _ h1
   have hi := hg ix (by simp [Op.operands]) _ h2
   simp only [AV.val] at hx hi
   rw [hr] at hx
   simp [Instr.indexAt, hx, hi, asIntOf, run_underlying (U3 h5), D4 h6, ho.1, ho.2.1, AV.val, hr, aK5, Addr.add]
   intro h0; exact h0.symm
 case index t x ix =>
  split at h <;> first | cases h | skip
  rename_i s k i h1 h2
  split at h <;> first | cases h | skip
  rename_i h3
  simp only [t8] at ho
  have hx := hg x (by simp [Op.operands]) _ h1
  have hi := hg ix (by simp [Op.operands]) _ h2
  simp only [AV.val] at hx hi
  have hlt : i.toNat < s.size := by omega
  simp [Instr.index, hx, hi, asIntOf, run_underlying h3, ho.1, AV.val, hlt]
  rfl
 case convert s d x =>
  split at h <;> first | cases h | skip
  ·rename_i k n h1
   split at h <;> first | cases h | skip
   rename_i k' h2 h3
   simp only [t8] at ho
   obtain ⟨ds, hds⟩ := cc4.1 h2
   have hx := hg x (by simp [Op.operands]) _ h1
   simp only [AV.val] at hx
   cases ds <;> simp [convert, hx, run_underlying hds, run_underlying h3, Conv.intToInt, ho.1, AV.val]
  ·rename_i str h1
   split at h <;> first | cases h | skip
   rename_i h2 h3
   obtain ⟨ds, hds⟩ := cc4.1 h2
   have hx := hg x (by simp [Op.operands]) _ h1
   simp only [AV.val] at hx
   cases ds <;> simp [convert, hx, run_underlying hds, run_underlying h3, AV.val]
 case makeFunc fn first cap =>
  cases fn <;> simp only [Y4] at h <;> first | cases h | skip
  rename_i f
  split at h
  ·rename_i hf
   obtain ⟨l, h1, h2⟩ := b92.1 h
   cases h2
   have hf' : first = #[] := by simpa using hf
   subst hf'
   have := ak8 (ρ := ρ) (g := g) (fun x hx v hv => hg x (by simp [Op.operands]; simpa using hx) v hv) h1
   simp only [Instr.makeFunc, AV.val, ← this]
   have : Array.map g cap = (List.map g cap.toList).toArray := by apply Array.ext'; simp
   simp [this]
  split at h <;> first | cases h | skip
  rename_i hf
  obtain ⟨l, h1, h2⟩ := b92.1 h
  cases h2
  have hf' : cap = #[] := by simpa using hf
  subst hf'
  have := ak8 (ρ := ρ) (g := g) (fun x hx v hv => hg x (by simp [Op.operands]; simpa using hx) v hv) h1
  simp only [Instr.makeFunc, AV.val, ← this]
  have : Array.map g first = (List.map g first.toList).toArray := by apply Array.ext'; simp
  simp [this]
 case build t parts =>
  split at h <;> first | cases h | skip
  rename_i z fs h1 h2
  split at h <;> first | cases h | skip
  rename_i places hpl
  obtain ⟨l, h3, h4⟩ := b92.1 h
  cases h4
  obtain ⟨it, hit, hz⟩ : ∃ it, P.info? t = some it ∧ it.zero = some z := by
   unfold J1 at h1
   exact Option.bind_eq_some_iff.1 h1
  have hb : P.built t (parts.map fun (i, x) => (i, g x)).toList = some (AV.vals ρ l).toArray := by
   unfold Program.built
   simp only [hit, h2, hz, hpl]
   have h5 := bk8 M h2 (e := e) (g := g) (places := places.toArray) (fun i off ft n k1 k2 => by
    obtain ⟨fs', x, m1, m2, m3, m4⟩ := bc8 k1
    rw [h2] at m1; cases m1
    obtain ⟨y, n1, n2⟩ := b92.1 k2
    have := a30 hpl (i := i) (x := x) (y := (off, n)) (by simpa using m2) (by simp [m4, n1, m3, n2])
    simpa using this) parts.toList _ l (fun p hp v hv => hg p.2 (by simp [Op.operands]; exact ⟨p.1, by simpa using hp⟩) v hv) h3
   rw [Y1] at h5
   rw [← h5]
   simp
  rw [Sem.run_bind, run_build w t _ _ hb]
  simp [AV.val]
 case call c =>
  obtain ⟨callee, args, argTypes⟩ := c
  cases callee <;> (try simp only [Y4] at h) <;> first | cases h | skip
  rename_i b
  cases b <;> (try simp only [Y4] at h) <;> first | cases h | skip
  split at h <;> first | cases h | skip
  rename_i x t hx ht
  have hx' : args = #[x] := by apply Array.ext'; simpa using hx
  have ht' : argTypes = #[t] := by apply Array.ext'; simpa using ht
  subst hx'; subst ht'
  split at h <;> first | cases h | skip
  ·rename_i id e' h1 h2
   obtain ⟨d, h3, h4⟩ := b92.1 h
   cases h4
   obtain ⟨a, cap, hr, _⟩ := M.sliceAt h3
   have hxx := hg x (by simp [Op.operands, Call.operands]) _ h1
   simp only [AV.val] at hxx
   rw [hr] at hxx
   simp [resolve, invoke, builtin, hxx, Builtin.len_, run_underlying h2, AV.val, goInt]
  ·rename_i a n cap e' h1 h2
   have hxx := hg x (by simp [Op.operands, Call.operands]) _ h1
   simp only [AV.val] at hxx
   simp [resolve, invoke, builtin, hxx, Builtin.len_, run_underlying h2, AV.val, goInt]
  ·rename_i str h1 h2
   have hxx := hg x (by simp [Op.operands, Call.operands]) _ h1
   simp only [AV.val] at hxx
   simp [resolve, invoke, builtin, hxx, Builtin.len_, run_underlying h2, AV.val, goInt]
  ·rename_i id e' h1 h2
   obtain ⟨d, h3, h4⟩ := b92.1 h
   cases h4
   obtain ⟨a, cap, hr⟩ := aG4 (M.treeAt h3).1
   have hxx := hg x (by simp [Op.operands, Call.operands]) _ h1
   simp only [AV.val] at hxx
   rw [hr] at hxx
   simp [resolve, invoke, builtin, hxx, Builtin.len_, run_underlying h2, AV.val, goInt]
end
theorem V5 {ks : List b5} {k : Nat} (h : k < ks.length) : n8 (ks.take (k + 1)) = n8 (ks.take k) + (1 + v7 ks[k]) := by
 rw [r9 _ _ h, L6]
 simp [n8]
end Go.Proofs.YthikdkjjdeehoaaGreat

namespace Go.Proofs.YthikdkjjdeehoaaGreat
set_option linter.unusedVariables false
set_option linter.unusedSimpArgs false
open Go Go.RowKit
theorem Q7 (us : List Value) : ∀ (c ys : List Value) (p : Nat), c.length ≤ p → setFrom (c ++ ys) p us = c ++ setFrom ys (p - c.length) us := by
 induction us with
 | nil => intro c ys p _; rfl
 | cons u r ih =>
  intro c ys p hp
  simp only [setFrom]
  rw [List.set_append_right _ _ hp, ih _ _ _ (by omega), show p + 1 - c.length = p - c.length + 1 by omega]
theorem S9 (us : List Value) : ∀ (c ys : List Value) (p : Nat), p + us.length ≤ c.length → setFrom (c ++ ys) p us = setFrom c p us ++ ys := by
 induction us with
 | nil => intro c ys p _; rfl
 | cons u r ih =>
  intro c ys p hp
  simp only [b87] at hp
  simp only [setFrom]
  rw [List.set_append_left _ _ (by omega), ih _ _ _ (by simp; omega)]
theorem am9 {c us : List Value} (h : us.length = c.length) : setFrom c 0 us = us := by
 have h1 := as6 us c 0 (by omega)
 rw [cc3, ca3 (by rw [J2]; omega)] at h1
 simpa using h1
theorem C8.len {w : World} {e : b5} {S : Nat → Prop} {c : List Value} (h : C8 w e S c) : c.length = 3 := by
 obtain ⟨kv, rfl, _⟩ := (C8.iff e S c).1 h; rfl
theorem E4.len {w : World} {s : b6} {S : Nat → Prop} {c : List Value} (h : E4 w s S c) : c.length = 11 := by
 obtain ⟨_, _, _, _, _, _, _, _, rfl, _⟩ := (E4.iff s S c).1 h; rfl
theorem o8.focus {w : World} : ∀ {ls : List b5} {S : Nat → Prop} {xs : List Value}, o8 w ls S xs → ∀ (i : Nat) (hi : i < ls.length), ∃ (c : List Value) (Sc : Nat → Prop), C8 w ls[i] Sc c ∧ (∀ b, Sc b → S b) ∧ (∀ j, j < 3 → xs[i * 3 + j]? = c[j]?) ∧
  ∀ (w' : World) (e' : b5) (c' : List Value), (∀ b, S b → ¬ Sc b → b < w.heap.size → w'.heap[b]? = w.heap[b]?) → C8 w' e' Sc c' → o8 w' (ls.set i e') S (setFrom xs (i * 3) c')
 | [], _, _, _, i, hi => by simp at hi
 | e :: r, S, xs, ⟨c, ys, S1, S2, h1, h2, h3, h4, h5⟩, i, hi => by
  have hc := h4.len
  subst h1
  cases i with
  | zero =>
   refine ⟨c, S1, h4, fun b hb => (h2 b hb).1, fun j hj => by rw [ca9 (by omega)]; simp, fun w' e' c' hs hO => ?_⟩
   refine ⟨c', ys, S1, S2, ?_, h2, h3, hO, o8.same r S2 ys h5 fun b hb hlt => hs b (h3 b hb) (fun h => (h2 b h).2 hb) hlt⟩
   rw [Nat.zero_mul, S9 c' c ys 0 (by rw [hO.len]; omega), am9 (by rw [hO.len, hc])]
  | succ i =>
   obtain ⟨d, Sc, k1, k2, k3, k4⟩ := o8.focus h5 i (by simpa using hi)
   refine ⟨d, Sc, k1, fun b hb => h3 b (k2 b hb), fun j hj => ?_, fun w' e' c' hs hO => ?_⟩
   ·rw [cc6 (by rw [hc, cb8]; omega), ← k3 j hj]
    congr 1
    rw [hc, cb8]; omega
   ·refine ⟨c, setFrom ys (i * 3) c', S1, S2, ?_, h2, h3, C8.same e S1 c h4 fun b hb hlt => hs b (h2 b hb).1 (fun h => (h2 b hb).2 (k2 b h)) hlt, k4 w' e' c' (fun b hb hn hlt => hs b (h3 b hb) hn hlt) hO⟩
    rw [Q7 c' c ys _ (by rw [hc, cb8]; omega), hc, cb8, Nat.add_sub_cancel]
theorem o3.focus {w : World} : ∀ {ls : List b6} {S : Nat → Prop} {xs : List Value}, o3 w ls S xs → ∀ (i : Nat) (hi : i < ls.length), ∃ (c : List Value) (Sc : Nat → Prop), E4 w ls[i] Sc c ∧ (∀ b, Sc b → S b) ∧ (∀ j, j < 11 → xs[i * 11 + j]? = c[j]?) ∧
  ∀ (w' : World) (e' : b6) (c' : List Value), (∀ b, S b → ¬ Sc b → b < w.heap.size → w'.heap[b]? = w.heap[b]?) → E4 w' e' Sc c' → o3 w' (ls.set i e') S (setFrom xs (i * 11) c')
 | [], _, _, _, i, hi => by simp at hi
 | e :: r, S, xs, ⟨c, ys, S1, S2, h1, h2, h3, h4, h5⟩, i, hi => by
  have hc := h4.len
  subst h1
  cases i with
  | zero =>
   refine ⟨c, S1, h4, fun b hb => (h2 b hb).1, fun j hj => by rw [ca9 (by omega)]; simp, fun w' e' c' hs hO => ?_⟩
   refine ⟨c', ys, S1, S2, ?_, h2, h3, hO, o3.same r S2 ys h5 fun b hb hlt => hs b (h3 b hb) (fun h => (h2 b h).2 hb) hlt⟩
   rw [Nat.zero_mul, S9 c' c ys 0 (by rw [hO.len]; omega), am9 (by rw [hO.len, hc])]
  | succ i =>
   obtain ⟨d, Sc, k1, k2, k3, k4⟩ := o3.focus h5 i (by simpa using hi)
   refine ⟨d, Sc, k1, fun b hb => h3 b (k2 b hb), fun j hj => ?_, fun w' e' c' hs hO => ?_⟩
   ·rw [cc6 (by rw [hc, cb8]; omega), ← k3 j hj]
    congr 1
    rw [hc, cb8]; omega
   ·refine ⟨c, setFrom ys (i * 11) c', S1, S2, ?_, h2, h3, E4.same e S1 c h4 fun b hb hlt => hs b (h2 b hb).1 (fun h => (h2 b hb).2 (k2 b h)) hlt, k4 w' e' c' (fun b hb hn hlt => hs b (h3 b hb) hn hlt) hO⟩
    rw [Q7 c' c ys _ (by rw [hc, cb8]; omega), hc, cb8, Nat.add_sub_cancel]
section
variable {φ ψ : Nat → Prop} {w0 w w' : World} {L : List X5}
theorem o8.at : ∀ {ks : List b5} {S : Nat → Prop} {xs : List Value}, o8 w ks S xs → ∀ (i : Nat) (hi : i < ks.length), ∃ kv, xs[i * 3]? = some (.int .i64 ks[i].kind) ∧ xs[i * 3 + 1]? = some (.int .i64 ks[i].value) ∧ xs[i * 3 + 2]? = some kv ∧ G0 w kv ks[i].kids S
 | [], _, _, _, i, hi => by simp at hi
 | e :: r, S, _, ⟨c, ys, S1, S2, h1, h2, h3, h4, h5⟩, i, hi => by
  obtain ⟨kv, rfl, hk⟩ := (C8.iff e S1 c).1 h4
  subst h1
  cases i with
  | zero => exact ⟨kv, rfl, rfl, rfl, hk.mono fun b hb => (h2 b hb).1⟩
  | succ i =>
   obtain ⟨kv', a, b, d, f⟩ := o8.at h5 i (by simpa using hi)
   refine ⟨kv', ?_, ?_, ?_, f.mono h3⟩ <;> (rw [cb8]; simpa [Nat.add_assoc] using by assumption)
theorem G0.open {v : Value} {ks : List b5} {S : Nat → Prop} (h : G0 w v ks S) : ∃ a cap, v = .slice a ks.length cap ∧ ks.length ≤ cap ∧ ks.length ≤ 9223372036854775807 ∧ cap ≤ 9223372036854775807 ∧
  ∀ i (hi : i < ks.length), ∃ b off kv, a = some ⟨b, off, none⟩ ∧ b < w.heap.size ∧ S b ∧ w.cell? ⟨b, off + i * 3, none⟩ = some (.int .i64 ks[i].kind) ∧ w.cell? ⟨b, off + i * 3 + 1, none⟩ = some (.int .i64 ks[i].value) ∧ w.cell? ⟨b, off + i * 3 + 2, none⟩ = some kv ∧ G0 w kv ks[i].kids S := by
 obtain ⟨xs, S', h2, h3, h4, h5⟩ := h
 obtain ⟨hl, a, cap, hv, n1, n2, n3⟩ := C1 (φ := fun g => S g ∧ ¬ S' g) h2 h3
 unfold maxLen at n2
 refine ⟨a, cap, hv, n1, by omega, by omega, fun i hi => ?_⟩
 obtain ⟨b, off, he, hb, hf, hc⟩ := n3 (by omega)
 obtain ⟨kv, e0, e1, e2, hk⟩ := h5.at i hi
 exact ⟨b, off, kv, he, hb, hf.1, hc _ _ e0, hc _ _ e1, hc _ _ e2, hk.mono h4⟩
theorem G0.nil (w : World) (S : Nat → Prop) : G0 w (.slice none 0 0) [] S := ⟨[], fun _ => False, World.ownsRow_nil _ _ _ _, (fun g hg => by cases hg), fun _ h => h.elim, rfl⟩
end
end Go.Proofs.YthikdkjjdeehoaaGreat

namespace Go.Proofs.YthikdkjjdeehoaaGreat
set_option linter.unusedVariables false
set_option linter.unusedSimpArgs false
open Go Go.RowKit
theorem ah2 (us : List Value) : ∀ (ys : List Value) (p q : Nat), p + us.length ≤ ys.length → (setFrom ys p us)[q]? = if p ≤ q ∧ q < p + us.length then us[q - p]? else ys[q]? := by
 induction us with
 | nil => intro ys p q _; simp only [setFrom, b89]; split; omega; rfl
 | cons u r ih =>
  intro ys p q h
  simp only [b87] at h
  simp only [setFrom, b87]
  rw [ih _ _ _ (by simp; omega)]
  by_cases h1 : q = p
  ·subst h1
   rw [if_neg (by omega), if_pos (by omega), List.getElem?_set_self (by omega), Nat.sub_self]; rfl
  ·by_cases h2 : p + 1 ≤ q ∧ q < p + 1 + r.length
   ·rw [if_pos h2, if_pos (by omega), show q - p = q - (p + 1) + 1 by omega]; rfl
   ·rw [if_neg h2, if_neg (by omega), List.getElem?_set_ne (by omega)]
theorem as7 {xs cs : List Value} {p : Nat} (h : p + cs.length ≤ xs.length) (hc : ∀ j, j < cs.length → xs[p + j]? = cs[j]?) : setFrom xs p cs = xs := by
 apply List.ext_getElem?
 intro q
 rw [ah2 _ _ _ _ h]
 split
 ·rename_i h1
  rw [← hc _ (by omega)]; congr 1; omega
 ·rfl
theorem az8 {xs cs : List Value} {p k : Nat} (u : Value) (h : p + cs.length ≤ xs.length) (hk : k < cs.length) : (setFrom xs p cs).set (p + k) u = setFrom xs p (cs.set k u) := by
 apply List.ext_getElem?
 intro q
 rw [ah2 _ _ _ _ (by simpa using h), List.getElem?_set, ah2 _ _ _ _ h, J2, List.length_set]
 by_cases h1 : p + k = q
 ·subst h1
  rw [if_pos rfl, if_pos (by omega), if_pos (by omega), Nat.add_sub_cancel_left, List.getElem?_set_self hk]
 ·rw [if_neg h1]
  split
  ·rw [List.getElem?_set_ne (by omega)]
  ·rfl
def X5.plain : X5 → Prop
 | .dat _ => False
 | _ => True
theorem X5.holds_plain {w : World} {φ φ' : Nat → Prop} {r : X5} (hp : r.plain) (h : r.holds w φ) : r.holds w φ' := by
 cases r with
 | dat R => exact hp.elim
 | box b cs => exact h
 | row e sz v n xs => exact h
 | own S R => exact h
theorem A9.adopt {φ ψ : Nat → Prop} {w0 w : World} {L : List X5} (M : A9 φ ψ w0 w L) (r : X5) (hL : ∀ a ∈ L, a.plain) (hp : r.plain) (h : r.holds w (fun _ => True)) (hd : ∀ a ∈ L, ∀ g, r.blk g → ¬ a.blk g) (hg : ∀ g, r.blk g → ¬ ψ g) : A9 φ ψ w0 w (L ++ [r]) := by
 have get : ∀ (i : Nat) (x : X5), (L ++ [r])[i]? = some x → (i < L.length ∧ x ∈ L ∧ L[i]? = some x) ∨ (i = L.length ∧ x = r) := by
  intro k z hz
  rcases cc0 k L.length with hk | hk
  ·rw [ca9 hk] at hz; exact .inl ⟨hk, cb4 hz, hz⟩
  ·rw [cc6 hk] at hz
   have : k - L.length = 0 := by
    rcases Nat.eq_zero_or_pos (k - L.length) with h | h
    ·exact h
    ·rw [cb5 (by rw [List.length_singleton]; exact h)] at hz; cases hz
   rw [this] at hz; simp at hz
   exact .inr ⟨by omega, hz.symm⟩
 refine ⟨M.kept, M.fresh, fun x hx => ?_, fun i j x y g hi hj hij hx hy => ?_, fun x g hx hxg => ?_⟩
 ·rcases ca2.1 hx with hx | hx
  ·exact X5.holds_plain (hL x hx) (M.holds x hx)
  ·rw [ca5] at hx; subst hx; exact X5.holds_plain hp h
 ·rcases get i x hi with ⟨hi1, hi2, hi3⟩ | ⟨hi1, rfl⟩ <;> rcases get j y hj with ⟨hj1, hj2, hj3⟩ | ⟨hj1, rfl⟩
  ·exact M.dis i j x y g hi3 hj3 hij hx hy
  ·exact hd x hi2 g hy hx
  ·exact hd y hj2 g hx hy
  ·omega
 ·rcases ca2.1 hx with hx | hx
  ·exact M.ge x g hx hxg
  ·rw [ca5] at hx; subst hx; exact .inr (hg g hxg)
section
variable {w : World}
mutual
theorem C8.cut : ∀ (e : b5) (S : Nat → Prop) (cs : List Value), C8 w e S cs → C8 w e (fun b => S b ∧ b < w.heap.size) cs
 | ⟨_, _, ks⟩, _, _, ⟨v, xs, S', h1, h2, h3, h4, h5⟩ => ⟨v, xs, fun b => S' b ∧ b < w.heap.size, h1, h2, fun g hg => ⟨⟨(h3 g hg).1, (World.ownsRow.lt h2 g hg).2⟩, fun h => (h3 g hg).2 h.1⟩, fun b hb => ⟨h4 b hb.1, hb.2⟩, o8.cut ks S' xs h5⟩
theorem o8.cut : ∀ (ks : List b5) (S : Nat → Prop) (xs : List Value), o8 w ks S xs → o8 w ks (fun b => S b ∧ b < w.heap.size) xs
 | [], _, _, h => h
 | e :: r, _, _, ⟨c, ys, S1, S2, h1, h2, h3, h4, h5⟩ => ⟨c, ys, fun b => S1 b ∧ b < w.heap.size, fun b => S2 b ∧ b < w.heap.size, h1, fun b hb => ⟨⟨(h2 b hb.1).1, hb.2⟩, fun h => (h2 b hb.1).2 h.1⟩, fun b hb => ⟨h3 b hb.1, hb.2⟩, C8.cut e S1 c h4, o8.cut r S2 ys h5⟩
end
theorem G0.cut {v : Value} {ks : List b5} {S : Nat → Prop} (h : G0 w v ks S) : G0 w v ks (fun b => S b ∧ b < w.heap.size) := by
 obtain ⟨xs, S', h2, h3, h4, h5⟩ := h
 exact ⟨xs, fun b => S' b ∧ b < w.heap.size, h2, fun g hg => ⟨⟨(h3 g hg).1, (World.ownsRow.lt h2 g hg).2⟩, fun h => (h3 g hg).2 h.1⟩, fun b hb => ⟨h4 b hb.1, hb.2⟩, o8.cut ks S' xs h5⟩
mutual
theorem E4.cut : ∀ (s : b6) (S : Nat → Prop) (cs : List Value), E4 w s S cs → E4 w s (fun b => S b ∧ b < w.heap.size) cs
 | ⟨_, _, _, _, _, b, e⟩, _, _, ⟨iv, vv, bv, ev, xb, xe, Si, Sv, Sb, Se, Sb', Se', h1, ⟨d1, d2, d3, d4⟩, h2, h3, ⟨b1, b2, b3, b4⟩, ⟨e1, e2, e3, e4⟩⟩ =>
  ⟨iv, vv, bv, ev, xb, xe, fun b => Si b ∧ b < w.heap.size, fun b => Sv b ∧ b < w.heap.size, fun b => Sb b ∧ b < w.heap.size, fun b => Se b ∧ b < w.heap.size, fun b => Sb' b ∧ b < w.heap.size, fun b => Se' b ∧ b < w.heap.size, h1,
   ⟨fun b hb => ⟨⟨(d1 b hb.1).1, hb.2⟩, fun h => (d1 b hb.1).2.1 h.1, fun h => (d1 b hb.1).2.2.1 h.1, fun h => (d1 b hb.1).2.2.2 h.1⟩, fun b hb => ⟨⟨(d2 b hb.1).1, hb.2⟩, fun h => (d2 b hb.1).2.1 h.1, fun h => (d2 b hb.1).2.2 h.1⟩,
    fun b hb => ⟨⟨(d3 b hb.1).1, hb.2⟩, fun h => (d3 b hb.1).2 h.1⟩, fun b hb => ⟨d4 b hb.1, hb.2⟩⟩, h2.cut, h3.cut,
   ⟨b1, fun g hg => ⟨⟨(b2 g hg).1, (World.ownsRow.lt b1 g hg).2⟩, fun h => (b2 g hg).2 h.1⟩, fun b hb => ⟨b3 b hb.1, hb.2⟩, o3.cut b Sb' xb b4⟩,
   ⟨e1, fun g hg => ⟨⟨(e2 g hg).1, (World.ownsRow.lt e1 g hg).2⟩, fun h => (e2 g hg).2 h.1⟩, fun b hb => ⟨e3 b hb.1, hb.2⟩, o3.cut e Se' xe e4⟩⟩
theorem o3.cut : ∀ (ks : List b6) (S : Nat → Prop) (xs : List Value), o3 w ks S xs → o3 w ks (fun b => S b ∧ b < w.heap.size) xs
 | [], _, _, h => h
 | e :: r, _, _, ⟨c, ys, S1, S2, h1, h2, h3, h4, h5⟩ => ⟨c, ys, fun b => S1 b ∧ b < w.heap.size, fun b => S2 b ∧ b < w.heap.size, h1, fun b hb => ⟨⟨(h2 b hb.1).1, hb.2⟩, fun h => (h2 b hb.1).2 h.1⟩, fun b hb => ⟨h3 b hb.1, hb.2⟩, E4.cut e S1 c h4, o3.cut r S2 ys h5⟩
end
theorem H9.cut {v : Value} {ks : List b6} {S : Nat → Prop} (h : H9 w v ks S) : H9 w v ks (fun b => S b ∧ b < w.heap.size) := by
 obtain ⟨xs, S', h2, h3, h4, h5⟩ := h
 exact ⟨xs, fun b => S' b ∧ b < w.heap.size, h2, fun g hg => ⟨⟨(h3 g hg).1, (World.ownsRow.lt h2 g hg).2⟩, fun h => (h3 g hg).2 h.1⟩, fun b hb => ⟨h4 b hb.1, hb.2⟩, o3.cut ks S' xs h5⟩
end
section
variable {φ ψ : Nat → Prop} {w0 w : World} {L : List X5}
end
structure Tr where
 new : List (Nat × It)
 made : List Nat
 res : AV
 obs : List Prop
def br8 (P : Program) (t : TypeId) (l : List AV) : Option AV :=
 match a02 P t with
 | some true => if T6 P t = some l.length then some (.agg l) else none
 | some false => match l with
  | [x] => some x
  | _ => none
 | none => none
def aG2 (P : Program) (t : TypeId) : Nat := match a02 P t with
 | some true => (T6 P t).getD 0
 | _ => 1
def aW6 (P : Program) (S : Nat → It) (id : Nat) (t : TypeId) : AV → Option Tr
 | .ptr a off => match S a with
  | .box cs => (br8 P t ((cs.drop off).take (aG2 P t))).map fun r => ⟨[], [], r, []⟩
  | _ => none
 | .ea a i j sz => match itD (S a) with
  | some d =>
   if sz = d.sz then
    (br8 P t (xav (((d.elem i).drop j).take (aG2 P t)) id)).map fun r => ⟨R4 (((d.elem i).drop j).take (aG2 P t)) id, (R4 (((d.elem i).drop j).take (aG2 P t)) id).map (·.1), r, [i < d.len]⟩
   else none
  | none => none
 | _ => none
def D.empty : D → D
 | .ints _ => .ints []
 | .bools _ => .bools []
 | .bytes _ => .bytes []
 | .strs _ => .strs []
 | .instrs _ => .instrs []
 | .events _ => .events []
 | .rows _ => .rows []
 | .brows _ => .brows []
 | .exprs _ => .exprs []
 | .stmts _ => .stmts []
def D.putX : D → Nat → List X → Option D
 | .ints l, i, [.v (.int .i64 n)] => some (.ints (l.set i n))
 | .bools l, i, [.v (.bool b)] => some (.bools (l.set i b))
 | .strs l, i, [.v (.string s)] => some (.strs (l.set i s))
 | .instrs l, i, [.v (.int .i64 o), .v (.int .i64 a), .v (.int .i64 b), .v (.int .i64 c), .v (.int .i64 d)] => some (.instrs (l.set i ⟨o, a, b, c, d⟩))
 | .events l, i, [.v (.int .i64 a), .v (.int .i64 b)] => some (.events (l.set i (a, b)))
 | .rows l, i, [.sl (.ints r)] => some (.rows (l.set i r))
 | .brows l, i, [.sl (.bools r)] => some (.brows (l.set i r))
 | .exprs l, i, [.v (.int .i64 a), .v (.int .i64 b), .sl (.exprs x)] => some (.exprs (l.set i ⟨a, b, x⟩))
 | .stmts l, i, [.v (.int .i64 a), .v (.int .i64 b), .v (.int .i64 c), .v (.int .i64 d), .sl (.exprs x), .v (.int .i64 e), .v (.int .i64 f), .sl (.exprs y), .v (.int .i64 g), .sl (.stmts z), .sl (.stmts u)] => some (.stmts (l.set i ⟨a, b, ⟨c, d, x⟩, ⟨e, f, y⟩, g, z, u⟩))
 | _, _, _ => none
def ac9 (S : Nat → It) : List X → List AV → Option (List X)
 | [], [] => some []
 | .v _ :: r, .v x :: s => (ac9 S r s).map (.v x :: ·)
 | .sl d0 :: r, y :: s => match y with
  | .ref id => match S id with
   | .dat d => (ac9 S r s).map (.sl d :: ·)
   | _ => none
  | .v (.slice none 0 0) => (ac9 S r s).map (.sl d0.empty :: ·)
  | _ => none
 | _, _ => none
def b5.putI (e : b5) (n : Int) : Nat → Option b5
 | 0 => some ⟨n, e.value, e.kids⟩
 | 1 => some ⟨e.kind, n, e.kids⟩
 | _ => none
def b6.putI (s : b6) (n : Int) : Nat → Option b6
 | 0 => some ⟨n, s.target, s.index, s.value, s.count, s.body, s.els⟩
 | 1 => some ⟨s.kind, n, s.index, s.value, s.count, s.body, s.els⟩
 | 2 => some ⟨s.kind, s.target, ⟨n, s.index.value, s.index.kids⟩, s.value, s.count, s.body, s.els⟩
 | 3 => some ⟨s.kind, s.target, ⟨s.index.kind, n, s.index.kids⟩, s.value, s.count, s.body, s.els⟩
 | 5 => some ⟨s.kind, s.target, s.index, ⟨n, s.value.value, s.value.kids⟩, s.count, s.body, s.els⟩
 | 6 => some ⟨s.kind, s.target, s.index, ⟨s.value.kind, n, s.value.kids⟩, s.count, s.body, s.els⟩
 | 8 => some ⟨s.kind, s.target, s.index, s.value, n, s.body, s.els⟩
 | _ => none
def D.putI (i j : Nat) (n : Int) : D → Option D
 | .exprs l => ((l.getD i b85).putI n j).map fun e => .exprs (l.set i e)
 | .stmts l => ((l.getD i b85).putI n j).map fun s => .stmts (l.set i s)
 | _ => none
def aa5 (P : Program) (S : Nat → It) (t : TypeId) (v : AV) : AV → Option Tr
 | .ptr a off => match S a with
  | .box cs => if aA6 S v && decide (T6 P t = some v.cells.length) && decide (off + v.cells.length ≤ cs.length) then some ⟨[(a, .box (ao8 cs off v.cells))], [], .v undef, []⟩ else none
  | _ => none
 | .ea a i j sz => match S a with
  | .row e d => if aA6 S v && decide (T6 P t = some v.cells.length) && decide (sz = d.sz) && decide (j + v.cells.length ≤ d.sz) then
    match ac9 S (((d.elem i).drop j).take v.cells.length) v.cells with
    | some xs => (d.putX i (ao8 (d.elem i) j xs)).map fun d' => ⟨[(a, .row e d')], [], .v undef, [i < d.len]⟩
    | none => none
   else none
  | .tree d => match v with
   | .v (.int .i64 n) => if decide (T6 P t = some 1) && decide (sz = d.sz) then (d.putI i j n).map fun d' => ⟨[(a, .tree d')], [], .v undef, [i < d.len]⟩ else none
   | _ => none
  | _ => none
 | _ => none
def bb6 (S : Nat → It) (id : Nat) (v : AV) : Option Tr :=
 if aA6 S v then some ⟨[(id, .box v.cells)], [id], .ptr id 0, []⟩ else none
section
variable {P : Program} {ι : Type} {φ ψ : Nat → Prop} {w0 w w' : World} {F : ι → Rs} {ρ : Nat → Value} {S : Nat → It}
def I9 (φ ψ : Nat → Prop) (w0 : World) (F : ι → Rs) (ρ : Nat → Value) (S : Nat → It) (t : Tr) (v : Value) (w' : World) : Prop :=
 ∃ ρ', C0 t.made ρ ρ' ∧ m5 φ ψ w0 w' (p7 F ρ' (o7 S t.new)) ∧ v = t.res.val ρ'
theorem ay9 {t : TypeId} {l : List AV} {r : AV} (h : br8 P t l = some r) (a : Addr) (hc : ∀ j u, (AV.vals ρ l)[j]? = some u → w.cell? (a.add j) = some u) : (loadVar t a).run P w = .ok (r.val ρ) w := by
 unfold br8 at h
 unfold loadVar
 split at h
 ·rename_i ha
  split at h
  ·rename_i hs
   cases h
   have hl : l.length = (AV.vals ρ l).length := (AV.vals_length ρ l).symm
   have := run_loadCells_list (P := P) (w := w) a (AV.vals ρ l) hc
   rw [AV.vals_length] at this
   simp [ak4 ha, D4 hs, this, AV.val]
  ·cases h
 ·rename_i ha
  split at h <;> first | cases h | skip
  rename_i x
  have h0 := hc 0 (r.val ρ) (by simp [AV.vals])
  have e : a.add 0 = a := by simp [Addr.add]
  rw [e] at h0
  simp [ak4 ha, h0]
 ·cases h
theorem bQ5 {d : D} {φ : Nat → Prop} {b off i : Nat} (h : ∀ j x, (d.elem i)[j]? = some x → ∃ u, w.cell? ⟨b, off + (i * d.sz + j), none⟩ = some u ∧ XH w φ x u) : ∀ (n j : Nat), ∃ us, XHs w φ (((d.elem i).drop j).take n) us ∧ ∀ k u, us[k]? = some u → w.cell? ⟨b, off + (i * d.sz + (j + k)), none⟩ = some u := by
 intro n
 induction n with
 | zero => intro j; exact ⟨[], by simp [XHs], by simp⟩
 | succ n ih =>
  intro j
  cases hx : (d.elem i)[j]? with
  | none =>
   have hl : (d.elem i).drop j = [] := by
    rw [List.drop_eq_nil_iff]; exact List.getElem?_eq_none_iff.1 hx
   exact ⟨[], by simp [hl, XHs], by simp⟩
  | some x =>
   obtain ⟨u, h1, h2⟩ := h j x hx
   obtain ⟨us, h3, h4⟩ := ih (j + 1)
   have hl := (b98.1 hx)
   refine ⟨u :: us, ?_, fun k u' hk => ?_⟩
   ·rw [List.drop_eq_getElem_cons hl.1, List.take_succ_cons, hl.2]
    exact ⟨h2, h3⟩
   ·cases k with
    | zero => simp at hk; subst hk; exact h1
    | succ k =>
     have := h4 k u' (by simpa using hk)
     rw [show j + (k + 1) = j + 1 + k by omega]; exact this
theorem bI6 (M : m5 φ ψ w0 w (p7 F ρ S)) {o : Oper} {g : Operand → Value} {t : TypeId} {x : Operand} (hop : o.op = .load t x) {av : AV} (hx : g x = av.val ρ) {id : Nat} {r : Tr} (h : aW6 P S id t av = some r) (ho : t8 r.obs) (hmk : ∀ j ∈ r.made, S j = .none) (hi : Inv S ρ r.made) :
  K4 P o g w (I9 φ ψ w0 F ρ S r) := by
 cases av <;> simp only [aW6] at h <;> first | cases h | skip
 ·rename_i a off
  split at h <;> first | cases h | skip
  rename_i cs hS
  obtain ⟨v, h1, h2⟩ := b92.1 h
  cases h2
  refine .inl ⟨v.val ρ, w, ?_, ρ, C0.refl _ _, M, rfl⟩
  have hb := M.boxAt hS
  have hl := ay9 (P := P) (ρ := ρ) (w := w) h1 ⟨T3 (ρ a), off, none⟩ (fun j u hj => by
   rw [AV.vals_take, AV.vals_drop] at hj
   have hadd : (⟨T3 (ρ a), off, none⟩ : Addr).add j = ⟨T3 (ρ a), off + j, none⟩ := by unfold Addr.add; split <;> simp_all
   rw [hadd, hb.cell]
   rw [List.getElem?_take] at hj
   split at hj
   ·rw [List.getElem?_drop] at hj; exact hj
   ·cases hj)
  simp [execOp, hop, hx, AV.val, Instr.loadAt, Instr.sureAddr, hl]
 ·rename_i a i j sz
  split at h <;> first | cases h | skip
  rename_i d hd
  split at h <;> first | cases h | skip
  rename_i hsz
  subst hsz
  obtain ⟨v, h1, h2⟩ := b92.1 h
  cases h2
  simp only [t8] at ho
  obtain ⟨aa, cap, hr, _, _, hc⟩ := M.sliceAt hd
  obtain ⟨b, off, rfl, hcc⟩ := hc i ho.1
  obtain ⟨us, k1, k2⟩ := bQ5 hcc (aG2 P t) j
  obtain ⟨ρ', m1, m2, m3⟩ := M.dats _ us id k1 hmk hi
  refine .inl ⟨v.val ρ', w, ?_, ρ', m1, m2, rfl⟩
  have hl := ay9 (P := P) (ρ := ρ') (w := w) h1 ⟨b, off + (i * d.sz + j), none⟩ (fun k u hk => by
   rw [← m3] at hk
   have hadd : (⟨b, off + (i * d.sz + j), none⟩ : Addr).add k = ⟨b, off + (i * d.sz + (j + k)), none⟩ := by unfold Addr.add; split <;> simp_all [Nat.add_assoc]
   rw [hadd]; exact k2 k u hk)
  simp [execOp, hop, hx, AV.val, Instr.loadAt, Instr.sureAddr, hr, E7, aK5, hl]
theorem B8.setRow' {w : World} {b : Nat} {cs cs' : List Value} {T : TypeId} (_h : w.heap[b]? = some (.cells cs.toArray T (0, 0))) : B8 (fun c => ¬ c = b) w (w.setRow b cs'.toArray) ∧ Blk (w.setRow b cs'.toArray) b cs' :=
 ⟨⟨rfl, rfl, rfl, by simp, fun c _ hc => setRow_other _ _ _ _ hc⟩, T, setRow_heap _ _ _ _ _ _ _h⟩
theorem aH4 {α : Type} : ∀ (us ys : List α) (p q : Nat), p + us.length ≤ ys.length → (ao8 ys p us)[q]? = if p ≤ q ∧ q < p + us.length then us[q - p]? else ys[q]?
 | [], ys, p, q, _ => by simp [ao8]; intro h1 h2; omega
 | u :: r, ys, p, q, h => by
  simp only [b87] at h
  simp only [ao8]
  rw [aH4 r _ _ _ (by simp; omega)]
  by_cases h1 : p + 1 ≤ q ∧ q < p + 1 + r.length
  ·rw [if_pos h1, if_pos (by simp; omega)]
   rw [show q - p = (q - (p + 1)) + 1 by omega]; simp
  ·rw [if_neg h1]
   by_cases h2 : q = p
   ·subst h2
    rw [if_pos (by simp)]
    rw [List.getElem?_set_self (by omega)]; simp
   ·rw [if_neg (by simp; omega), List.getElem?_set_ne (by omega)]
theorem aP1 : ∀ (us ys : List Value) (p : Nat), setFrom ys p us = ao8 ys p us
 | [], _, _ => rfl
 | u :: r, ys, p => by simp only [setFrom, ao8]; exact aP1 r _ _
theorem ah3 : ∀ (us ys : List Value) (p k : Nat), (setFrom ys p us).take k = setFrom (ys.take k) p us
 | [], _, _, _ => rfl
 | u :: r, ys, p, k => by simp only [setFrom]; rw [ah3 r, List.take_set]
theorem N5 {α : Type} (f : α → List X) {l : List α} {i : Nat} {y z : α} {xs : List X} (h : f y = xs) : (i < l.length → f ((l.set i y).getD i z) = xs) ∧ ∀ k, k ≠ i → f ((l.set i y).getD k z) = f (l.getD k z) :=
 ⟨fun hi => by rw [b91, List.getElem?_set_self hi]; exact h, fun k hk => by rw [b91, List.getElem?_set_ne fun e => hk e.symm, ← b91]⟩
theorem D.putX_ok {d d' : D} {i : Nat} {xs : List X} (h : d.putX i xs = some d') : d'.len = d.len ∧ d'.sz = d.sz ∧ (i < d.len → d'.elem i = xs) ∧ ∀ k, k ≠ i → d'.elem k = d.elem k := by
 unfold D.putX at h
 split at h <;> first | cases h | skip
 ·exact ⟨by simp [D.len], rfl, N5 (fun n => [X.v (.int .i64 n)]) rfl⟩
 ·exact ⟨by simp [D.len], rfl, N5 (fun n => [X.v (.bool n)]) rfl⟩
 ·exact ⟨by simp [D.len], rfl, N5 (fun n => [X.v (.string n)]) rfl⟩
 ·exact ⟨by simp [D.len], rfl, N5 bc4 rfl⟩
 ·exact ⟨by simp [D.len], rfl, N5 aq2 rfl⟩
 ·exact ⟨by simp [D.len], rfl, N5 (fun r => [X.sl (.ints r)]) rfl⟩
 ·exact ⟨by simp [D.len], rfl, N5 (fun r => [X.sl (.bools r)]) rfl⟩
 ·exact ⟨by simp [D.len], rfl, N5 aK2 rfl⟩
 ·exact ⟨by simp [D.len], rfl, N5 aG6 rfl⟩
theorem D.empty_len (d : D) : d.empty.len = 0 := by cases d <;> rfl
theorem RD.empty (w : World) (φ : Nat → Prop) (d : D) : RD w φ d.empty (.slice none 0 0) := by
 refine RD.make (xs := []) ?_ fun i hi => by rw [D.empty_len] at hi; omega
 rw [D.empty_len]; exact z9.nil _ _ _
theorem aB9 (M : m5 φ ψ w0 w (p7 F ρ S)) : ∀ {old : List X} {l : List AV} {xs : List X}, ac9 S old l = some xs → XHs w (FrF φ (p7 F ρ S)) xs (AV.vals ρ l)
 | [], [], xs, h => by simp only [ac9, Option.some.injEq] at h; subst h; trivial
 | .v y :: r, .v x :: s, xs, h => by
  simp only [ac9, b92] at h
  obtain ⟨ys, h1, rfl⟩ := h
  exact ⟨rfl, aB9 M h1⟩
 | .sl d0 :: r, y :: s, xs, h => by
  simp only [ac9] at h
  split at h
  ·split at h <;> first | cases h | skip
   rename_i id _ d hS
   obtain ⟨ys, h1, rfl⟩ := b92.1 h
   exact ⟨M.datAt hS, aB9 M h1⟩
  ·obtain ⟨ys, h1, rfl⟩ := b92.1 h
   exact ⟨RD.empty _ _ _, aB9 M h1⟩
  ·cases h
 | [], _ :: _, xs, h => by simp [ac9] at h
 | .v _ :: _, [], xs, h => by simp [ac9] at h
 | .sl _ :: _, [], xs, h => by simp [ac9] at h
 | .v _ :: _, .ptr _ _ :: _, xs, h => by simp [ac9] at h
 | .v _ :: _, .ea _ _ _ _ :: _, xs, h => by simp [ac9] at h
 | .v _ :: _, .ref _ :: _, xs, h => by simp [ac9] at h
 | .v _ :: _, .agg _ :: _, xs, h => by simp [ac9] at h
 | .v _ :: _, .tup _ :: _, xs, h => by simp [ac9] at h
 | .v _ :: _, .fn _ _ :: _, xs, h => by simp [ac9] at h
 | .v _ :: _, .bm _ _ :: _, xs, h => by simp [ac9] at h
 | .v _ :: _, .tref _ :: _, xs, h => by simp [ac9] at h
theorem XHs.get {φ : Nat → Prop} : ∀ {xs : List X} {us : List Value}, XHs w φ xs us → xs.length = us.length ∧ ∀ (j : Nat) x, xs[j]? = some x → ∃ u, us[j]? = some u ∧ XH w φ x u
 | [], [], _ => ⟨rfl, fun j x h => by simp at h⟩
 | x :: r, u :: s, h => by
  obtain ⟨h1, h2⟩ := XHs.get h.2
  refine ⟨by simp [h1], fun j y hj => ?_⟩
  cases j with
  | zero => simp at hj; subst hj; exact ⟨u, rfl, h.1⟩
  | succ j => simpa using h2 j y (by simpa using hj)
 | [], _ :: _, h => h.elim
 | _ :: _, [], h => by cases h
theorem RW.put {φ : Nat → Prop} {d d' : D} {xs us : List Value} {i j : Nat} {ys : List X} (hx : RW w φ d xs) (hl : xs.length = d.len * d.sz) (hi : i < d.len) (hj : j + us.length ≤ d.sz) (hy : XHs w φ ys us) (h : d.putX i (ao8 (d.elem i) j ys) = some d') : RW w φ d' (setFrom xs (i * d.sz + j) us) := by
 obtain ⟨h1, h2, h3, h4⟩ := D.putX_ok h
 obtain ⟨g1, g2⟩ := hy.get
 have hfit : i * d.sz + j + us.length ≤ xs.length := by
  have : (i + 1) * d.sz ≤ d.len * d.sz := cc2 _ hi
  rw [cb8] at this
  omega
 intro k hk q x hq
 rw [aP1, h2, aH4 _ _ _ _ hfit]
 by_cases e : k = i
 ·subst e
  rw [h3 hi, aH4 _ _ _ _ (by rw [D.elem_len, g1]; exact hj)] at hq
  by_cases hr : j ≤ q ∧ q < j + ys.length
  ·rw [if_pos hr] at hq
   rw [if_pos (by omega)]
   obtain ⟨u, k1, k2⟩ := g2 _ x hq
   exact ⟨u, by rw [show k * d.sz + q - (k * d.sz + j) = q - j by omega]; exact k1, k2⟩
  ·rw [if_neg hr] at hq
   rw [if_neg (by omega)]
   exact hx k hi q x hq
 ·rw [h4 k e] at hq
  have hqs : q < d.sz := by rw [← D.elem_len d k]; exact (b98.1 hq).1
  rw [if_neg]
  ·exact hx k (by omega) q x hq
  ·rintro ⟨a1, a2⟩
   rcases Nat.lt_or_gt_of_ne e with h | h
   ·have : (k + 1) * d.sz ≤ i * d.sz := cc2 _ h
    rw [cb8] at this; omega
   ·have : (i + 1) * d.sz ≤ k * d.sz := cc2 _ h
    rw [cb8] at this; omega
theorem b5.putI_ok {w : World} {e e' : b5} {n : Int} {j : Nat} {S : Nat → Prop} {c : List Value} (h : e.putI n j = some e') (hO : C8 w e S c) : j < 3 ∧ C8 w e' S (c.set j (.int .i64 n)) := by
 obtain ⟨kv, rfl, hk⟩ := (C8.iff _ _ _).1 hO
 unfold b5.putI at h
 split at h <;> first | cases h | skip
 ·exact ⟨by omega, (C8.iff _ _ _).2 ⟨kv, rfl, hk⟩⟩
 ·exact ⟨by omega, (C8.iff _ _ _).2 ⟨kv, rfl, hk⟩⟩
theorem b6.putI_ok {w : World} {s s' : b6} {n : Int} {j : Nat} {S : Nat → Prop} {c : List Value} (h : s.putI n j = some s') (hO : E4 w s S c) : j < 11 ∧ E4 w s' S (c.set j (.int .i64 n)) := by
 obtain ⟨iv, vv, bv, ev, Si, Sv, Sb, Se, rfl, hd, h1, h2, h3, h4⟩ := (E4.iff _ _ _).1 hO
 unfold b6.putI at h
 split at h <;> first | cases h | skip
 all_goals exact ⟨by omega, (E4.iff _ _ _).2 ⟨iv, vv, bv, ev, Si, Sv, Sb, Se, rfl, hd, h1, h2, h3, h4⟩⟩
theorem N7.putI {w w' : World} {d d' : D} {i j : Nat} {n : Int} {S : Nat → Prop} {xs : List Value} (hp : d.putI i j n = some d') (hi : i < d.len) (hxl : xs.length = d.len * d.sz) (h : N7 w d S xs) (hs : ∀ b, S b → b < w.heap.size → w'.heap[b]? = w.heap[b]?) : d'.len = d.len ∧ d'.sz = d.sz ∧ am7 d' = am7 d ∧ j < d.sz ∧ N7 w' d' S (xs.set (i * d.sz + j) (.int .i64 n)) := by
 unfold D.putI at hp
 split at hp <;> first | cases hp | skip
 ·rename_i l
  obtain ⟨e', h1, h2⟩ := b92.1 hp
  cases h2
  have hi' : i < l.length := hi
  have hx := o8.same _ _ _ (show o8 w l S xs from h) hs
  obtain ⟨c, Sc, k1, k2, k3, k4⟩ := o8.focus hx i hi'
  rw [n6 hi'] at h1
  obtain ⟨p1, p2⟩ := b5.putI_ok h1 k1
  have hl := k1.len
  have hlen : xs.length = l.length * 3 := hxl
  refine ⟨by simp [D.len], rfl, rfl, p1, ?_⟩
  have := k4 w' e' _ (fun b _ _ _ => rfl) p2
  have hfit : i * 3 + 3 ≤ xs.length := by
   have : (i + 1) * 3 ≤ l.length * 3 := cc2 _ hi'
   rw [cb8] at this; omega
  have e : setFrom xs (i * 3) (c.set j (.int .i64 n)) = xs.set (i * 3 + j) (.int .i64 n) := by
   rw [← az8 _ (by rw [hl]; exact hfit) (by rw [hl]; exact p1), as7 (by rw [hl]; exact hfit) (fun q hq => k3 q (by rw [hl] at hq; exact hq))]
  rw [e] at this
  exact this
 ·rename_i l
  obtain ⟨e', h1, h2⟩ := b92.1 hp
  cases h2
  have hi' : i < l.length := hi
  have hx := o3.same _ _ _ (show o3 w l S xs from h) hs
  obtain ⟨c, Sc, k1, k2, k3, k4⟩ := o3.focus hx i hi'
  rw [n6 hi'] at h1
  obtain ⟨p1, p2⟩ := b6.putI_ok h1 k1
  have hl := k1.len
  have hlen : xs.length = l.length * 11 := hxl
  refine ⟨by simp [D.len], rfl, rfl, p1, ?_⟩
  have := k4 w' e' _ (fun b _ _ _ => rfl) p2
  have hfit : i * 11 + 11 ≤ xs.length := by
   have : (i + 1) * 11 ≤ l.length * 11 := cc2 _ hi'
   rw [cb8] at this; omega
  have e : setFrom xs (i * 11) (c.set j (.int .i64 n)) = xs.set (i * 11 + j) (.int .i64 n) := by
   rw [← az8 _ (by rw [hl]; exact hfit) (by rw [hl]; exact p1), as7 (by rw [hl]; exact hfit) (fun q hq => k3 q (by rw [hl] at hq; exact hq))]
  rw [e] at this
  exact this
theorem aT5 (M : m5 φ ψ w0 w (p7 F ρ S)) {o : Oper} {g : Operand → Value} {t : TypeId} {x y : Operand} (hop : o.op = .store t x y) {a i j : Nat} {n : Int} {d d' : D} (hx : g x = (AV.ea a i j d.sz).val ρ) (hy : g y = (AV.v (.int .i64 n)).val ρ) (k2 : T6 P t = some 1) (hS : S a = .tree d) (hd' : d.putI i j n = some d') (hi : i < d.len) :
  K4 P o g w (I9 φ ψ w0 F ρ S ⟨[(a, .tree d')], [], .v undef, [i < d.len]⟩) := by
 obtain ⟨hT, hlt⟩ := M.treeAt (id := a) (d := d) (by rw [hS]; rfl)
 obtain ⟨e, xs, S', h0, h1, h2, h3, h4⟩ := hT
 have hown := h1
 obtain ⟨hxl, hform⟩ := hown
 rcases hform with ⟨_, hn⟩ | ⟨b, cap, cur, hv, _, hb, hcap, hmax, hcs, htk⟩
 ·omega
 have hbS : H8 (ρ a) b ∧ ¬ S' b := h2 b (by rw [hv]; rfl)
 obtain ⟨q1, q2, q3, q4, -⟩ := N7.putI hd' hi hxl h4 fun _ _ _ => rfl
 have hfit : i * d.sz + j + 1 ≤ d.len * d.sz := by
  have : (i + 1) * d.sz ≤ d.len * d.sz := cc2 _ hi
  rw [cb8] at this
  omega
 have hcapsz : d.len * d.sz ≤ cap * d.sz := cc2 _ hcap
 have hcur : i * d.sz + j + 1 ≤ cur.toList.length := by
  have hc2 : cur.toList.length = cap * d.sz := by rw [Array.length_toList]; exact hcs
  omega
 have hst := run_storeCells_at (P := P) b (i * d.sz + j) e [.int .i64 n] 0 cur w hb (by simpa using hcur) (fun u hu => by rw [ca5.1 hu]; rfl)
 simp only [Nat.add_zero] at hst
 rw [← V7 _ _ _ (by simpa using hcur)] at hst
 have hrun : (execOp g o).run P w = .ok .skip (w.setRow b (setFrom cur.toList (i * d.sz + j) [.int .i64 n]).toArray) := by
  simp only [AV.val] at hx hy
  simp [execOp, hop, hx, hy, Instr.storeAt, Instr.sureAddr, storeVar, Value.cells, D4 k2, hv, aK5]
  rw [hst]; rfl
 have hk : B8 (fun c => ¬ ((S a).res ρ a).blk c) w (w.setRow b (setFrom cur.toList (i * d.sz + j) [.int .i64 n]).toArray) :=
  ⟨rfl, rfl, rfl, by simp, fun c _ hc => setRow_other _ _ _ _ fun e => hc (by rw [hS, e]; exact hbS.1)⟩
 have M1 : m5 φ ψ w0 (w.setRow b (setFrom cur.toList (i * d.sz + j) [.int .i64 n]).toArray) (p7 F ρ (o7 S [(a, .tree d')])) := by
  refine M.one a _ [] (fun ρ' h j => by rw [show ρ' = ρ from funext fun k => h k (by simp)]) (C0.refl _ _) hk (fun c hc => .inl (by rw [hS]; exact hc)) ?_
  simp only [It.res]
  refine ⟨fun _ _ h hs => h.same hs, ⟨e, setFrom xs (i * d.sz + j) [.int .i64 n], S', by rw [q3, h0], ?_, h2, h3, ?_⟩, fun c hc => by simpa using hlt c hc⟩
  ·rw [q1, q2]
   refine ⟨by rw [J2, hxl], .inr ⟨b, cap, (setFrom cur.toList (i * d.sz + j) [.int .i64 n]).toArray, hv, cc1 _, setRow_heap _ _ _ _ _ _ hb, hcap, hmax, ?_, ?_⟩⟩
   ·simp [J2, hcs]
   ·rw [← htk]; exact ah3 _ _ _ _
  ·exact (N7.putI hd' hi hxl h4 fun c hc _ => setRow_other _ _ _ _ fun e => hbS.2 (by rw [← e]; exact hc)).2.2.2.2
 exact .inr (.inl ⟨_, hrun, ρ, C0.refl _ _, M1, rfl⟩)
theorem a05 (M : m5 φ ψ w0 w (p7 F ρ S)) {o : Oper} {g : Operand → Value} {t : TypeId} {x y : Operand} (hop : o.op = .store t x y) {a i j sz : Nat} {vv : AV} (hx : g x = (AV.ea a i j sz).val ρ) (hy : g y = vv.val ρ) {r : Tr} (h : aa5 P S t vv (.ea a i j sz) = some r) (ho : t8 r.obs) :
  K4 P o g w (I9 φ ψ w0 F ρ S r) := by
 simp only [aa5] at h
 split at h <;> first | cases h | skip
 case h_2 d hS =>
  split at h <;> first | cases h | skip
  rename_i n
  split at h
  case isFalse => cases h
  rename_i hc
  simp only [b86, decide_eq_true_eq] at hc
  obtain ⟨k2, rfl⟩ := hc
  obtain ⟨d', hd', hr⟩ := b92.1 h
  subst hr
  simp only [t8] at ho
  exact aT5 M hop hx hy k2 hS hd' ho.1
 rename_i e d hS
 split at h
 case isFalse => cases h
 rename_i hc
 simp only [b86, decide_eq_true_eq] at hc
 obtain ⟨⟨⟨k1, k2⟩, rfl⟩, k3⟩ := hc
 split at h <;> first | cases h | skip
 rename_i ys hys
 obtain ⟨d', hd', hr⟩ := b92.1 h
 subst hr
 simp only [t8] at ho
 have hi := ho.1
 obtain ⟨c1, c2⟩ := V8 M k1
 obtain ⟨xs, hown, hRW⟩ := M.rowAt hS
 have hXs := aB9 M hys
 obtain ⟨p1, p2, p3, p4⟩ := D.putX_ok hd'
 have hul : (AV.vals ρ vv.cells).length = vv.cells.length := AV.vals_length _ _
 have hsz : 0 < d.sz := by cases d <;> simp [D.sz]
 obtain ⟨hxl, hform⟩ := hown
 rcases hform with ⟨_, hn⟩ | ⟨b, cap, cur, hv, _, hb, hcap, hmax, hcs, htk⟩
 ·omega
 have hfit : i * d.sz + j + (AV.vals ρ vv.cells).length ≤ d.len * d.sz := by
  have : (i + 1) * d.sz ≤ d.len * d.sz := cc2 _ hi
  rw [cb8] at this
  omega
 have hcapsz : d.len * d.sz ≤ cap * d.sz := cc2 _ hcap
 have hcur : i * d.sz + j + (AV.vals ρ vv.cells).length ≤ cur.toList.length := by
  have hc2 : cur.toList.length = cap * d.sz := by rw [Array.length_toList]; exact hcs
  omega
 have hst := run_storeCells_at (P := P) b (i * d.sz + j) e (AV.vals ρ vv.cells) 0 cur w hb (by simpa using hcur) c2
 simp only [Nat.add_zero] at hst
 rw [← V7 _ _ _ hcur] at hst
 have hrun : (execOp g o).run P w = .ok .skip (w.setRow b (setFrom cur.toList (i * d.sz + j) (AV.vals ρ vv.cells)).toArray) := by
  simp [execOp, hop, hx, hy, AV.val, Instr.storeAt, Instr.sureAddr, storeVar, c1, D4 k2, AV.vals_length, hv, E7, aK5]
  rw [hst]; rfl
 have hblk : ∀ c, ((S a).res ρ a).blk c ↔ c = b := fun c => by
  rw [hS]; simp only [It.res, Rs.blk, hv, Value.ownBlock, Option.some.injEq]; exact ⟨fun h => h.symm, fun h => h.symm⟩
 have hk : B8 (fun c => ¬ ((S a).res ρ a).blk c) w (w.setRow b (setFrom cur.toList (i * d.sz + j) (AV.vals ρ vv.cells)).toArray) :=
  ⟨rfl, rfl, rfl, by simp, fun c _ hc => setRow_other _ _ _ _ fun e => hc ((hblk c).2 e)⟩
 have hfr : ∀ c, FrF φ (p7 F ρ S) c → FrF φ (p7 F ρ (o7 S [(a, .row e d')])) c := fun c hc => ⟨hc.1, fun k hk' => by
  cases k with
  | inl i => exact hc.2 (.inl i) hk'
  | inr q =>
   by_cases eq : q = a
   ·subst eq
    simp only [p7, o7, if_true] at hk'
    refine hc.2 (.inr q) ?_
    simp only [p7]
    rw [hS]; exact hk'
   ·simp only [p7, o7, if_neg eq] at hk'
    exact hc.2 (.inr q) hk'⟩
 have M1 : m5 φ ψ w0 (w.setRow b (setFrom cur.toList (i * d.sz + j) (AV.vals ρ vv.cells)).toArray) (p7 F ρ (o7 S [(a, .row e d')])) := by
  refine M.one a _ [] (fun ρ' h j => by rw [show ρ' = ρ from funext fun k => h k (by simp)]) (C0.refl _ _) hk (fun c hc => .inl (by rw [hS]; exact hc)) ?_
  simp only [It.res]
  refine ⟨fun xs => RW.nice d' xs, setFrom xs (i * d.sz + j) (AV.vals ρ vv.cells), ?_, ?_⟩
  ·rw [p1, p2]
   refine ⟨by rw [J2, hxl], .inr ⟨b, cap, (setFrom cur.toList (i * d.sz + j) (AV.vals ρ vv.cells)).toArray, hv, cc1 _, setRow_heap _ _ _ _ _ _ hb, hcap, hmax, ?_, ?_⟩⟩
   ·simp [J2, hcs]
   ·rw [← htk]; exact ah3 _ _ _ _
  ·refine RW.nice d' _ _ _ _ _ ⟨hk.size, fun c hc hf => ⟨hfr c hf, hk.block c hc fun he => hf.2 (.inr a) he⟩⟩ ?_
   exact RW.put hRW hxl hi (by rw [hul]; exact k3) hXs hd'
 exact .inr (.inl ⟨_, hrun, ρ, C0.refl _ _, M1, rfl⟩)
theorem bt8 (M : m5 φ ψ w0 w (p7 F ρ S)) {o : Oper} {g : Operand → Value} {t : TypeId} {x y : Operand} (hop : o.op = .store t x y) {av vv : AV} (hx : g x = av.val ρ) (hy : g y = vv.val ρ) {r : Tr} (h : aa5 P S t vv av = some r) (ho : t8 r.obs) :
  K4 P o g w (I9 φ ψ w0 F ρ S r) := by
 cases av
 case ea a i j sz => exact a05 M hop hx hy h ho
 all_goals (simp only [aa5] at h)
 all_goals first | cases h | skip
 rename_i a off
 split at h <;> first | cases h | skip
 rename_i cs hS
 split at h
 case isFalse => cases h
 rename_i hc
 simp only [b86, decide_eq_true_eq] at hc
 obtain ⟨⟨k1, k2⟩, k3⟩ := hc
 cases h
 obtain ⟨c1, c2⟩ := V8 M k1
 obtain ⟨T, hb⟩ := M.boxAt hS
 have hst := run_storeCells_at (P := P) (T3 (ρ a)) off T (AV.vals ρ vv.cells) 0 _ w hb (by simp [AV.vals_length]; omega) c2
 obtain ⟨q1, q2⟩ := B8.setRow' (cs' := setFrom (AV.vals ρ cs) off (AV.vals ρ vv.cells)) hb
 simp only [Nat.add_zero] at hst
 rw [← V7 _ _ _ (by simp [AV.vals_length]; omega)] at hst
 have hrun : (execOp g o).run P w = .ok .skip (w.setRow (T3 (ρ a)) (setFrom (AV.vals ρ cs) off (AV.vals ρ vv.cells)).toArray) := by
  simp [execOp, hop, hx, hy, AV.val, Instr.storeAt, Instr.sureAddr, storeVar, c1, D4 k2, AV.vals_length]
  rw [hst]; rfl
 have M1 : m5 φ ψ w0 (w.setRow (T3 (ρ a)) (setFrom (AV.vals ρ cs) off (AV.vals ρ vv.cells)).toArray) (p7 F ρ (o7 S [(a, .box (ao8 cs off vv.cells))])) :=
  M.one a _ [] (fun ρ' h j => by rw [show ρ' = ρ from funext fun k => h k (by simp)]) (C0.refl _ _) (by rw [hS]; exact q1) (fun g hg => .inl (by rw [hS]; exact hg)) (by simp only [It.res, AV.vals_setL]; exact q2)
 exact .inr (.inl ⟨_, hrun, ρ, C0.refl _ _, M1, rfl⟩)
theorem bS9 (M : m5 φ ψ w0 w (p7 F ρ S)) {o : Oper} {g : Operand → Value} {t : TypeId} {vv : AV} {v : Value} (hop : (execOp g o).run P w = .ok (.value (.pointer (some ⟨w.heap.size, 0, none⟩))) (w.alloc (.cells v.cells t))) (hv : v = vv.val ρ) {id : Nat} {r : Tr} (h : bb6 S id vv = some r) (hmk : ∀ j ∈ r.made, S j = .none) (hi : Inv S ρ r.made) :
  K4 P o g w (I9 φ ψ w0 F ρ S r) := by
 unfold bb6 at h
 split at h
 case isFalse => cases h
 rename_i hc
 cases h
 obtain ⟨c1, _⟩ := V8 M hc
 have hS : S id = .none := hmk id (by simp)
 have ha : C0 [id] ρ (fun j => if j = id then .pointer (some ⟨w.heap.size, 0, none⟩) else ρ j) := fun j hj => by
  have : j ≠ id := by simpa using hj
  simp [this]
 refine .inl ⟨_, _, hop, _, ha, M.one id _ [id] hi ha (B8.any ((Below.refl _ _).alloc (b99 _) _)) (fun g hg => ?_) ?_, ?_⟩
 ·simp only [It.res, if_true, T3] at hg
  exact .inr (by rw [show g = w.heap.size from hg]; exact b99 _)
 ·simp only [It.res, if_true, T3, Rs.holds]
  have e : AV.vals (fun j => if j = id then .pointer (some ⟨w.heap.size, 0, none⟩) else ρ j) vv.cells = AV.vals ρ vv.cells := AV.vals_congr _ fun k hk => by
   have : k ≠ id := fun e => bx8 hS hc (e ▸ hk)
   simp [this]
  rw [e, hv, c1]
  exact Blk.new _ _ _
 ·simp [AV.val, T3]
end
def D.nil : Nat → Option D
 | 1 => some (.ints [])
 | 2 => some (.bools [])
 | 3 => some (.bytes [])
 | 4 => some (.strs [])
 | 5 => some (.instrs [])
 | 6 => some (.events [])
 | 7 => some (.rows [])
 | 8 => some (.brows [])
 | 9 => some (.exprs [])
 | 10 => some (.stmts [])
 | _ => none
theorem D.nil_len {k : Nat} {d : D} (h : D.nil k = some d) : d.len = 0 := by
 unfold D.nil at h
 split at h <;> first | (cases h; rfl) | cases h
def aY3 (S : Nat → It) (k : Nat) : AV → Option D
 | .ref id => match S id with
  | .dat d => some d
  | _ => none
 | .v (.slice none 0 0) => D.nil k
 | _ => none
def bR1 (S : Nat → It) (k : Nat) : AV → Option D
 | .ref id => itD (S id)
 | .v (.slice none 0 0) => D.nil k
 | _ => none
def bS5 (S : Nat → It) (k : Nat) (l : List AV) : Option (D × List Prop) :=
 match k, l with
 | 1, [.v (.int .i64 n)] => some (.ints [n], [])
 | 2, [.v (.bool b)] => some (.bools [b], [])
 | 3, [.v (.int .u8 n)] => some (.bytes [UInt8.ofNat n.toNat], [0 ≤ n, n < 256])
 | 4, [.v (.string s)] => some (.strs [s], [])
 | 5, [.v (.int .i64 o), .v (.int .i64 a), .v (.int .i64 b), .v (.int .i64 c), .v (.int .i64 d)] => some (.instrs [⟨o, a, b, c, d⟩], [])
 | 6, [.v (.int .i64 a), .v (.int .i64 b)] => some (.events [(a, b)], [])
 | 7, [x] => match aY3 S 1 x with
  | some (.ints l) => some (.rows [l], [])
  | _ => none
 | 8, [x] => match aY3 S 2 x with
  | some (.bools l) => some (.brows [l], [])
  | _ => none
 | 9, [.v (.int .i64 a), .v (.int .i64 b), x] => match aY3 S 9 x with
  | some (.exprs l) => some (.exprs [⟨a, b, l⟩], [])
  | _ => none
 | 10, [.v (.int .i64 a), .v (.int .i64 b), .v (.int .i64 c), .v (.int .i64 d), x, .v (.int .i64 e), .v (.int .i64 f), y, .v (.int .i64 g), z, u] =>
  match aY3 S 9 x, aY3 S 9 y, aY3 S 10 z, aY3 S 10 u with
  | some (.exprs x), some (.exprs y), some (.stmts z), some (.stmts u) => some (.stmts [⟨a, b, ⟨c, d, x⟩, ⟨e, f, y⟩, g, z, u⟩], [])
  | _, _, _, _ => none
 | _, _ => none
def D.app : D → D → Option D
 | .ints a, .ints b => some (.ints (a ++ b))
 | .bools a, .bools b => some (.bools (a ++ b))
 | .bytes a, .bytes b => some (.bytes (a ++ b))
 | .strs a, .strs b => some (.strs (a ++ b))
 | .instrs a, .instrs b => some (.instrs (a ++ b))
 | .events a, .events b => some (.events (a ++ b))
 | .rows a, .rows b => some (.rows (a ++ b))
 | .brows a, .brows b => some (.brows (a ++ b))
 | .exprs a, .exprs b => some (.exprs (a ++ b))
 | .stmts a, .stmts b => some (.stmts (a ++ b))
 | _, _ => none
theorem bC0 {α : Type} (a b : List α) (z : α) (i : Nat) : (a ++ b).getD i z = if i < a.length then a.getD i z else b.getD (i - a.length) z := by
 split
 ·rename_i h; simp [b91, ca9 h]
 ·rename_i h; simp [b91, cc6 (Nat.le_of_not_lt h)]
theorem K8 {α : Type} (f : α → List X) (a b : List α) (z : α) (i : Nat) : f ((a ++ b).getD i z) = if i < a.length then f (a.getD i z) else f (b.getD (i - a.length) z) := by rw [bC0]; split <;> rfl
theorem D.app_ok {a b d : D} (h : a.app b = some d) : d.len = a.len + b.len ∧ d.sz = a.sz ∧ b.sz = a.sz ∧ ∀ i, d.elem i = if i < a.len then a.elem i else b.elem (i - a.len) := by
 cases a <;> cases b <;> simp only [D.app] at h <;> first | cases h | skip
 ·exact ⟨by simp [D.len], rfl, rfl, fun i => K8 (fun x => [.v (.int .i64 x)]) _ _ _ _⟩
 ·exact ⟨by simp [D.len], rfl, rfl, fun i => K8 (fun x => [.v (.bool x)]) _ _ _ _⟩
 ·exact ⟨by simp [D.len], rfl, rfl, fun i => K8 (fun x : UInt8 => [.v (.int .u8 (x.toNat : Int))]) _ _ _ _⟩
 ·exact ⟨by simp [D.len], rfl, rfl, fun i => K8 (fun x => [.v (.string x)]) _ _ _ _⟩
 ·exact ⟨by simp [D.len], rfl, rfl, fun i => K8 bc4 _ _ _ _⟩
 ·exact ⟨by simp [D.len], rfl, rfl, fun i => K8 aq2 _ _ _ _⟩
 ·exact ⟨by simp [D.len], rfl, rfl, fun i => K8 (fun x => [.sl (.ints x)]) _ _ _ _⟩
 ·exact ⟨by simp [D.len], rfl, rfl, fun i => K8 (fun x => [.sl (.bools x)]) _ _ _ _⟩
 ·exact ⟨by simp [D.len], rfl, rfl, fun i => K8 aK2 _ _ _ _⟩
 ·exact ⟨by simp [D.len], rfl, rfl, fun i => K8 aG6 _ _ _ _⟩
section
variable {P : Program} {ι : Type} {φ ψ : Nat → Prop} {w0 w w' : World} {F : ι → Rs} {ρ : Nat → Value} {S : Nat → It}
theorem RW.append {φ : Nat → Prop} {a b d : D} {xs ys : List Value} (h : a.app b = some d) (hl : xs.length = a.len * a.sz) (hx : RW w φ a xs) (hy : RW w φ b ys) : RW w φ d (xs ++ ys) := by
 obtain ⟨h1, h2, h3, h4⟩ := D.app_ok h
 intro i hi j x hj
 rw [h4] at hj
 rw [h2]
 split at hj
 ·rename_i hlt
  obtain ⟨u, k1, k2⟩ := hx i hlt j x hj
  refine ⟨u, ?_, k2⟩
  rw [ca9 ((b98.1 k1).1)]; exact k1
 ·rename_i hge
  obtain ⟨u, k1, k2⟩ := hy (i - a.len) (by omega) j x hj
  refine ⟨u, ?_, k2⟩
  have e : i * a.sz + j = xs.length + ((i - a.len) * a.sz + j) := by
   rw [hl, ← Nat.add_assoc, ← Nat.add_mul]
   congr 2; omega
  rw [e, cc6 (by omega), Nat.add_sub_cancel_left, ← k1, h3]
theorem RW.nil {φ : Nat → Prop} {d : D} (h : d.len = 0) (xs : List Value) : RW w φ d xs := fun i hi => by omega
theorem RD.nil {φ : Nat → Prop} {k : Nat} {d : D} (h : D.nil k = some d) : RD w φ d (.slice none 0 0) := by
 have hl := D.nil_len h
 refine RD.make (xs := []) ?_ (RW.nil hl _)
 rw [hl]; exact z9.nil _ _ _
theorem ae1 (M : m5 φ ψ w0 w (p7 F ρ S)) {k : Nat} {x : AV} {d : D} (h : aY3 S k x = some d) : RD w (FrF φ (p7 F ρ S)) d (x.val ρ) := by
 unfold aY3 at h
 split at h <;> first | cases h | skip
 ·split at h <;> first | cases h | skip
  rename_i id _ hS
  exact M.datAt hS
 ·exact RD.nil h
theorem Z4 {φ : Nat → Prop} {d : D} {xs : List Value} (hl : d.len = 1) (h : ∀ (j : Nat) x, (d.elem 0)[j]? = some x → ∃ u, xs[j]? = some u ∧ XH w φ x u) : RW w φ d xs := by
 intro i hi j x hj
 have : i = 0 := by omega
 subst this
 rw [Nat.zero_mul, cc3]; exact h j x hj
theorem v6 {φ : Nat → Prop} {x : X} {r : List X} {u : Value} {s : List Value} (h : XH w φ x u) (hr : ∀ (j : Nat) y, r[j]? = some y → ∃ v, s[j]? = some v ∧ XH w φ y v) : ∀ (j : Nat) y, (x :: r)[j]? = some y → ∃ v, (u :: s)[j]? = some v ∧ XH w φ y v := by
 intro j y hj
 cases j with
 | zero => simp at hj; subst hj; exact ⟨u, rfl, h⟩
 | succ j => simpa using hr j y (by simpa using hj)
theorem Z3 {φ : Nat → Prop} {s : List Value} : ∀ (j : Nat) y, ([] : List X)[j]? = some y → ∃ v, s[j]? = some v ∧ XH w φ y v := by intro j y h; simp at h
theorem bI0 (M : m5 φ ψ w0 w (p7 F ρ S)) {k : Nat} {l : List AV} {d : D} {obs : List Prop} (h : bS5 S k l = some (d, obs)) (ho : t8 obs) : d.len = 1 ∧ d.sz = l.length ∧ RW w (FrF φ (p7 F ρ S)) d (AV.vals ρ l) := by
 unfold bS5 at h
 split at h <;> first | cases h | skip
 ·exact ⟨rfl, rfl, Z4 rfl (v6 rfl Z3)⟩
 ·exact ⟨rfl, rfl, Z4 rfl (v6 rfl Z3)⟩
 ·rename_i n
  simp only [t8] at ho
  refine ⟨rfl, rfl, Z4 rfl (v6 ?_ Z3)⟩
  show Value.int .u8 n = Value.int .u8 ((UInt8.ofNat n.toNat).toNat : Int)
  congr 1
  have : (UInt8.ofNat n.toNat).toNat = n.toNat := by simp [UInt8.toNat_ofNat']; omega
  rw [this]; omega
 ·exact ⟨rfl, rfl, Z4 rfl (v6 rfl Z3)⟩
 ·exact ⟨rfl, rfl, Z4 rfl (v6 rfl (v6 rfl (v6 rfl (v6 rfl (v6 rfl Z3)))))⟩
 ·exact ⟨rfl, rfl, Z4 rfl (v6 rfl (v6 rfl Z3))⟩
 ·split at h <;> first | cases h | skip
  rename_i hx
  exact ⟨rfl, rfl, Z4 rfl (v6 (ae1 M hx) Z3)⟩
 ·split at h <;> first | cases h | skip
  rename_i hx
  exact ⟨rfl, rfl, Z4 rfl (v6 (ae1 M hx) Z3)⟩
 ·split at h <;> first | cases h | skip
  rename_i hx
  exact ⟨rfl, rfl, Z4 rfl (v6 rfl (v6 rfl (v6 (ae1 M hx) Z3)))⟩
 ·split at h <;> first | cases h | skip
  rename_i hx hy hz hu
  exact ⟨rfl, rfl, Z4 rfl (v6 rfl (v6 rfl (v6 rfl (v6 rfl (v6 (ae1 M hx) (v6 rfl (v6 rfl (v6 (ae1 M hy) (v6 rfl (v6 (ae1 M hz) (v6 (ae1 M hu) Z3)))))))))))⟩
def aQ0 (S : Nat → It) (k : Nat) : List (List AV) → Option (D × List Prop)
 | [] => (D.nil k).map fun d => (d, [])
 | c :: r =>
  match bS5 S k c, aQ0 S k r with
  | some (a, oa), some (b, ob) => (a.app b).map fun d => (d, oa ++ ob)
  | _, _ => none
theorem a31 (M : m5 φ ψ w0 w (p7 F ρ S)) {k n : Nat} : ∀ {l : List (List AV)} {d : D} {obs : List Prop}, aQ0 S k l = some (d, obs) → t8 obs → (∀ c ∈ l, c.length = n) → d.len = l.length ∧ (l = [] ∨ d.sz = n) ∧ RW w (FrF φ (p7 F ρ S)) d (AV.vals ρ l.flatten)
 | [], d, obs, h, _, _ => by
  simp only [aQ0, b92] at h
  obtain ⟨d', h1, h2⟩ := h
  cases h2
  exact ⟨D.nil_len h1, .inl rfl, RW.nil (D.nil_len h1) _⟩
 | c :: r, d, obs, h, ho, hn => by
  simp only [aQ0] at h
  split at h
  case h_2 => cases h
  rename_i a oa b ob h1 h2
  obtain ⟨d', h3, h4⟩ := b92.1 h
  cases h4
  rw [t8.append] at ho
  obtain ⟨k1, k2, k3⟩ := bI0 M h1 ho.1
  obtain ⟨m1, m2, m3⟩ := a31 M h2 ho.2 fun c hc => hn c (ca8 _ hc)
  obtain ⟨q1, q2, q3, q4⟩ := D.app_ok h3
  have hc := hn c ca1
  refine ⟨by simp; omega, .inr (by rw [q2, k2, hc]), ?_⟩
  rw [List.flatten_cons, AV.vals_append]
  exact RW.append h3 (by rw [AV.vals_length, k1, Nat.one_mul, k2]) k3 m3
def ac7 (e : Operand → Option AV) (S : Nat → It) (n : Nat) : Nat → List (Nat × Operand) → Option (List (List AV))
 | _, [] => some []
 | k, (i, x) :: r =>
  match e x with
  | some v => if i = k && v.cells.length = n && aA6 S v then (ac7 e S n (k + 1) r).map fun l => v.cells :: l else none
  | none => none
theorem ap2 {e : Operand → Option AV} {n : Nat} : ∀ {ps : List (Nat × Operand)} {k : Nat} {l : List (List AV)}, ac7 e S n k ps = some l → l.length = ps.length ∧ ∀ c ∈ l, c.length = n
 | [], k, l, h => by simp only [ac7, Option.some.injEq] at h; subst h; exact ⟨rfl, fun c hc => by cases hc⟩
 | (i, x) :: r, k, l, h => by
  simp only [ac7] at h
  split at h
  case h_2 => cases h
  rename_i v hv
  split at h
  case isFalse => cases h
  rename_i hc
  obtain ⟨m, h1, h2⟩ := b92.1 h
  subst h2
  obtain ⟨k1, k2⟩ := ap2 h1
  simp only [b86, decide_eq_true_eq] at hc
  refine ⟨by simp [k1], fun c hc' => ?_⟩
  rcases cb7.1 hc' with rfl | hc'
  ·exact hc.1.2
  ·exact k2 c hc'
theorem a14 : ∀ (us a b : List Value) (p : Nat), a.length = p → us.length ≤ b.length → setFrom (a ++ b) p us = a ++ (us ++ b.drop us.length)
 | us, a, b, p, h, hl => by
  subst h
  rw [V7 _ _ _ (by simp; omega)]
  simp [List.drop_append]
theorem ai0 (M : m5 φ ψ w0 w (p7 F ρ S)) {e : Operand → Option AV} {g : Operand → Value} {n : Nat} : ∀ (ps : List (Nat × Operand)) (k : Nat) (l : List (List AV)) (pre suf : List Value), ac7 e S n k ps = some l → (∀ p ∈ ps, ∀ v, e p.2 = some v → g p.2 = v.val ρ) → pre.length = k * n → suf.length = ps.length * n →
  Instr.fill (fun i => some (i * n, n)) (pre ++ suf).toArray (ps.map fun p => (p.1, g p.2)) = some (pre ++ AV.vals ρ l.flatten).toArray
 | [], k, l, pre, suf, h, _, _, hs => by
  simp only [ac7, Option.some.injEq] at h; subst h
  have : suf = [] := ca0 (by simpa using hs)
  subst this
  simp [Instr.fill, AV.vals]
 | (i, x) :: r, k, l, pre, suf, h, hg, hp, hs => by
  simp only [ac7] at h
  split at h
  case h_2 => cases h
  rename_i v hv
  split at h
  case isFalse => cases h
  rename_i hc
  obtain ⟨m, h1, h2⟩ := b92.1 h
  subst h2
  simp only [b86, decide_eq_true_eq] at hc
  obtain ⟨⟨rfl, hn⟩, hok⟩ := hc
  obtain ⟨c1, _⟩ := V8 M hok
  have hvl : (AV.vals ρ v.cells).length = n := by rw [AV.vals_length, hn]
  have hgx := hg (i, x) ca1 v hv
  simp only at hgx
  simp only [b87, cb8] at hs
  simp only [cb9, Instr.fill]
  rw [hgx, c1]
  have hz := aD5 (AV.vals ρ v.cells) 0 (i * n) (pre ++ suf).toArray
  simp only [Nat.add_zero] at hz
  rw [a14 _ _ _ _ hp (by omega)] at hz
  have ih := ai0 M r (i + 1) m (pre ++ AV.vals ρ v.cells) (suf.drop n) h1 (fun p hp' => hg p (ca8 _ hp')) (by rw [b88, hp, hvl, cb8]) (by rw [List.length_drop]; omega)
  rw [List.flatten_cons, AV.vals_append, ← List.append_assoc, ← ih]
  simp only [List.size_toArray, hvl, b88]
  rw [if_neg (by simp; omega)]
  congr 1
  rw [List.append_assoc]
  rw [hvl] at hz
  rw [← hz]
  simp [Array.zipIdx, ← Array.foldl_toList, List.mapIdx_eq_zipIdx_map]
theorem m5.newRow (M : m5 φ ψ w0 w (p7 F ρ S)) {id : Nat} {e : TypeId} {d : D} {v : Value} {xs : List Value} (hb : Below w.heap.size w w') (hS : S id = .none) (hi : Inv S ρ [id]) (ho : w'.ownsRow w.heap.size e d.sz v d.len xs) (hx : RW w (FrF φ (p7 F ρ S)) d xs) :
  ∃ ρ', C0 [id] ρ ρ' ∧ m5 φ ψ w0 w' (p7 F ρ' (o7 S [(id, .row e d)])) ∧ v = ρ' id := by
 have ha : C0 [id] ρ (fun j => if j = id then v else ρ j) := fun j hj => by
  have : j ≠ id := by simpa using hj
  simp [this]
 refine ⟨_, ha, M.one id _ [id] hi ha (B8.any hb) (fun g hg => ?_) ?_, by simp⟩
 ·simp only [It.res, if_true] at hg
  exact .inr (ho.lt g hg).1
 ·simp only [It.res, if_true]
  refine ⟨fun xs => RW.nice d xs, xs, aa9 ho (cc1 _), ?_⟩
  refine RW.nice d xs _ _ _ _ ⟨hb.size, fun b hbl hf => ⟨⟨hf.1, fun k hk => ?_⟩, hb.block b hbl⟩⟩ hx
  cases k with
  | inl i => exact hf.2 (.inl i) hk
  | inr j =>
   by_cases e' : j = id
   ·subst e'
    simp only [p7, o7, if_true, It.res] at hk
    have := (ho.lt b hk).1; omega
   ·simp only [p7, o7, if_neg e'] at hk
    rw [hi _ ha j] at hk
    exact hf.2 (.inr j) hk
end
def ak2 (P : Program) (t : TypeId) : Option Nat := (P.info? t).map (·.bytes)
def av3 (P : Program) (dk : TypeId → Nat) (e : Operand → Option AV) (S : Nat → It) (id : Nat) (t : TypeId) (len : Nat) (parts : List (Nat × Operand)) : Option Tr :=
 match V4 P t with
 | none => none
 | some el =>
  match T6 P el, J1 P el, D.nil (dk el) with
  | some n, some z, some d0 =>
   if 0 < n && z.cells.size = n && d0.sz = n && len = parts.length && len * n ≤ 16777216 then
    match ac7 e S n 0 parts with
    | some l => (aQ0 S (dk el) l).map fun r => ⟨[(id, .row el r.1)], [id], .ref id, r.2⟩
    | none => none
   else none
  | _, _, _ => none
def a78 (k n : Nat) : Option (D × Value) :=
 match k with
 | 1 => some (.ints (cb3 n 0), .int .i64 0)
 | 2 => some (.bools (cb3 n false), .bool false)
 | 3 => some (.bytes (cb3 n 0), .int .u8 0)
 | 7 => some (.rows (cb3 n []), .slice none 0 0)
 | 8 => some (.brows (cb3 n []), .slice none 0 0)
 | _ => none
def aW4 (P : Program) (dk : TypeId → Nat) (id : Nat) (t : TypeId) (l c : AV) : Option Tr :=
 match l, c, V4 P t with
 | .v (.int .i64 n), .v (.int .i64 m), some el =>
  match a78 (dk el) n.toNat, ak2 P el, T6 P el, J1 P el with
  | some (d, z), some by_, some sz, some z' => if sz = 1 then some ⟨[(id, .row el d)], [id], .ref id, [m = n, 0 ≤ n, by_ * n ≤ 281474976710656, n ≤ 9223372036854775807, z' = z]⟩ else none
  | _, _, _, _ => none
 | _, _, _ => none
def be9 (P : Program) (dk : TypeId → Nat) (S : Nat → It) (id : Nat) (t t' : TypeId) (s x : AV) : Option Tr :=
 if t = t' then
  match V4 P t with
  | none => none
  | some el =>
   match bR1 S (dk el) x, ak2 P el, T6 P el, J1 P el with
   | some d2, some by_, some n, some z =>
    if 0 < n && z.cells.size = n && d2.sz = n then
     match s with
     | .ref a => match S a with
      | .row e' d1 => if e' = el then (d1.app d2).map fun d => ⟨[(a, .dead), (id, .row el d)], [id], .ref id, [d1.len + d2.len ≤ 9223372036854775807, (d1.len + d2.len) * by_ ≤ 140737488355328]⟩ else none
      | _ => none
     | .v (.slice none 0 0) => some ⟨[(id, .row el d2)], [id], .ref id, [d2.len ≤ 9223372036854775807, d2.len * by_ ≤ 140737488355328]⟩
     | _ => none
    else none
   | _, _, _, _ => none
 else none
def aY4 (P : Program) (S : Nat → It) (id : Nat) (t : TypeId) (x : AV) (lo hi : Option AV) : Option Tr :=
 match x with
 | .ref a => match S a, (V4 P t).bind (T6 P) with
  | .dat d, some n =>
   if n = d.sz then
    match lo, hi with
    | none, none => some ⟨[(id, .dat (d.sub 0 d.len))], [id], .ref id, []⟩
    | none, some (.v (.int _ h)) => some ⟨[(id, .dat (d.sub 0 h.toNat))], [id], .ref id, [0 ≤ h, h ≤ (d.len : Int)]⟩
    | some (.v (.int _ l)), none => some ⟨[(id, .dat (d.sub l.toNat d.len))], [id], .ref id, [0 ≤ l, l ≤ (d.len : Int)]⟩
    | some (.v (.int _ l)), some (.v (.int _ h)) => some ⟨[(id, .dat (d.sub l.toNat h.toNat))], [id], .ref id, [0 ≤ l, l ≤ h, h ≤ (d.len : Int)]⟩
    | _, _ => none
   else none
  | _, _ => none
 | .v (.string s) => match P.underlying t with
  | some .string =>
   match lo, hi with
   | none, some (.v (.int _ h)) => some ⟨[], [], .v (.string (s.extract 0 h.toNat)), [0 ≤ h, h ≤ (s.size : Int)]⟩
   | some (.v (.int _ l)), none => some ⟨[], [], .v (.string (s.extract l.toNat s.size)), [0 ≤ l, l ≤ (s.size : Int)]⟩
   | some (.v (.int _ l)), some (.v (.int _ h)) => some ⟨[], [], .v (.string (s.extract l.toNat h.toNat)), [0 ≤ l, l ≤ h, h ≤ (s.size : Int)]⟩
   | _, _ => none
  | _ => none
 | _ => none
section
variable {P : Program} {ι : Type} {φ ψ : Nat → Prop} {w0 w w' : World} {F : ι → Rs} {ρ : Nat → Value} {S : Nat → It}
theorem a71 (M : m5 φ ψ w0 w (p7 F ρ S)) {dk : TypeId → Nat} {o : Oper} {e : Operand → Option AV} {g : Operand → Value} {t : TypeId} {len : Nat} {parts : Array (Nat × Operand)} (hop : o.op = .buildSlice t len parts) (hg : ∀ p ∈ parts.toList, ∀ v, e p.2 = some v → g p.2 = v.val ρ) {id : Nat} {r : Tr} (h : av3 P dk e S id t len parts.toList = some r) (ho : t8 r.obs) (hmk : ∀ j ∈ r.made, S j = .none) (hi : Inv S ρ r.made) :
  K4 P o g w (I9 φ ψ w0 F ρ S r) := by
 unfold av3 at h
 split at h <;> first | cases h | skip
 rename_i el hel
 split at h <;> first | cases h | skip
 rename_i n z d0 h1 h2 h3
 split at h
 case isFalse => cases h
 rename_i hc
 simp only [b86, decide_eq_true_eq] at hc
 obtain ⟨⟨⟨⟨hn, hz⟩, hd0⟩, hlen⟩, hbig⟩ := hc
 split at h
 case h_2 => cases h
 rename_i l hl
 obtain ⟨⟨d, obs⟩, h4, h5⟩ := b92.1 h
 subst h5
 obtain ⟨k1, k2⟩ := ap2 hl
 obtain ⟨m1, m2, m3⟩ := a31 M h4 ho k2
 have hsz : d.sz = n := by
  rcases m2 with m2 | m2
  ·subst m2
   simp only [aQ0, h3, Option.map_some, Option.some.injEq, Prod.mk.injEq] at h4
   rw [← h4.1, hd0]
  ·exact m2
 have hS : S id = .none := hmk id (by simp)
 obtain ⟨ie, hie, hie2⟩ := b92.1 h1
 have hiz : ie.zero = some z := by
  unfold J1 at h2; rw [hie] at h2; exact h2
 have hu := U3 hel
 have hdl : d.len = len := by rw [m1, k1, hlen]
 have hvl : (AV.vals ρ l.flatten).length = len * n := by
  have : ∀ (l : List (List AV)), (∀ c ∈ l, c.length = n) → l.flatten.length = l.length * n := by
   intro l
   induction l with
   | nil => intro _; simp
   | cons c r ih => intro h; rw [List.flatten_cons, b88, ih fun c hc => h c (ca8 _ hc), h c ca1, b87, cb8]; omega
  rw [AV.vals_length, this l k2, k1, hlen]
 have hrun : (Instr.buildSlice t len (parts.map fun p => (p.1, g p.2))).run P w = .ok (.slice (some ⟨w.heap.size, 0, none⟩) len len) (w.alloc (.cells (AV.vals ρ l.flatten).toArray el)) := by
  rcases Nat.eq_zero_or_pos len with h0 | h0
  ·have hp0 : parts.toList = [] := ca0 (by omega)
   have hl0 : l = [] := ca0 (by omega)
   subst hl0
   have hpa : parts = #[] := by apply Array.ext'; simpa using hp0
   subst hpa; subst h0
   have hr0 : Array.range 0 = #[] := rfl
   simp [Instr.buildSlice, run_underlying hu, sizeOf, typeInfo, hie, Instr.fill, newRow, AV.vals, hr0]
  ·refine run_buildSlice w t el len _ _ ie z hu hie hiz (by rw [hie2]; omega) (by rw [hie2]; have := Nat.mul_pos h0 hn; omega) ?_
   have hf := ai0 M parts.toList 0 l [] (((Array.range (len * ie.size)).map (z.cells[· % z.cells.size]!)).toList) hl hg (by simp) (by simp [hie2, hlen])
   rw [hie2] at hf ⊢
   simp only [List.nil_append, Array.toArray_toList] at hf
   simpa using hf
 have hle : len ≤ 16777216 := ca7 (Nat.le_mul_of_pos_right len hn) hbig
 have hown := (ak6 w (AV.vals ρ l.flatten).toArray len n el rfl (by simpa using hvl) (by omega)).1
 rw [← hdl, ← hsz] at hown
 obtain ⟨ρ', q1, q2, q3⟩ := M.newRow (id := id) (e := el) (d := d) ((Below.refl _ _).alloc (b99 _) _) hS hi hown (by simpa using m3)
 have hrun2 : (execOp g o).run P w = .ok (.value (.slice (some ⟨w.heap.size, 0, none⟩) len len)) (w.alloc (.cells (AV.vals ρ l.flatten).toArray el)) := by
  simp only [execOp, hop, Sem.run_bind]
  rw [show (parts.map fun (i, x) => (i, g x)) = parts.map fun p => (p.1, g p.2) from rfl, hrun]
  rfl
 exact .inl ⟨_, _, hrun2, ρ', q1, q2, by simp only [AV.val]; rw [← q3, hdl]⟩
theorem bR9 {φ : Nat → Prop} {d : D} {v : Value} (h : RD w φ d v) : v.oneCell' = true := by
 obtain ⟨a, cap, rfl, _⟩ := h.open; rfl
theorem bC6 (d : D) (i j : Nat) (x : Value) (h : (d.elem i)[j]? = some (.v x)) : x.oneCell' = true := by
 have : ∀ y ∈ d.elem i, ∀ x, y = .v x → x.oneCell' = true := by
  intro y hy x hx
  subst hx
  cases d <;> simp [D.elem, bc4, aq2, aK2, aG6] at hy <;> (try rcases hy with rfl | rfl | rfl | rfl | rfl | rfl | rfl) <;> first | rfl | (subst hy; rfl) | (rcases hy with rfl | rfl | rfl | rfl | rfl <;> rfl) | (rcases hy with rfl | rfl <;> rfl)
 exact this _ (cb4 h) x rfl
theorem a16 {φ : Nat → Prop} {d : D} {xs : List Value} (hl : xs.length = d.len * d.sz) (h : RW w φ d xs) : ∀ u ∈ xs, u.oneCell' = true := by
 intro u hu
 obtain ⟨p, hp⟩ := List.mem_iff_getElem?.1 hu
 have hp' := (b98.1 hp).1
 have hs : 0 < d.sz := by cases d <;> simp [D.sz]
 have hi : p / d.sz < d.len := by rw [hl] at hp'; exact Nat.div_lt_of_lt_mul (by rw [Nat.mul_comm]; exact hp')
 have hj : p % d.sz < (d.elem (p / d.sz)).length := by rw [D.elem_len]; exact Nat.mod_lt _ hs
 obtain ⟨v, h3, h4⟩ := h _ hi _ _ (b90 hj)
 rw [Nat.mul_comm, Nat.div_add_mod, hp] at h3
 cases h3
 cases hx : (d.elem (p / d.sz))[p % d.sz] with
 | v x =>
  rw [hx] at h4
  rw [show u = x from h4]
  exact bC6 d _ _ x (by rw [b90 hj, hx])
 | sl d' => rw [hx] at h4; exact bR9 (show RD _ _ _ _ from h4)
theorem bG5 (M : m5 φ ψ w0 w (p7 F ρ S)) {k : Nat} {x : AV} {d : D} (h : bR1 S k x = some d) : ∃ xs, Z9 w (x.val ρ) d.len d.sz xs ∧ RW w (FrF φ (p7 F ρ S)) d xs := by
 unfold bR1 at h
 split at h <;> first | cases h | skip
 ·rename_i id
  cases hS : S id with
  | dat d' =>
   rw [hS] at h; cases h
   obtain ⟨xs, h1, h2⟩ := (M.datAt hS).split
   exact ⟨xs, h1.row, h2⟩
  | row e d' =>
   rw [hS] at h; cases h
   obtain ⟨xs, h1, h2⟩ := M.rowAt hS
   exact ⟨xs, ai1 h1, h2⟩
  | none => rw [hS] at h; cases h
  | dead => rw [hS] at h; cases h
  | box cs => rw [hS] at h; cases h
  | tree d => rw [hS] at h; cases h
  | kept e d => rw [hS] at h; cases h
 ·refine ⟨[], ?_, RW.nil (D.nil_len h) _⟩
  rw [D.nil_len h]; exact Z9.nil _ _
theorem m5.move (M : m5 φ ψ w0 w (p7 F ρ S)) {a id : Nat} {e : TypeId} {d1 d : D} {v : Value} {xs : List Value} (hS : S a = .row e d1) (hSi : S id = .none) (hi : Inv S ρ [id]) (hk : B8 (fun b => ¬ (ρ a).ownBlock = some b) w w')
  (ho : w'.ownsRow 0 e d.sz v d.len xs) (hx : RW w (FrF φ (p7 F ρ S)) d xs) (hg : ∀ g, v.ownBlock = some g → (ρ a).ownBlock = some g ∨ w.heap.size ≤ g) :
  ∃ ρ', C0 [id] ρ ρ' ∧ m5 φ ψ w0 w' (p7 F ρ' (o7 S [(a, .dead), (id, .row e d)])) ∧ v = ρ' id := by
 have hne : id ≠ a := fun h => by rw [h, hS] at hSi; cases hSi
 have ha : C0 [id] ρ (fun j => if j = id then v else ρ j) := fun j hj => by
  have : j ≠ id := by simpa using hj
  simp [this]
 have M1 : m5 φ ψ w0 w' (fun k : ι ⊕ Nat => match k with | .inl i => F i | .inr j => if j = a then .row e d.sz v d.len (fun xs w φ => RW w φ d xs) else (S j).res ρ j) := by
  refine m5.put M (.inr a) (fun k hk' => ?_) ?_ ?_ ?_
  ·cases k with
   | inl i => rfl
   | inr j =>
    have : j ≠ a := fun e => hk' (by rw [e])
    simp [p7, this]
  ·simp only [p7, hS, It.res]; exact hk
  ·simp only [if_true]
   refine ⟨fun xs => RW.nice d xs, xs, ho, RW.nice d xs _ _ _ _ ⟨hk.size, fun b hb hf => ⟨⟨hf.1, fun k hk' => ?_⟩, hk.block b hb fun he => by have := hf.2 (.inr a); simp only [p7, hS, It.res] at this; exact this he⟩⟩ hx⟩
   cases k with
   | inl i => exact hf.2 (.inl i) hk'
   | inr j =>
    by_cases e' : j = a
    ·subst e'
     simp only [if_true] at hk'
     have h2 := hf.2 (.inr j)
     simp only [p7, hS, It.res] at h2
     rcases hg b hk' with h3 | h3
     ·exact h2 h3
     ·omega
    ·simp only [if_neg e'] at hk'
     exact hf.2 (.inr j) hk'
  ·intro g hg'
   simp only [if_true] at hg'
   simp only [p7, hS, It.res]
   exact hg g hg'
 refine ⟨_, ha, ?_, by simp⟩
 refine M1.map (fun k : ι ⊕ Nat => (match k with | .inl i => some (.inl i) | .inr j => if j = id then some (.inr a) else if j = a then none else some (.inr j) : Option (ι ⊕ Nat))) ?_ ?_
 ·intro k k' i h1 h2
  cases k with
  | inl x =>
   cases k' with
   | inl y => simp at h1 h2; rw [h1] at *; cases h2; rfl
   | inr y => simp at h1; subst h1; simp at h2; split at h2 <;> first | cases h2 | (split at h2 <;> cases h2)
  | inr x =>
   cases k' with
   | inl y => simp at h2; subst h2; simp at h1; split at h1 <;> first | cases h1 | (split at h1 <;> cases h1)
   | inr y =>
    simp only at h1 h2
    by_cases e1 : x = id
    ·rw [if_pos e1] at h1
     cases h1
     by_cases e2 : y = id
     ·rw [e1, e2]
     ·rw [if_neg e2] at h2
      by_cases e3 : y = a
      ·rw [if_pos e3] at h2; cases h2
      ·rw [if_neg e3] at h2; simp at h2; exact absurd h2 e3
    ·rw [if_neg e1] at h1
     by_cases e3 : x = a
     ·rw [if_pos e3] at h1; cases h1
     ·rw [if_neg e3] at h1
      simp at h1; subst h1
      by_cases e2 : y = id
      ·rw [if_pos e2] at h2; simp at h2; exact absurd h2.symm e3
      ·rw [if_neg e2] at h2
       by_cases e4 : y = a
       ·rw [if_pos e4] at h2; cases h2
       ·rw [if_neg e4] at h2; simp at h2; rw [h2]
 ·intro k
  cases k with
  | inl i => exact .inl ⟨_, rfl, rfl⟩
  | inr j =>
   by_cases e1 : j = id
   ·subst e1
    refine .inl ⟨.inr a, by simp, ?_⟩
    simp [p7, o7, hne, It.res]
   ·by_cases e2 : j = a
    ·subst e2
     exact .inr (by simp [p7, o7, It.res])
    ·refine .inl ⟨.inr j, by simp [e1, e2], ?_⟩
     simp only [p7, o7, if_neg e1, if_neg e2]
     exact hi _ ha j
theorem app_ok (M : m5 φ ψ w0 w (p7 F ρ S)) {dk : TypeId → Nat} {o : Oper} {g : Operand → Value} {t t' : TypeId} {s x : Operand} (hop : o.op = .call { callee := .builtin .append, args := #[s, x], argTypes := #[t, t'] }) {sa xa : AV} (hs : g s = sa.val ρ) (hx : g x = xa.val ρ) {id : Nat} {r : Tr} (h : be9 P dk S id t t' sa xa = some r) (ho : t8 r.obs) (hmk : ∀ j ∈ r.made, S j = .none) (hi : Inv S ρ r.made) :
  K4 P o g w (I9 φ ψ w0 F ρ S r) := by
 unfold be9 at h
 split at h
 case isFalse => cases h
 rename_i htt
 subst htt
 split at h <;> first | cases h | skip
 rename_i el hel
 split at h <;> first | cases h | skip
 rename_i d2 by_ n z h1 h2 h3 h4
 split at h
 case isFalse => cases h
 rename_i hc
 simp only [b86, decide_eq_true_eq] at hc
 obtain ⟨⟨hn, hz⟩, hd2⟩ := hc
 have hu := U3 hel
 obtain ⟨ie, hie, hie2⟩ := b92.1 h3
 have hiz : ie.zero = some z := by unfold J1 at h4; rw [hie] at h4; exact h4
 have hib : ie.bytes = by_ := by
  unfold ak2 at h2; rw [hie] at h2; exact Option.some.inj h2
 have hinfo : (P.info? el).map (fun i => (i.zero, i.size, i.bytes)) = some (some z, n, by_) := by rw [hie]; simp [hiz, hie2, hib]
 obtain ⟨news, k1, k2⟩ := bG5 M h1
 have k1' := k1
 rw [hd2] at k1'
 have h1c := a16 k1.1 k2
 have hexec : ∀ v w', (Builtin.append_ #[t, t] o.type #[sa.val ρ, xa.val ρ]).run P w = .ok v w' → (execOp g o).run P w = .ok (.value v) w' := by
  intro v w' hr
  simp only [execOp, hop, resolve, invoke, builtin, Sem.run_bind, Sem.run_pure, Result.andThen_ok, List.map_toArray, cb9, List.map_nil, hs, hx, hr]
 split at h
 ·rename_i a
  split at h <;> first | cases h | skip
  rename_i e' d1 hS
  split at h
  case isFalse => cases h
  rename_i he'
  subst he'
  obtain ⟨d, hd, hr⟩ := b92.1 h
  subst hr
  simp only [t8] at ho
  obtain ⟨q1, q2, q3, q4⟩ := D.app_ok hd
  obtain ⟨xs, m1, m2⟩ := M.rowAt hS
  have hsz : d1.sz = n := by omega
  rw [hsz] at m1
  obtain ⟨a', k', w', hrun, r2, r3, r4, r5⟩ := as8 (P := P) (lo := 0) (ty := o.type) hu hinfo hz hn m1 k1' h1c ho.1 ho.2.1 (cc1 _)
  obtain ⟨ρ', p1, p2, p3⟩ := M.move (id := id) (d := d) (v := .slice a' (d1.len + d2.len) k') (xs := xs ++ news) hS (hmk id (by simp)) hi ⟨r4.os, r4.tape, r4.output, r4.size, fun b hb hne => r4.block b hb fun h => hne h.symm⟩
   (by rw [q2, hsz, q1]; exact r2) (RW.append hd (by rw [m1.1, hsz]) m2 k2) r5
  exact .inl ⟨_, _, hexec _ _ hrun, ρ', p1, p2, p3⟩
 ·cases h
  simp only [t8] at ho
  have m1 : w.ownsRow 0 el n (.slice none 0 0) 0 [] := World.ownsRow_nil _ _ _ _
  obtain ⟨a', k', w', hrun, r2, r3, r4, r5⟩ := as8 (P := P) (lo := w.heap.size) (ty := o.type) hu hinfo hz hn (World.ownsRow_nil _ _ _ _) k1' h1c (by omega) (by rw [cc3]; exact ho.2.1) (b99 _)
  rw [cc3, List.nil_append] at r2
  obtain ⟨ρ', p1, p2, p3⟩ := M.newRow (id := id) (e := el) (d := d2) (w' := w') r3 (hmk id (by simp)) hi (by rw [hd2]; exact r2) k2
  refine .inl ⟨_, _, hexec _ _ hrun, ρ', p1, p2, ?_⟩
  rw [cc3]; exact p3
 ·cases h
theorem D.sub_len (d : D) (l h : Nat) (hh : h ≤ d.len) : (d.sub l h).len = h - l := by
 cases d <;> simp only [D.sub, D.len, List.length_drop, List.length_take] <;> (simp only [D.len] at hh; omega)
theorem D.sub_sz (d : D) (l h : Nat) : (d.sub l h).sz = d.sz := by cases d <;> rfl
theorem bB8 {α : Type} (x : List α) (z : α) (l h i : Nat) (hi : i < h - l) : ((x.take h).drop l).getD i z = x.getD (l + i) z := by
 simp only [b91, List.getElem?_drop, List.getElem?_take]
 rw [if_pos (by omega)]
theorem D.sub_elem (d : D) (l h i : Nat) (hi : i < h - l) : (d.sub l h).elem i = d.elem (l + i) := by
 cases d <;> simp only [D.sub, D.elem] <;> rw [bB8 _ _ _ _ _ hi]
theorem RD.sub {φ : Nat → Prop} {d : D} {a : Option Addr} {n cap l h : Nat} (hr : RD w φ d (.slice a n cap)) (hl : l ≤ h) (hh : h ≤ d.len) : RD w φ (d.sub l h) (.slice (if cap = l then a else a.map (·.add (l * d.sz))) (h - l) (cap - l)) := by
 obtain ⟨xs, ⟨k0, a', cap', he, k1, k2, k3⟩, k4⟩ := hr.split
 cases he
 have hs : 0 < d.sz := by cases d <;> simp [D.sz]
 have hle : h * d.sz ≤ d.len * d.sz := cc2 _ hh
 have hle2 : l * d.sz ≤ h * d.sz := cc2 _ hl
 refine RD.make (xs := (xs.take (h * d.sz)).drop (l * d.sz)) ⟨?_, _, _, by rw [D.sub_len d l h hh], by rw [D.sub_len d l h hh]; omega, by omega, fun hp => ?_⟩ ?_
 ·rw [D.sub_len d l h hh, D.sub_sz, List.length_drop, List.length_take, k0, Nat.sub_mul]; omega
 ·rw [D.sub_len d l h hh] at hp
  obtain ⟨b, off, rfl, hb, hf, hc⟩ := k3 (by omega)
  rw [if_neg (by omega)]
  refine ⟨b, off + l * d.sz, ?_, hb, hf, fun j u hj => ?_⟩
  ·simp only [Option.map_some, Addr.add]; split
   ·rename_i h0; rw [h0, Nat.add_zero]
   ·rfl
  ·rw [List.getElem?_drop, List.getElem?_take] at hj
   split at hj
   ·have := hc _ u hj; rw [← Nat.add_assoc] at this; exact this
   ·cases hj
 ·intro i hi j x hx
  rw [D.sub_len d l h hh] at hi
  rw [D.sub_elem d l h i hi] at hx
  have hj : j < d.sz := by
   have := (b98.1 hx).1
   rw [D.elem_len] at this; exact this
  obtain ⟨u, m1, m2⟩ := k4 (l + i) (by omega) j x hx
  refine ⟨u, ?_, m2⟩
  rw [D.sub_sz, List.getElem?_drop, List.getElem?_take, if_pos, ← m1]
  ·congr 1; rw [Nat.add_mul]; omega
  ·have : (i + 1) * d.sz ≤ (h - l) * d.sz := cc2 _ (by omega)
   rw [cb8, Nat.sub_mul] at this; omega
theorem L7 {k : IntKind} {i : Int} {y : Nat} {c : BoundsCode} (h1 : 0 ≤ i) (h2 : i ≤ y) : (Instr.sliceBound (.int k i) y c).run P w = .ok i.toNat w := by
 simp [Instr.sliceBound, asIntOf, h1, h2]
theorem m5.newDat (M : m5 φ ψ w0 w (p7 F ρ S)) {id : Nat} {d : D} {v : Value} (hS : S id = .none) (hi : Inv S ρ [id]) (h : RD w (FrF φ (p7 F ρ S)) d v) : ∃ ρ', C0 [id] ρ ρ' ∧ m5 φ ψ w0 w (p7 F ρ' (o7 S [(id, .dat d)])) ∧ v = ρ' id := by
 obtain ⟨ρ', h1, h2, h3⟩ := M.dats [.sl d] [v] id ⟨h, b94⟩ (fun j hj => by simp [R4] at hj; rw [hj]; exact hS) (by simpa [R4] using hi)
 simp only [R4, cb9, List.map_nil] at h1
 simp only [xav, AV.vals, AV.val, List.cons.injEq, and_true] at h3
 exact ⟨ρ', h1, h2, h3⟩
theorem bD4 (M : m5 φ ψ w0 w (p7 F ρ S)) {o : Oper} {g : Operand → Value} {t : TypeId} {x : Operand} {lo hi : Option Operand} {e : Operand → Option AV} (hop : o.op = .slice t x lo hi none) {xa : AV} (hx : g x = xa.val ρ) {la ha : Option AV} (hlo : lo.map g = la.map (AV.val ρ)) (hhi : hi.map g = ha.map (AV.val ρ)) {id : Nat} {r : Tr} (h : aY4 P S id t xa la ha = some r) (ho : t8 r.obs) (hmk : ∀ j ∈ r.made, S j = .none) (hin : Inv S ρ r.made) :
  K4 P o g w (I9 φ ψ w0 F ρ S r) := by
 have hexec : ∀ v, (Instr.slice t (xa.val ρ) (la.map (AV.val ρ)) (ha.map (AV.val ρ)) none).run P w = .ok v w → P.underlying t = some .string ∨ (∃ el, P.underlying t = some (.slice el)) → (execOp g o).run P w = .ok (.value v) w := by
  intro v hr hu
  have hA : (Instr.sliceAt t (xa.val ρ) (la.map (AV.val ρ)) (ha.map (AV.val ρ)) none).run P w = .ok v w := by
   unfold Instr.sliceAt
   rcases hu with hu | ⟨el, hu⟩
   ·rw [Sem.run_bind, run_underlying hu]; exact hr
   ·rw [Sem.run_bind, run_underlying hu]; exact hr
  simp only [execOp, hop, Sem.run_bind, hx, hlo, hhi, Option.map_none, hA]
  rfl
 unfold aY4 at h
 split at h
 ·rename_i a
  split at h
  case h_2 => cases h
  rename_i d n hS hn
  split at h
  case isFalse => cases h
  rename_i hsz
  obtain ⟨el, h1, h2⟩ := Option.bind_eq_some_iff.1 hn
  have hu := U3 h1
  have hrd := M.datAt hS
  obtain ⟨aa, cap, hra, hcap, hmax, _⟩ := hrd.open
  rw [hra] at hrd
  have fin : ∀ (l hh : Nat) (obs : List Prop), l ≤ hh → hh ≤ d.len → r = ⟨[(id, .dat (d.sub l hh))], [id], .ref id, obs⟩ → (Instr.slice t (ρ a) (la.map (AV.val ρ)) (ha.map (AV.val ρ)) none).run P w = .ok (.slice (if cap = l then aa else aa.map (·.add (l * d.sz))) (hh - l) (cap - l)) w → K4 P o g w (I9 φ ψ w0 F ρ S r) := by
   intro l hh obs hl hhd hr hrun
   subst hr
   obtain ⟨ρ', p1, p2, p3⟩ := M.newDat (id := id) (hmk id (by simp)) hin (hrd.sub hl hhd)
   exact .inl ⟨_, _, hexec _ hrun (.inr ⟨el, hu⟩), ρ', p1, p2, p3⟩
  have hsz' : (sizeOf el).run P w = .ok d.sz w := by rw [D4 h2, hsz]
  split at h
  ·cases h
   refine fin 0 d.len _ (cc1 _) (b99 _) rfl ?_
   simp [Instr.slice, run_underlying hu, hra, Instr.sliceBounds, hsz']
  ·cases h
   simp only [t8] at ho
   refine fin 0 _ _ (cc1 _) (by omega) rfl ?_
   rename_i k hh
   have e1 := L7 (P := P) (w := w) (k := k) (i := hh) (y := cap) (c := .sliceAcap) ho.1 (by omega)
   simp [Instr.slice, run_underlying hu, hra, Instr.sliceBounds, hsz', AV.val, e1]
  ·cases h
   simp only [t8] at ho
   refine fin _ d.len _ (by omega) (b99 _) rfl ?_
   rename_i k l
   have e1 := L7 (P := P) (w := w) (k := k) (i := l) (y := d.len) (c := .sliceB) ho.1 (by omega)
   simp [Instr.slice, run_underlying hu, hra, Instr.sliceBounds, hsz', AV.val, e1]
  ·cases h
   simp only [t8] at ho
   refine fin _ _ _ (by omega) (by omega) rfl ?_
   rename_i k l k' hh
   have e1 := L7 (P := P) (w := w) (k := k) (i := l) (y := hh.toNat) (c := .sliceB) ho.1 (by omega)
   have e2 := L7 (P := P) (w := w) (k := k') (i := hh) (y := cap) (c := .sliceAcap) (by omega) (by omega)
   simp [Instr.slice, run_underlying hu, hra, Instr.sliceBounds, hsz', AV.val, e1, e2]
  ·cases h
 ·rename_i s
  split at h
  case h_2 => cases h
  rename_i hu
  have fin : ∀ (l hh : Nat) (obs : List Prop), r = ⟨[], [], .v (.string (s.extract l hh)), obs⟩ → (Instr.slice t (.string s) (la.map (AV.val ρ)) (ha.map (AV.val ρ)) none).run P w = .ok (.string (s.extract l hh)) w → K4 P o g w (I9 φ ψ w0 F ρ S r) := by
   intro l hh obs hr hrun
   subst hr
   exact .inl ⟨_, _, hexec _ hrun (.inl hu), ρ, C0.refl _ _, M, rfl⟩
  split at h
  ·cases h
   simp only [t8] at ho
   refine fin 0 _ _ rfl ?_
   rename_i k hh
   have e1 := L7 (P := P) (w := w) (k := k) (i := hh) (y := s.size) (c := .sliceAlen) ho.1 (by omega)
   simp [Instr.slice, run_underlying hu, Instr.sliceBounds, AV.val, e1]
  ·cases h
   simp only [t8] at ho
   refine fin _ s.size _ rfl ?_
   rename_i k l
   have e1 := L7 (P := P) (w := w) (k := k) (i := l) (y := s.size) (c := .sliceB) ho.1 (by omega)
   simp [Instr.slice, run_underlying hu, Instr.sliceBounds, AV.val, e1]
  ·cases h
   simp only [t8] at ho
   refine fin _ _ _ rfl ?_
   rename_i k l k' hh
   have e1 := L7 (P := P) (w := w) (k := k) (i := l) (y := hh.toNat) (c := .sliceB) ho.1 (by omega)
   have e2 := L7 (P := P) (w := w) (k := k') (i := hh) (y := s.size) (c := .sliceAlen) (by omega) (by omega)
   simp [Instr.slice, run_underlying hu, Instr.sliceBounds, AV.val, e1, e2]
  ·cases h
 ·cases h
end
end Go.Proofs.YthikdkjjdeehoaaGreat
