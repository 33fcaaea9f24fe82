/- Part 1: functions on the way, plain laws. Conditions: as said. -/
import Derived.WalkKit
import Derived.ProofKit
import Derived.Handy
import Derived.WalkSmall
import Derived.Deep.QuietTactic
import Derived.BigQuiet
import Derived.StillTailTactics
import Derived.Deep.Quiet
import Derived.StillTail
import Derived.Test.YtgmhmijcnlfmfaaRows
import Derived.Maps.AppendAt
import Derived.ArgAppend
import Derived.Deep.Upon
set_option maxRecDepth 100000
set_option maxHeartbeats 16000000
set_option linter.unusedVariables false
set_option linter.unusedSimpArgs false
open Bool renaming and_eq_true → bF9, eq_iff_iff → bI2
open List renaming all_eq_true → bG4, eq_nil_of_length_eq_zero → bI8, getElem?_append_left → bJ0, getElem?_append_right → bJ7, getElem?_eq_getElem → bG0, getElem?_eq_none → bH9, getElem?_eq_some_iff → bG5, getElem_mem → bH8, length_append → bI0, length_cons → bH7, map_cons → bI5, mem_append → bH4, mem_cons → bI7, mem_cons_of_mem → bH6, mem_cons_self → bH0, mem_of_getElem? → bH2, mem_singleton → bI1, range → bH5, replicate → bH1, take_of_length_le → bG9
open Nat renaming le_refl → bH3, le_trans → bI3, lt_or_ge → bI9, mul_le_mul_right → bJ3, succ_mul → bI4, zero_add → bJ4, zero_le → bJ2
open True renaming intro → bG8

namespace Go.Proofs.Ytgmhmijcnlfmfaa
open Go Go.RowKit
def K3 (w : World) (v : Value) (n sz : Nat) (xs : List Value) : Prop :=
 xs.length = n * sz ∧ ∃ a cap, v = .slice a n cap ∧ n ≤ cap ∧ cap ≤ maxLen ∧
  (0 < n → ∃ b off, a = some ⟨b, off, none⟩ ∧ b < w.heap.size ∧ ∀ j u, xs[j]? = some u → w.cell? ⟨b, off + j, none⟩ = some u)
theorem aM2 {W w1 : World} (hb : Below W.heap.size W w1) : (∀ b o, b < W.heap.size → w1.cell? ⟨b, o, none⟩ = W.cell? ⟨b, o, none⟩) ∧ (∀ b o, b < W.heap.size → w1.frozen? ⟨b, o, none⟩ = W.frozen? ⟨b, o, none⟩) :=
 ⟨fun b o h => hb.cell (p := ⟨b, o, none⟩) h, fun b o h => hb.frozen (p := ⟨b, o, none⟩) h⟩
theorem K3.below {w w' : World} {v : Value} {n sz : Nat} {xs : List Value} (h : K3 w v n sz xs) (hb : Below w.heap.size w w') : K3 w' v n sz xs := by
 obtain ⟨hl, a, cap, rfl, h1, h2, h3⟩ := h
 refine ⟨hl, a, cap, rfl, h1, h2, fun hn => ?_⟩
 obtain ⟨b, off, rfl, hbk, hc⟩ := h3 hn
 exact ⟨b, off, rfl, Nat.lt_of_lt_of_le hbk hb.size, fun j u hj => ((aM2 hb).1 b _ hbk).trans (hc j u hj)⟩
theorem K3.len {w : World} {v : Value} {n sz : Nat} {xs : List Value} (h : K3 w v n sz xs) : n ≤ 9223372036854775807 := by
 obtain ⟨_, a, cap, rfl, h1, h2, _⟩ := h; unfold maxLen at h2; omega
theorem K3.nil (w : World) (sz : Nat) : K3 w (.slice none 0 0) 0 sz [] := ⟨by simp, none, 0, rfl, bH3 _, by unfold maxLen; omega, fun h => absurd h (by omega)⟩
theorem K3.open {w : World} {v : Value} {n sz : Nat} {xs : List Value} (h : K3 w v n sz xs) : ∃ a cap, v = .slice a n cap ∧ n ≤ cap ∧ n ≤ 9223372036854775807 ∧ cap ≤ 9223372036854775807 ∧
  ∀ i, i < n → ∃ b off, a = some ⟨b, off, none⟩ ∧ b < w.heap.size ∧ ∀ j, j < sz → w.cell? ⟨b, off + i * sz + j, none⟩ = xs[i * sz + j]? := by
 obtain ⟨hl, a, cap, rfl, h1, h2, h3⟩ := h
 unfold maxLen at h2
 refine ⟨a, cap, rfl, h1, by omega, by omega, fun i hi => ?_⟩
 obtain ⟨b, off, rfl, hbk, hc⟩ := h3 (by omega)
 refine ⟨b, off, rfl, hbk, fun j hj => ?_⟩
 have hlt : i * sz + j < xs.length := by
  rw [hl]; have := bJ3 sz (Nat.succ_le_of_lt hi); rw [bI4] at this; omega
 rw [bG0 hlt, Nat.add_assoc]
 exact hc _ _ (bG0 hlt)
theorem K3.form {w : World} {v : Value} {n sz : Nat} {xs : List Value} (h : K3 w v n sz xs) : ∃ a cap, v = .slice a n cap := by
 obtain ⟨_, a, cap, hv, _⟩ := h
 exact ⟨a, cap, hv⟩
theorem K3.open1 {w : World} {v : Value} {n : Nat} {xs : List Value} (h : K3 w v n 1 xs) : ∃ a cap, v = .slice a n cap ∧ n ≤ cap ∧ n ≤ 9223372036854775807 ∧ cap ≤ 9223372036854775807 ∧
  ∀ i, i < n → ∃ b off, a = some ⟨b, off, none⟩ ∧ b < w.heap.size ∧ w.cell? ⟨b, off + i, none⟩ = xs[i]? := by
 obtain ⟨a, cap, h0, h1, h2, h3, h4⟩ := h.open
 refine ⟨a, cap, h0, h1, h2, h3, fun i hi => ?_⟩
 obtain ⟨b, off, e, hb, hc⟩ := h4 i hi
 exact ⟨b, off, e, hb, by simpa using hc 0 (by omega)⟩
theorem P6 {w : World} {base : Nat} {e : TypeId} {sz : Nat} {v : Value} {n : Nat} {xs : List Value} (h : w.ownsRow base e sz v n xs) : K3 w v n sz xs := by
 refine ⟨h.1, ?_⟩
 rcases h.2 with ⟨rfl, rfl⟩ | ⟨g, cap, cur, rfl, hbg, hg, hnc, hcm, hcs, ht⟩
 ·exact ⟨none, 0, rfl, bH3 _, by unfold maxLen; omega, fun h => absurd h (by omega)⟩
 ·refine ⟨some ⟨g, 0, none⟩, cap, rfl, hnc, hcm, fun _ => ⟨g, 0, rfl, (Array.getElem?_eq_some_iff.1 hg).1, fun j u hj => ?_⟩⟩
  have hadd : (⟨g, 0, none⟩ : Addr).add j = ⟨g, 0 + j, none⟩ := by unfold Addr.add; split <;> simp_all
  rw [← hadd]
  exact h.cells (g := g) rfl j u hj
theorem X0 {w : World} {base base' : Nat} {e : TypeId} {sz : Nat} {v : Value} {n : Nat} {xs : List Value} (h : w.ownsRow base e sz v n xs) (hb : base' ≤ base) : w.ownsRow base' e sz v n xs := by
 refine ⟨h.1, ?_⟩
 rcases h.2 with hn | ⟨g, cap, cur, rfl, hbg, r⟩
 ·exact .inl hn
 ·exact .inr ⟨g, cap, cur, rfl, by omega, r⟩
def T5 (w : World) (lo hi : Nat) (e : TypeId) (sz : Nat) (v : Value) (n : Nat) (xs : List Value) : Prop :=
 w.ownsRow lo e sz v n xs ∧ ∀ g, v.ownBlock = some g → g < hi
structure Out (lo hi : Nat) (w w' : World) : Prop where
 os : w'.os = w.os
 tape : w'.tape = w.tape
 output : w'.output = w.output
 size : w.heap.size ≤ w'.heap.size
 block : ∀ k, k < w.heap.size → (k < lo ∨ hi ≤ k) → w'.heap[k]? = w.heap[k]?
theorem Out.refl (lo hi : Nat) (w : World) : Out lo hi w w := ⟨rfl, rfl, rfl, bH3 _, fun _ _ _ => rfl⟩
theorem Out.trans {lo hi : Nat} {a b c : World} (h : Out lo hi a b) (k : Out lo hi b c) : Out lo hi a c :=
 ⟨k.os.trans h.os, k.tape.trans h.tape, k.output.trans h.output, bI3 h.size k.size, fun i hi ho => (k.block i (Nat.lt_of_lt_of_le hi h.size) ho).trans (h.block i hi ho)⟩
theorem Out.below {lo hi B : Nat} {a b : World} (h : Out lo hi a b) (h1 : B ≤ lo) (h2 : B ≤ a.heap.size) : Below B a b :=
 ⟨h.os, h.tape, h.output, h.size, fun k hk => h.block k (by omega) (by omega)⟩
theorem Out.of_below {lo hi B : Nat} {a b : World} (h : Below B a b) (h1 : a.heap.size ≤ B) : Out lo hi a b :=
 ⟨h.os, h.tape, h.output, h.size, fun k hk _ => h.block k (by omega)⟩
theorem Out.setCell {lo hi : Nat} {a w : World} (h : Out lo hi a w) {p : Addr} (h1 : lo ≤ p.block) (h2 : p.block < hi) (u : Value) : Out lo hi a (w.setCell p u) :=
 h.trans ⟨rfl, rfl, rfl, by simp [World.setCell], fun k _ ho => Below.heap_setCell _ _ _ _ (by omega)⟩
theorem T5.lt {w : World} {lo hi : Nat} {e : TypeId} {sz : Nat} {v : Value} {n : Nat} {xs : List Value} (h : T5 w lo hi e sz v n xs) : ∀ g, v.ownBlock = some g → lo ≤ g ∧ g < hi ∧ g < w.heap.size :=
 fun g hg => ⟨(h.1.lt g hg).1, h.2 g hg, (h.1.lt g hg).2⟩
theorem T5.row {w : World} {lo hi : Nat} {e : TypeId} {sz : Nat} {v : Value} {n : Nat} {xs : List Value} (h : T5 w lo hi e sz v n xs) : K3 w v n sz xs := P6 h.1
theorem T5.mk' {w : World} {lo : Nat} {e : TypeId} {sz : Nat} {v : Value} {n : Nat} {xs : List Value} (h : w.ownsRow lo e sz v n xs) : T5 w lo w.heap.size e sz v n xs :=
 ⟨h, fun g hg => (h.lt g hg).2⟩
theorem T5.form {w : World} {lo hi : Nat} {e : TypeId} {sz : Nat} {v : Value} {n : Nat} {xs : List Value} (h : T5 w lo hi e sz v n xs) : ∃ a cap, v = .slice a n cap := by
 obtain ⟨_, a, cap, hv, _⟩ := h.row
 exact ⟨a, cap, hv⟩
theorem T5.same {w w' : World} {lo hi : Nat} {e : TypeId} {sz : Nat} {v : Value} {n : Nat} {xs : List Value} (h : T5 w lo hi e sz v n xs)
  (hs : ∀ g, v.ownBlock = some g → w'.heap[g]? = w.heap[g]?) : T5 w' lo hi e sz v n xs := by
 refine ⟨⟨h.1.1, ?_⟩, h.2⟩
 rcases h.1.2 with hn | ⟨g, cap, cur, rfl, hbg, hg, r⟩
 ·exact .inl hn
 ·exact .inr ⟨g, cap, cur, rfl, hbg, (hs g rfl).trans hg, r⟩
theorem T5.keep {w w' : World} {lo hi B : Nat} {e : TypeId} {sz : Nat} {v : Value} {n : Nat} {xs : List Value} (h : T5 w lo hi e sz v n xs) (hb : Below B w w') (hB : hi ≤ B) : T5 w' lo hi e sz v n xs :=
 h.same fun g hg => hb.block g (by have := h.lt g hg; omega)
theorem T5.out {w w' : World} {lo hi lo' hi' : Nat} {e : TypeId} {sz : Nat} {v : Value} {n : Nat} {xs : List Value} (h : T5 w lo hi e sz v n xs) (ho : Out lo' hi' w w') (hd : hi ≤ lo' ∨ hi' ≤ lo) : T5 w' lo hi e sz v n xs :=
 h.same fun g hg => ho.block g (h.lt g hg).2.2 (by have := h.lt g hg; omega)
theorem T5.open {w : World} {lo hi : Nat} {e : TypeId} {sz : Nat} {v : Value} {n : Nat} {xs : List Value} (h : T5 w lo hi e sz v n xs) (hn : 0 < n) :
  ∃ g cap, v = .slice (some ⟨g, 0, none⟩) n cap ∧ lo ≤ g ∧ g < hi ∧ g < w.heap.size ∧ n ≤ cap ∧ cap ≤ maxLen ∧ (∀ o, w.frozen? ⟨g, o, none⟩ = false) ∧ ∀ j u, xs[j]? = some u → w.cell? ⟨g, j, none⟩ = some u := by
 have hl := h.lt
 rcases h.1.2 with ⟨_, h0⟩ | ⟨g, cap, cur, rfl, hbg, hg, hnc, hcm, hcs, ht⟩
 ·omega
 ·obtain ⟨l1, l2, l3⟩ := hl g rfl
  refine ⟨g, cap, rfl, l1, l2, l3, hnc, hcm, fun o => ?_, fun j u hj => ?_⟩
  ·simp only [World.frozen?, hg]; simp
  ·have hadd : (⟨g, 0, none⟩ : Addr).add j = ⟨g, j, none⟩ := by unfold Addr.add; split <;> simp_all
   rw [← hadd]
   exact h.1.cells (g := g) rfl j u hj
theorem T5.at {w : World} {lo hi : Nat} {e : TypeId} {sz : Nat} {v : Value} {n : Nat} {xs : List Value} (h : T5 w lo hi e sz v n xs) {j : Nat} (hj : j < xs.length) :
  ∃ g cap, v = .slice (some ⟨g, 0, none⟩) n cap ∧ lo ≤ g ∧ g < hi ∧ g < w.heap.size ∧ w.frozen? ⟨g, j, none⟩ = false ∧ ∃ u, w.cell? ⟨g, j, none⟩ = some u := by
 have hn : 0 < n := by
  rcases Nat.eq_zero_or_pos n with h0 | h0
  ·subst h0; have := h.1.1; omega
  ·exact h0
 obtain ⟨g, cap, hv, h1, h2, h3, _, _, h4, h5⟩ := h.open hn
 exact ⟨g, cap, hv, h1, h2, h3, h4 j, _, h5 j _ (bG0 hj)⟩
theorem T5.setCell {w : World} {lo hi : Nat} {e : TypeId} {sz : Nat} {n cap g : Nat} {xs : List Value} (h : T5 w lo hi e sz (.slice (some ⟨g, 0, none⟩) n cap) n xs) {j : Nat} (_hj : j < xs.length) (u : Value) :
  T5 (w.setCell ⟨g, j, none⟩ u) lo hi e sz (.slice (some ⟨g, 0, none⟩) n cap) n (xs.set j u) := by
 refine ⟨⟨by rw [List.length_set]; exact h.1.1, ?_⟩, h.2⟩
 rcases h.1.2 with ⟨hv, _⟩ | ⟨g', cap', cur, hv, hbg, hg, hnc, hcm, hcs, ht⟩
 ·cases hv
 ·cases hv
  refine .inr ⟨g, cap, cur.setIfInBounds j u, rfl, hbg, ?_, hnc, hcm, by simpa using hcs, ?_⟩
  ·have hlt := (Array.getElem?_eq_some_iff.1 hg).1
   simp only [World.setCell, Array.getElem?_modify]
   simp [hg]
  ·rw [Array.toList_setIfInBounds, List.take_set, ht]
theorem c9 {a b : Bool} (h : a = b) : Ending.returned (.bool a) = .returned (.bool b) := by rw [h]
theorem y7 {k : IntKind} {a b : Int} (h : a = b) : Ending.returned (.int k a) = .returned (.int k b) := by rw [h]
theorem m0 {α : Type} (l : List α) (k : Nat) (h : k < l.length) : l.take (k + 1) = l.take k ++ [l[k]] := by
 rw [List.take_succ_eq_append_getElem h]
theorem Z8 {α : Type} (ys : List α) (k : Nat) (u : α) (h : k < ys.length) : (ys.set k u).take (k + 1) = ys.take k ++ [u] := by
 rw [m0 _ _ (by simpa using h), List.take_set_of_le (bH3 _)]; simp
def x4 (z : List Value) (n : Nat) : List Value := (bH1 n z).flatten
theorem E5 (z : List Value) (n : Nat) : (x4 z n).length = n * z.length := by simp [x4]
theorem ai6 (z : Value) (n : Nat) : x4 [z] n = bH1 n z := by
 unfold x4
 induction n with
 | zero => rfl
 | succ n ih => rw [List.replicate_succ, List.flatten_cons, ih]; rfl
theorem aq2 (z : Array Value) (n : Nat) (_hz : 0 < z.size) : madeCells z (n * z.size) = (x4 z.toList n).toArray := by
 apply Array.ext
 ·simp [size_madeCells, E5]
 ·intro i h1 h2
  simp only [madeCells, Array.getElem_map, Array.getElem_range, List.getElem_toArray]
  have hlt : i < (x4 z.toList n).length := by simpa using h2
  have key : ∀ (m i : Nat), i < (x4 z.toList m).length → (x4 z.toList m)[i]? = some (z[i % z.size]!) := by
   intro m
   induction m with
   | zero => intro i hi; simp [x4] at hi
   | succ m ih =>
    intro i hi
    have e : x4 z.toList (m + 1) = z.toList ++ x4 z.toList m := by simp [x4, List.replicate_succ]
    rw [e]
    by_cases hlt : i < z.size
    ·rw [bJ0 (by simpa using hlt), Nat.mod_eq_of_lt hlt]
     simp [hlt]
    ·rw [bJ7 (by simp; omega)]
     have := ih (i - z.toList.length) (by rw [e, bI0] at hi; rw [Array.length_toList] at hi ⊢; omega)
     rw [this]
     congr 2
     rw [Array.length_toList]
     exact (Nat.mod_eq_sub_mod (by omega)).symm
  have := key n i hlt
  rw [bG0 hlt] at this
  exact (Option.some.inj this).symm
theorem a85 {P : Program} {t e : TypeId} {z : Value} {size bytes : Nat} (ht : P.underlying t = some (.slice e)) (hi : (P.info? e).map (fun i => (i.zero, i.size, i.bytes)) = some (some z, size, bytes))
  (hz : z.cells.size = size) (hs : 0 < size) (n : Nat) (hn : bytes * n ≤ 281474976710656) (hm : n ≤ 9223372036854775807) :
  ∀ w, (Instr.makeSlice t (.int .i64 n) (.int .i64 n)).run P w = .ok (.slice (some ⟨w.heap.size, 0, none⟩) n n) (w.alloc (.cells (x4 z.cells.toList n).toArray e)) := by
 intro w
 obtain ⟨i, h1, h2, h3, h4⟩ := info_parts hi
 have := run_make (P := P) w t e i z ht h1 h2 .i64 .i64 n n (by omega) (Int.le_refl _) (by rw [h4, ← Int.natCast_mul]; omega) (by omega)
 rw [this]
 simp only [Int.toNat_natCast, h3]
 subst hz
 rw [aq2 _ _ hs]
theorem ag8 (w : World) {g : Nat} (cs : Array Value) (n sz : Nat) (e : TypeId) (hg : g = w.heap.size) (hz : cs.size = n * sz) (hm : n ≤ 9223372036854775807) :
  T5 (w.alloc (.cells cs e)) w.heap.size (w.heap.size + 1) e sz (.slice (some ⟨g, 0, none⟩) n n) n cs.toList := by
 subst hg
 refine ⟨⟨by simpa using hz, .inr ⟨w.heap.size, n, _, rfl, bH3 _, heap_alloc_new w _, bH3 _, by unfold maxLen; omega, hz, ?_⟩⟩, fun g hg => by cases hg; exact Nat.lt_succ_self _⟩
 rw [← hz]
 exact bG9 (by simp)
theorem a72 (w : World) (z : List Value) (n sz : Nat) (e : TypeId) (hz : z.length = sz) (hm : n ≤ 9223372036854775807) :
  T5 (w.alloc (.cells (x4 z n).toArray e)) w.heap.size (w.heap.size + 1) e sz (.slice (some ⟨w.heap.size, 0, none⟩) n n) n (x4 z n) := by
 refine ⟨⟨by rw [E5, hz], .inr ⟨w.heap.size, n, _, rfl, bH3 _, heap_alloc_new w _, bH3 _, by unfold maxLen; omega, by simp [E5, hz], ?_⟩⟩, fun g hg => by cases hg; exact Nat.lt_succ_self _⟩
 have : (x4 z n).length = n * sz := by rw [E5, hz]
 rw [← this]
 simp
def setFrom (ys : List Value) (p : Nat) : List Value → List Value
 | [] => ys
 | u :: r => setFrom (ys.set p u) (p + 1) r
def World.setFrom (w : World) (g p : Nat) : List Value → World
 | [] => w
 | u :: r => World.setFrom (w.setCell ⟨g, p, none⟩ u) g (p + 1) r
theorem z9 (us : List Value) : ∀ (ys : List Value) (p : Nat), (setFrom ys p us).length = ys.length := by
 induction us with
 | nil => intro ys p; rfl
 | cons u r ih => intro ys p; simp [setFrom, ih]
theorem ad4 (us : List Value) : ∀ (ys : List Value) (p : Nat), p + us.length ≤ ys.length → (setFrom ys p us).take (p + us.length) = ys.take p ++ us := by
 induction us with
 | nil => intro ys p h; simp [setFrom]
 | cons u r ih =>
  intro ys p h
  simp only [bH7] at h
  have := ih (ys.set p u) (p + 1) (by simp; omega)
  simp only [setFrom, bH7]
  rw [show p + (r.length + 1) = p + 1 + r.length by omega, this, Z8 _ _ _ (by omega)]
  simp
theorem T5.setFrom {lo hi : Nat} {e : TypeId} {sz n cap g : Nat} (us : List Value) : ∀ {w : World} {xs : List Value} {p : Nat}, T5 w lo hi e sz (.slice (some ⟨g, 0, none⟩) n cap) n xs → p + us.length ≤ xs.length →
  T5 (World.setFrom w g p us) lo hi e sz (.slice (some ⟨g, 0, none⟩) n cap) n (setFrom xs p us) := by
 induction us with
 | nil => intro w xs p h _; exact h
 | cons u r ih =>
  intro w xs p h hl
  simp only [bH7] at hl
  exact ih (h.setCell (by omega) u) (by simp; omega)
theorem Out.setFrom {lo hi g : Nat} {a : World} (us : List Value) : ∀ {w : World} {p : Nat}, Out lo hi a w → lo ≤ g → g < hi → Out lo hi a (World.setFrom w g p us) := by
 induction us with
 | nil => intro w p h _ _; exact h
 | cons u r ih => intro w p h h1 h2; exact ih (h.setCell h1 h2 u) h1 h2
def aN0 (u v : Value) : Prop := ∀ g, u.ownBlock = some g → v.ownBlock ≠ some g
theorem aN0.symm {u v : Value} (h : aN0 u v) : aN0 v u := fun g h1 h2 => h g h2 h1
def O9 (w : World) (b : Nat) (cs : List Value) : Prop := ∃ T, w.heap[b]? = some (.cells cs.toArray T (0, 0))
theorem O9.lt {w : World} {b : Nat} {cs : List Value} (h : O9 w b cs) : b < w.heap.size := by
 obtain ⟨T, h⟩ := h; exact (Array.getElem?_eq_some_iff.1 h).1
theorem O9.cell {w : World} {b : Nat} {cs : List Value} (h : O9 w b cs) (j : Nat) : w.cell? ⟨b, j, none⟩ = cs[j]? := by
 obtain ⟨T, h⟩ := h; simp [World.cell?, h]
theorem O9.free {w : World} {b : Nat} {cs : List Value} (h : O9 w b cs) (j : Nat) : w.frozen? ⟨b, j, none⟩ = false := by
 obtain ⟨T, h⟩ := h; simp only [World.frozen?, h]; simp
theorem O9.below {w w' : World} {b B : Nat} {cs : List Value} (h : O9 w b cs) (hb : Below B w w') (hB : b < B) : O9 w' b cs := by
 obtain ⟨T, h⟩ := h; exact ⟨T, (hb.block b hB).trans h⟩
theorem O9.out {w w' : World} {b lo hi : Nat} {cs : List Value} (h : O9 w b cs) (hb : Out lo hi w w') (hB : b < lo ∨ hi ≤ b) : O9 w' b cs := by
 have hlt := h.lt
 obtain ⟨T, h⟩ := h; exact ⟨T, (hb.block b hlt hB).trans h⟩
theorem O9.set {w : World} {b j : Nat} {cs : List Value} (h : O9 w b cs) (u : Value) : O9 (w.setCell ⟨b, j, none⟩ u) b (cs.set j u) := by
 obtain ⟨T, h⟩ := h
 refine ⟨T, ?_⟩
 simp only [World.setCell, Array.getElem?_modify]
 simp [h]
theorem O9.new (w : World) (cs : List Value) (T : TypeId) : O9 (w.alloc (.cells cs.toArray T)) w.heap.size cs := ⟨T, heap_alloc_new w _⟩
theorem O9.alloc {w : World} {b : Nat} {cs : List Value} (h : O9 w b cs) (o : Obj) : O9 (w.alloc o) b cs := by
 have hlt := h.lt
 obtain ⟨T, h⟩ := h; exact ⟨T, (Below.heap_alloc w o b hlt).trans h⟩
theorem O9.drew {w : World} {b : Nat} {cs : List Value} (h : O9 w b cs) : O9 w.drew b cs := h
theorem Out.cell (w : World) (b j : Nat) (u : Value) : Out b (b + 1) w (w.setCell ⟨b, j, none⟩ u) :=
 Out.setCell (p := ⟨b, j, none⟩) (Out.refl b (b + 1) w) (bH3 b) (Nat.lt_succ_self b) u
def _root_.Go.World.ext (w X : World) : World := { w with heap := w.heap ++ X.heap, drawn := X.drawn }
theorem s8 (w : World) (X : World) : Below w.heap.size w (w.ext X) :=
 ⟨rfl, rfl, rfl, by simp [World.ext], fun k hk => by simp only [World.ext]; rw [Array.getElem?_append_left hk]⟩
theorem az0 {w w' : World} (h : Below w.heap.size w w') : ∃ X, w' = w.ext X := by
 refine ⟨{ w' with heap := w'.heap.extract w.heap.size w'.heap.size }, ?_⟩
 obtain ⟨h1, h2, h3, h4, h5⟩ := h
 have hh : w'.heap = w.heap ++ w'.heap.extract w.heap.size w'.heap.size := by
  apply Array.ext_getElem?
  intro i
  rcases bI9 i w.heap.size with hi | hi
  ·rw [Array.getElem?_append_left hi, h5 i hi]
  ·rw [Array.getElem?_append_right hi, Array.getElem?_extract]
   split
   ·rw [show w.heap.size + (i - w.heap.size) = i by omega]
   ·rename_i hn
    rw [Array.getElem?_eq_none]
    simp at hn
    omega
 cases w; cases w'
 simp only [World.ext] at *
 subst h1 h2 h3
 rw [← hh]
theorem t8 {w : World} {b o : Nat} {v : Value} (h : w.cell? ⟨b, o, none⟩ = some v) (X : World) : (w.ext X).cell? ⟨b, o, none⟩ = some v := by
 have hb : b < w.heap.size := World.block_lt_of_cell? w ⟨b, o, none⟩ h
 rw [(aM2 (s8 w X)).1 b o hb]; exact h
theorem Calls.ext_of' {P : Program} {f : FuncId} {args : Array Value} {w : World} {X : World} {v : Value}
  (h : Calls P f args (w.ext X) fun e w' => e = .returned v ∧ Below (w.ext X).heap.size (w.ext X) w') : Calls P f args (w.ext X) fun e w'' => e = .returned v ∧ ∃ Y, w'' = w.ext Y :=
 h.mono fun _ _ ⟨he, hb⟩ => ⟨he, az0 ((s8 w X).trans (hb.mono (s8 w X).size))⟩
theorem n4 {P : Program} {id : Nat} {Q : Exit → Act → World → Prop} {a : Act} {w : World} {l : List Oper} (hm : P.follows .mixedOrders = true) (hB : Region.lexB .any l.toArray = true)
  (h : wpQuiet P l.toArray (fun w' => ∃ X, w' = w.ext X) (fun a' => ∀ w', (∃ X, w' = w.ext X) → Q .normal a' w') l a) : (Code.region id l.toArray true).wp P Q a w :=
 wp_region_quiet (C := fun w' => ∃ X, w' = w.ext X) hm hB (az0 (w' := w.drew) (Below.refl _ _).drew) (by simpa using h)
theorem ay6 {P : Program} {f : FuncId} {fn : Func} {c : Code} (hf : P.funcs[f]? = some fn) (hn : (fn.name == "runtime.NumGoroutine") = false) (hb : fn.body = some c) :
  ∀ args w, (callFunc f args).run P w = .ok (.enter f args) w := by
 intro args w
 have h1 : fn.name ≠ "runtime.NumGoroutine" := by simpa using hn
 simp [callFunc, hf, h1, hb, mark]
end Go.Proofs.Ytgmhmijcnlfmfaa

namespace Go.Proofs.Ytgmhmijcnlfmfaa
theorem A0 {α : Type} (l : List α) (k : Nat) (h : k < l.length) : l.take (k + 1) = l.take k ++ [l[k]] := by
 rw [List.take_succ_eq_append_getElem h]
theorem O6 {α : Type} (p : α → Bool) (l : List α) (k : Nat) (h : k < l.length) : (l.take (k + 1)).all p = ((l.take k).all p && p l[k]) := by
 rw [A0 l k h, List.all_append]; simp
theorem al7 {α : Type} {p : α → Bool} {l : List α} {k : Nat} (h : k < l.length) (hp : p l[k] = false) : l.all p = false := by
 rw [List.all_eq_false]; exact ⟨l[k], bH8 h, by simp [hp]⟩
structure G2 where
 op : Int
 a : Int
 b : Int
 c : Int
 d : Int
def G2.l (x : G2) : List Int := [x.op, x.a, x.b, x.c, x.d]
def Y8 : List G2 → List Int
 | [] => []
 | x :: r => x.op :: x.a :: x.b :: x.c :: x.d :: Y8 r
theorem a97 (l : List G2) : (Y8 l).length = l.length * 5 := by
 induction l with
 | nil => rfl
 | cons x r ih => simp [Y8, ih]; omega
theorem G2.ext' {x y : G2} (h : x.l = y.l) : x = y := by
 cases x; cases y; simp [G2.l] at h; simp [h]
theorem a98 (l : List G2) (i : Nat) (hi : i < l.length) : (Y8 l)[i * 5]? = some l[i].op ∧ (Y8 l)[i * 5 + 1]? = some l[i].a ∧ (Y8 l)[i * 5 + 2]? = some l[i].b ∧ (Y8 l)[i * 5 + 3]? = some l[i].c ∧ (Y8 l)[i * 5 + 4]? = some l[i].d := by
 induction l generalizing i with
 | nil => simp at hi
 | cons x r ih =>
  cases i with
  | zero => simp [Y8]
  | succ i =>
   rw [bI4]
   have := ih i (by simpa using hi)
   simpa [Y8, Nat.add_assoc] using this
structure C4 where
 vars : List Int
 arrays : List Int
 list : List G2
def C4.size (c : C4) : Nat := c.vars.length + c.arrays.length + c.list.length
def C4.same (c d : C4) : Bool := decide (c.vars = d.vars) && decide (c.arrays = d.arrays) && decide (Y8 c.list = Y8 d.list)
def c3 (l : Int) : Bool := decide (0 ≤ l) && decide (l ≤ 3)
def t5 (vars arrays : List Int) : Bool := vars.all c3 && arrays.all c3 && decide (1 ≤ vars.length) && decide (vars.length ≤ 12) && decide (arrays.length ≤ 2)
def bg3 (c : C4) (kd : UInt8) (n : Int) : Bool :=
 if kd = 114 then decide (0 ≤ n) && decide (n < 14)
 else if kd = 99 then decide (0 ≤ n) && decide (n ≤ 255)
 else if kd = 118 then decide (0 ≤ n) && decide (n < c.vars.length)
 else if kd = 97 then decide (0 ≤ n) && decide (n < c.arrays.length)
 else if kd = 111 then decide (4 ≤ n) && decide (n ≤ 10)
 else decide (0 ≤ n) && decide (n < c.list.length)
def ah2 (op : Int) : List UInt8 :=
 if op = 1 then [114, 99] else if op = 2 then [114, 118] else if op = 3 then [118, 114] else if op = 4 then [114, 97, 114] else if op = 5 then [97, 114, 114]
 else if op = 6 then [114, 111, 114, 114] else if op = 7 then [114, 114, 114, 114] else if op = 8 then [116] else if op = 9 then [114, 116] else if op = 10 then [114, 116]
 else if op = 11 then [114] else []
def aB9 (c : C4) (kinds : List UInt8) (k : Nat) (n : Int) : Bool :=
 match kinds[k]? with
 | some kd => bg3 c kd n
 | none => decide (n = 0)
def bm3 (c : C4) (x : G2) : Bool :=
 decide (1 ≤ x.op) && decide (x.op ≤ 13) && (aB9 c (ah2 x.op) 0 x.a && aB9 c (ah2 x.op) 1 x.b && aB9 c (ah2 x.op) 2 x.c && aB9 c (ah2 x.op) 3 x.d)
def a89 (c : C4) : Bool := match c.list.getLast? with | some x => decide (x.op = 13) || decide (x.op = 8) | none => false
def aD8 (c : C4) : Bool := t5 c.vars c.arrays && decide (1 ≤ c.list.length) && decide (c.list.length ≤ 400) && c.list.all (bm3 c) && a89 c
def bw2 (x : G2) (i : Int) : List Int := if x.op = 13 then [] else if x.op = 8 then [x.a] else if x.op = 9 ∨ x.op = 10 then [i + 1, x.b] else [i + 1]
def nx (c : C4) (t : Int) : List Int := match c.list[t.toNat]? with | some x => bw2 x t | none => []
theorem af0 {c : C4} (h : aD8 c = true) : t5 c.vars c.arrays = true ∧ 1 ≤ c.list.length ∧ c.list.length ≤ 400 ∧ (∀ (i : Nat) (hi : i < c.list.length), bm3 c c.list[i] = true) ∧ a89 c = true := by
 unfold aD8 at h
 simp only [bF9, decide_eq_true_eq, bG4] at h
 obtain ⟨⟨⟨⟨h1, h2⟩, h3⟩, h4⟩, h5⟩ := h
 exact ⟨h1, h2, h3, fun i hi => h4 _ (bH8 hi), h5⟩
inductive Rc (c : C4) : Int → Prop
 | zero : Rc c 0
 | step {i t : Int} : Rc c i → t ∈ nx c i → Rc c t
noncomputable def bC3 (c : C4) : List Bool := (bH5 c.list.length).map fun (j : Nat) => @decide (Rc c (j : Int)) (Classical.propDecidable _)
theorem ay7 {bs : List Bool} {k : Nat} (h : bs[k]? = some false) : (bs.set k true).count false + 1 = bs.count false := by
 induction bs generalizing k with
 | nil => simp at h
 | cons b r ih =>
  cases k with
  | zero => simp at h; subst h; simp
  | succ k =>
   simp at h
   have := ih h
   simp only [List.set_cons_succ, List.count_cons]
   omega
theorem aA8 {bs : List Bool} {k j : Nat} (h : (bs.set k true)[j]? = some true) : j = k ∨ bs[j]? = some true := by
 rw [List.getElem?_set] at h
 split at h
 ·rename_i e; exact .inl e.symm
 ·exact .inr h
theorem aH1 {bs : List Bool} {k : Nat} (h : k < bs.length) : (bs.set k true)[k]? = some true := by simp [h]
structure bA5 (c : C4) (qs : List Int) (bs : List Bool) : Prop where
 len : bs.length = c.list.length
 cnt : qs.length + bs.count false = c.list.length
 q : ∀ t ∈ qs, 0 ≤ t ∧ t < c.list.length ∧ Rc c t
 sound : ∀ j : Nat, bs[j]? = some true → Rc c j
 inq : ∀ j : Nat, bs[j]? = some true → (j : Int) ∈ qs
 zero : bs[0]? = some true
theorem bA5.start {c : C4} (hc : aD8 c = true) : bA5 c [0] ((bH1 c.list.length false).set 0 true) := by
 have hn := (af0 hc).2.1
 have hone : ∀ j : Nat, ((bH1 c.list.length false).set 0 true)[j]? = some true → j = 0 := by
  intro j h
  rcases aA8 h with h | h
  ·exact h
  ·rw [List.getElem?_replicate] at h; split at h <;> simp at h
 refine ⟨by simp, ?_, ?_, ?_, ?_, ?_⟩
 ·have := ay7 (bs := bH1 c.list.length false) (k := 0) (by rw [List.getElem?_replicate, if_pos (by omega)])
  simp at this ⊢
  omega
 ·intro t ht
  simp at ht; subst ht
  exact ⟨by omega, by omega, .zero⟩
 ·intro j h; rw [hone j h]; exact .zero
 ·intro j h; rw [hone j h]; simp
 ·exact aH1 (by simp; omega)
structure bd7 (c : C4) (ls : List Int) (bs : List Bool) : Prop where
 len : bs.length = c.list.length
 cnt : ls.length + 2 * bs.count false ≤ 2 * c.list.length + 1
 l : ∀ t ∈ ls, 0 ≤ t ∧ t < c.list.length ∧ Rc c t
 sound : ∀ j : Nat, bs[j]? = some true → Rc c j
 zero : bs[0]? = some true ∨ (0 : Int) ∈ ls
 clos : ∀ j : Nat, bs[j]? = some true → ∀ t ∈ nx c j, bs[t.toNat]? = some true ∨ t ∈ ls
theorem bd7.start {c : C4} (hc : aD8 c = true) : bd7 c [0] (bH1 c.list.length false) := by
 have hn := (af0 hc).2.1
 refine ⟨by simp, by simp; omega, ?_, ?_, .inr (by simp), ?_⟩
 ·intro t ht
  simp at ht; subst ht
  exact ⟨by omega, by omega, .zero⟩
 ·intro j h; rw [List.getElem?_replicate] at h; split at h <;> simp at h
 ·intro j h; rw [List.getElem?_replicate] at h; split at h <;> simp at h
theorem bd7.skip {c : C4} {ls : List Int} {i : Int} {bs : List Bool} (h : bd7 c (ls ++ [i]) bs) (hb : bs[i.toNat]? = some true) : bd7 c ls bs := by
 refine ⟨h.len, by have := h.cnt; simp at this; omega, fun t ht => h.l t (List.mem_append_left _ ht), h.sound, ?_, ?_⟩
 ·rcases h.zero with h0 | h0
  ·exact .inl h0
  ·rcases bH4.1 h0 with h0 | h0
   ·exact .inr h0
   ·simp at h0; subst h0; exact .inl hb
 ·intro j hj t ht
  rcases h.clos j hj t ht with h1 | h1
  ·exact .inl h1
  ·rcases bH4.1 h1 with h1 | h1
   ·exact .inr h1
   ·simp at h1; subst h1; exact .inl hb
end Go.Proofs.Ytgmhmijcnlfmfaa

namespace Go.Proofs.Ytgmhmijcnlfmfaa
open Go Go.RowKit
section
variable {P : Program} {md : Region.Mode} {C : World → Prop}
theorem ae9 {listed : Array Bool} {i : Nat} (h : listed.getD i true = false) : (listed.setIfInBounds i true).toList.count false + 1 = listed.toList.count false := by
 rw [Array.toList_setIfInBounds]
 refine ay7 ?_
 rcases bI9 i listed.size with h' | h'
 ·simp [h'] at h ⊢; exact h
 ·simp [Array.getElem?_eq_none h'] at h
end
abbrev ints (l : List Int) : List Value := l.map (Value.int .i64)
theorem aq8 (l : List Int) (k : Nat) (h : k < l.length) : (ints l)[k]? = some (.int .i64 l[k]) := by simp [ints, h]
def aQ4 (K n : Nat) : List Int := (bH5 n).map fun (j : Nat) => ((K : Int) + (j : Int))
abbrev bs4 (w : World) (v : Value) (l : List G2) : Prop := K3 w v l.length 5 (ints (Y8 l))
abbrev G2.v (x : G2) : Value := .agg #[.int .i64 x.op, .int .i64 x.a, .int .i64 x.b, .int .i64 x.c, .int .i64 x.d]
def am4 (w : World) (v : Value) (c : C4) : Prop :=
 ∃ v1 v2 v3, v = .agg #[v1, v2, v3] ∧ K3 w v1 c.vars.length 1 (ints c.vars) ∧ K3 w v2 c.arrays.length 1 (ints c.arrays) ∧ bs4 w v3 c.list
def N5 (w : World) (lo hi : Nat) (v : Value) (c : C4) : Prop :=
 ∃ v1 v2 v3, v = .agg #[v1, v2, v3] ∧ T5 w lo hi 3 1 v1 c.vars.length (ints c.vars) ∧ T5 w lo hi 3 1 v2 c.arrays.length (ints c.arrays) ∧ T5 w lo hi 166 5 v3 c.list.length (ints (Y8 c.list)) ∧
  aN0 v1 v2 ∧ aN0 v1 v3 ∧ aN0 v2 v3
theorem am4.below {w w' : World} {v : Value} {c : C4} (h : am4 w v c) (hb : Below w.heap.size w w') : am4 w' v c := by
 obtain ⟨v1, v2, v3, rfl, h1, h2, h3⟩ := h
 exact ⟨v1, v2, v3, rfl, h1.below hb, h2.below hb, h3.below hb⟩
theorem N5.row {w : World} {lo hi : Nat} {v : Value} {c : C4} (h : N5 w lo hi v c) : am4 w v c := by
 obtain ⟨v1, v2, v3, rfl, h1, h2, h3, _⟩ := h
 exact ⟨v1, v2, v3, rfl, h1.row, h2.row, h3.row⟩
theorem N5.keep {w w' : World} {lo hi B : Nat} {v : Value} {c : C4} (h : N5 w lo hi v c) (hb : Below B w w') (hB : hi ≤ B) : N5 w' lo hi v c := by
 obtain ⟨v1, v2, v3, rfl, h1, h2, h3, hd⟩ := h
 exact ⟨v1, v2, v3, rfl, h1.keep hb hB, h2.keep hb hB, h3.keep hb hB, hd⟩
theorem N5.out {w w' : World} {lo hi lo' hi' : Nat} {v : Value} {c : C4} (h : N5 w lo hi v c) (hb : Out lo' hi' w w') (hB : hi ≤ lo' ∨ hi' ≤ lo) : N5 w' lo hi v c := by
 obtain ⟨v1, v2, v3, rfl, h1, h2, h3, hd⟩ := h
 exact ⟨v1, v2, v3, rfl, h1.out hb hB, h2.out hb hB, h3.out hb hB, hd⟩
def ai5 (w : World) (v : Value) (K nv na nl : Nat) : Prop :=
 ∃ v1 v2 v3, v = .agg #[v1, v2, v3] ∧ K3 w v1 nv 1 (ints (aQ4 K nv)) ∧ K3 w v2 na 1 (ints (aQ4 (K + nv) na)) ∧ K3 w v3 nl 5 (ints (aQ4 (K + nv + na) (nl * 5)))
theorem ai5.below {w w' : World} {v : Value} {K nv na nl : Nat} (h : ai5 w v K nv na nl) (hb : Below w.heap.size w w') : ai5 w' v K nv na nl := by
 obtain ⟨v1, v2, v3, rfl, h1, h2, h3⟩ := h
 exact ⟨v1, v2, v3, rfl, h1.below hb, h2.below hb, h3.below hb⟩
theorem aH8 {P : Program} {w : World} {lo : Nat} {t ty e : TypeId} {i : TypeInfo} {size : Nat} (ht : P.underlying t = some (.slice e)) (hi : P.info? e = some i)
  {v : Value} {n : Nat} {xs : List Value} (hown : w.ownsRow lo e size v n xs) (c : Nat) : (Builtin.append_ #[t, t] ty #[v, .slice none 0 c]).run P w = .ok v w := by
 obtain ⟨_, h⟩ := hown
 rcases h with ⟨rfl, rfl⟩ | ⟨g, cap, cur, rfl, _, _, hnc, _⟩
 ·simp [Builtin.append_, run_underlying ht, sizeOf, typeInfo, hi, Builtin.lenOf, Builtin.firstCells]
 ·simp [Builtin.append_, run_underlying ht, sizeOf, typeInfo, hi, Builtin.lenOf, Builtin.firstCells, hnc, storeCells]
theorem ax7 {w : World} {lo : Nat} {e : TypeId} {sz : Nat} {v : Value} {n : Nat} {xs : List Value} (h : w.ownsRow lo e sz v n xs) : ∃ a k, v = .slice a n k := by
 rcases h.2 with ⟨rfl, rfl⟩ | ⟨g, cap, cur, rfl, _⟩
 ·exact ⟨_, _, rfl⟩
 ·exact ⟨_, _, rfl⟩
theorem al6 {P : Program} {w : World} {lo : Nat} {t ty e : TypeId} {z : Value} {size bytes : Nat} (ht : P.underlying t = some (.slice e)) (hi : (P.info? e).map (fun i => (i.zero, i.size, i.bytes)) = some (some z, size, bytes))
  (hzs : z.cells.size = size) (hsz : 0 < size) {v : Value} {n : Nat} {xs : List Value} (hown : w.ownsRow lo e size v n xs) {u : Value} {m : Nat} {news : List Value} (hr : K3 w u m size news) (h1 : ∀ u ∈ news, u.oneCell' = true)
  (h63 : n + m ≤ 9223372036854775807) (hbytes : (n + m) * bytes ≤ 140737488355328) (hbase : lo ≤ w.heap.size) :
  ∃ a' k' w', (Builtin.append_ #[t, t] ty #[v, u]).run P w = .ok (.slice a' (n + m) k') w' ∧ w'.ownsRow lo e size (.slice a' (n + m) k') (n + m) (xs ++ news) ∧ Below lo w w' ∧ w.grownBy w' v.ownBlock ∧ (∀ g, (Value.slice a' (n + m) k').ownBlock = some g → v.ownBlock = some g ∨ w.heap.size ≤ g) := by
 obtain ⟨i, g1, g2, g3, g4⟩ := info_parts hi
 obtain ⟨hl, A, c, rfl, hmc, hc, hA⟩ := hr
 have below_of : ∀ {w' : World}, w.grownBy w' v.ownBlock → Below lo w w' := fun {w'} hg => by
  refine ⟨hg.os, hg.tape, hg.output, hg.size, fun k hk => hg.block k (by omega) fun he => ?_⟩
  have := hown.lt k he.symm
  omega
 rcases A with _ | a
 ·have hm : m = 0 := by
   rcases Nat.eq_zero_or_pos m with h0 | h0
   ·exact h0
   ·obtain ⟨_, _, he, _⟩ := hA h0; cases he
  subst hm
  have hn : news = [] := bI8 (by simpa using hl)
  subst hn
  obtain ⟨a', k', rfl⟩ := ax7 hown
  exact ⟨a', k', w, aH8 ht g1 hown c, by simpa using hown, Below.refl _ _, ⟨rfl, rfl, rfl, bH3 _, fun _ _ _ => rfl⟩, fun g hg => .inl hg⟩
 ·have hcells : ∀ j u, news[j]? = some u → w.cell? (a.add j) = some u := by
   intro j u hu
   have h0 : 0 < m := by
    rcases Nat.eq_zero_or_pos m with h0 | h0
    ·subst h0
     have hn : news = [] := bI8 (by simpa using hl)
     subst hn; simp at hu
    ·exact h0
   obtain ⟨b, off, he, hb, hx⟩ := hA h0
   cases he
   have hadd : (⟨b, off, none⟩ : Addr).add j = ⟨b, off + j, none⟩ := by unfold Addr.add; split <;> simp_all
   rw [hadd]
   exact hx j u hu
  obtain ⟨v', w', hrun, h2, h3, _, h5⟩ := run_append_own_at (P := P) w lo t ty e i z size bytes ht g1 g2 g3 g4 hzs hsz v n xs hown a m c news hl hcells h1 (by unfold maxLen; omega) hbytes hbase
  obtain ⟨a', k', rfl⟩ := ax7 h2
  exact ⟨a', k', w', hrun, h2, below_of h3, h3, fun g hg => h5.elim (fun h => .inl (h ▸ hg)) fun h => .inr (by rw [h] at hg; cases hg; exact bH3 _)⟩
section
variable {P : Program}
theorem aZ1 {x : Oper} {a : Act} {w : World} {K : Act → World → Prop} {Q Q0 : Exit → Act → World → Prop} (h0 : ∀ e a w, Q0 e a w → e = .normal) (h : x.wp P a w K Q0) : x.wp P a w K Q := by
 unfold Oper.wp at *
 generalize (execOp a.eval x).run P w = r at *
 cases r with
 | ok n w' =>
  cases n <;> simp only [Oper.upon] at h ⊢ <;>
   first
    | exact h
    | exact Calls.mono h (fun e w'' he => by
      cases e
      ·exact he
      ·exact absurd (h0 _ _ _ he) (by simp)
      ·obtain ⟨a, w, hq⟩ := he; exact absurd (h0 _ _ _ hq) (by simp))
 | halt y w' =>
  cases y <;> simp only [Oper.upon] at h ⊢ <;> first | exact h | exact absurd (h0 _ _ _ h) (by simp)
end
section
variable {P : Program}
structure bF7 (mk : (Nat → Value) → Act) (C : World → Prop) (R : Nat → Value → World → Prop) (n : Nat) (listed : Array Bool) (f : Nat → Value) (a : Act) (w : World) : Prop where
 act : a = mk f
 cls : C w
 val : ∀ i, i < n → listed.getD i false = true → R i (f i) w
end
def Q9 (φ φ' : Nat → Prop) (w w' : World) : Prop := w.heap.size ≤ w'.heap.size ∧ ∀ b, b < w.heap.size → φ b → φ' b ∧ w'.heap[b]? = w.heap[b]?
def S8 (R : World → (Nat → Prop) → Prop) : Prop := ∀ w w' φ φ', Q9 φ φ' w w' → R w φ → R w' φ'
theorem Q9.below {φ : Nat → Prop} {w w' : World} (h : Below w.heap.size w w') : Q9 φ φ w w' := ⟨h.size, fun b hb hf => ⟨hf, h.block b hb⟩⟩
theorem Q9.mono {φ φ' : Nat → Prop} {w : World} (h : ∀ b, b < w.heap.size → φ b → φ' b) : Q9 φ φ' w w := ⟨bH3 _, fun b hb hf => ⟨h b hb hf, rfl⟩⟩
theorem Q9.cell {φ φ' : Nat → Prop} {w w' : World} (h : Q9 φ φ' w w') {b o : Nat} (hb : b < w.heap.size) (hf : φ b) : w'.cell? ⟨b, o, none⟩ = w.cell? ⟨b, o, none⟩ := by
 simp only [World.cell?, (h.2 b hb hf).2]
def t2 (w : World) (φ : Nat → Prop) (v : Value) (n sz : Nat) (xs : List Value) : Prop :=
 xs.length = n * sz ∧ ∃ a cap, v = .slice a n cap ∧ n ≤ cap ∧ cap ≤ maxLen ∧
  (0 < n → ∃ b off, a = some ⟨b, off, none⟩ ∧ b < w.heap.size ∧ φ b ∧ ∀ j u, xs[j]? = some u → w.cell? ⟨b, off + j, none⟩ = some u)
theorem t2.nice (v : Value) (n sz : Nat) (xs : List Value) : S8 fun w φ => t2 w φ v n sz xs := by
 rintro w w' φ φ' ha ⟨hl, a, cap, rfl, h1, h2, h3⟩
 refine ⟨hl, a, cap, rfl, h1, h2, fun hn => ?_⟩
 obtain ⟨b, off, rfl, hb, hf, hc⟩ := h3 hn
 exact ⟨b, off, rfl, Nat.lt_of_lt_of_le hb ha.1, (ha.2 b hb hf).1, fun j u hj => (ha.cell hb hf).trans (hc j u hj)⟩
theorem t2.row {w : World} {φ : Nat → Prop} {v : Value} {n sz : Nat} {xs : List Value} (h : t2 w φ v n sz xs) : K3 w v n sz xs := by
 obtain ⟨hl, a, cap, rfl, h1, h2, h3⟩ := h
 refine ⟨hl, a, cap, rfl, h1, h2, fun hn => ?_⟩
 obtain ⟨b, off, rfl, hb, _, hc⟩ := h3 hn
 exact ⟨b, off, rfl, hb, hc⟩
theorem K3.rowF {w : World} {v : Value} {n sz : Nat} {xs : List Value} (h : K3 w v n sz xs) {φ : Nat → Prop} (hf : ∀ b, b < w.heap.size → φ b) : t2 w φ v n sz xs := by
 obtain ⟨hl, a, cap, rfl, h1, h2, h3⟩ := h
 refine ⟨hl, a, cap, rfl, h1, h2, fun hn => ?_⟩
 obtain ⟨b, off, rfl, hb, hc⟩ := h3 hn
 exact ⟨b, off, rfl, hb, hf b hb, hc⟩
theorem t2.nil (w : World) (φ : Nat → Prop) (sz : Nat) : t2 w φ (.slice none 0 0) 0 sz [] := ⟨by simp, none, 0, rfl, bH3 _, by unfold maxLen; omega, fun h => absurd h (by omega)⟩
theorem w6 {w : World} {lo : Nat} {e : TypeId} {sz : Nat} {v : Value} {n : Nat} {xs : List Value} (h : w.ownsRow lo e sz v n xs) {φ : Nat → Prop} (hf : ∀ g, v.ownBlock = some g → φ g) : t2 w φ v n sz xs := by
 obtain ⟨hl, a, cap, hv, h1, h2, h3⟩ := P6 h
 refine ⟨hl, a, cap, hv, h1, h2, fun hn => ?_⟩
 obtain ⟨b, off, he, hb, hc⟩ := h3 hn
 refine ⟨b, off, he, hb, ?_, hc⟩
 rcases h.2 with ⟨hv', h0⟩ | ⟨g, cap', cur, hv', _⟩
 ·omega
 ·rw [hv'] at hv
  cases hv
  cases he
  exact hf _ (by rw [hv']; rfl)
inductive L3 where
 | box (b : Nat) (cs : List Value)
 | row (e : TypeId) (sz : Nat) (v : Value) (n : Nat) (xs : List Value)
 | dat (R : World → (Nat → Prop) → Prop)
 | own (S : Nat → Prop) (R : World → Prop)
def L3.blk : L3 → Nat → Prop
 | .box b _ => fun g => g = b
 | .row _ _ v _ _ => fun g => v.ownBlock = some g
 | .dat _ => fun _ => False
 | .own S _ => S
def Fr (φ : Nat → Prop) (L : List L3) (b : Nat) : Prop := φ b ∧ ∀ r ∈ L, ¬ r.blk b
def L3.holds (w : World) (φ : Nat → Prop) : L3 → Prop
 | .box b cs => O9 w b cs
 | .row e sz v n xs => w.ownsRow 0 e sz v n xs
 | .dat R => S8 R ∧ R w φ
 | .own S R => (∀ w w', R w → (∀ b, S b → b < w.heap.size → w'.heap[b]? = w.heap[b]?) → R w') ∧ R w ∧ ∀ b, S b → b < w.heap.size
structure w5 (ψ : Nat → Prop) (w w' : World) : Prop where
 os : w'.os = w.os
 tape : w'.tape = w.tape
 output : w'.output = w.output
 size : w.heap.size ≤ w'.heap.size
 block : ∀ b, b < w.heap.size → ψ b → w'.heap[b]? = w.heap[b]?
theorem w5.refl (ψ : Nat → Prop) (w : World) : w5 ψ w w := ⟨rfl, rfl, rfl, bH3 _, fun _ _ _ => rfl⟩
theorem w5.trans {ψ : Nat → Prop} {a b c : World} (h : w5 ψ a b) (k : w5 ψ b c) : w5 ψ a c :=
 ⟨k.os.trans h.os, k.tape.trans h.tape, k.output.trans h.output, bI3 h.size k.size, fun i hi hp => (k.block i (Nat.lt_of_lt_of_le hi h.size) hp).trans (h.block i hi hp)⟩
theorem w5.of_below {ψ : Nat → Prop} {w w' : World} {B : Nat} (h : Below B w w') (hB : ∀ b, b < w.heap.size → ψ b → b < B) : w5 ψ w w' := ⟨h.os, h.tape, h.output, h.size, fun b hb hp => h.block b (hB b hb hp)⟩
theorem w5.below {w w' : World} {ψ : Nat → Prop} (h : w5 ψ w w') (hp : ∀ b, b < w.heap.size → ψ b) : Below w.heap.size w w' := ⟨h.os, h.tape, h.output, h.size, fun b hb => h.block b hb (hp b hb)⟩
structure v7 (φ ψ : Nat → Prop) (w0 w : World) (L : List L3) : Prop where
 kept : w5 ψ w0 w
 fresh : ∀ b, w0.heap.size ≤ b → φ b
 holds : ∀ (r : L3), r ∈ L → r.holds w (Fr φ L)
 dis : ∀ (i j : Nat) (a b : L3) (g : Nat), L[i]? = some a → L[j]? = some b → i ≠ j → a.blk g → ¬ b.blk g
 ge : ∀ (r : L3) (b : Nat), r ∈ L → r.blk b → w0.heap.size ≤ b ∨ ¬ ψ b
section
variable {φ ψ : Nat → Prop} {w0 w w' : World} {L : List L3}
theorem v7.start (hf : ∀ b, w0.heap.size ≤ b → φ b) : v7 φ ψ w0 w0 [] := ⟨w5.refl _ _, hf, (fun _ h => by cases h), (fun i j a b g h => by simp at h), (fun _ _ h => by cases h)⟩
theorem L3.lt {r : L3} (h : r.holds w φ) {b : Nat} (hb : r.blk b) : b < w.heap.size := by
 cases r with
 | box b' cs => cases hb; exact O9.lt h
 | row e sz v n xs => exact (World.ownsRow.lt h b hb).2
 | dat R => cases hb
 | own S R => exact h.2.2 b hb
theorem v7.lt (M : v7 φ ψ w0 w L) {r : L3} (hr : r ∈ L) {b : Nat} (hb : r.blk b) : b < w.heap.size := L3.lt (M.holds r hr) hb
theorem v7.size (M : v7 φ ψ w0 w L) : w0.heap.size ≤ w.heap.size := M.kept.size
theorem v7.below (M : v7 φ ψ w0 w L) (hp : ∀ b, b < w0.heap.size → ψ b) : Below w0.heap.size w0 w := M.kept.below hp
theorem L3.keep {φ' : Nat → Prop} {r : L3} (h : r.holds w φ) (ha : Q9 φ φ' w w') (hb : ∀ b, r.blk b → w'.heap[b]? = w.heap[b]?) : r.holds w' φ' := by
 cases r with
 | box b cs => obtain ⟨T, h⟩ := h; exact ⟨T, (hb b rfl).trans h⟩
 | row e sz v n xs => exact (T5.same (lo := 0) (hi := w.heap.size) ⟨h, fun g hg => (World.ownsRow.lt h g hg).2⟩ hb).1
 | dat R => exact ⟨h.1, h.1 _ _ _ _ ha h.2⟩
 | own S R => exact ⟨h.1, h.1 _ _ h.2.1 fun b hs _ => hb b hs, fun b hs => Nat.lt_of_lt_of_le (h.2.2 b hs) ha.1⟩
theorem v7.call (M : v7 φ ψ w0 w L) (b : Below w.heap.size w w') : v7 φ ψ w0 w' L :=
 ⟨M.kept.trans (w5.of_below b fun _ h _ => h), M.fresh, fun r hr => L3.keep (M.holds r hr) (Q9.below b) fun g hg => b.block g (M.lt hr hg), M.dis, M.ge⟩
theorem v7.drew (M : v7 φ ψ w0 w L) : v7 φ ψ w0 w.drew L := M.call (Below.refl _ _).drew
theorem Fr.snoc {r : L3} {b : Nat} : Fr φ (L ++ [r]) b ↔ Fr φ L b ∧ ¬ r.blk b := by
 unfold Fr
 constructor
 ·rintro ⟨h1, h2⟩; exact ⟨⟨h1, fun x hx => h2 x (by simp [hx])⟩, h2 r (by simp)⟩
 ·rintro ⟨⟨h1, h2⟩, h3⟩
  refine ⟨h1, fun x hx => ?_⟩
  simp only [bH4, bI1] at hx
  rcases hx with hx | rfl
  ·exact h2 x hx
  ·exact h3
theorem v7.add (M : v7 φ ψ w0 w L) (b : Below w.heap.size w w') (r : L3) (h : r.holds w' (Fr φ (L ++ [r]))) (hg : ∀ g, r.blk g → w.heap.size ≤ g) : v7 φ ψ w0 w' (L ++ [r]) := by
 have M' := M.call b
 refine ⟨M'.kept, M.fresh, fun x hx => ?_, fun i j x y g hi hj hij hx hy => ?_, fun x g hx hxg => ?_⟩
 ·simp only [bH4, bI1] at hx
  rcases hx with hx | rfl
  ·exact L3.keep (M.holds x hx) ⟨b.size, fun c hc hf => ⟨Fr.snoc.2 ⟨hf, fun he => by have := hg c he; omega⟩, b.block c hc⟩⟩ fun g hgx => b.block g (M.lt hx hgx)
  ·exact h
 ·have lt : ∀ (k : Nat) (z : L3), (L ++ [r])[k]? = some z → (k < L.length ∧ L[k]? = some z) ∨ (k = L.length ∧ z = r) := by
   intro k z hz
   rcases bI9 k L.length with hk | hk
   ·rw [bJ0 hk] at hz; exact .inl ⟨hk, hz⟩
   ·rw [bJ7 hk] at hz
    have : k - L.length = 0 := by
     rcases Nat.eq_zero_or_pos (k - L.length) with h | h
     ·exact h
     ·rw [bH9 (by rw [List.length_singleton]; exact h)] at hz; cases hz
    rw [this] at hz; simp at hz
    exact .inr ⟨by omega, hz.symm⟩
  rcases lt i x hi with ⟨hi', h1⟩ | ⟨hi', rfl⟩ <;> rcases lt j y hj with ⟨hj', h2⟩ | ⟨hj', rfl⟩
  ·exact M.dis i j x y g h1 h2 hij hx hy
  ·have := M.lt (bH2 h1) hx; have := hg g hy; omega
  ·have := M.lt (bH2 h2) hy; have := hg g hx; omega
  ·omega
 ·simp only [bH4, bI1] at hx
  rcases hx with hx | rfl
  ·exact M.ge x g hx hxg
  ·exact .inl (bI3 M.size (hg g hxg))
theorem v7.box (M : v7 φ ψ w0 w L) (cs : List Value) (T : TypeId) : v7 φ ψ w0 (w.alloc (.cells cs.toArray T)) (L ++ [.box w.heap.size cs]) :=
 M.add ((Below.refl _ _).alloc (bH3 _) _) _ (O9.new w cs T) fun g hg => by cases hg; exact bH3 _
theorem v7.box' (M : v7 φ ψ w0 w L) (cs : List Value) (T : TypeId) {b : Nat} (hb : b = w.heap.size) : v7 φ ψ w0 (w.alloc (.cells cs.toArray T)) (L ++ [.box b cs]) := by subst hb; exact M.box cs T
theorem v7.dat (M : v7 φ ψ w0 w L) {R : World → (Nat → Prop) → Prop} (hn : S8 R) (h : R w (Fr φ L)) : v7 φ ψ w0 w (L ++ [.dat R]) :=
 M.add (Below.refl _ _) _ ⟨hn, hn _ _ _ _ (Q9.mono fun b _ hf => Fr.snoc.2 ⟨hf, fun h => by cases h⟩) h⟩ fun g hg => by cases hg
theorem v7.nil (M : v7 φ ψ w0 w L) (e : TypeId) (sz : Nat) : v7 φ ψ w0 w (L ++ [.row e sz (.slice none 0 0) 0 []]) :=
 M.add (Below.refl _ _) _ (World.ownsRow_nil _ _ _ _) fun g hg => by cases hg
theorem Fr.set {r : L3} {i : Nat} {a : L3} (_hi : L[i]? = some a) {b : Nat} (h : Fr φ L b) (hr : ¬ r.blk b) : Fr φ (L.set i r) b :=
 ⟨h.1, fun x hx => by
  rcases List.mem_or_eq_of_mem_set hx with hx | rfl
  ·exact h.2 x hx
  ·exact hr⟩
theorem v7.put (M : v7 φ ψ w0 w L) {i : Nat} {a : L3} (hi : L[i]? = some a) (r : L3) (hk : w5 (fun b => ¬ a.blk b) w w') (h : r.holds w' (Fr φ (L.set i r))) (hg : ∀ g, r.blk g → a.blk g ∨ w.heap.size ≤ g) : v7 φ ψ w0 w' (L.set i r) := by
 have hil := (bG5.1 hi).1
 have ha := bH2 hi
 have get : ∀ (j : Nat) (z : L3), (L.set i r)[j]? = some z → (j ≠ i ∧ L[j]? = some z) ∨ (j = i ∧ z = r) := by
  intro j z hz
  by_cases e : j = i
  ·subst e; rw [List.getElem?_set_self hil] at hz; exact .inr ⟨rfl, (Option.some.inj hz).symm⟩
  ·rw [List.getElem?_set_ne (fun h => e h.symm)] at hz; exact .inl ⟨e, hz⟩
 refine ⟨⟨hk.os.trans M.kept.os, hk.tape.trans M.kept.tape, hk.output.trans M.kept.output, bI3 M.size hk.size, fun b hb hp => (hk.block b (Nat.lt_of_lt_of_le hb M.size) fun he => ?_).trans (M.kept.block b hb hp)⟩, M.fresh, fun x hx => ?_, fun j k x y g hj hk' hjk hx hy => ?_, fun x g hx hxg => ?_⟩
 ·rcases M.ge a b ha he with h' | h'
  ·omega
  ·exact h' hp
 ·obtain ⟨j, hj⟩ := List.mem_iff_getElem?.1 hx
  rcases get j x hj with ⟨hne, hj'⟩ | ⟨_, rfl⟩
  ·refine L3.keep (M.holds x (bH2 hj')) ⟨hk.size, fun b hb hf => ⟨Fr.set hi hf fun he => ?_, hk.block b hb (hf.2 a ha)⟩⟩ fun g hgx => hk.block g (M.lt (bH2 hj') hgx) fun he => M.dis i j a x g hi hj' (fun e => hne e.symm) he hgx
   rcases hg b he with h' | h'
   ·exact hf.2 a ha h'
   ·omega
  ·exact h
 ·rcases get j x hj with ⟨hne, hj'⟩ | ⟨e1, rfl⟩ <;> rcases get k y hk' with ⟨hne', hk''⟩ | ⟨e2, rfl⟩
  ·exact M.dis j k x y g hj' hk'' hjk hx hy
  ·rcases hg g hy with h' | h'
   ·exact M.dis j i x a g hj' hi hne hx h'
   ·have := M.lt (bH2 hj') hx; omega
  ·rcases hg g hx with h' | h'
   ·exact M.dis i k a y g hi hk'' (fun e => hne' e.symm) h' hy
   ·have := M.lt (bH2 hk'') hy; omega
  ·omega
 ·obtain ⟨j, hj⟩ := List.mem_iff_getElem?.1 hx
  rcases get j x hj with ⟨hne, hj'⟩ | ⟨_, rfl⟩
  ·exact M.ge x g (bH2 hj') hxg
  ·rcases hg g hxg with h' | h'
   ·exact M.ge a g ha h'
   ·exact .inl (bI3 M.size h')
theorem w5.mono {ψ ψ' : Nat → Prop} {w w' : World} (h : w5 ψ w w') (hp : ∀ b, ψ' b → ψ b) : w5 ψ' w w' := ⟨h.os, h.tape, h.output, h.size, fun b hb hp' => h.block b hb (hp b hp')⟩
theorem w5.setCell (w : World) (b j : Nat) (u : Value) : w5 (fun c => ¬ c = b) w (w.setCell ⟨b, j, none⟩ u) :=
 ⟨rfl, rfl, rfl, by simp [World.setCell], fun c _ hc => Below.heap_setCell _ _ _ _ hc⟩
theorem v7.set (M : v7 φ ψ w0 w L) (i : Nat) {b : Nat} {cs : List Value} (hi : L[i]? = some (.box b cs)) (j : Nat) (u : Value) : v7 φ ψ w0 (w.setCell ⟨b, j, none⟩ u) (L.set i (.box b (cs.set j u))) :=
 M.put hi _ (w5.setCell w b j u) (O9.set (M.holds _ (bH2 hi)) u) fun _ hg => .inl hg
theorem v7.setFrom (us : List Value) : ∀ {w : World} {L : List L3} {p : Nat} {cs : List Value}, v7 φ ψ w0 w L → ∀ (i : Nat) {b : Nat}, L[i]? = some (.box b cs) → v7 φ ψ w0 (World.setFrom w b p us) (L.set i (.box b (Go.Proofs.Ytgmhmijcnlfmfaa.setFrom cs p us))) := by
 induction us with
 | nil =>
  intro w L p cs M i b hi
  have : L.set i (.box b cs) = L := by
   apply List.ext_getElem?
   intro j
   rw [List.getElem?_set]
   split
   ·rename_i e; subst e; rw [if_pos (bG5.1 hi).1, hi]
   ·rfl
  show v7 φ ψ w0 w (L.set i (.box b cs))
  rw [this]; exact M
 | cons u r ih =>
  intro w L p cs M i b hi
  have h1 := M.set i hi p u
  have h2 := ih (p := p + 1) h1 i (by rw [List.getElem?_set_self (bG5.1 hi).1])
  rw [List.set_set] at h2
  exact h2
theorem aH5 {cs us : List Value} (h : us.length = cs.length) : Go.Proofs.Ytgmhmijcnlfmfaa.setFrom cs 0 us = us := by
 have h1 := ad4 us cs 0 (by omega)
 rw [bJ4, bG9 (by rw [z9]; omega)] at h1
 simpa using h1
theorem v7.fill (M : v7 φ ψ w0 w L) (i : Nat) {b : Nat} {cs : List Value} (hi : L[i]? = some (.box b cs)) (us : List Value) (h : us.length = cs.length) : v7 φ ψ w0 (World.setFrom w b 0 us) (L.set i (.box b us)) := by
 have h1 := M.setFrom us (p := 0) i hi
 rwa [aH5 h] at h1
theorem v7.callB (M : v7 φ ψ w0 w L) (i : Nat) {b : Nat} {cs cs' : List Value} (hi : L[i]? = some (.box b cs)) (hk : w5 (fun c => ¬ c = b) w w') (h : O9 w' b cs') : v7 φ ψ w0 w' (L.set i (.box b cs')) :=
 M.put hi _ hk h fun _ hg => .inl hg
theorem v7.app (M : v7 φ ψ w0 w L) (i : Nat) {e : TypeId} {sz : Nat} {v v' : Value} {n n' : Nat} {xs xs' : List Value} (hi : L[i]? = some (.row e sz v n xs)) (h : w'.ownsRow 0 e sz v' n' xs') (hg : w.grownBy w' v.ownBlock) (hb : ∀ g, v'.ownBlock = some g → v.ownBlock = some g ∨ w.heap.size ≤ g) :
  v7 φ ψ w0 w' (L.set i (.row e sz v' n' xs')) :=
 M.put hi _ ⟨hg.os, hg.tape, hg.output, hg.size, fun b hb hn => hg.block b hb fun h => hn h.symm⟩ h hb
theorem v7.take (M : v7 φ ψ w0 w L) (k : Nat) : v7 φ ψ w0 w (L.take k) :=
 ⟨M.kept, M.fresh, fun r hr => L3.keep (M.holds r (List.mem_of_mem_take hr)) (Q9.mono fun _ _ hf => ⟨hf.1, fun x hx => hf.2 x (List.mem_of_mem_take hx)⟩) fun _ _ => rfl,
  fun i j a b g hi hj hij => M.dis i j a b g (by rw [List.getElem?_take] at hi; split at hi; exact hi; cases hi) (by rw [List.getElem?_take] at hj; split at hj; exact hj; cases hj) hij, fun r b hr => M.ge r b (List.mem_of_mem_take hr)⟩
theorem v7.sel (M : v7 φ ψ w0 w L) (is : List Nat) (L' : List L3) (h : L'.map some = is.map fun i => L[i]?) (hn : is.Nodup) : v7 φ ψ w0 w L' := by
 have hl : L'.length = is.length := by simpa using congrArg List.length h
 have get : ∀ (j : Nat) (r : L3), L'[j]? = some r → ∃ i, is[j]? = some i ∧ L[i]? = some r := by
  intro j r hj
  have h1 : (L'.map some)[j]? = some (some r) := by simp [hj]
  rw [h, List.getElem?_map] at h1
  cases hi : is[j]? with
  | none => rw [hi] at h1; cases h1
  | some i => rw [hi] at h1; exact ⟨i, rfl, Option.some.inj h1⟩
 have mem : ∀ r, r ∈ L' → r ∈ L := fun r hr => by
  obtain ⟨j, hj⟩ := List.mem_iff_getElem?.1 hr
  obtain ⟨i, _, hi⟩ := get j r hj
  exact bH2 hi
 refine ⟨M.kept, M.fresh, fun r hr => L3.keep (M.holds r (mem r hr)) (Q9.mono fun _ _ hf => ⟨hf.1, fun x hx => hf.2 x (mem x hx)⟩) fun _ _ => rfl, fun j k a b g hj hk hjk ha hb => ?_, fun r b hr => M.ge r b (mem r hr)⟩
 obtain ⟨i1, e1, h1⟩ := get j a hj
 obtain ⟨i2, e2, h2⟩ := get k b hk
 refine M.dis i1 i2 a b g h1 h2 (fun e => hjk ?_) ha hb
 subst e
 have hlt := (bG5.1 e1).1
 exact (List.getElem?_inj hlt hn).1 (e1.trans e2.symm)
theorem v7.c (M : v7 φ ψ w0 w L) (i j : Nat) {b : Nat} {cs : List Value} {u : Value} (hi : L[i]? = some (.box b cs)) (hj : cs[j]? = some u) : w.cell? ⟨b, j, none⟩ = some u :=
 (O9.cell (M.holds _ (bH2 hi)) j).trans hj
theorem v7.f (M : v7 φ ψ w0 w L) (i : Nat) {b : Nat} {cs : List Value} (hi : L[i]? = some (.box b cs)) : ∀ j, w.frozen? ⟨b, j, none⟩ = false := O9.free (M.holds _ (bH2 hi))
theorem v7.blk (M : v7 φ ψ w0 w L) (i : Nat) {b : Nat} {cs : List Value} (hi : L[i]? = some (.box b cs)) : O9 w b cs := M.holds _ (bH2 hi)
theorem v7.d (M : v7 φ ψ w0 w L) (i : Nat) {R : World → (Nat → Prop) → Prop} (hi : L[i]? = some (.dat R)) : R w (Fr φ L) := (M.holds _ (bH2 hi)).2
theorem v7.dn (M : v7 φ ψ w0 w L) (i : Nat) {R : World → (Nat → Prop) → Prop} (hi : L[i]? = some (.dat R)) : S8 R := (M.holds _ (bH2 hi)).1
theorem v7.out (M : v7 φ ψ w0 w L) (i : Nat) {R : World → (Nat → Prop) → Prop} (hi : L[i]? = some (.dat R)) : R w φ := M.dn i hi _ _ _ _ (Q9.mono fun _ _ hf => hf.1) (M.d i hi)
theorem v7.as (M : v7 φ ψ w0 w L) (L' : List L3) (h : L = L') : v7 φ ψ w0 w L' := h ▸ M
end
end Go.Proofs.Ytgmhmijcnlfmfaa

namespace Go.Proofs.Ytgmhmijcnlfmfaa
inductive b6 where
 | mk (kind value : Int) (kids : List b6)
def b6.kind : b6 → Int | ⟨k, _, _⟩ => k
def b6.value : b6 → Int | ⟨_, n, _⟩ => n
def b6.kids : b6 → List b6 | ⟨_, _, ks⟩ => ks
inductive b5 where
 | mk (kind target : Int) (index value : b6) (count : Int) (body els : List b5)
def b5.kind : b5 → Int | ⟨k, _, _, _, _, _, _⟩ => k
def b5.target : b5 → Int | ⟨_, t, _, _, _, _, _⟩ => t
def b5.index : b5 → b6 | ⟨_, _, i, _, _, _, _⟩ => i
def b5.value : b5 → b6 | ⟨_, _, _, v, _, _, _⟩ => v
def b5.count : b5 → Int | ⟨_, _, _, _, c, _, _⟩ => c
def b5.body : b5 → List b5 | ⟨_, _, _, _, _, b, _⟩ => b
def b5.els : b5 → List b5 | ⟨_, _, _, _, _, _, e⟩ => e
structure b7 where
 vars : List Int
 arrays : List Int
 body : List b5
mutual
theorem b6.ind {P : b6 → Prop} (h : ∀ k n ks, (∀ e ∈ ks, P e) → P ⟨k, n, ks⟩) : ∀ e : b6, P e
 | ⟨k, n, ks⟩ => h k n ks (b6.indL h ks)
theorem b6.indL {P : b6 → Prop} (h : ∀ k n ks, (∀ e ∈ ks, P e) → P ⟨k, n, ks⟩) : ∀ ks : List b6, ∀ e ∈ ks, P e
 | [] => fun _ hm => by cases hm
 | a :: r => fun _ hm => (bI7.1 hm).elim (fun he => he ▸ b6.ind h a) fun hm => b6.indL h r _ hm
end
mutual
theorem b5.ind {P : b5 → Prop} (h : ∀ k t i v c b e, (∀ s ∈ b, P s) → (∀ s ∈ e, P s) → P ⟨k, t, i, v, c, b, e⟩) : ∀ s : b5, P s
 | ⟨k, t, i, v, c, b, e⟩ => h k t i v c b e (b5.indL h b) (b5.indL h e)
theorem b5.indL {P : b5 → Prop} (h : ∀ k t i v c b e, (∀ s ∈ b, P s) → (∀ s ∈ e, P s) → P ⟨k, t, i, v, c, b, e⟩) : ∀ ss : List b5, ∀ s ∈ ss, P s
 | [] => fun _ hm => by cases hm
 | a :: r => fun _ hm => (bI7.1 hm).elim (fun he => he ▸ b5.ind h a) fun hm => b5.indL h r _ hm
end
mutual
def G8 : b6 → Nat
 | ⟨_, _, ks⟩ => i9 ks
def i9 : List b6 → Nat
 | [] => 0
 | e :: r => 1 + G8 e + i9 r
end
mutual
def szS : b5 → Nat
 | ⟨_, _, i, v, _, b, e⟩ => G8 i + G8 v + r6 b + r6 e
def r6 : List b5 → Nat
 | [] => 0
 | s :: r => 1 + szS s + r6 r
end
def b7.size (p : b7) : Nat := p.vars.length + p.arrays.length + r6 p.body
theorem M7 (a b : List b6) : i9 (a ++ b) = i9 a + i9 b := by
 induction a with
 | nil => simp [i9]
 | cons x r ih => simp [i9, ih]; omega
theorem aG3 (a : List b6) : a.length ≤ i9 a := by
 induction a with
 | nil => simp
 | cons x r ih => simp only [i9, bH7]; omega
theorem ac9 (a : List b5) : a.length ≤ r6 a := by
 induction a with
 | nil => simp
 | cons x r ih => simp only [r6, bH7]; omega
theorem be4 {e : b6} {ks : List b6} (h : e ∈ ks) : G8 e < i9 ks := by
 induction ks with
 | nil => cases h
 | cons x r ih =>
  simp only [i9]
  rcases bI7.1 h with rfl | h
  ·omega
  ·have := ih h; omega
theorem M6 {s : b5} {ss : List b5} (h : s ∈ ss) : szS s < r6 ss := by
 induction ss with
 | nil => cases h
 | cons x r ih =>
  simp only [r6]
  rcases bI7.1 h with rfl | h
  ·omega
  ·have := ih h; omega
mutual
def C0 : b6 → b6 → Bool
 | ⟨k, n, ks⟩, ⟨k', n', ks'⟩ => decide (k = k') && decide (n = n') && ab0 ks ks'
def ab0 : List b6 → List b6 → Bool
 | [], [] => true
 | e :: r, e' :: r' => C0 e e' && ab0 r r'
 | _, _ => false
end
mutual
def E8 : b5 → b5 → Bool
 | ⟨k, t, i, v, c, b, e⟩, ⟨k', t', i', v', c', b', e'⟩ => decide (k = k') && decide (t = t') && C0 i i' && C0 v v' && decide (c = c') && o8 b b' && o8 e e'
def o8 : List b5 → List b5 → Bool
 | [], [] => true
 | s :: r, s' :: r' => E8 s s' && o8 r r'
 | _, _ => false
end
mutual
theorem C8 : ∀ (a b : b6), C0 a b = true ↔ a = b
 | ⟨k, n, ks⟩, ⟨k', n', ks'⟩ => by
  simp only [C0, bF9, decide_eq_true_eq, b6.mk.injEq, ax1 ks ks', and_assoc]
theorem ax1 : ∀ (a b : List b6), ab0 a b = true ↔ a = b
 | [], [] => by simp [ab0]
 | [], _ :: _ => by simp [ab0]
 | _ :: _, [] => by simp [ab0]
 | e :: r, e' :: r' => by simp only [ab0, bF9, List.cons.injEq, C8 e e', ax1 r r']
end
mutual
theorem V4 : ∀ (a b : b5), E8 a b = true ↔ a = b
 | ⟨k, t, i, v, c, b, e⟩, ⟨k', t', i', v', c', b', e'⟩ => by
  simp only [E8, bF9, decide_eq_true_eq, b5.mk.injEq, C8 i i', C8 v v', B1 b b', B1 e e', and_assoc]
theorem B1 : ∀ (a b : List b5), o8 a b = true ↔ a = b
 | [], [] => by simp [o8]
 | [], _ :: _ => by simp [o8]
 | _ :: _, [] => by simp [o8]
 | e :: r, e' :: r' => by simp only [o8, bF9, List.cons.injEq, V4 e e', B1 r r']
end
def b7.same (p q : b7) : Bool := decide (p.vars = q.vars) && decide (p.arrays = q.arrays) && o8 p.body q.body
end Go.Proofs.Ytgmhmijcnlfmfaa

namespace Go.Proofs.Ytgmhmijcnlfmfaa
open Go Go.RowKit
section
mutual
def G6 (w : World) (φ : Nat → Prop) : b6 → List Value → Prop
 | ⟨k, n, ks⟩, cs => ∃ v xs, cs = [.int .i64 k, .int .i64 n, v] ∧ t2 w φ v ks.length 3 xs ∧ o9 w φ ks xs
def o9 (w : World) (φ : Nat → Prop) : List b6 → List Value → Prop
 | [], xs => xs = []
 | e :: r, xs => ∃ c ys, xs = c ++ ys ∧ G6 w φ e c ∧ o9 w φ r ys
end
def l8 (w : World) (φ : Nat → Prop) (v : Value) (ks : List b6) : Prop := ∃ xs, t2 w φ v ks.length 3 xs ∧ o9 w φ ks xs
def L4 (w : World) (φ : Nat → Prop) (v : Value) (e : b6) : Prop := ∃ kv, v = .agg #[.int .i64 e.kind, .int .i64 e.value, kv] ∧ l8 w φ kv e.kids
mutual
def F6 (w : World) (φ : Nat → Prop) : b5 → List Value → Prop
 | ⟨k, t, i, v, c, b, e⟩, cs => ∃ iv vv bv ev xb xe, cs = [.int .i64 k, .int .i64 t, .int .i64 i.kind, .int .i64 i.value, iv, .int .i64 v.kind, .int .i64 v.value, vv, .int .i64 c, bv, ev] ∧
   l8 w φ iv i.kids ∧ l8 w φ vv v.kids ∧ t2 w φ bv b.length 11 xb ∧ n9 w φ b xb ∧ t2 w φ ev e.length 11 xe ∧ n9 w φ e xe
def n9 (w : World) (φ : Nat → Prop) : List b5 → List Value → Prop
 | [], xs => xs = []
 | s :: r, xs => ∃ c ys, xs = c ++ ys ∧ F6 w φ s c ∧ n9 w φ r ys
end
def A5 (w : World) (φ : Nat → Prop) (v : Value) (ss : List b5) : Prop := ∃ xs, t2 w φ v ss.length 11 xs ∧ n9 w φ ss xs
def aY9 (w : World) (φ : Nat → Prop) (v : Value) (s : b5) : Prop :=
 ∃ iv vv bv ev, v = .agg #[.int .i64 s.kind, .int .i64 s.target, .int .i64 s.index.kind, .int .i64 s.index.value, iv, .int .i64 s.value.kind, .int .i64 s.value.value, vv, .int .i64 s.count, bv, ev] ∧
  l8 w φ iv s.index.kids ∧ l8 w φ vv s.value.kids ∧ A5 w φ bv s.body ∧ A5 w φ ev s.els
def aM8 (w : World) (φ : Nat → Prop) (v : Value) (p : b7) : Prop :=
 ∃ v1 v2 v3, v = .agg #[v1, v2, v3] ∧ t2 w φ v1 p.vars.length 1 (ints p.vars) ∧ t2 w φ v2 p.arrays.length 1 (ints p.arrays) ∧ A5 w φ v3 p.body
variable {w w' : World} {φ φ' : Nat → Prop}
mutual
theorem G6.agr (ha : Q9 φ φ' w w') : ∀ (e : b6) (cs : List Value), G6 w φ e cs → G6 w' φ' e cs
 | ⟨_, _, ks⟩, _, ⟨v, xs, h1, h2, h3⟩ => ⟨v, xs, h1, t2.nice _ _ _ _ _ _ _ _ ha h2, o9.agr ha ks xs h3⟩
theorem o9.agr (ha : Q9 φ φ' w w') : ∀ (ks : List b6) (xs : List Value), o9 w φ ks xs → o9 w' φ' ks xs
 | [], _, h => h
 | e :: r, _, ⟨c, ys, h1, h2, h3⟩ => ⟨c, ys, h1, G6.agr ha e c h2, o9.agr ha r ys h3⟩
end
theorem o9.nice (ks : List b6) (xs : List Value) : S8 fun w φ => o9 w φ ks xs := fun _ _ _ _ ha h => o9.agr ha ks xs h
theorem l8.nice (v : Value) (ks : List b6) : S8 fun w φ => l8 w φ v ks := fun _ _ _ _ ha ⟨xs, h1, h2⟩ => ⟨xs, t2.nice _ _ _ _ _ _ _ _ ha h1, o9.agr ha ks xs h2⟩
theorem L4.nice (v : Value) (e : b6) : S8 fun w φ => L4 w φ v e := fun _ _ _ _ ha ⟨kv, h1, h2⟩ => ⟨kv, h1, l8.nice _ _ _ _ _ _ ha h2⟩
mutual
theorem F6.agr (ha : Q9 φ φ' w w') : ∀ (s : b5) (cs : List Value), F6 w φ s cs → F6 w' φ' s cs
 | ⟨_, _, _, _, _, b, e⟩, _, ⟨iv, vv, bv, ev, xb, xe, h1, h2, h3, h4, h5, h6, h7⟩ =>
  ⟨iv, vv, bv, ev, xb, xe, h1, l8.nice _ _ _ _ _ _ ha h2, l8.nice _ _ _ _ _ _ ha h3, t2.nice _ _ _ _ _ _ _ _ ha h4, n9.agr ha b xb h5, t2.nice _ _ _ _ _ _ _ _ ha h6, n9.agr ha e xe h7⟩
theorem n9.agr (ha : Q9 φ φ' w w') : ∀ (ss : List b5) (xs : List Value), n9 w φ ss xs → n9 w' φ' ss xs
 | [], _, h => h
 | s :: r, _, ⟨c, ys, h1, h2, h3⟩ => ⟨c, ys, h1, F6.agr ha s c h2, n9.agr ha r ys h3⟩
end
theorem n9.nice (ss : List b5) (xs : List Value) : S8 fun w φ => n9 w φ ss xs := fun _ _ _ _ ha h => n9.agr ha ss xs h
theorem A5.nice (v : Value) (ss : List b5) : S8 fun w φ => A5 w φ v ss := fun _ _ _ _ ha ⟨xs, h1, h2⟩ => ⟨xs, t2.nice _ _ _ _ _ _ _ _ ha h1, n9.agr ha ss xs h2⟩
theorem aY9.nice (v : Value) (s : b5) : S8 fun w φ => aY9 w φ v s := fun _ _ _ _ ha ⟨iv, vv, bv, ev, h1, h2, h3, h4, h5⟩ =>
 ⟨iv, vv, bv, ev, h1, l8.nice _ _ _ _ _ _ ha h2, l8.nice _ _ _ _ _ _ ha h3, A5.nice _ _ _ _ _ _ ha h4, A5.nice _ _ _ _ _ _ ha h5⟩
theorem aM8.nice (v : Value) (p : b7) : S8 fun w φ => aM8 w φ v p := fun _ _ _ _ ha ⟨v1, v2, v3, h1, h2, h3, h4⟩ =>
 ⟨v1, v2, v3, h1, t2.nice _ _ _ _ _ _ _ _ ha h2, t2.nice _ _ _ _ _ _ _ _ ha h3, A5.nice _ _ _ _ _ _ ha h4⟩
theorem G6.iff (e : b6) (cs : List Value) : G6 w φ e cs ↔ ∃ kv, cs = [.int .i64 e.kind, .int .i64 e.value, kv] ∧ l8 w φ kv e.kids := by
 cases e with
 | mk k n ks => exact ⟨fun ⟨v, xs, h1, h2, h3⟩ => ⟨v, h1, xs, h2, h3⟩, fun ⟨v, h1, xs, h2, h3⟩ => ⟨v, xs, h1, h2, h3⟩⟩
theorem F6.iff (s : b5) (cs : List Value) : F6 w φ s cs ↔ ∃ iv vv bv ev, cs = [.int .i64 s.kind, .int .i64 s.target, .int .i64 s.index.kind, .int .i64 s.index.value, iv, .int .i64 s.value.kind, .int .i64 s.value.value, vv, .int .i64 s.count, bv, ev] ∧
  l8 w φ iv s.index.kids ∧ l8 w φ vv s.value.kids ∧ A5 w φ bv s.body ∧ A5 w φ ev s.els := by
 cases s with
 | mk k t i v c b e =>
  exact ⟨fun ⟨iv, vv, bv, ev, xb, xe, h1, h2, h3, h4, h5, h6, h7⟩ => ⟨iv, vv, bv, ev, h1, h2, h3, ⟨xb, h4, h5⟩, ⟨xe, h6, h7⟩⟩,
   fun ⟨iv, vv, bv, ev, h1, h2, h3, ⟨xb, h4, h5⟩, ⟨xe, h6, h7⟩⟩ => ⟨iv, vv, bv, ev, xb, xe, h1, h2, h3, h4, h5, h6, h7⟩⟩
theorem L4.iff {v : Value} {e : b6} : L4 w φ v e ↔ ∃ cs : List Value, v = .agg cs.toArray ∧ G6 w φ e cs :=
 ⟨fun ⟨kv, h1, h2⟩ => ⟨_, h1, (G6.iff e _).2 ⟨kv, rfl, h2⟩⟩, fun ⟨cs, h1, h2⟩ => by obtain ⟨kv, rfl, h3⟩ := (G6.iff e cs).1 h2; exact ⟨kv, h1, h3⟩⟩
theorem aY9.iff {v : Value} {s : b5} : aY9 w φ v s ↔ ∃ cs : List Value, v = .agg cs.toArray ∧ F6 w φ s cs :=
 ⟨fun ⟨iv, vv, bv, ev, h1, h2⟩ => ⟨_, h1, (F6.iff s _).2 ⟨iv, vv, bv, ev, rfl, h2⟩⟩, fun ⟨cs, h1, h2⟩ => by obtain ⟨iv, vv, bv, ev, rfl, h3⟩ := (F6.iff s cs).1 h2; exact ⟨iv, vv, bv, ev, h1, h3⟩⟩
theorem o9.len : ∀ {ks : List b6} {xs : List Value}, o9 w φ ks xs → xs.length = ks.length * 3
 | [], _, h => by rw [show _ = [] from h]; rfl
 | e :: r, _, ⟨c, ys, h1, h2, h3⟩ => by
  obtain ⟨kv, rfl, _⟩ := (G6.iff e c).1 h2
  rw [h1, bI0, o9.len h3, bH7]; simp; omega
theorem n9.len : ∀ {ss : List b5} {xs : List Value}, n9 w φ ss xs → xs.length = ss.length * 11
 | [], _, h => by rw [show _ = [] from h]; rfl
 | s :: r, _, ⟨c, ys, h1, h2, h3⟩ => by
  obtain ⟨iv, vv, bv, ev, rfl, _⟩ := (F6.iff s c).1 h2
  rw [h1, bI0, n9.len h3, bH7]; simp; omega
theorem o9.at : ∀ {ks : List b6} {xs : List Value}, o9 w φ ks xs → ∀ (i : Nat) (hi : i < ks.length), ∃ kv, xs[i * 3]? = some (.int .i64 ks[i].kind) ∧ xs[i * 3 + 1]? = some (.int .i64 ks[i].value) ∧ xs[i * 3 + 2]? = some kv ∧ l8 w φ kv ks[i].kids
 | [], _, _, i, hi => by simp at hi
 | e :: r, _, ⟨c, ys, h1, h2, h3⟩, i, hi => by
  obtain ⟨kv, rfl, hk⟩ := (G6.iff e c).1 h2
  subst h1
  cases i with
  | zero => exact ⟨kv, rfl, rfl, rfl, hk⟩
  | succ i =>
   obtain ⟨kv', a, b, d, f⟩ := o9.at h3 i (by simpa using hi)
   refine ⟨kv', ?_, ?_, ?_, f⟩ <;> (rw [bI4]; simpa [Nat.add_assoc] using by assumption)
theorem n9.at : ∀ {ss : List b5} {xs : List Value}, n9 w φ ss xs → ∀ (i : Nat) (hi : i < ss.length), ∃ cs : List Value, cs.length = 11 ∧ F6 w φ ss[i] cs ∧ ∀ j, j < 11 → xs[i * 11 + j]? = cs[j]?
 | [], _, _, i, hi => by simp at hi
 | s :: r, _, ⟨c, ys, h1, h2, h3⟩, i, hi => by
  have hc : c.length = 11 := by obtain ⟨iv, vv, bv, ev, rfl, _⟩ := (F6.iff s c).1 h2; rfl
  subst h1
  cases i with
  | zero => exact ⟨c, hc, h2, fun j hj => by rw [bJ0 (by omega)]; simp⟩
  | succ i =>
   obtain ⟨cs, a, b, d⟩ := n9.at h3 i (by simpa using hi)
   refine ⟨cs, a, b, fun j hj => ?_⟩
   rw [bJ7 (by rw [hc, bI4]; omega), ← d j hj]
   congr 1
   rw [hc, bI4]; omega
theorem o9.append : ∀ {ks : List b6} {xs : List Value} {ls : List b6} {ys : List Value}, o9 w φ ks xs → o9 w φ ls ys → o9 w φ (ks ++ ls) (xs ++ ys)
 | [], _, _, _, h, k => by rw [show _ = [] from h]; exact k
 | e :: r, _, _, _, ⟨c, zs, h1, h2, h3⟩, k => ⟨c, zs ++ _, by rw [h1, List.append_assoc], h2, o9.append h3 k⟩
theorem o9.one {e : b6} {c : List Value} (h : G6 w φ e c) : o9 w φ [e] c := ⟨c, [], by simp, h, rfl⟩
theorem n9.append : ∀ {ks : List b5} {xs : List Value} {ls : List b5} {ys : List Value}, n9 w φ ks xs → n9 w φ ls ys → n9 w φ (ks ++ ls) (xs ++ ys)
 | [], _, _, _, h, k => by rw [show _ = [] from h]; exact k
 | e :: r, _, _, _, ⟨c, zs, h1, h2, h3⟩, k => ⟨c, zs ++ _, by rw [h1, List.append_assoc], h2, n9.append h3 k⟩
theorem n9.one {s : b5} {c : List Value} (h : F6 w φ s c) : n9 w φ [s] c := ⟨c, [], by simp, h, rfl⟩
theorem l8.open {v : Value} {ks : List b6} (h : l8 w φ v ks) : ∃ a cap, v = .slice a ks.length cap ∧ ks.length ≤ cap ∧ ks.length ≤ 9223372036854775807 ∧ cap ≤ 9223372036854775807 ∧
  ∀ i (hi : i < ks.length), ∃ b off kv, a = some ⟨b, off, none⟩ ∧ b < w.heap.size ∧ φ b ∧ w.cell? ⟨b, off + i * 3, none⟩ = some (.int .i64 ks[i].kind) ∧ w.cell? ⟨b, off + i * 3 + 1, none⟩ = some (.int .i64 ks[i].value) ∧ w.cell? ⟨b, off + i * 3 + 2, none⟩ = some kv ∧ l8 w φ kv ks[i].kids := by
 obtain ⟨xs, ⟨hl, a, cap, rfl, h1, h2, h3⟩, hx⟩ := h
 unfold maxLen at h2
 refine ⟨a, cap, rfl, h1, by omega, by omega, fun i hi => ?_⟩
 obtain ⟨b, off, rfl, hb, hf, hc⟩ := h3 (by omega)
 obtain ⟨kv, e0, e1, e2, hk⟩ := hx.at i hi
 exact ⟨b, off, kv, rfl, hb, hf, hc _ _ e0, hc _ _ e1, hc _ _ e2, hk⟩
theorem A5.open {v : Value} {ss : List b5} (h : A5 w φ v ss) : ∃ a cap, v = .slice a ss.length cap ∧ ss.length ≤ cap ∧ ss.length ≤ 9223372036854775807 ∧ cap ≤ 9223372036854775807 ∧
  ∀ i (hi : i < ss.length), ∃ b off iv vv bv ev, a = some ⟨b, off, none⟩ ∧ b < w.heap.size ∧ φ b ∧
   (w.cell? ⟨b, off + i * 11, none⟩ = some (.int .i64 ss[i].kind) ∧ w.cell? ⟨b, off + i * 11 + 1, none⟩ = some (.int .i64 ss[i].target) ∧ w.cell? ⟨b, off + i * 11 + 2, none⟩ = some (.int .i64 ss[i].index.kind) ∧ w.cell? ⟨b, off + i * 11 + 3, none⟩ = some (.int .i64 ss[i].index.value) ∧ w.cell? ⟨b, off + i * 11 + 4, none⟩ = some iv ∧
    w.cell? ⟨b, off + i * 11 + 5, none⟩ = some (.int .i64 ss[i].value.kind) ∧ w.cell? ⟨b, off + i * 11 + 6, none⟩ = some (.int .i64 ss[i].value.value) ∧ w.cell? ⟨b, off + i * 11 + 7, none⟩ = some vv ∧ w.cell? ⟨b, off + i * 11 + 8, none⟩ = some (.int .i64 ss[i].count) ∧ w.cell? ⟨b, off + i * 11 + 9, none⟩ = some bv ∧ w.cell? ⟨b, off + i * 11 + 10, none⟩ = some ev) ∧
   l8 w φ iv ss[i].index.kids ∧ l8 w φ vv ss[i].value.kids ∧ A5 w φ bv ss[i].body ∧ A5 w φ ev ss[i].els := by
 obtain ⟨xs, ⟨hl, a, cap, rfl, h1, h2, h3⟩, hx⟩ := h
 unfold maxLen at h2
 refine ⟨a, cap, rfl, h1, by omega, by omega, fun i hi => ?_⟩
 obtain ⟨b, off, rfl, hb, hf, hc⟩ := h3 (by omega)
 obtain ⟨cs, hl2, hs, hj⟩ := hx.at i hi
 obtain ⟨iv, vv, bv, ev, rfl, k1, k2, k3, k4⟩ := (F6.iff _ _).1 hs
 refine ⟨b, off, iv, vv, bv, ev, rfl, hb, hf, ⟨?_, ?_, ?_, ?_, ?_, ?_, ?_, ?_, ?_, ?_, ?_⟩, k1, k2, k3, k4⟩
 ·have := hc (i * 11 + 0) _ ((hj 0 (by omega)).trans rfl); simpa using this
 ·exact hc (i * 11 + 1) _ ((hj 1 (by omega)).trans rfl)
 ·exact hc (i * 11 + 2) _ ((hj 2 (by omega)).trans rfl)
 ·exact hc (i * 11 + 3) _ ((hj 3 (by omega)).trans rfl)
 ·exact hc (i * 11 + 4) _ ((hj 4 (by omega)).trans rfl)
 ·exact hc (i * 11 + 5) _ ((hj 5 (by omega)).trans rfl)
 ·exact hc (i * 11 + 6) _ ((hj 6 (by omega)).trans rfl)
 ·exact hc (i * 11 + 7) _ ((hj 7 (by omega)).trans rfl)
 ·exact hc (i * 11 + 8) _ ((hj 8 (by omega)).trans rfl)
 ·exact hc (i * 11 + 9) _ ((hj 9 (by omega)).trans rfl)
 ·exact hc (i * 11 + 10) _ ((hj 10 (by omega)).trans rfl)
theorem l8.nil (w : World) (φ : Nat → Prop) : l8 w φ (.slice none 0 0) [] := ⟨[], t2.nil _ _ _, rfl⟩
theorem A5.nil (w : World) (φ : Nat → Prop) : A5 w φ (.slice none 0 0) [] := ⟨[], t2.nil _ _ _, rfl⟩
end
section
mutual
def x3 (w : World) : b6 → (Nat → Prop) → List Value → Prop
 | ⟨k, n, ks⟩, S, cs => ∃ (v : Value) (xs : List Value) (S' : Nat → Prop), cs = [.int .i64 k, .int .i64 n, v] ∧ w.ownsRow 0 59 3 v ks.length xs ∧ (∀ g, v.ownBlock = some g → S g ∧ ¬ S' g) ∧ (∀ b, S' b → S b) ∧ i8 w ks S' xs
def i8 (w : World) : List b6 → (Nat → Prop) → List Value → Prop
 | [], _, xs => xs = []
 | e :: r, S, xs => ∃ (c ys : List Value) (S1 S2 : Nat → Prop), xs = c ++ ys ∧ (∀ b, S1 b → S b ∧ ¬ S2 b) ∧ (∀ b, S2 b → S b) ∧ x3 w e S1 c ∧ i8 w r S2 ys
end
def A2 (w : World) (v : Value) (ks : List b6) (S : Nat → Prop) : Prop :=
 ∃ (xs : List Value) (S' : Nat → Prop), w.ownsRow 0 59 3 v ks.length xs ∧ (∀ g, v.ownBlock = some g → S g ∧ ¬ S' g) ∧ (∀ b, S' b → S b) ∧ i8 w ks S' xs
mutual
def y6 (w : World) : b5 → (Nat → Prop) → List Value → Prop
 | ⟨k, t, i, v, c, b, e⟩, S, cs => ∃ (iv vv bv ev : Value) (xb xe : List Value) (Si Sv Sb Se Sb' Se' : Nat → Prop), cs = [.int .i64 k, .int .i64 t, .int .i64 i.kind, .int .i64 i.value, iv, .int .i64 v.kind, .int .i64 v.value, vv, .int .i64 c, bv, ev] ∧
   ((∀ b, Si b → S b ∧ ¬ Sv b ∧ ¬ Sb b ∧ ¬ Se b) ∧ (∀ b, Sv b → S b ∧ ¬ Sb b ∧ ¬ Se b) ∧ (∀ b, Sb b → S b ∧ ¬ Se b) ∧ (∀ b, Se b → S b)) ∧ A2 w iv i.kids Si ∧ A2 w vv v.kids Sv ∧
   (w.ownsRow 0 161 11 bv b.length xb ∧ (∀ g, bv.ownBlock = some g → Sb g ∧ ¬ Sb' g) ∧ (∀ b, Sb' b → Sb b) ∧ i5 w b Sb' xb) ∧
   (w.ownsRow 0 161 11 ev e.length xe ∧ (∀ g, ev.ownBlock = some g → Se g ∧ ¬ Se' g) ∧ (∀ b, Se' b → Se b) ∧ i5 w e Se' xe)
def i5 (w : World) : List b5 → (Nat → Prop) → List Value → Prop
 | [], _, xs => xs = []
 | s :: r, S, xs => ∃ (c ys : List Value) (S1 S2 : Nat → Prop), xs = c ++ ys ∧ (∀ b, S1 b → S b ∧ ¬ S2 b) ∧ (∀ b, S2 b → S b) ∧ y6 w s S1 c ∧ i5 w r S2 ys
end
def B9 (w : World) (v : Value) (ss : List b5) (S : Nat → Prop) : Prop :=
 ∃ (xs : List Value) (S' : Nat → Prop), w.ownsRow 0 161 11 v ss.length xs ∧ (∀ g, v.ownBlock = some g → S g ∧ ¬ S' g) ∧ (∀ b, S' b → S b) ∧ i5 w ss S' xs
def ak7 (w : World) (v : Value) (p : b7) (S : Nat → Prop) : Prop :=
 ∃ (v1 v2 v3 : Value) (S3 : Nat → Prop), v = .agg #[v1, v2, v3] ∧ w.ownsRow 0 3 1 v1 p.vars.length (ints p.vars) ∧ w.ownsRow 0 3 1 v2 p.arrays.length (ints p.arrays) ∧ B9 w v3 p.body S3 ∧
  (∀ g, v1.ownBlock = some g → S g ∧ ¬ S3 g ∧ v2.ownBlock ≠ some g) ∧ (∀ g, v2.ownBlock = some g → S g ∧ ¬ S3 g) ∧ (∀ b, S3 b → S b)
variable {w w' : World} {S S' φ : Nat → Prop}
theorem y9 {e : TypeId} {sz : Nat} {v : Value} {n : Nat} {xs : List Value} (h : w.ownsRow 0 e sz v n xs) (hs : ∀ g, v.ownBlock = some g → w'.heap[g]? = w.heap[g]?) : w'.ownsRow 0 e sz v n xs :=
 (T5.same (T5.mk' h) hs).1
mutual
theorem x3.same : ∀ (e : b6) (S : Nat → Prop) (cs : List Value), x3 w e S cs → (∀ b, S b → b < w.heap.size → w'.heap[b]? = w.heap[b]?) → x3 w' e S cs
 | ⟨_, _, ks⟩, S, _, ⟨v, xs, S', h1, h2, h3, h4, h5⟩, hs => ⟨v, xs, S', h1, y9 h2 fun g hg => hs g (h3 g hg).1 (World.ownsRow.lt h2 g hg).2, h3, h4, i8.same ks S' xs h5 fun b hb => hs b (h4 b hb)⟩
theorem i8.same : ∀ (ks : List b6) (S : Nat → Prop) (xs : List Value), i8 w ks S xs → (∀ b, S b → b < w.heap.size → w'.heap[b]? = w.heap[b]?) → i8 w' ks S xs
 | [], _, _, h, _ => h
 | e :: r, S, _, ⟨c, ys, S1, S2, h1, h2, h3, h4, h5⟩, hs => ⟨c, ys, S1, S2, h1, h2, h3, x3.same e S1 c h4 fun b hb => hs b (h2 b hb).1, i8.same r S2 ys h5 fun b hb => hs b (h3 b hb)⟩
end
theorem A2.same {v : Value} {ks : List b6} (h : A2 w v ks S) (hs : ∀ b, S b → b < w.heap.size → w'.heap[b]? = w.heap[b]?) : A2 w' v ks S := by
 obtain ⟨xs, S', h2, h3, h4, h5⟩ := h
 exact ⟨xs, S', y9 h2 fun g hg => hs g (h3 g hg).1 (World.ownsRow.lt h2 g hg).2, h3, h4, i8.same ks S' xs h5 fun b hb => hs b (h4 b hb)⟩
mutual
theorem y6.same : ∀ (s : b5) (S : Nat → Prop) (cs : List Value), y6 w s S cs → (∀ b, S b → b < w.heap.size → w'.heap[b]? = w.heap[b]?) → y6 w' s S cs
 | ⟨_, _, _, _, _, b, e⟩, S, _, ⟨iv, vv, bv, ev, xb, xe, Si, Sv, Sb, Se, Sb', Se', h1, ⟨d1, d2, d3, d4⟩, h2, h3, ⟨b1, b2, b3, b4⟩, ⟨e1, e2, e3, e4⟩⟩, hs =>
  ⟨iv, vv, bv, ev, xb, xe, Si, Sv, Sb, Se, Sb', Se', h1, ⟨d1, d2, d3, d4⟩, h2.same fun b hb => hs b (d1 b hb).1, h3.same fun b hb => hs b (d2 b hb).1,
   ⟨y9 b1 fun g hg => hs g (d3 g (b2 g hg).1).1 (World.ownsRow.lt b1 g hg).2, b2, b3, i5.same b Sb' xb b4 fun x hx => hs x (d3 x (b3 x hx)).1⟩,
   ⟨y9 e1 fun g hg => hs g (d4 g (e2 g hg).1) (World.ownsRow.lt e1 g hg).2, e2, e3, i5.same e Se' xe e4 fun x hx => hs x (d4 x (e3 x hx))⟩⟩
theorem i5.same : ∀ (ss : List b5) (S : Nat → Prop) (xs : List Value), i5 w ss S xs → (∀ b, S b → b < w.heap.size → w'.heap[b]? = w.heap[b]?) → i5 w' ss S xs
 | [], _, _, h, _ => h
 | s :: r, S, _, ⟨c, ys, S1, S2, h1, h2, h3, h4, h5⟩, hs => ⟨c, ys, S1, S2, h1, h2, h3, y6.same s S1 c h4 fun b hb => hs b (h2 b hb).1, i5.same r S2 ys h5 fun b hb => hs b (h3 b hb)⟩
end
theorem B9.same {v : Value} {ss : List b5} (h : B9 w v ss S) (hs : ∀ b, S b → b < w.heap.size → w'.heap[b]? = w.heap[b]?) : B9 w' v ss S := by
 obtain ⟨xs, S', h2, h3, h4, h5⟩ := h
 exact ⟨xs, S', y9 h2 fun g hg => hs g (h3 g hg).1 (World.ownsRow.lt h2 g hg).2, h3, h4, i5.same ss S' xs h5 fun b hb => hs b (h4 b hb)⟩
theorem ak7.same {v : Value} {p : b7} (h : ak7 w v p S) (hs : ∀ b, S b → b < w.heap.size → w'.heap[b]? = w.heap[b]?) : ak7 w' v p S := by
 obtain ⟨v1, v2, v3, S3, rfl, h1, h2, h3, d1, d2, d3⟩ := h
 exact ⟨v1, v2, v3, S3, rfl, y9 h1 fun g hg => hs g (d1 g hg).1 (World.ownsRow.lt h1 g hg).2, y9 h2 fun g hg => hs g (d2 g hg).1 (World.ownsRow.lt h2 g hg).2, h3.same fun b hb => hs b (d3 b hb), d1, d2, d3⟩
theorem A2.mono {v : Value} {ks : List b6} (h : A2 w v ks S) (hs : ∀ b, S b → S' b) : A2 w v ks S' := by
 obtain ⟨xs, T, h2, h3, h4, h5⟩ := h
 exact ⟨xs, T, h2, fun g hg => ⟨hs g (h3 g hg).1, (h3 g hg).2⟩, fun b hb => hs b (h4 b hb), h5⟩
theorem B9.mono {v : Value} {ss : List b5} (h : B9 w v ss S) (hs : ∀ b, S b → S' b) : B9 w v ss S' := by
 obtain ⟨xs, T, h2, h3, h4, h5⟩ := h
 exact ⟨xs, T, h2, fun g hg => ⟨hs g (h3 g hg).1, (h3 g hg).2⟩, fun b hb => hs b (h4 b hb), h5⟩
theorem ak7.mono {v : Value} {p : b7} (h : ak7 w v p S) (hs : ∀ b, S b → S' b) : ak7 w v p S' := by
 obtain ⟨v1, v2, v3, S3, rfl, h1, h2, h3, d1, d2, d3⟩ := h
 exact ⟨v1, v2, v3, S3, rfl, h1, h2, h3, fun g hg => ⟨hs g (d1 g hg).1, (d1 g hg).2⟩, fun g hg => ⟨hs g (d2 g hg).1, (d2 g hg).2⟩, fun b hb => hs b (d3 b hb)⟩
mutual
theorem x3.read : ∀ (e : b6) (S : Nat → Prop) (cs : List Value), x3 w e S cs → (∀ b, S b → φ b) → G6 w φ e cs
 | ⟨_, _, ks⟩, S, _, ⟨v, xs, S', h1, h2, h3, h4, h5⟩, hs => ⟨v, xs, h1, w6 h2 fun g hg => hs g (h3 g hg).1, i8.read ks S' xs h5 fun b hb => hs b (h4 b hb)⟩
theorem i8.read : ∀ (ks : List b6) (S : Nat → Prop) (xs : List Value), i8 w ks S xs → (∀ b, S b → φ b) → o9 w φ ks xs
 | [], _, _, h, _ => h
 | e :: r, S, _, ⟨c, ys, S1, S2, h1, h2, h3, h4, h5⟩, hs => ⟨c, ys, h1, x3.read e S1 c h4 fun b hb => hs b (h2 b hb).1, i8.read r S2 ys h5 fun b hb => hs b (h3 b hb)⟩
end
theorem A2.read {v : Value} {ks : List b6} (h : A2 w v ks S) (hs : ∀ b, S b → φ b) : l8 w φ v ks := by
 obtain ⟨xs, T, h2, h3, h4, h5⟩ := h
 exact ⟨xs, w6 h2 fun g hg => hs g (h3 g hg).1, i8.read ks T xs h5 fun b hb => hs b (h4 b hb)⟩
mutual
theorem y6.read : ∀ (s : b5) (S : Nat → Prop) (cs : List Value), y6 w s S cs → (∀ b, S b → φ b) → F6 w φ s cs
 | ⟨_, _, _, _, _, b, e⟩, S, _, ⟨iv, vv, bv, ev, xb, xe, Si, Sv, Sb, Se, Sb', Se', h1, ⟨d1, d2, d3, d4⟩, h2, h3, ⟨b1, b2, b3, b4⟩, ⟨e1, e2, e3, e4⟩⟩, hs =>
  ⟨iv, vv, bv, ev, xb, xe, h1, h2.read fun b hb => hs b (d1 b hb).1, h3.read fun b hb => hs b (d2 b hb).1,
   w6 b1 fun g hg => hs g (d3 g (b2 g hg).1).1, i5.read b Sb' xb b4 fun x hx => hs x (d3 x (b3 x hx)).1,
   w6 e1 fun g hg => hs g (d4 g (e2 g hg).1), i5.read e Se' xe e4 fun x hx => hs x (d4 x (e3 x hx))⟩
theorem i5.read : ∀ (ss : List b5) (S : Nat → Prop) (xs : List Value), i5 w ss S xs → (∀ b, S b → φ b) → n9 w φ ss xs
 | [], _, _, h, _ => h
 | s :: r, S, _, ⟨c, ys, S1, S2, h1, h2, h3, h4, h5⟩, hs => ⟨c, ys, h1, y6.read s S1 c h4 fun b hb => hs b (h2 b hb).1, i5.read r S2 ys h5 fun b hb => hs b (h3 b hb)⟩
end
theorem B9.read {v : Value} {ss : List b5} (h : B9 w v ss S) (hs : ∀ b, S b → φ b) : A5 w φ v ss := by
 obtain ⟨xs, T, h2, h3, h4, h5⟩ := h
 exact ⟨xs, w6 h2 fun g hg => hs g (h3 g hg).1, i5.read ss T xs h5 fun b hb => hs b (h4 b hb)⟩
theorem ak7.read {v : Value} {p : b7} (h : ak7 w v p S) (hs : ∀ b, S b → φ b) : aM8 w φ v p := by
 obtain ⟨v1, v2, v3, S3, rfl, h1, h2, h3, d1, d2, d3⟩ := h
 exact ⟨v1, v2, v3, rfl, w6 h1 fun g hg => hs g (d1 g hg).1, w6 h2 fun g hg => hs g (d2 g hg).1, h3.read fun b hb => hs b (d3 b hb)⟩
def bA6 (R : World → (Nat → Prop) → Prop) (S : Nat → Prop) : World → (Nat → Prop) → Prop := fun w φ => R w S ∧ ∀ b, S b → b < w.heap.size ∧ φ b
theorem bA6.nice {R : World → (Nat → Prop) → Prop} (S : Nat → Prop) (hR : ∀ w w' : World, R w S → (∀ b, S b → b < w.heap.size → w'.heap[b]? = w.heap[b]?) → R w' S) : S8 (bA6 R S) :=
 fun w w' _ _ ha ⟨h1, h2⟩ => ⟨hR w w' h1 fun b hb hlt => (ha.2 b hlt (h2 b hb).2).2, fun b hb => ⟨Nat.lt_of_lt_of_le (h2 b hb).1 ha.1, (ha.2 b (h2 b hb).1 (h2 b hb).2).1⟩⟩
theorem i8.mono : ∀ {ks : List b6} {S S' : Nat → Prop} {xs : List Value}, i8 w ks S xs → (∀ b, S b → S' b) → i8 w ks S' xs
 | [], _, _, _, h, _ => h
 | _ :: _, _, _, _, ⟨c, ys, S1, S2, h1, h2, h3, h4, h5⟩, hs => ⟨c, ys, S1, S2, h1, fun b hb => ⟨hs b (h2 b hb).1, (h2 b hb).2⟩, fun b hb => hs b (h3 b hb), h4, h5⟩
theorem i5.mono : ∀ {ks : List b5} {S S' : Nat → Prop} {xs : List Value}, i5 w ks S xs → (∀ b, S b → S' b) → i5 w ks S' xs
 | [], _, _, _, h, _ => h
 | _ :: _, _, _, _, ⟨c, ys, S1, S2, h1, h2, h3, h4, h5⟩, hs => ⟨c, ys, S1, S2, h1, fun b hb => ⟨hs b (h2 b hb).1, (h2 b hb).2⟩, fun b hb => hs b (h3 b hb), h4, h5⟩
theorem i8.snoc : ∀ {ks : List b6} {S S' T : Nat → Prop} {xs c : List Value} {e : b6}, i8 w ks S xs → x3 w e T c → (∀ b, S b → S' b ∧ ¬ T b) → (∀ b, T b → S' b) → i8 w (ks ++ [e]) S' (xs ++ c)
 | [], S, S', T, xs, c, e, h, k, d, f => by
  rw [show xs = [] from h]
  exact ⟨c, [], T, fun _ => False, by simp, fun b hb => ⟨f b hb, fun h => h⟩, fun b hb => hb.elim, k, rfl⟩
 | a :: r, S, S', T, _, c, e, ⟨x, ys, S1, S2, h1, h2, h3, h4, h5⟩, k, d, f =>
  ⟨x, ys ++ c, S1, fun b => S2 b ∨ T b, by rw [h1, List.append_assoc], fun b hb => ⟨(d b (h2 b hb).1).1, fun h => h.elim (h2 b hb).2 (d b (h2 b hb).1).2⟩, fun b hb => hb.elim (fun h => (d b (h3 b h)).1) (f b), h4,
   i8.snoc h5 k (fun b hb => ⟨.inl hb, (d b (h3 b hb)).2⟩) fun b hb => .inr hb⟩
theorem i5.snoc : ∀ {ks : List b5} {S S' T : Nat → Prop} {xs c : List Value} {e : b5}, i5 w ks S xs → y6 w e T c → (∀ b, S b → S' b ∧ ¬ T b) → (∀ b, T b → S' b) → i5 w (ks ++ [e]) S' (xs ++ c)
 | [], S, S', T, xs, c, e, h, k, d, f => by
  rw [show xs = [] from h]
  exact ⟨c, [], T, fun _ => False, by simp, fun b hb => ⟨f b hb, fun h => h⟩, fun b hb => hb.elim, k, rfl⟩
 | a :: r, S, S', T, _, c, e, ⟨x, ys, S1, S2, h1, h2, h3, h4, h5⟩, k, d, f =>
  ⟨x, ys ++ c, S1, fun b => S2 b ∨ T b, by rw [h1, List.append_assoc], fun b hb => ⟨(d b (h2 b hb).1).1, fun h => h.elim (h2 b hb).2 (d b (h2 b hb).1).2⟩, fun b hb => hb.elim (fun h => (d b (h3 b h)).1) (f b), h4,
   i5.snoc h5 k (fun b hb => ⟨.inl hb, (d b (h3 b hb)).2⟩) fun b hb => .inr hb⟩
theorem x3.iff (e : b6) (S : Nat → Prop) (cs : List Value) : x3 w e S cs ↔ ∃ kv, cs = [.int .i64 e.kind, .int .i64 e.value, kv] ∧ A2 w kv e.kids S := by
 cases e with
 | mk k n ks => exact ⟨fun ⟨v, xs, T, h1, h2⟩ => ⟨v, h1, xs, T, h2⟩, fun ⟨v, h1, xs, T, h2⟩ => ⟨v, xs, T, h1, h2⟩⟩
theorem y6.iff (s : b5) (S : Nat → Prop) (cs : List Value) : y6 w s S cs ↔ ∃ (iv vv bv ev : Value) (Si Sv Sb Se : Nat → Prop), cs = [.int .i64 s.kind, .int .i64 s.target, .int .i64 s.index.kind, .int .i64 s.index.value, iv, .int .i64 s.value.kind, .int .i64 s.value.value, vv, .int .i64 s.count, bv, ev] ∧
  ((∀ b, Si b → S b ∧ ¬ Sv b ∧ ¬ Sb b ∧ ¬ Se b) ∧ (∀ b, Sv b → S b ∧ ¬ Sb b ∧ ¬ Se b) ∧ (∀ b, Sb b → S b ∧ ¬ Se b) ∧ (∀ b, Se b → S b)) ∧ A2 w iv s.index.kids Si ∧ A2 w vv s.value.kids Sv ∧ B9 w bv s.body Sb ∧ B9 w ev s.els Se := by
 cases s with
 | mk k t i v c b e =>
  exact ⟨fun ⟨iv, vv, bv, ev, xb, xe, Si, Sv, Sb, Se, Sb', Se', h1, h2, h3, h4, h5, h6⟩ => ⟨iv, vv, bv, ev, Si, Sv, Sb, Se, h1, h2, h3, h4, ⟨xb, Sb', h5⟩, ⟨xe, Se', h6⟩⟩,
   fun ⟨iv, vv, bv, ev, Si, Sv, Sb, Se, h1, h2, h3, h4, ⟨xb, Sb', h5⟩, ⟨xe, Se', h6⟩⟩ => ⟨iv, vv, bv, ev, xb, xe, Si, Sv, Sb, Se, Sb', Se', h1, h2, h3, h4, h5, h6⟩⟩
end
theorem K4 {ks : List b6} {k : Nat} (h : k < ks.length) : i9 (ks.take (k + 1)) = i9 (ks.take k) + (1 + G8 ks[k]) := by
 rw [m0 _ _ h, M7]
 simp [i9]
theorem I3 (us : List Value) : ∀ (c ys : List Value) (p : Nat), c.length ≤ p → setFrom (c ++ ys) p us = c ++ setFrom ys (p - c.length) us := by
 induction us with
 | nil => intro c ys p _; rfl
 | cons u r ih =>
  intro c ys p hp
  simp only [setFrom]
  rw [List.set_append_right _ _ hp, ih _ _ _ (by omega), show p + 1 - c.length = p - c.length + 1 by omega]
theorem J2 (us : List Value) : ∀ (c ys : List Value) (p : Nat), p + us.length ≤ c.length → setFrom (c ++ ys) p us = setFrom c p us ++ ys := by
 induction us with
 | nil => intro c ys p _; rfl
 | cons u r ih =>
  intro c ys p hp
  simp only [bH7] at hp
  simp only [setFrom]
  rw [List.set_append_left _ _ (by omega), ih _ _ _ (by simp; omega)]
theorem Z9 {c us : List Value} (h : us.length = c.length) : setFrom c 0 us = us := by
 have h1 := ad4 us c 0 (by omega)
 rw [bJ4, bG9 (by rw [z9]; omega)] at h1
 simpa using h1
theorem x3.len {w : World} {e : b6} {S : Nat → Prop} {c : List Value} (h : x3 w e S c) : c.length = 3 := by
 obtain ⟨kv, rfl, _⟩ := (x3.iff e S c).1 h; rfl
theorem y6.len {w : World} {s : b5} {S : Nat → Prop} {c : List Value} (h : y6 w s S c) : c.length = 11 := by
 obtain ⟨_, _, _, _, _, _, _, _, rfl, _⟩ := (y6.iff s S c).1 h; rfl
theorem i8.focus {w : World} : ∀ {ls : List b6} {S : Nat → Prop} {xs : List Value}, i8 w ls S xs → ∀ (i : Nat) (hi : i < ls.length), ∃ (c : List Value) (Sc : Nat → Prop), x3 w ls[i] Sc c ∧ (∀ b, Sc b → S b) ∧ (∀ j, j < 3 → xs[i * 3 + j]? = c[j]?) ∧
  ∀ (w' : World) (e' : b6) (c' : List Value), (∀ b, S b → ¬ Sc b → b < w.heap.size → w'.heap[b]? = w.heap[b]?) → x3 w' e' Sc c' → i8 w' (ls.set i e') S (setFrom xs (i * 3) c')
 | [], _, _, _, i, hi => by simp at hi
 | e :: r, S, xs, ⟨c, ys, S1, S2, h1, h2, h3, h4, h5⟩, i, hi => by
  have hc := h4.len
  subst h1
  cases i with
  | zero =>
   refine ⟨c, S1, h4, fun b hb => (h2 b hb).1, fun j hj => by rw [bJ0 (by omega)]; simp, fun w' e' c' hs hO => ?_⟩
   refine ⟨c', ys, S1, S2, ?_, h2, h3, hO, i8.same r S2 ys h5 fun b hb hlt => hs b (h3 b hb) (fun h => (h2 b h).2 hb) hlt⟩
   rw [Nat.zero_mul, J2 c' c ys 0 (by rw [hO.len]; omega), Z9 (by rw [hO.len, hc])]
  | succ i =>
   obtain ⟨d, Sc, k1, k2, k3, k4⟩ := i8.focus h5 i (by simpa using hi)
   refine ⟨d, Sc, k1, fun b hb => h3 b (k2 b hb), fun j hj => ?_, fun w' e' c' hs hO => ?_⟩
   ·rw [bJ7 (by rw [hc, bI4]; omega), ← k3 j hj]
    congr 1
    rw [hc, bI4]; omega
   ·refine ⟨c, setFrom ys (i * 3) c', S1, S2, ?_, h2, h3, x3.same e S1 c h4 fun b hb hlt => hs b (h2 b hb).1 (fun h => (h2 b hb).2 (k2 b h)) hlt, k4 w' e' c' (fun b hb hn hlt => hs b (h3 b hb) hn hlt) hO⟩
    rw [I3 c' c ys _ (by rw [hc, bI4]; omega), hc, bI4, Nat.add_sub_cancel]
theorem i5.focus {w : World} : ∀ {ls : List b5} {S : Nat → Prop} {xs : List Value}, i5 w ls S xs → ∀ (i : Nat) (hi : i < ls.length), ∃ (c : List Value) (Sc : Nat → Prop), y6 w ls[i] Sc c ∧ (∀ b, Sc b → S b) ∧ (∀ j, j < 11 → xs[i * 11 + j]? = c[j]?) ∧
  ∀ (w' : World) (e' : b5) (c' : List Value), (∀ b, S b → ¬ Sc b → b < w.heap.size → w'.heap[b]? = w.heap[b]?) → y6 w' e' Sc c' → i5 w' (ls.set i e') S (setFrom xs (i * 11) c')
 | [], _, _, _, i, hi => by simp at hi
 | e :: r, S, xs, ⟨c, ys, S1, S2, h1, h2, h3, h4, h5⟩, i, hi => by
  have hc := h4.len
  subst h1
  cases i with
  | zero =>
   refine ⟨c, S1, h4, fun b hb => (h2 b hb).1, fun j hj => by rw [bJ0 (by omega)]; simp, fun w' e' c' hs hO => ?_⟩
   refine ⟨c', ys, S1, S2, ?_, h2, h3, hO, i5.same r S2 ys h5 fun b hb hlt => hs b (h3 b hb) (fun h => (h2 b h).2 hb) hlt⟩
   rw [Nat.zero_mul, J2 c' c ys 0 (by rw [hO.len]; omega), Z9 (by rw [hO.len, hc])]
  | succ i =>
   obtain ⟨d, Sc, k1, k2, k3, k4⟩ := i5.focus h5 i (by simpa using hi)
   refine ⟨d, Sc, k1, fun b hb => h3 b (k2 b hb), fun j hj => ?_, fun w' e' c' hs hO => ?_⟩
   ·rw [bJ7 (by rw [hc, bI4]; omega), ← k3 j hj]
    congr 1
    rw [hc, bI4]; omega
   ·refine ⟨c, setFrom ys (i * 11) c', S1, S2, ?_, h2, h3, y6.same e S1 c h4 fun b hb hlt => hs b (h2 b hb).1 (fun h => (h2 b hb).2 (k2 b h)) hlt, k4 w' e' c' (fun b hb hn hlt => hs b (h3 b hb) hn hlt) hO⟩
    rw [I3 c' c ys _ (by rw [hc, bI4]; omega), hc, bI4, Nat.add_sub_cancel]
section
variable {φ ψ : Nat → Prop} {w0 w w' : World} {L : List L3}
theorem i8.at : ∀ {ks : List b6} {S : Nat → Prop} {xs : List Value}, i8 w ks S xs → ∀ (i : Nat) (hi : i < ks.length), ∃ kv, xs[i * 3]? = some (.int .i64 ks[i].kind) ∧ xs[i * 3 + 1]? = some (.int .i64 ks[i].value) ∧ xs[i * 3 + 2]? = some kv ∧ A2 w kv ks[i].kids S
 | [], _, _, _, i, hi => by simp at hi
 | e :: r, S, _, ⟨c, ys, S1, S2, h1, h2, h3, h4, h5⟩, i, hi => by
  obtain ⟨kv, rfl, hk⟩ := (x3.iff e S1 c).1 h4
  subst h1
  cases i with
  | zero => exact ⟨kv, rfl, rfl, rfl, hk.mono fun b hb => (h2 b hb).1⟩
  | succ i =>
   obtain ⟨kv', a, b, d, f⟩ := i8.at h5 i (by simpa using hi)
   refine ⟨kv', ?_, ?_, ?_, f.mono h3⟩ <;> (rw [bI4]; simpa [Nat.add_assoc] using by assumption)
theorem A2.open {v : Value} {ks : List b6} {S : Nat → Prop} (h : A2 w v ks S) : ∃ a cap, v = .slice a ks.length cap ∧ ks.length ≤ cap ∧ ks.length ≤ 9223372036854775807 ∧ cap ≤ 9223372036854775807 ∧
  ∀ i (hi : i < ks.length), ∃ b off kv, a = some ⟨b, off, none⟩ ∧ b < w.heap.size ∧ S b ∧ w.cell? ⟨b, off + i * 3, none⟩ = some (.int .i64 ks[i].kind) ∧ w.cell? ⟨b, off + i * 3 + 1, none⟩ = some (.int .i64 ks[i].value) ∧ w.cell? ⟨b, off + i * 3 + 2, none⟩ = some kv ∧ A2 w kv ks[i].kids S := by
 obtain ⟨xs, S', h2, h3, h4, h5⟩ := h
 obtain ⟨hl, a, cap, hv, n1, n2, n3⟩ := w6 (φ := fun g => S g ∧ ¬ S' g) h2 h3
 unfold maxLen at n2
 refine ⟨a, cap, hv, n1, by omega, by omega, fun i hi => ?_⟩
 obtain ⟨b, off, he, hb, hf, hc⟩ := n3 (by omega)
 obtain ⟨kv, e0, e1, e2, hk⟩ := h5.at i hi
 exact ⟨b, off, kv, he, hb, hf.1, hc _ _ e0, hc _ _ e1, hc _ _ e2, hk.mono h4⟩
theorem A2.nil (w : World) (S : Nat → Prop) : A2 w (.slice none 0 0) [] S := ⟨[], fun _ => False, World.ownsRow_nil _ _ _ _, (fun g hg => by cases hg), fun _ h => h.elim, rfl⟩
end
theorem V1 (us : List Value) : ∀ (ys : List Value) (p q : Nat), p + us.length ≤ ys.length → (setFrom ys p us)[q]? = if p ≤ q ∧ q < p + us.length then us[q - p]? else ys[q]? := by
 induction us with
 | nil => intro ys p q _; simp only [setFrom, List.length_nil]; split; omega; rfl
 | cons u r ih =>
  intro ys p q h
  simp only [bH7] at h
  simp only [setFrom, bH7]
  rw [ih _ _ _ (by simp; omega)]
  by_cases h1 : q = p
  ·subst h1
   rw [if_neg (by omega), if_pos (by omega), List.getElem?_set_self (by omega), Nat.sub_self]; rfl
  ·by_cases h2 : p + 1 ≤ q ∧ q < p + 1 + r.length
   ·rw [if_pos h2, if_pos (by omega), show q - p = q - (p + 1) + 1 by omega]; rfl
   ·rw [if_neg h2, if_neg (by omega), List.getElem?_set_ne (by omega)]
theorem ad5 {xs cs : List Value} {p : Nat} (h : p + cs.length ≤ xs.length) (hc : ∀ j, j < cs.length → xs[p + j]? = cs[j]?) : setFrom xs p cs = xs := by
 apply List.ext_getElem?
 intro q
 rw [V1 _ _ _ _ h]
 split
 ·rename_i h1
  rw [← hc _ (by omega)]; congr 1; omega
 ·rfl
theorem aj8 {xs cs : List Value} {p k : Nat} (u : Value) (h : p + cs.length ≤ xs.length) (hk : k < cs.length) : (setFrom xs p cs).set (p + k) u = setFrom xs p (cs.set k u) := by
 apply List.ext_getElem?
 intro q
 rw [V1 _ _ _ _ (by simpa using h), List.getElem?_set, V1 _ _ _ _ h, z9, List.length_set]
 by_cases h1 : p + k = q
 ·subst h1
  rw [if_pos rfl, if_pos (by omega), if_pos (by omega), Nat.add_sub_cancel_left, List.getElem?_set_self hk]
 ·rw [if_neg h1]
  split
  ·rw [List.getElem?_set_ne (by omega)]
  ·rfl
def L3.plain : L3 → Prop
 | .dat _ => False
 | _ => True
theorem L3.holds_plain {w : World} {φ φ' : Nat → Prop} {r : L3} (hp : r.plain) (h : r.holds w φ) : r.holds w φ' := by
 cases r with
 | dat R => exact hp.elim
 | box b cs => exact h
 | row e sz v n xs => exact h
 | own S R => exact h
theorem v7.adopt {φ ψ : Nat → Prop} {w0 w : World} {L : List L3} (M : v7 φ ψ w0 w L) (r : L3) (hL : ∀ a ∈ L, a.plain) (hp : r.plain) (h : r.holds w (fun _ => True)) (hd : ∀ a ∈ L, ∀ g, r.blk g → ¬ a.blk g) (hg : ∀ g, r.blk g → ¬ ψ g) : v7 φ ψ w0 w (L ++ [r]) := by
 have get : ∀ (i : Nat) (x : L3), (L ++ [r])[i]? = some x → (i < L.length ∧ x ∈ L ∧ L[i]? = some x) ∨ (i = L.length ∧ x = r) := by
  intro k z hz
  rcases bI9 k L.length with hk | hk
  ·rw [bJ0 hk] at hz; exact .inl ⟨hk, bH2 hz, hz⟩
  ·rw [bJ7 hk] at hz
   have : k - L.length = 0 := by
    rcases Nat.eq_zero_or_pos (k - L.length) with h | h
    ·exact h
    ·rw [bH9 (by rw [List.length_singleton]; exact h)] at hz; cases hz
   rw [this] at hz; simp at hz
   exact .inr ⟨by omega, hz.symm⟩
 refine ⟨M.kept, M.fresh, fun x hx => ?_, fun i j x y g hi hj hij hx hy => ?_, fun x g hx hxg => ?_⟩
 ·rcases bH4.1 hx with hx | hx
  ·exact L3.holds_plain (hL x hx) (M.holds x hx)
  ·rw [bI1] at hx; subst hx; exact L3.holds_plain hp h
 ·rcases get i x hi with ⟨hi1, hi2, hi3⟩ | ⟨hi1, rfl⟩ <;> rcases get j y hj with ⟨hj1, hj2, hj3⟩ | ⟨hj1, rfl⟩
  ·exact M.dis i j x y g hi3 hj3 hij hx hy
  ·exact hd x hi2 g hy hx
  ·exact hd y hj2 g hx hy
  ·omega
 ·rcases bH4.1 hx with hx | hx
  ·exact M.ge x g hx hxg
  ·rw [bI1] at hx; subst hx; exact .inr (hg g hxg)
section
variable {w : World}
mutual
theorem x3.cut : ∀ (e : b6) (S : Nat → Prop) (cs : List Value), x3 w e S cs → x3 w e (fun b => S b ∧ b < w.heap.size) cs
 | ⟨_, _, ks⟩, _, _, ⟨v, xs, S', h1, h2, h3, h4, h5⟩ => ⟨v, xs, fun b => S' b ∧ b < w.heap.size, h1, h2, fun g hg => ⟨⟨(h3 g hg).1, (World.ownsRow.lt h2 g hg).2⟩, fun h => (h3 g hg).2 h.1⟩, fun b hb => ⟨h4 b hb.1, hb.2⟩, i8.cut ks S' xs h5⟩
theorem i8.cut : ∀ (ks : List b6) (S : Nat → Prop) (xs : List Value), i8 w ks S xs → i8 w ks (fun b => S b ∧ b < w.heap.size) xs
 | [], _, _, h => h
 | e :: r, _, _, ⟨c, ys, S1, S2, h1, h2, h3, h4, h5⟩ => ⟨c, ys, fun b => S1 b ∧ b < w.heap.size, fun b => S2 b ∧ b < w.heap.size, h1, fun b hb => ⟨⟨(h2 b hb.1).1, hb.2⟩, fun h => (h2 b hb.1).2 h.1⟩, fun b hb => ⟨h3 b hb.1, hb.2⟩, x3.cut e S1 c h4, i8.cut r S2 ys h5⟩
end
theorem A2.cut {v : Value} {ks : List b6} {S : Nat → Prop} (h : A2 w v ks S) : A2 w v ks (fun b => S b ∧ b < w.heap.size) := by
 obtain ⟨xs, S', h2, h3, h4, h5⟩ := h
 exact ⟨xs, fun b => S' b ∧ b < w.heap.size, h2, fun g hg => ⟨⟨(h3 g hg).1, (World.ownsRow.lt h2 g hg).2⟩, fun h => (h3 g hg).2 h.1⟩, fun b hb => ⟨h4 b hb.1, hb.2⟩, i8.cut ks S' xs h5⟩
mutual
theorem y6.cut : ∀ (s : b5) (S : Nat → Prop) (cs : List Value), y6 w s S cs → y6 w s (fun b => S b ∧ b < w.heap.size) cs
 | ⟨_, _, _, _, _, b, e⟩, _, _, ⟨iv, vv, bv, ev, xb, xe, Si, Sv, Sb, Se, Sb', Se', h1, ⟨d1, d2, d3, d4⟩, h2, h3, ⟨b1, b2, b3, b4⟩, ⟨e1, e2, e3, e4⟩⟩ =>
  ⟨iv, vv, bv, ev, xb, xe, fun b => Si b ∧ b < w.heap.size, fun b => Sv b ∧ b < w.heap.size, fun b => Sb b ∧ b < w.heap.size, fun b => Se b ∧ b < w.heap.size, fun b => Sb' b ∧ b < w.heap.size, fun b => Se' b ∧ b < w.heap.size, h1,
   ⟨fun b hb => ⟨⟨(d1 b hb.1).1, hb.2⟩, fun h => (d1 b hb.1).2.1 h.1, fun h => (d1 b hb.1).2.2.1 h.1, fun h => (d1 b hb.1).2.2.2 h.1⟩, fun b hb => ⟨⟨(d2 b hb.1).1, hb.2⟩, fun h => (d2 b hb.1).2.1 h.1, fun h => (d2 b hb.1).2.2 h.1⟩,
    fun b hb => ⟨⟨(d3 b hb.1).1, hb.2⟩, fun h => (d3 b hb.1).2 h.1⟩, fun b hb => ⟨d4 b hb.1, hb.2⟩⟩, h2.cut, h3.cut,
   ⟨b1, fun g hg => ⟨⟨(b2 g hg).1, (World.ownsRow.lt b1 g hg).2⟩, fun h => (b2 g hg).2 h.1⟩, fun b hb => ⟨b3 b hb.1, hb.2⟩, i5.cut b Sb' xb b4⟩,
   ⟨e1, fun g hg => ⟨⟨(e2 g hg).1, (World.ownsRow.lt e1 g hg).2⟩, fun h => (e2 g hg).2 h.1⟩, fun b hb => ⟨e3 b hb.1, hb.2⟩, i5.cut e Se' xe e4⟩⟩
theorem i5.cut : ∀ (ks : List b5) (S : Nat → Prop) (xs : List Value), i5 w ks S xs → i5 w ks (fun b => S b ∧ b < w.heap.size) xs
 | [], _, _, h => h
 | e :: r, _, _, ⟨c, ys, S1, S2, h1, h2, h3, h4, h5⟩ => ⟨c, ys, fun b => S1 b ∧ b < w.heap.size, fun b => S2 b ∧ b < w.heap.size, h1, fun b hb => ⟨⟨(h2 b hb.1).1, hb.2⟩, fun h => (h2 b hb.1).2 h.1⟩, fun b hb => ⟨h3 b hb.1, hb.2⟩, y6.cut e S1 c h4, i5.cut r S2 ys h5⟩
end
theorem B9.cut {v : Value} {ks : List b5} {S : Nat → Prop} (h : B9 w v ks S) : B9 w v ks (fun b => S b ∧ b < w.heap.size) := by
 obtain ⟨xs, S', h2, h3, h4, h5⟩ := h
 exact ⟨xs, fun b => S' b ∧ b < w.heap.size, h2, fun g hg => ⟨⟨(h3 g hg).1, (World.ownsRow.lt h2 g hg).2⟩, fun h => (h3 g hg).2 h.1⟩, fun b hb => ⟨h4 b hb.1, hb.2⟩, i5.cut ks S' xs h5⟩
end
section
variable {φ ψ : Nat → Prop} {w0 w : World} {L : List L3}
end
section
variable {P : Program}
structure Q4 (wr w : World) (S : Nat → Prop) : Prop where
 below : Below wr.heap.size wr w
 box : ∀ b, S b → wr.heap.size ≤ b ∧ b < w.heap.size
theorem Q4.start (w : World) : Q4 w w.drew fun _ => False := ⟨(Below.refl _ _).drew, fun _ h => h.elim⟩
theorem Q4.call {wr w w' : World} {S : Nat → Prop} (h : Q4 wr w S) (b : Below w.heap.size w w') : Q4 wr w' S := ⟨h.below.trans (b.mono h.below.size), fun c hc => ⟨(h.box c hc).1, Nat.lt_of_lt_of_le (h.box c hc).2 b.size⟩⟩
theorem Q4.new {wr w w' : World} {S : Nat → Prop} (h : Q4 wr w S) (b : Below w.heap.size w w') (hs : w.heap.size < w'.heap.size) : Q4 wr w' fun c => S c ∨ c = w.heap.size :=
 ⟨h.below.trans (b.mono h.below.size), fun c hc => by
  rcases hc with hc | rfl
  ·exact ⟨(h.box c hc).1, Nat.lt_of_lt_of_le (h.box c hc).2 b.size⟩
  ·exact ⟨h.below.size, hs⟩⟩
def RF (φ S : Nat → Prop) (b : Nat) : Prop := φ b ∧ ¬ S b
theorem Q4.fresh {wr w : World} {S φ : Nat → Prop} (h : Q4 wr w S) (hf : ∀ b, wr.heap.size ≤ b → φ b) : ∀ b, w.heap.size ≤ b → RF φ S b := fun b hb => ⟨hf b (bI3 h.below.size hb), fun hs => by have := (h.box b hs).2; omega⟩
theorem Q4.old {wr w : World} {S φ : Nat → Prop} (h : Q4 wr w S) {R : World → (Nat → Prop) → Prop} (hn : S8 R) (hr : R wr φ) : R w (RF φ S) :=
 hn _ _ _ _ ⟨h.below.size, fun b hb hf => ⟨⟨hf, fun hs => by have := (h.box b hs).1; omega⟩, h.below.block b hb⟩⟩ hr
end
theorem v7.region {φ ψ : Nat → Prop} {w0 wr w : World} {L : List L3} {S : Nat → Prop} (M : v7 φ ψ w0 wr L) (hg : Q4 wr w S) {g : Nat} {cs : List Value} (hb : O9 w g cs) (hs : S g) : v7 φ ψ w0 w (L ++ [.box g cs]) :=
 M.add hg.below _ hb fun g' h => by cases h; exact (hg.box _ hs).1
theorem RF.app {φ S : Nat → Prop} {L : List L3} {b : Nat} (h : RF (Fr φ L) S b) (X : List L3) (hX : ∀ r ∈ X, ∀ g, r.blk g → S g) : Fr φ (L ++ X) b :=
 ⟨h.1.1, fun r hr he => by
  rcases bH4.1 hr with hr | hr
  ·exact h.1.2 r hr he
  ·exact h.2 (hX r hr b he)⟩
section
variable {P : Program}
def W5 (ops : Array Oper) : Bool := (bH5 ops.size).all fun j => (ops[j]?).any fun o => o.after.all fun e => !Region.binds .any e || decide (e.on < j)
theorem at8 {ops : Array Oper} (hb : W5 ops = true) {k : Nat} {o : Oper} (hk : k < ops.size) (ho : ops[k]? = some o) {e : Edge} (he : e ∈ o.after) (hbi : Region.binds .any e = true) : e.on < k := by
 have h1 := bG4.1 hb k (List.mem_range.2 hk)
 rw [ho] at h1
 simp only [Option.any_some] at h1
 have h2 := Array.all_eq_true'.1 h1 e he
 rw [hbi] at h2
 simpa using h2
theorem aG9 {ops : Array Oper} (hb : W5 ops = true) {listed : Array Bool} (hsz : listed.size = ops.size) : ∀ k, k < ops.size → listed.getD k true = false → Region.ready .any ops listed ≠ [] := by
 intro k
 induction k using Nat.strongRecOn with
 | _ k ih =>
  intro hk hl hn
  by_cases hall : ∃ j, j < k ∧ listed.getD j true = false
  ·obtain ⟨j, hj, hlj⟩ := hall
   exact ih j hj (by omega) hlj hn
  ·have hok : ops[k]? = some ops[k] := Array.getElem?_eq_getElem hk
   have : k ∈ Region.ready .any ops listed := by
    refine mem_ready.2 ⟨hl, ops[k], hok, fun e he hbi => ?_⟩
    have h2 := at8 hb hk hok he hbi
    cases h3 : listed.getD e.on true
    ·exact absurd ⟨e.on, h2, h3⟩ hall
    ·have : e.on < listed.size := by omega
     simp [this] at h3 ⊢
     exact h3
   rw [hn] at this
   cases this
theorem aX4 {a : Array Bool} {j : Nat} (h : j < a.size) : a.getD j true = a.getD j false := by simp [h]
end
end Go.Proofs.Ytgmhmijcnlfmfaa

namespace Go.Proofs.Ytgmhmijcnlfmfaa
def e7 (k : Int) : Int := if k = 1 ∨ k = 2 then 0 else if k = 3 then 1 else if 4 ≤ k ∧ k ≤ 10 then 2 else if k = 11 then 3 else -1
def v9 (nv na : Nat) (k : Int) : Int := if k = 1 then 256 else if k = 2 then nv else if k = 3 then na else 1
def E3 (e : b6) : Bool := decide (e.kind = 1) || decide (e.kind = 2)
def o7 (nv na : Nat) (e : b6) : Bool := decide ((e.kids.length : Int) = e7 e.kind) && decide (0 ≤ e.value) && decide (e.value < v9 nv na e.kind)
def J3 (e : b6) : Bool := decide (e.kind ≠ 3) || (match e.kids with | k :: _ => E3 k | [] => false)
def b9 (nv na : Nat) : Nat → b6 → Bool
 | 0, _ => false
 | d + 1, e => o7 nv na e && e.kids.all (b9 nv na d) && J3 e
def U0 : Nat → b6 → Nat
 | 0, _ => 1
 | d + 1, e => 1 + (e.kids.map (U0 d)).sum
def c6 (nv na : Nat) (e : b6) : Bool := b9 nv na 5 e && decide (1 + G8 e ≤ 15)
theorem C7 (e : b6) : G8 e = i9 e.kids := by cases e; rfl
theorem aL1 (nv na : Nat) : ∀ (d : Nat) (e : b6), b9 nv na d e = true → U0 d e = 1 + G8 e := by
 intro d
 induction d with
 | zero => intro e h; simp [b9] at h
 | succ d ih =>
  intro e h
  simp only [b9, bF9, bG4] at h
  rw [U0, C7]
  have key : ∀ ks : List b6, (∀ e ∈ ks, b9 nv na d e = true) → (ks.map (U0 d)).sum = i9 ks := by
   intro ks
   induction ks with
   | nil => intro _; rfl
   | cons a r ihr => intro hk; rw [bI5, List.sum_cons, i9, ihr fun e he => hk e (bH6 _ he), ih a (hk a bH0)]
  rw [key _ h.1.2]
theorem aO8 (nv na : Nat) (e : b6) : c6 nv na e = (b9 nv na 5 e && decide (U0 5 e ≤ 15)) := by
 unfold c6
 cases h : b9 nv na 5 e
 ·rfl
 ·rw [aL1 nv na 5 e h]
def o0 (nv na : Nat) (d c : Nat) (e : b6) : Bool := b9 nv na d e && decide (c + 1 + G8 e ≤ 15)
def n7 (nv na : Nat) (d c : Nat) (ks : List b6) (k : Nat) : Bool := (ks.take k).all (b9 nv na d) && decide (c + i9 (ks.take k) ≤ 15)
theorem aw8 {ks : List b6} {k : Nat} (h : k < ks.length) : i9 (ks.take (k + 1)) = i9 (ks.take k) + (1 + G8 ks[k]) := by
 rw [A0 _ _ h, M7]
 simp [i9]
theorem R0 (ks : List b6) (k : Nat) : i9 (ks.take k) ≤ i9 ks := by
 have := M7 (ks.take k) (ks.drop k)
 rw [List.take_append_drop] at this
 omega
theorem J8 (nv na : Nat) {d c : Nat} {ks : List b6} {k : Nat} (h : k < ks.length) : n7 nv na d c ks (k + 1) = (n7 nv na d c ks k && o0 nv na d (c + i9 (ks.take k)) ks[k]) := by
 unfold n7 o0
 rw [aw8 h, A0 _ _ h, List.all_append]
 simp only [List.all_cons, List.all_nil, Bool.and_true]
 rw [bI2]
 simp only [bF9, decide_eq_true_eq]
 constructor
 ·rintro ⟨⟨h1, h2⟩, h3⟩; exact ⟨⟨h1, by omega⟩, h2, by omega⟩
 ·rintro ⟨⟨h1, _⟩, h3, h4⟩; exact ⟨⟨h1, h3⟩, by omega⟩
theorem aB0 (nv na : Nat) {d c : Nat} {ks : List b6} {k : Nat} (h : k < ks.length) (hs : o0 nv na d (c + i9 (ks.take k)) ks[k] = false) : (ks.all (b9 nv na d) && decide (c + i9 ks ≤ 15)) = false := by
 rw [Bool.eq_false_iff]
 intro ht
 simp only [bF9, decide_eq_true_eq, bG4] at ht
 have h1 := ht.1 _ (bH8 h)
 have h2 := R0 ks (k + 1)
 rw [aw8 h] at h2
 unfold o0 at hs
 rw [h1] at hs
 simp at hs
 omega
def noneB (e : b6) : Bool := decide (e.kind = 0) && decide (e.value = 0) && decide (e.kids.length = 0)
def i7 (s : b5) : Bool :=
 if (s.kind = 3 ∨ s.kind = 4) then
  decide (s.target = 0) && (if s.kind = 4 then decide (s.els.length = 0) && decide (1 ≤ s.count) && decide (s.count ≤ 3) && noneB s.index && noneB s.value
   else decide (s.count = 0) && noneB s.index)
 else decide (s.body.length = 0) && decide (s.els.length = 0) && decide (s.count = 0) && (decide (s.kind = 2) || noneB s.index)
def e5 (nv na : Nat) : Nat → b5 → Bool
  | 0, _ => false
  | d + 1, s => i7 s &&
    (if s.kind = 1 ∨ s.kind = 5 then decide (0 ≤ s.target) && decide (s.target < nv) && c6 nv na s.value
     else if s.kind = 2 then decide (0 ≤ s.target) && decide (s.target < na) && c6 nv na s.index && E3 s.index && c6 nv na s.value
     else if s.kind = 3 then c6 nv na s.value && s.body.all (e5 nv na d) && s.els.all (e5 nv na d)
     else if s.kind = 4 then s.body.all (e5 nv na d)
     else false)
def W4 (nv na : Nat) (d : Nat) (ss : List b5) : Bool := ss.all (e5 nv na d)
mutual
def nS : b5 → Nat
 | ⟨_, _, _, _, _, b, e⟩ => 1 + L6 b + L6 e
def L6 : List b5 → Nat
 | [] => 0
 | s :: r => nS s + L6 r
end
def j9 (p : b7) : Bool := t5 p.vars p.arrays && W4 p.vars.length p.arrays.length 5 p.body && decide (L6 p.body ≤ 60)
end Go.Proofs.Ytgmhmijcnlfmfaa

namespace Go.Proofs.Ytgmhmijcnlfmfaa
open Go Go.RowKit
theorem I6 (l : Int) (w : World) : Calls Try.prog 187 #[.int .i64 l] w fun e w' => e = .returned (.bool (c3 l)) ∧ w = w' := by
 go_enter Try.func187, Try.ntmps187
 go_wp2
 all_goals go_ret
 all_goals exact ⟨c9 (by simp [c3]; try omega), rfl⟩
theorem ad2 (v1 v2 v3 : Value) (vars arrays : List Int) (w : World) (h1 : K3 w v1 vars.length 1 (ints vars)) (h2 : K3 w v2 arrays.length 1 (ints arrays)) :
  Calls Try.prog 140 #[.agg #[v1, v2, v3]] w fun e w' => e = .returned (.bool (t5 vars arrays)) ∧ Below w.heap.size w w' := by
 have B0 : Below w.heap.size w (w.alloc (.cells #[v1, v2, v3] 26)) := by go_grown
 obtain ⟨a1, c1, rfl, -, hm1, -, hc1⟩ := (h1.below B0).open1
 obtain ⟨a2, c2, rfl, -, hm2, -, hc2⟩ := (h2.below B0).open1
 have HT : Hid (t5 vars arrays = (vars.all c3 && arrays.all c3 && decide (1 ≤ vars.length) && decide (vars.length ≤ 12) && decide (arrays.length ≤ 2))) := rfl
 clear h1 h2
 go_enter Try.func140, Try.ntmps140
 go_wp2_with fail
 go_loop [3] (fun i => ∃ k : Nat, k ≤ vars.length ∧ i = .int .i64 k ∧ (vars.take k).all c3 = true) (fun i => vars.length - (intOf i).toNat)
 case atStart => exact ⟨0, bJ2 _, rfl, rfl⟩
 case round =>
  obtain ⟨k, hk, rfl, ha⟩ := hrel
  have HA := show Hid _ from ha
  clear ha
  by_cases hlt : k < vars.length
  ·obtain ⟨b1, o1, rfl, hb1, hx⟩ := hc1 k hlt
   rw [aq8 _ _ hlt] at hx
   have HS := show Hid _ from O6 c3 vars k hlt
   clear hc1 hc2
   cases hl : c3 vars[k]
   all_goals
    have HL := show Hid _ from hl
    clear hl
    go_wp2_with fail
    refine (I6 _ _).mono ?_
    rintro e w1 ⟨rfl, rfl⟩
    rw [HL.out]
    go_wp2_with fail
   ·go_ret
    exact ⟨c9 (by rw [HT.out, al7 hlt HL.out]; rfl), B0⟩
   ·go_round
    case rel => exact ⟨k + 1, by omega, by go_num, by rw [HS.out, HA.out, HL.out]; rfl⟩
    case measure => simp [intOf]; omega
  ·have HA' := show Hid (vars.all c3 = true) from by have := HA.out; rwa [bG9 (by omega)] at this
   clear HA hc1
   go_wp2_with fail
   go_loop [4] (fun i => ∃ k : Nat, k ≤ arrays.length ∧ i = .int .i64 k ∧ (arrays.take k).all c3 = true) (fun i => arrays.length - (intOf i).toNat)
   case atStart => exact ⟨0, bJ2 _, rfl, rfl⟩
   case round =>
    obtain ⟨j, hj, rfl, ha⟩ := hrel
    have HB := show Hid _ from ha
    clear ha
    by_cases hlj : j < arrays.length
    ·obtain ⟨b1, o1, rfl, hb1, hx⟩ := hc2 j hlj
     rw [aq8 _ _ hlj] at hx
     have HS := show Hid _ from O6 c3 arrays j hlj
     clear hc2
     cases hl : c3 arrays[j]
     all_goals
      have HL := show Hid _ from hl
      clear hl
      go_wp2_with fail
      refine (I6 _ _).mono ?_
      rintro e w1 ⟨rfl, rfl⟩
      rw [HL.out]
      go_wp2_with fail
     ·go_ret
      exact ⟨c9 (by rw [HT.out, al7 hlj HL.out]; simp), B0⟩
     ·go_round
      case rel => exact ⟨j + 1, by omega, by go_num, by rw [HS.out, HB.out, HL.out]; rfl⟩
      case measure => simp [intOf]; omega
    ·have HB' := show Hid (arrays.all c3 = true) from by have := HB.out; rwa [bG9 (by omega)] at this
     clear HB hc2
     go_wp2_with fail
     all_goals go_ret
     all_goals refine ⟨c9 ?_, B0⟩
     all_goals rw [HT.out, HA'.out, HB'.out]
     all_goals rw [bI2]
     all_goals simp
     all_goals omega
theorem aA5 (k : Int) (w : World) : Calls Try.prog 210 #[.int .i64 k] w fun e w' => e = .returned (.int .i64 (e7 k)) ∧ w = w' := by
 go_enter Try.func210, Try.ntmps210
 go_wp2
 all_goals
  go_ret
  exact ⟨y7 (by unfold e7; (repeat' split) <;> simp_all <;> omega), rfl⟩
theorem aG8 (k n : Int) (kv : Value) (w : World) : Calls Try.prog 212 #[.agg #[.int .i64 k, .int .i64 n, kv]] w fun e w' => e = .returned (.bool (decide (k = 1) || decide (k = 2))) ∧ Below w.heap.size w w' := by
 by_cases h1 : k = 1
 ·have p1 : (k == 1) = true := by simp [h1]
  have Q := show Hid _ from h1
  clear h1
  go_enter Try.func212, Try.ntmps212
  go_wp2
  go_ret
  exact ⟨c9 (by simp [Q.out]), by go_grown⟩
 ·have p1 : (k == 1) = false := by simp [h1]
  have Q := show Hid _ from h1
  clear h1
  by_cases h2 : k = 2
  ·have p2 : (k == 2) = true := by simp [h2]
   have Q2 := show Hid _ from h2
   clear h2
   go_enter Try.func212, Try.ntmps212
   go_wp2
   go_ret
   exact ⟨c9 (by simp [Q2.out]), by go_grown⟩
  ·have p2 : (k == 2) = false := by simp [h2]
   have Q2 := show Hid _ from h2
   clear h2
   go_enter Try.func212, Try.ntmps212
   go_wp2
   go_ret
   exact ⟨c9 (by rw [decide_eq_false Q.out, decide_eq_false Q2.out]; rfl), by go_grown⟩
theorem aA3 (a1 a2 : Option Addr) (nv c1 na c2 : Nat) (v3 : Value) (k : Int) (w : World) (h1 : nv ≤ 9223372036854775807) (h2 : na ≤ 9223372036854775807) :
  Calls Try.prog 211 #[.agg #[.slice a1 nv c1, .slice a2 na c2, v3], .int .i64 k] w fun e w' => e = .returned (.int .i64 (v9 nv na k)) ∧ Below w.heap.size w w' := by
 go_enter Try.func211, Try.ntmps211
 go_wp2
 all_goals
  go_ret
  exact ⟨y7 (by unfold v9; (repeat' split) <;> simp_all), by go_grown⟩
theorem ag6 {e : b6} (h3 : e.kind = 3) (hl : 0 < e.kids.length) : J3 e = (decide (e.kids[0].kind = 1) || decide (e.kids[0].kind = 2)) := by
 rcases e with ⟨k, n, ks⟩
 cases ks with
 | nil => simp [b6.kids] at hl
 | cons a r =>
  have h3' : k = 3 := h3
  subst h3'
  simp only [J3, b6.kids, List.getElem_cons_zero, E3]
  rw [decide_eq_false (by simp [b6.kind])]
  rfl
theorem aA1 (a1 a2 : Option Addr) (nv c1 na c2 : Nat) (v3 : Value) (h1 : nv ≤ 9223372036854775807) (h2 : na ≤ 9223372036854775807) : ∀ d : Nat, d ≤ 5 → ∀ (e : b6) (φ : Nat → Prop) (v : Value) (w : World), L4 w φ v e →
  Calls Try.prog 167 #[.agg #[.slice a1 nv c1, .slice a2 na c2, v3], v, .int .i64 d] w fun x w' => x = .returned (.bool (b9 nv na d e)) ∧ Below w.heap.size w w' := by
 intro d
 induction d with
 | zero =>
  intro _ e φ v w h
  obtain ⟨kv, rfl, hk⟩ := h
  have HS : Hid (b9 nv na 0 e = false) := rfl
  obtain ⟨W, hW, M⟩ : ∃ W, W = (w.alloc (.cells #[.slice a1 nv c1, .slice a2 na c2, v3] 26)).alloc (.cells #[.int .i64 e.kind, .int .i64 e.value, kv] 59) ∧ v7 (fun _ => True) (fun _ => True) w W [.box w.heap.size [.slice a1 nv c1, .slice a2 na c2, v3], .box (w.heap.size + 1) [.int .i64 e.kind, .int .i64 e.value, kv]] :=
   ⟨_, rfl, ((v7.start fun _ _ => trivial).box _ _).box' _ _ (by simp)⟩
  have HB := show Hid _ from M.below fun _ _ => trivial
  clear hk M
  go_enter Try.func167, Try.ntmps167
  go_wp2_with fail
  rw [← hW]
  clear hW
  refine n4 (by kernel_rfl) (by kernel_rfl) ?_
  repeat (any_goals (first | go_big_quiet_step (((fail))) | quiet_step (((fail)))))
  refine wpQuiet_nil ?_
  rintro _ ⟨X, rfl⟩
  go_wp2_with fail
  go_ret
  exact ⟨c9 HS.out.symm, HB.out.trans ((s8 W X).mono HB.out.size)⟩
 | succ d ih =>
  intro hd5 e φ v w h
  obtain ⟨kv, rfl, hk⟩ := h
  obtain ⟨ak, ck, rfl, -, hn, -, hc⟩ := hk.open
  have hd0 : (d : Int) ≤ 5 := by omega
  have p0 : decide ((d : Int) + 1 < 1) = false := by simp; omega
  have HS : Hid (b9 nv na (d + 1) e = (o7 nv na e && e.kids.all (b9 nv na d) && J3 e)) := rfl
  obtain ⟨W, hW, M⟩ : ∃ W, W = (w.alloc (.cells #[.slice a1 nv c1, .slice a2 na c2, v3] 26)).alloc (.cells #[.int .i64 e.kind, .int .i64 e.value, .slice ak e.kids.length ck] 59) ∧ v7 (fun _ => True) (fun _ => True) w W [.box w.heap.size [.slice a1 nv c1, .slice a2 na c2, v3], .box (w.heap.size + 1) [.int .i64 e.kind, .int .i64 e.value, .slice ak e.kids.length ck]] :=
   ⟨_, rfl, ((v7.start fun _ _ => trivial).box _ _).box' _ _ (by simp)⟩
  have HB := show Hid _ from M.below fun _ _ => trivial
  have HA : Hid (∀ X, Calls Try.prog 210 #[.int .i64 e.kind] (W.ext X) fun x w'' => x = .returned (.int .i64 (e7 e.kind)) ∧ ∃ Y, w'' = W.ext Y) := fun X =>
   Calls.ext_of' ((aA5 e.kind _).mono fun x w' h => ⟨h.1, h.2 ▸ Below.refl _ _⟩)
  have HL : Hid (∀ X, Calls Try.prog 211 #[.agg #[.slice a1 nv c1, .slice a2 na c2, v3], .int .i64 e.kind] (W.ext X) fun x w'' => x = .returned (.int .i64 (v9 nv na e.kind)) ∧ ∃ Y, w'' = W.ext Y) := fun X =>
   Calls.ext_of' (aA3 a1 a2 nv c1 na c2 v3 e.kind _ h1 h2)
  have HM := show Hid _ from M
  have HC := show Hid _ from hc
  have x0 := M.c 0 0 rfl rfl
  have x1 := M.c 0 1 rfl rfl
  have x2 := M.c 0 2 rfl rfl
  have y0 := M.c 1 0 rfl rfl
  have y1 := M.c 1 1 rfl rfl
  have y2 := M.c 1 2 rfl rfl
  have z0 := fun X => t8 x0 X
  have z1 := fun X => t8 x1 X
  have z2 := fun X => t8 x2 X
  have z3 := fun X => t8 y0 X
  have z4 := fun X => t8 y1 X
  have z5 := fun X => t8 y2 X
  clear hk M hc x0 x1 x2 y0 y1 y2
  by_cases q1 : (e.kids.length : Int) = e7 e.kind
  case neg =>
   have p1 : ((e.kids.length : Int) != e7 e.kind) = true := by simp [q1]
   have HN : Hid (o7 nv na e = false) := by unfold Hid o7; simp [q1]
   clear q1
   go_enter Try.func167, Try.ntmps167
   go_wp2_with fail
   rw [← hW]
   clear hW
   refine n4 (by kernel_rfl) (by kernel_rfl) ?_
   repeat (any_goals (first | go_big_quiet_step (((first | (go_at_call 210; exact HA.out _) | (go_at_call 211; exact HL.out _)))) | quiet_step (((first | (go_at_call 210; exact HA.out _) | (go_at_call 211; exact HL.out _))))))
   refine wpQuiet_nil ?_
   rintro _ ⟨X, rfl⟩
   go_wp2_with fail
   go_ret
   exact ⟨c9 (by rw [HS.out, HN.out]; rfl), HB.out.trans ((s8 W X).mono HB.out.size)⟩
  have p1 : ((e.kids.length : Int) != e7 e.kind) = false := by simp [q1]
  by_cases q2 : e.value < 0
  case pos =>
   have p2 : decide (e.value < 0) = true := by simp [q2]
   have HN : Hid (o7 nv na e = false) := by unfold Hid o7; simp; intro _ h; omega
   clear q1 q2
   go_enter Try.func167, Try.ntmps167
   go_wp2_with fail
   rw [← hW]
   clear hW
   refine n4 (by kernel_rfl) (by kernel_rfl) ?_
   repeat (any_goals (first | go_big_quiet_step (((first | (go_at_call 210; exact HA.out _) | (go_at_call 211; exact HL.out _)))) | quiet_step (((first | (go_at_call 210; exact HA.out _) | (go_at_call 211; exact HL.out _))))))
   refine wpQuiet_nil ?_
   rintro _ ⟨X, rfl⟩
   go_wp2_with fail
   go_ret
   exact ⟨c9 (by rw [HS.out, HN.out]; rfl), HB.out.trans ((s8 W X).mono HB.out.size)⟩
  have p2 : decide (e.value < 0) = false := by simp; omega
  by_cases q3 : v9 nv na e.kind ≤ e.value
  case pos =>
   have p3 : decide (v9 nv na e.kind ≤ e.value) = true := by simp [q3]
   have HN : Hid (o7 nv na e = false) := by unfold Hid o7; simp; intro _ h; omega
   clear q1 q2 q3
   go_enter Try.func167, Try.ntmps167
   go_wp2_with fail
   rw [← hW]
   clear hW
   refine n4 (by kernel_rfl) (by kernel_rfl) ?_
   repeat (any_goals (first | go_big_quiet_step (((first | (go_at_call 210; exact HA.out _) | (go_at_call 211; exact HL.out _)))) | quiet_step (((first | (go_at_call 210; exact HA.out _) | (go_at_call 211; exact HL.out _))))))
   refine wpQuiet_nil ?_
   rintro _ ⟨X, rfl⟩
   go_wp2_with fail
   go_ret
   exact ⟨c9 (by rw [HS.out, HN.out]; rfl), HB.out.trans ((s8 W X).mono HB.out.size)⟩
  have p3 : decide (v9 nv na e.kind ≤ e.value) = false := by simp; omega
  have HN : Hid (o7 nv na e = true) := by unfold Hid o7; simp; exact ⟨⟨q1, by omega⟩, by omega⟩
  have HQ := show Hid _ from q1
  clear q1 q2 q3
  go_enter Try.func167, Try.ntmps167
  go_wp2_with fail
  rw [← hW]
  clear hW
  refine n4 (by kernel_rfl) (by kernel_rfl) ?_
  repeat (any_goals (first | go_big_quiet_step (((first | (go_at_call 210; exact HA.out _) | (go_at_call 211; exact HL.out _)))) | quiet_step (((first | (go_at_call 210; exact HA.out _) | (go_at_call 211; exact HL.out _))))))
  refine wpQuiet_nil ?_
  rintro _ ⟨X, rfl⟩
  have M := HM.out.call (s8 W X)
  generalize W.ext X = W1 at *
  clear HA HL HM HB p1 p2 p3 z0 z1 z2 z3 z4 z5
  go_wp2_with fail
  go_loopw [7] (fun i wr => ∃ k : Nat, k ≤ e.kids.length ∧ i = .int .i64 k ∧ (e.kids.take k).all (b9 nv na d) = true ∧ v7 (fun _ => True) (fun _ => True) w wr [.box w.heap.size [.slice a1 nv c1, .slice a2 na c2, v3], .box (w.heap.size + 1) [.int .i64 e.kind, .int .i64 e.value, .slice ak e.kids.length ck]]) (fun i _ => e.kids.length - (intOf i).toNat)
  case atStart => exact ⟨0, bJ2 _, rfl, rfl, M⟩
  case round =>
   clear M
   obtain ⟨k, hk, rfl, hall, M⟩ := hrel
   have HALL := show Hid _ from hall
   clear hall
   have hB := M.below fun _ _ => trivial
   have x0 := M.c 0 0 rfl rfl
   have x1 := M.c 0 1 rfl rfl
   have x2 := M.c 0 2 rfl rfl
   have y0 := M.c 1 0 rfl rfl
   have y2 := M.c 1 2 rfl rfl
   by_cases hlt : k < e.kids.length
   ·obtain ⟨b, off, kv, rfl, hbk, hf, c0, c1', c2', hkv⟩ := HC.out k hlt
    rw [← (aM2 hB).1 _ _ hbk] at c0 c1' c2'
    obtain ⟨q, hq⟩ : ∃ q, q = b9 nv na d e.kids[k] := ⟨_, rfl⟩
    have HC3 : Hid (∀ X, Calls Try.prog 167 #[.agg #[.slice a1 nv c1, .slice a2 na c2, v3], .agg #[.int .i64 e.kids[k].kind, .int .i64 e.kids[k].value, kv], .int .i64 d] (wr.ext X) fun x w'' => x = .returned (.bool q) ∧ ∃ Y, w'' = wr.ext Y) := fun X => by
     have bb := hB.trans ((s8 wr X).mono hB.size)
     rw [hq]
     exact Calls.ext_of' (ih (by omega) _ φ _ _ ⟨kv, rfl, l8.nice _ _ _ _ _ _ (Q9.below bb) hkv⟩)
    have HQQ := show Hid _ from hq
    have HM := show Hid _ from M
    have j0 := fun X => t8 c0 X
    have j1 := fun X => t8 c1' X
    have j2 := fun X => t8 c2' X
    have z0 := fun X => t8 x0 X
    have z1 := fun X => t8 x1 X
    have z2 := fun X => t8 x2 X
    have z5 := fun X => t8 y2 X
    have hlt' : (k : Int) < e.kids.length := by omega
    clear hkv hq c0 c1' c2' x0 x1 x2 y0 M hB
    cases q
    ·go_wp2_with fail
     refine n4 (by kernel_rfl) (by kernel_rfl) ?_
     repeat (any_goals (first | go_big_quiet_step (((go_at_call 167; exact HC3.out _))) | quiet_step (((go_at_call 167; exact HC3.out _)))))
     refine wpQuiet_nil ?_
     rintro _ ⟨X, rfl⟩
     go_wp2_with fail
     go_ret
     have M := HM.out.call (s8 wr X)
     refine ⟨c9 ?_, M.below fun _ _ => trivial⟩
     have h9 : e.kids.all (b9 nv na d) = false := List.all_eq_false.2 ⟨_, bH8 hlt, by rw [← HQQ.out]; simp⟩
     rw [HS.out, h9, Bool.and_false, Bool.false_and]
    ·go_wp2_with fail
     refine n4 (by kernel_rfl) (by kernel_rfl) ?_
     repeat (any_goals (first | go_big_quiet_step (((go_at_call 167; exact HC3.out _))) | quiet_step (((go_at_call 167; exact HC3.out _)))))
     refine wpQuiet_nil ?_
     rintro _ ⟨X, rfl⟩
     go_wp2_with fail
     refine ⟨⟨k + 1, by omega, by go_num, ?_, HM.out.call (s8 wr X)⟩, by simp [intOf]; omega⟩
     rw [A0 _ _ hlt, List.all_append, HALL.out]
     simp [← HQQ.out]
   ·have hkn : k = e.kids.length := by omega
    subst hkn
    have hall := HALL.out
    rw [bG9 (bH3 _)] at hall
    have HAL := show Hid _ from hall
    have HB := show Hid _ from hB
    have HM := show Hid _ from M
    clear hall x0 x1 x2 M hB
    by_cases q4 : e.kind = 3
    ·have p4 : (e.kind != 3) = false := by simp [q4]
     have hl1 : e.kids.length = 1 := by have := HQ.out; rw [q4] at this; simp [e7] at this; omega
     have HL1 := show Hid _ from hl1
     have hpos : 0 < (e.kids.length : Int) := by omega
     obtain ⟨b, off, kv, rfl, hbk, hf, c0, c1', c2', hkv⟩ := HC.out 0 (by omega)
     rw [← (aM2 HB.out).1 _ _ hbk] at c0 c1' c2'
     simp only [Nat.zero_mul, Nat.add_zero] at c0 c1' c2'
     have HR := show Hid _ from ag6 q4 (by omega)
     clear hkv q4
     go_wp2_with fail
     refine (aG8 _ _ _ _).mono ?_
     rintro x w2 ⟨rfl, b2⟩
     have B2 := show Hid _ from HB.out.trans (b2.mono HB.out.size)
     clear b2
     go_wp2_with fail
     go_ret
     exact ⟨c9 (by rw [HS.out, HN.out, HAL.out, HR.out]; rfl), B2.out⟩
    ·have p4 : (e.kind != 3) = true := by simp [q4]
     have HR : Hid (J3 e = true) := by unfold Hid J3; simp [q4]
     clear q4
     go_wp2_with fail
     go_ret
     exact ⟨c9 (by rw [HS.out, HN.out, HAL.out, HR.out]; rfl), HB.out⟩
theorem S7 {nv na d : Nat} {e : b6} (h : b9 nv na (d + 1) e = true) : e.kids.length ≤ 3 ∧ ∀ x ∈ e.kids, b9 nv na d x = true := by
 simp only [b9, o7, bF9, decide_eq_true_eq, bG4] at h
 refine ⟨?_, h.1.2⟩
 have h1 := h.1.1.1.1
 have : e7 e.kind ≤ 3 := by unfold e7; (repeat' split) <;> omega
 omega
theorem aN7 {ks : List b6} {B : Nat} (h : ∀ x ∈ ks, 1 + G8 x ≤ B) : i9 ks ≤ ks.length * B := by
 induction ks with
 | nil => simp [i9]
 | cons a r ih =>
  have h1 := h a bH0
  have h2 := ih fun x hx => h x (bH6 _ hx)
  simp only [i9, bH7, bI4]; omega
theorem ao6 (nv na : Nat) : ∀ (d : Nat) (e : b6), b9 nv na d e = true → 1 + G8 e ≤ 4 ^ d := by
 intro d
 induction d with
 | zero => intro e h; simp [b9] at h
 | succ d ih =>
  intro e h
  obtain ⟨h1, h2⟩ := S7 h
  have h3 := aN7 (ks := e.kids) fun x hx => ih x (h2 x hx)
  have h4 : e.kids.length * 4 ^ d ≤ 3 * 4 ^ d := bJ3 _ h1
  have h5 : 0 < 4 ^ d := Nat.pos_of_ne_zero (by simp)
  rw [C7, Nat.pow_succ]
  omega
theorem aA4 (nv na : Nat) : ∀ d : Nat, d ≤ 5 → ∀ (e : b6) (φ : Nat → Prop) (v : Value) (w : World), L4 w φ v e → b9 nv na d e = true →
  Calls Try.prog 168 #[v, .int .i64 d] w fun x w' => x = .returned (.int .i64 (1 + G8 e : Nat)) ∧ Below w.heap.size w w' := by
 intro d
 induction d with
 | zero => intro _ e φ v w _ hs; simp [b9] at hs
 | succ d ih =>
  intro hd5 e φ v w h hs
  obtain ⟨kv, rfl, hk⟩ := h
  obtain ⟨ak, ck, rfl, -, hn, -, hc⟩ := hk.open
  have hd0 : (d : Int) ≤ 5 := by omega
  have hd1 : decide (0 < (d : Int) + 1) = true := decide_eq_true (by omega)
  have hsz : i9 e.kids ≤ 1024 := by
   have h1 := ao6 nv na (d + 1) e hs
   have h2 : 4 ^ (d + 1) ≤ 4 ^ 5 := Nat.pow_le_pow_right (by omega) hd5
   rw [C7] at h1; omega
  have HK := show Hid _ from (S7 hs).2
  obtain ⟨W, hW, M⟩ : ∃ W, W = w.alloc (.cells #[.int .i64 e.kind, .int .i64 e.value, .slice ak e.kids.length ck] 59) ∧ v7 (fun _ => True) (fun _ => True) w W [.box w.heap.size [.int .i64 e.kind, .int .i64 e.value, .slice ak e.kids.length ck]] :=
   ⟨_, rfl, (v7.start fun _ _ => trivial).box _ _⟩
  have HC := show Hid _ from hc
  have HSZ := show Hid _ from C7 e
  clear hk hc hs
  go_enter Try.func168, Try.ntmps168
  go_wp2_with fail
  rw [← hW]
  clear hW
  go_loopw [5, 6] (fun q i wr => ∃ k : Nat, k ≤ e.kids.length ∧ i = .int .i64 k ∧ q = .int .i64 (1 + i9 (e.kids.take k) : Nat) ∧ v7 (fun _ => True) (fun _ => True) w wr [.box w.heap.size [.int .i64 e.kind, .int .i64 e.value, .slice ak e.kids.length ck]]) (fun _ i _ => e.kids.length - (intOf i).toNat)
  case atStart => exact ⟨0, bJ2 _, rfl, rfl, M⟩
  case round =>
   clear M
   obtain ⟨k, hk, rfl, rfl, M⟩ := hrel
   have hB := M.below fun _ _ => trivial
   have y2 := M.c 0 2 rfl rfl
   have htl := R0 e.kids k
   obtain ⟨z, hz⟩ : ∃ z, z = i9 (e.kids.take k) := ⟨_, rfl⟩
   rw [← hz] at htl ⊢
   have HZ := show Hid _ from hz
   clear hz
   by_cases hlt : k < e.kids.length
   ·obtain ⟨b, off, kv, rfl, hbk, hf, c0, c1', c2', hkv⟩ := HC.out k hlt
    rw [← (aM2 hB).1 _ _ hbk] at c0 c1' c2'
    have HE := show Hid (L4 wr φ (.agg #[.int .i64 e.kids[k].kind, .int .i64 e.kids[k].value, kv]) e.kids[k]) from ⟨kv, rfl, l8.nice _ _ _ _ _ _ (Q9.below hB) hkv⟩
    have HM := show Hid _ from M
    have hlt' : (k : Int) < e.kids.length := by omega
    have HT := show Hid _ from K4 hlt
    have htl1 := R0 e.kids (k + 1)
    rw [HT.out, ← HZ.out] at htl1
    clear hkv M hB
    go_wp2_with fail
    refine (ih (by omega) _ φ _ _ HE.out (HK.out _ (bH8 hlt))).mono ?_
    rintro x w2 ⟨rfl, b2⟩
    have HM2 := show Hid _ from HM.out.call b2
    clear b2 y2
    go_wp2_with fail
    exact ⟨⟨k + 1, by omega, by go_num, by rw [HT.out, ← HZ.out]; go_num, HM2.out⟩, by simp [intOf]; omega⟩
   ·have hkn : k = e.kids.length := by omega
    subst hkn
    have HB := show Hid _ from hB
    clear M hB
    go_wp2_with fail
    go_ret
    exact ⟨y7 (by rw [HZ.out, bG9 (bH3 _), HSZ.out]), HB.out⟩
theorem aA2 (a1 a2 : Option Addr) (nv c1 na c2 : Nat) (v3 : Value) (h1 : nv ≤ 9223372036854775807) (h2 : na ≤ 9223372036854775807) (e : b6) (φ : Nat → Prop) (v : Value) (w : World) (h : L4 w φ v e) :
  Calls Try.prog 100 #[.agg #[.slice a1 nv c1, .slice a2 na c2, v3], v] w fun x w' => x = .returned (.bool (c6 nv na e)) ∧ Below w.heap.size w w' := by
 obtain ⟨kv, rfl, hk⟩ := h
 have HR : Hid (c6 nv na e = (b9 nv na 5 e && decide (1 + G8 e ≤ 15))) := rfl
 obtain ⟨W, hW, M⟩ : ∃ W, W = (w.alloc (.cells #[.slice a1 nv c1, .slice a2 na c2, v3] 26)).alloc (.cells #[.int .i64 e.kind, .int .i64 e.value, kv] 59) ∧ v7 (fun _ => True) (fun _ => True) w W [.box w.heap.size [.slice a1 nv c1, .slice a2 na c2, v3], .box (w.heap.size + 1) [.int .i64 e.kind, .int .i64 e.value, kv]] :=
  ⟨_, rfl, ((v7.start fun _ _ => trivial).box _ _).box' _ _ (by simp)⟩
 have HE := show Hid (∀ W', Below w.heap.size w W' → L4 W' φ (.agg #[.int .i64 e.kind, .int .i64 e.value, kv]) e) from fun W' k => ⟨kv, rfl, l8.nice _ _ _ _ _ _ (Q9.below k) hk⟩
 clear hk
 have x0 := M.c 0 0 rfl rfl
 have x1 := M.c 0 1 rfl rfl
 have x2 := M.c 0 2 rfl rfl
 have y0 := M.c 1 0 rfl rfl
 have y1 := M.c 1 1 rfl rfl
 have y2 := M.c 1 2 rfl rfl
 rw [hW] at x0 x1 x2 y0 y1 y2
 go_enter Try.func100, Try.ntmps100
 go_wp2_with fail
 rw [← hW]
 clear hW x0 x1 x2 y0 y1 y2
 refine (aA1 a1 a2 nv c1 na c2 v3 h1 h2 5 (by omega) e φ _ _ (HE.out _ (M.below fun _ _ => trivial))).mono ?_
 rintro x w1 ⟨rfl, b1⟩
 replace M := M.call b1
 clear b1
 cases hs : b9 nv na 5 e
 ·have HB := show Hid _ from M.below fun _ _ => trivial
  have HS := show Hid _ from hs
  clear hs M
  go_wp2_with fail
  go_ret
  exact ⟨c9 (by rw [HR.out, HS.out]; rfl), HB.out⟩
 ·have HS := show Hid _ from hs
  have hsz := ao6 nv na 5 e hs
  have y0 := M.c 1 0 rfl rfl
  have y1 := M.c 1 1 rfl rfl
  have y2 := M.c 1 2 rfl rfl
  have HM := show Hid _ from M
  clear hs M
  go_wp2_with fail
  refine (aA4 nv na 5 (by omega) e φ _ _ (HE.out _ (HM.out.below fun _ _ => trivial)) HS.out).mono ?_
  rintro x w2 ⟨rfl, b1⟩
  have HB := show Hid _ from (HM.out.call b1).below fun _ _ => trivial
  clear b1 y0 y1 y2
  go_wp2_with fail
  go_ret
  exact ⟨c9 (by rw [HR.out, HS.out, Bool.true_and]; exact decide_eq_decide.2 (by omega)), HB.out⟩
def x8 (p : b7) (e : b6) : Bool := t5 p.vars p.arrays && c6 p.vars.length p.arrays.length e
theorem ao5 (p : b7) (e : b6) (φ φ' : Nat → Prop) (u v : Value) (w : World) (hp : aM8 w φ u p) (h : L4 w φ' v e) :
  Calls Try.prog 88 #[u, v] w fun x w' => x = .returned (.bool (x8 p e)) ∧ Below w.heap.size w w' := by
 obtain ⟨v1, v2, v3, rfl, g1, g2, -⟩ := hp
 obtain ⟨kv, rfl, hk⟩ := h
 obtain ⟨a1, c1, rfl, -, hm1, -⟩ := g1.row.open1
 obtain ⟨a2, c2, rfl, -, hm2, -⟩ := g2.row.open1
 have HR : Hid (x8 p e = (t5 p.vars p.arrays && c6 p.vars.length p.arrays.length e)) := rfl
 obtain ⟨W, hW, M⟩ : ∃ W, W = (w.alloc (.cells #[.slice a1 p.vars.length c1, .slice a2 p.arrays.length c2, v3] 26)).alloc (.cells #[.int .i64 e.kind, .int .i64 e.value, kv] 59) ∧ v7 (fun _ => True) (fun _ => True) w W [.box w.heap.size [.slice a1 p.vars.length c1, .slice a2 p.arrays.length c2, v3], .box (w.heap.size + 1) [.int .i64 e.kind, .int .i64 e.value, kv]] :=
  ⟨_, rfl, ((v7.start fun _ _ => trivial).box _ _).box' _ _ (by simp)⟩
 have HE := show Hid (∀ W', Below w.heap.size w W' → L4 W' φ' (.agg #[.int .i64 e.kind, .int .i64 e.value, kv]) e ∧ K3 W' (.slice a1 p.vars.length c1) p.vars.length 1 (ints p.vars) ∧ K3 W' (.slice a2 p.arrays.length c2) p.arrays.length 1 (ints p.arrays)) from fun W' k => ⟨⟨kv, rfl, l8.nice _ _ _ _ _ _ (Q9.below k) hk⟩, g1.row.below k, g2.row.below k⟩
 clear hk g1 g2
 have x0 := M.c 0 0 rfl rfl
 have x1 := M.c 0 1 rfl rfl
 have x2 := M.c 0 2 rfl rfl
 rw [hW] at x0 x1 x2
 go_enter Try.func88, Try.ntmps88
 go_wp2_with fail
 rw [← hW]
 clear hW x0 x1 x2
 refine (ad2 _ _ v3 p.vars p.arrays _ (HE.out _ (M.below fun _ _ => trivial)).2.1 (HE.out _ (M.below fun _ _ => trivial)).2.2).mono ?_
 rintro x w1 ⟨rfl, b1⟩
 replace M := M.call b1
 clear b1
 cases hs : t5 p.vars p.arrays
 ·have HB := show Hid _ from M.below fun _ _ => trivial
  have HS := show Hid _ from hs
  clear hs M
  go_wp2_with fail
  go_ret
  exact ⟨c9 (by rw [HR.out, HS.out]; rfl), HB.out⟩
 ·have HS := show Hid _ from hs
  have x0 := M.c 0 0 rfl rfl
  have x1 := M.c 0 1 rfl rfl
  have x2 := M.c 0 2 rfl rfl
  have y0 := M.c 1 0 rfl rfl
  have y1 := M.c 1 1 rfl rfl
  have y2 := M.c 1 2 rfl rfl
  have HM := show Hid _ from M
  clear hs M
  go_wp2_with fail
  refine (aA2 a1 a2 _ c1 _ c2 v3 hm1 hm2 e φ' _ _ (HE.out _ (HM.out.below fun _ _ => trivial)).1).mono ?_
  rintro x w2 ⟨rfl, b1⟩
  have HB := show Hid _ from (HM.out.call b1).below fun _ _ => trivial
  clear b1 x0 x1 x2 y0 y1 y2
  go_wp2_with fail
  go_ret
  exact ⟨c9 (by rw [HR.out, HS.out]; rfl), HB.out⟩
theorem t4 (n lo hi : Int) (w : World) : Calls Try.prog 143 #[.int .i64 n, .int .i64 lo, .int .i64 hi] w fun e w' => e = .returned (.bool (decide (lo ≤ n) && decide (n ≤ hi))) ∧ w = w' := by
 go_enter Try.func143, Try.ntmps143
 go_wp2
 all_goals go_ret
 all_goals exact ⟨c9 (by simp; try omega), rfl⟩
theorem T3 (l : Int) (w : World) : Calls Try.prog 90 #[.int .i64 l] w fun e w' => e = .returned (.bool (c3 l)) ∧ w = w' := by
 go_enter Try.func90, Try.ntmps90
 go_wp2_with fail
 refine (t4 l 0 3 _).mono ?_
 rintro e w1 ⟨rfl, rfl⟩
 go_wp2_with fail
 go_ret
 exact ⟨rfl, rfl⟩
theorem ak9 (l : Int) (w : World) : Calls Try.prog 190 #[.int .i64 l] w fun e w' => e = .returned (.bool (!c3 l)) ∧ w = w' := by
 go_enter Try.func190, Try.ntmps190
 go_wp2_with fail
 refine (T3 l _).mono ?_
 rintro e w1 ⟨rfl, rfl⟩
 go_wp2_with fail
 go_ret
 exact ⟨rfl, rfl⟩
theorem au5 (p : Int → Bool) (f : FuncId) (v : Value) (xs : List Int) (w : World) (h : K3 w v xs.length 1 (ints xs)) (he : ∀ args w, (callFunc f args).run Try.prog w = .ok (.enter f args) w)
  (hf : ∀ x w', Calls Try.prog f #[.int .i64 x] w' fun e w'' => e = .returned (.bool (p x)) ∧ w' = w'') :
  Calls Try.prog 231 #[v, .func (.func f) #[] #[]] w fun e w' => ∃ r : Int, e = .returned (.int .i64 r) ∧ decide (0 ≤ r) = xs.any p ∧ w = w' := by
 obtain ⟨a1, c1, rfl, -, hm1, -, hc1⟩ := h.open1
 have HF := show Hid _ from hf
 clear h hf
 go_enter Try.func231, Try.ntmps231
 go_wp2_with fail
 go_loop [5, 8] (fun _ i => ∃ k : Nat, k ≤ xs.length ∧ i = .int .i64 k ∧ (xs.take k).any p = false) (fun _ i => xs.length - (intOf i).toNat)
 case atStart => exact ⟨0, bJ2 _, rfl, rfl⟩
 case round =>
  obtain ⟨k, hk, rfl, ha⟩ := hrel
  have HA := show Hid _ from ha
  clear ha
  by_cases hlt : k < xs.length
  ·obtain ⟨b1, o1, rfl, hb1, hx⟩ := hc1 k hlt
   rw [aq8 _ _ hlt] at hx
   clear hc1
   cases hp : p xs[k]
   all_goals
    have HP := show Hid _ from hp
    clear hp
    go_wp2_with fail
    refine (HF.out xs[k] _).mono ?_
    rintro e w1 ⟨rfl, rfl⟩
    rw [HP.out]
    go_wp2_with fail
   ·go_round
    case rel => exact ⟨k + 1, by omega, by go_num, by rw [m0 _ _ hlt, List.any_append, HA.out]; simp [HP.out]⟩
    case measure => simp [intOf]; omega
   ·go_ret
    exact ⟨_, rfl, by rw [decide_eq_true (by omega)]; symm; rw [List.any_eq_true]; exact ⟨_, bH8 hlt, HP.out⟩, rfl⟩
  ·go_wp2_with fail
   go_ret
   refine ⟨_, rfl, ?_, rfl⟩
   have := HA.out
   rw [bG9 (by omega)] at this
   rw [this]; rfl
theorem ah8 (p : Int → Bool) (f : FuncId) (v : Value) (xs : List Int) (w : World) (h : K3 w v xs.length 1 (ints xs)) (he : ∀ args w, (callFunc f args).run Try.prog w = .ok (.enter f args) w)
  (hf : ∀ x w', Calls Try.prog f #[.int .i64 x] w' fun e w'' => e = .returned (.bool (p x)) ∧ w' = w'') :
  Calls Try.prog 189 #[v, .func (.func f) #[] #[]] w fun e w' => e = .returned (.bool (xs.any p)) ∧ w = w' := by
 obtain ⟨a1, c1, rfl, -⟩ := h.open1
 have HF := show Hid _ from hf
 have HE := show Hid _ from he
 clear hf he
 go_enter Try.func189, Try.ntmps189
 go_wp2_with fail
 refine (au5 p f _ xs _ h HE.out HF.out).mono ?_
 rintro e w1 ⟨r, rfl, hr, rfl⟩
 have HR := show Hid _ from hr
 clear hr
 go_wp2_with fail
 go_ret
 exact ⟨c9 HR.out, rfl⟩
theorem aM6 (xs : List Int) : (!xs.any fun l => !c3 l) = xs.all c3 := by
 induction xs with
 | nil => rfl
 | cons x r ih => simp only [List.any_cons, List.all_cons, ← ih]; cases c3 x <;> simp
theorem K9 (v : Value) (xs : List Int) (w : World) (h : K3 w v xs.length 1 (ints xs)) :
  Calls Try.prog 144 #[v] w fun e w' => e = .returned (.bool (xs.all c3)) ∧ w = w' := by
 obtain ⟨a1, c1, rfl, -⟩ := h.open1
 go_enter Try.func144, Try.ntmps144
 go_wp2_with fail
 refine (ah8 (fun l => !c3 l) 190 _ xs _ h (ay6 Try.func190 (by kernel_rfl) rfl) (fun x w' => ak9 x w')).mono ?_
 rintro e w1 ⟨rfl, rfl⟩
 have HN := show Hid _ from aM6 xs
 go_wp2_with fail
 go_ret
 exact ⟨c9 HN.out, rfl⟩
theorem aa1 (v1 v2 : Value) (vars arrays : List Int) (w : World) (h1 : K3 w v1 vars.length 1 (ints vars)) (h2 : K3 w v2 arrays.length 1 (ints arrays)) :
  Calls Try.prog 69 #[v1, v2] w fun e w' => e = .returned (.bool (t5 vars arrays)) ∧ w = w' := by
 obtain ⟨a1, c1, rfl, -, q1, -⟩ := h1.open1
 obtain ⟨a2, c2, rfl, -, q2, -⟩ := h2.open1
 have HT : Hid (t5 vars arrays = (vars.all c3 && arrays.all c3 && decide (1 ≤ vars.length) && decide (vars.length ≤ 12) && decide (arrays.length ≤ 2))) := rfl
 by_cases hn : (1 : Int) ≤ (vars.length : Int) ∧ (vars.length : Int) ≤ 12
 ·have hb : (decide ((1 : Int) ≤ vars.length) && decide ((vars.length : Int) ≤ 12)) = true := by simpa using hn
  have HB := show Hid _ from hb
  by_cases hm : (arrays.length : Int) ≤ 2
  ·cases hv : vars.all c3
   ·have HV := show Hid _ from hv
    clear hv hb hn
    go_enter Try.func69, Try.ntmps69
    go_wp2_with fail
    refine (t4 _ 1 12 _).mono ?_
    rintro e w1 ⟨rfl, rfl⟩
    rw [HB.out]
    go_wp2_with fail
    refine (K9 _ vars _ h1).mono ?_
    rintro e w1 ⟨rfl, rfl⟩
    rw [HV.out]
    go_wp2_with fail
    go_ret
    exact ⟨c9 (by rw [HT.out, HV.out]; rfl), rfl⟩
   ·have HV := show Hid _ from hv
    have hn' := show Hid _ from hn
    have hm' := show Hid _ from hm
    clear hv hb hn
    go_enter Try.func69, Try.ntmps69
    go_wp2_with fail
    refine (t4 _ 1 12 _).mono ?_
    rintro e w1 ⟨rfl, rfl⟩
    rw [HB.out]
    go_wp2_with fail
    refine (K9 _ vars _ h1).mono ?_
    rintro e w1 ⟨rfl, rfl⟩
    rw [HV.out]
    go_wp2_with fail
    refine (K9 _ arrays _ h2).mono ?_
    rintro e w1 ⟨rfl, rfl⟩
    go_wp2_with fail
    go_ret
    refine ⟨c9 ?_, rfl⟩
    have h3 := hn'.out
    have h4 := hm'.out
    rw [HT.out, HV.out, decide_eq_true (show 1 ≤ vars.length by omega), decide_eq_true (show vars.length ≤ 12 by omega), decide_eq_true (show arrays.length ≤ 2 by omega)]
    simp
  ·have hF : Hid (t5 vars arrays = false) := by unfold Hid; rw [HT.out, decide_eq_false (show ¬ arrays.length ≤ 2 by omega)]; simp
   clear hb hn
   go_enter Try.func69, Try.ntmps69
   go_wp2_with fail
   refine (t4 _ 1 12 _).mono ?_
   rintro e w1 ⟨rfl, rfl⟩
   rw [HB.out]
   go_wp2_with fail
   go_ret
   exact ⟨c9 hF.out.symm, rfl⟩
 ·have hb : (decide ((1 : Int) ≤ vars.length) && decide ((vars.length : Int) ≤ 12)) = false := by
   rw [Bool.eq_false_iff]; simp only [ne_eq, bF9, decide_eq_true_eq]; exact hn
  have HB := show Hid _ from hb
  have hF : Hid (t5 vars arrays = false) := by
   unfold Hid; rw [HT.out]
   rcases Classical.not_and_iff_not_or_not.1 hn with h | h
   ·rw [decide_eq_false (show ¬ 1 ≤ vars.length by omega)]; simp
   ·rw [decide_eq_false (show ¬ vars.length ≤ 12 by omega)]; simp
  clear hb hn
  go_enter Try.func69, Try.ntmps69
  go_wp2_with fail
  refine (t4 _ 1 12 _).mono ?_
  rintro e w1 ⟨rfl, rfl⟩
  rw [HB.out]
  go_wp2_with fail
  go_ret
  exact ⟨c9 hF.out.symm, rfl⟩
theorem ae2 (k n : Int) (kv : Value) (w : World) : Calls Try.prog 191 #[.agg #[.int .i64 k, .int .i64 n, kv]] w fun e w' => e = .returned (.bool (decide (k = 1) || decide (k = 2))) ∧ Below w.heap.size w w' := by
 by_cases h1 : k = 1
 ·have p1 : (k == 1) = true := by simp [h1]
  have Q := show Hid _ from h1
  clear h1
  go_enter Try.func191, Try.ntmps191
  go_wp2
  go_ret
  exact ⟨c9 (by simp [Q.out]), by go_grown⟩
 ·have p1 : (k == 1) = false := by simp [h1]
  have Q := show Hid _ from h1
  clear h1
  by_cases h2 : k = 2
  ·have p2 : (k == 2) = true := by simp [h2]
   have Q2 := show Hid _ from h2
   clear h2
   go_enter Try.func191, Try.ntmps191
   go_wp2
   go_ret
   exact ⟨c9 (by simp [Q2.out]), by go_grown⟩
  ·have p2 : (k == 2) = false := by simp [h2]
   have Q2 := show Hid _ from h2
   clear h2
   go_enter Try.func191, Try.ntmps191
   go_wp2
   go_ret
   exact ⟨c9 (by rw [decide_eq_false Q.out, decide_eq_false Q2.out]; rfl), by go_grown⟩
theorem au6 (k : Int) (w : World) : Calls Try.prog 208 #[.int .i64 k] w fun e w' => e = .returned (.int .i64 (e7 k)) ∧ w = w' := by
 by_cases h1 : k = 1
 ·subst h1
  go_enter Try.func208, Try.ntmps208
  go_wp2_with fail
  go_ret
  exact ⟨y7 (by simp [e7]), rfl⟩
 by_cases h2 : k = 2
 ·subst h2
  go_enter Try.func208, Try.ntmps208
  go_wp2_with fail
  go_ret
  exact ⟨y7 (by simp [e7]), rfl⟩
 by_cases h3 : k = 3
 ·subst h3
  go_enter Try.func208, Try.ntmps208
  go_wp2_with fail
  go_ret
  exact ⟨y7 (by simp [e7]), rfl⟩
 have p1 : (k == 1) = false := by simp [h1]
 have p2 : (k == 2) = false := by simp [h2]
 have p3 : (k == 3) = false := by simp [h3]
 have H := show Hid _ from And.intro h1 (And.intro h2 h3)
 clear h1 h2 h3
 go_enter Try.func208, Try.ntmps208
 go_wp2_with fail
 refine (t4 k 4 10 _).mono ?_
 rintro x w1 ⟨rfl, rfl⟩
 by_cases h4 : 4 ≤ k ∧ k ≤ 10
 ·have p4 : (decide (4 ≤ k) && decide (k ≤ 10)) = true := by simp [h4]
  rw [p4]
  have H4 := show Hid _ from h4
  clear h4 p4
  go_wp2_with fail
  go_ret
  exact ⟨y7 (by have := H.out; have := H4.out; unfold e7; rw [if_neg (by omega), if_neg (by omega), if_pos (by omega)]), rfl⟩
 ·have p4 : (decide (4 ≤ k) && decide (k ≤ 10)) = false := by simp; omega
  rw [p4]
  have H4 := show Hid _ from h4
  clear h4 p4
  by_cases h5 : k = 11
  ·subst h5
   go_wp2_with fail
   go_ret
   exact ⟨y7 (by simp [e7]), rfl⟩
  ·have p5 : (k == 11) = false := by simp [h5]
   have H5 := show Hid _ from h5
   clear h5
   go_wp2_with fail
   go_ret
   exact ⟨y7 (by have := H.out; have := H4.out; have := H5.out; unfold e7; rw [if_neg (by omega), if_neg (by omega), if_neg (by omega), if_neg (by omega)]), rfl⟩
theorem R3 {nv na d c : Nat} {e : b6} (h1 : o7 nv na e = true) (h2 : J3 e = true) : o0 nv na (d + 1) c e = n7 nv na d (c + 1) e.kids e.kids.length := by
 unfold o0 n7
 rw [bG9 (bH3 _), b9, h1, h2, C7]
 simp
theorem M9 {nv na d c k : Nat} {ks : List b6} (hk : k < ks.length) (hs : o0 nv na d (c + i9 (ks.take k)) ks[k] = false) : n7 nv na d c ks ks.length = false := by
 unfold n7
 rw [bG9 (bH3 _)]
 exact aB0 nv na hk hs
theorem E7 {nv na d c : Nat} {e : b6} (h1 : o7 nv na e = false) : o0 nv na (d + 1) c e = false := by
 unfold o0; rw [b9, h1]; rfl
theorem aB1 {nv na d c : Nat} {e : b6} (h1 : J3 e = false) : o0 nv na (d + 1) c e = false := by
 unfold o0; rw [b9, h1]; simp
theorem R7 {nv na : Nat} {k n h : Int} (hh : h = v9 nv na k - 1) : (decide (0 ≤ n) && decide (n ≤ h)) = (decide (0 ≤ n) && decide (n < v9 nv na k)) := by
 congr 1; exact decide_eq_decide.2 (by omega)
theorem a03 (a1 a2 : Option Addr) (nv c1 na c2 : Nat) (v3 : Value) (h1 : nv ≤ 9223372036854775807) (h2 : na ≤ 9223372036854775807) : ∀ (d : Nat) (deep : Int), deep + d = 6 → 1 ≤ deep → ∀ (e : b6) (φ : Nat → Prop) (v : Value) (c cb : Nat) (w : World), L4 w φ v e → ¬ φ cb → O9 w cb [.int .i64 c] → c ≤ 15 →
  Calls Try.prog 163 #[.agg #[.slice a1 nv c1, .slice a2 na c2, v3], v, .int .i64 deep, .pointer (some ⟨cb, 0, none⟩)] w fun x w' =>
   x = .returned (.bool (o0 nv na d c e)) ∧ (o0 nv na d c e = true → O9 w' cb [.int .i64 (c + 1 + G8 e : Nat)]) ∧ (∃ u, O9 w' cb [u]) ∧ w5 (fun b => ¬ b = cb) w w' := by
 intro d
 induction d with
 | zero =>
  intro deep hdp hd1 e φ v c cb w h hcb hblk hc
  obtain ⟨kv, rfl, hk⟩ := h
  have HF : Hid (o0 nv na 0 c e = false) := rfl
  obtain rfl : deep = 6 := by omega
  have hl := hblk.lt
  have x0 : w.cell? ⟨cb, 0, none⟩ = some (.int .i64 c) := (hblk.cell 0).trans rfl
  have f0 := hblk.free
  obtain ⟨W, hW, M⟩ : ∃ W, W = (((w.setCell ⟨cb, 0, none⟩ (.int .i64 ((c : Int) + 1))).alloc (.cells #[.slice a1 nv c1, .slice a2 na c2, v3] 26)).alloc (.cells #[.int .i64 e.kind, .int .i64 e.value, kv] 59)) ∧ v7 (fun _ => True) (fun b => ¬ b = cb) w W [.box cb [.int .i64 ((c : Int) + 1)]] :=
   ⟨_, rfl, (((v7.start fun _ _ => trivial).adopt (.box cb [.int .i64 c]) (fun _ ha => by cases ha) bG8 hblk (fun _ ha => by cases ha) (fun g hg hn => by cases hg; exact hn rfl)).set 0 rfl 0 (.int .i64 ((c : Int) + 1))).call (by go_grown)⟩
  have y0 := M.c 0 0 rfl rfl
  have z0 := fun X => t8 y0 X
  clear hk y0 hblk
  by_cases q : (15 : Int) < (c : Int) + 1
  ·have p : decide ((15 : Int) < (c : Int) + 1) = true := by simp; omega
   clear q
   go_enter Try.func163, Try.ntmps163
   go_wp2_with fail
   rw [← hW]
   clear hW
   refine n4 (by kernel_rfl) (by kernel_rfl) ?_
   repeat (any_goals (first | go_big_quiet_step (((fail))) | quiet_step (((fail)))))
   refine wpQuiet_nil ?_
   rintro _ ⟨X, rfl⟩
   replace M := M.call (s8 W X)
   go_wp2_with fail
   go_ret
   exact ⟨c9 (by rw [HF.out]), fun h => absurd (h.symm.trans HF.out) (by simp), ⟨_, M.blk 0 rfl⟩, M.kept⟩
  ·have p : decide ((15 : Int) < (c : Int) + 1) = false := by simp; omega
   clear q
   go_enter Try.func163, Try.ntmps163
   go_wp2_with fail
   rw [← hW]
   clear hW
   refine n4 (by kernel_rfl) (by kernel_rfl) ?_
   repeat (any_goals (first | go_big_quiet_step (((fail))) | quiet_step (((fail)))))
   refine wpQuiet_nil ?_
   rintro _ ⟨X, rfl⟩
   replace M := M.call (s8 W X)
   go_wp2_with fail
   go_ret
   exact ⟨c9 (by rw [HF.out]), fun h => absurd (h.symm.trans HF.out) (by simp), ⟨_, M.blk 0 rfl⟩, M.kept⟩
 | succ d ih =>
  intro deep hdp hd1 e φ v c cb w h hcb hblk hc
  obtain ⟨kv, rfl, hk⟩ := h
  obtain ⟨ak, ck, rfl, -, hn, -, -⟩ := hk.open
  have hl := hblk.lt
  have hd5 : deep ≤ 5 := by omega
  obtain ⟨φ', hφ'⟩ : ∃ φ' : Nat → Prop, φ' = fun b => φ b ∨ w.heap.size ≤ b := ⟨_, rfl⟩
  have x0 : w.cell? ⟨cb, 0, none⟩ = some (.int .i64 c) := (hblk.cell 0).trans rfl
  have f0 := hblk.free
  obtain ⟨W, hW, M⟩ : ∃ W, W = (((w.setCell ⟨cb, 0, none⟩ (.int .i64 ((c : Int) + 1))).alloc (.cells #[.slice a1 nv c1, .slice a2 na c2, v3] 26)).alloc (.cells #[.int .i64 e.kind, .int .i64 e.value, .slice ak e.kids.length ck] 59)) ∧
    v7 φ' (fun b => ¬ b = cb) w W [.box cb [.int .i64 ((c : Int) + 1)], .box w.heap.size [.slice a1 nv c1, .slice a2 na c2, v3], .box (w.heap.size + 1) [.int .i64 e.kind, .int .i64 e.value, .slice ak e.kids.length ck], .dat (fun w φ => l8 w φ (.slice ak e.kids.length ck) e.kids)] := by
   refine ⟨_, rfl, (((((v7.start (by rw [hφ']; exact fun _ h => .inr h)).adopt (.box cb [.int .i64 c]) (fun _ ha => by cases ha) bG8 hblk (fun _ ha => by cases ha) (fun g hg hn => by cases hg; exact hn rfl)).set 0 rfl 0 (.int .i64 ((c : Int) + 1))).box' _ _ (by simp)).box' _ _ (by simp)).dat (l8.nice _ _) (l8.nice _ _ _ _ _ _ ⟨by simp; omega, fun b hb hf => ⟨⟨by rw [hφ']; exact .inl hf, fun r hr he => ?_⟩, ?_⟩⟩ hk)⟩
   ·simp at hr
    rcases hr with rfl | rfl | rfl
    ·cases he; exact hcb hf
    ·cases he; omega
    ·cases he; omega
   ·have hbc : b ≠ cb := fun he => hcb (he ▸ hf)
    exact (((Below.refl w.heap.size (w.setCell ⟨cb, 0, none⟩ (.int .i64 ((c : Int) + 1)))).alloc (by simp) _ |>.alloc (by simp) _).block b (by simpa using hb)).trans (Below.heap_setCell _ _ _ _ hbc)
  clear hk hblk hφ'
  have y0 := M.c 0 0 rfl rfl
  have y1 := M.c 2 0 rfl rfl
  have y2 := M.c 2 2 rfl rfl
  have z0 := fun X => t8 y0 X
  have z1 := fun X => t8 y1 X
  have z2 := fun X => t8 y2 X
  have HA : Hid (∀ X, Calls Try.prog 208 #[.int .i64 e.kind] (W.ext X) fun x w'' => x = .returned (.int .i64 (e7 e.kind)) ∧ ∃ Y, w'' = W.ext Y) := fun X =>
   Calls.ext_of' ((au6 e.kind _).mono fun x w' h => ⟨h.1, h.2 ▸ Below.refl _ _⟩)
  clear y0 y1 y2
  have p2 : decide ((5 : Int) < deep) = false := decide_eq_false (by omega)
  by_cases q1 : (15 : Int) < (c : Int) + 1
  ·have p1 : decide ((15 : Int) < (c : Int) + 1) = true := decide_eq_true q1
   have HF : Hid (o0 nv na (d + 1) c e = false) := by unfold Hid o0; rw [decide_eq_false (by omega), Bool.and_false]
   clear q1
   go_enter Try.func163, Try.ntmps163
   go_wp2_with fail
   rw [← hW]
   clear hW
   refine n4 (by kernel_rfl) (by kernel_rfl) ?_
   repeat (any_goals (first | go_big_quiet_step (((go_at_call 208; exact HA.out _))) | quiet_step (((go_at_call 208; exact HA.out _)))))
   refine wpQuiet_nil ?_
   rintro _ ⟨X, rfl⟩
   replace M := M.call (s8 W X)
   go_wp2_with fail
   go_ret
   exact ⟨c9 (by rw [HF.out]), fun h => absurd (h.symm.trans HF.out) (by simp), ⟨_, M.blk 0 rfl⟩, M.kept⟩
  have p1 : decide ((15 : Int) < (c : Int) + 1) = false := decide_eq_false q1
  by_cases q3 : (e.kids.length : Int) = e7 e.kind
  case neg =>
   have p3 : (e7 e.kind != (e.kids.length : Int)) = true := by simp; omega
   have HF : Hid (o0 nv na (d + 1) c e = false) := E7 (by unfold o7; rw [decide_eq_false q3]; rfl)
   clear q1 q3
   go_enter Try.func163, Try.ntmps163
   go_wp2_with fail
   rw [← hW]
   clear hW
   refine n4 (by kernel_rfl) (by kernel_rfl) ?_
   repeat (any_goals (first | go_big_quiet_step (((go_at_call 208; exact HA.out _))) | quiet_step (((go_at_call 208; exact HA.out _)))))
   refine wpQuiet_nil ?_
   rintro _ ⟨X, rfl⟩
   replace M := M.call (s8 W X)
   go_wp2_with fail
   go_ret
   exact ⟨c9 (by rw [HF.out]), fun h => absurd (h.symm.trans HF.out) (by simp), ⟨_, M.blk 0 rfl⟩, M.kept⟩
  have p3 : (e7 e.kind != (e.kids.length : Int)) = false := by simp; omega
  have HQ := show Hid _ from And.intro q1 q3
  clear q1 q3
  go_enter Try.func163, Try.ntmps163
  go_wp2_with fail
  rw [← hW]
  clear hW
  refine n4 (by kernel_rfl) (by kernel_rfl) ?_
  repeat (any_goals (first | go_big_quiet_step (((go_at_call 208; exact HA.out _))) | quiet_step (((go_at_call 208; exact HA.out _)))))
  refine wpQuiet_nil ?_
  rintro _ ⟨X, rfl⟩
  replace M := M.call (s8 W X)
  generalize W.ext X = W1 at *
  clear z0 z1 z2 HA p1 p2 p3 f0 x0
  have y0 := M.c 1 0 rfl rfl
  have y1 := M.c 1 1 rfl rfl
  have y2 := M.c 2 0 rfl rfl
  have y3 := M.c 2 1 rfl rfl
  have y4 := M.c 2 2 rfl rfl
  have HM := show Hid _ from M
  clear M
  by_cases k1 : e.kind = 1
  ·have qq1 : (e.kind == 1) = true := by simp [k1]
   have qq2 : (e.kind == 3) = false := by simp [k1]
   have HRD : Hid (J3 e = true) := by unfold Hid J3; simp [k1]
   have hhi : (255 : Int) = v9 nv na e.kind - 1 := by rw [k1]; simp [v9]
   clear k1
   have HNB := show Hid (o7 nv na e = (decide (0 ≤ e.value) && decide (e.value ≤ 255))) from by
    unfold Hid o7; rw [decide_eq_true HQ.out.2, R7 hhi]; rfl
   clear hhi
   go_wp2_with fail
   refine (t4 e.value 0 _ _).mono ?_
   rintro x w1 ⟨rfl, rfl⟩
   have HNB2 := show Hid (o7 nv na e = (decide (0 ≤ e.value) && decide (e.value ≤ 255))) from HNB.out
   clear HNB
   obtain ⟨qn, hqn⟩ : ∃ qn, qn = (decide (0 ≤ e.value) && decide (e.value ≤ 255)) := ⟨_, rfl⟩
   rw [← hqn]
   have HN := show Hid (o7 nv na e = qn) from HNB2.out.trans hqn.symm
   clear hqn HNB2
   cases qn
   ·have HF : Hid (o0 nv na (d + 1) c e = false) := E7 HN.out
    have M := HM.out
    clear HM
    go_wp2_with fail
    go_ret
    exact ⟨c9 (by rw [HF.out]), fun h => absurd (h.symm.trans HF.out) (by simp), ⟨_, M.blk 0 rfl⟩, M.kept⟩
   have HSC : Hid (o0 nv na (d + 1) c e = n7 nv na d (c + 1) e.kids e.kids.length) := R3 HN.out HRD.out
   go_wp2_with fail
   clear y0 y1 y2 y3 y4
   have HST : Hid (n7 nv na d (c + 1) e.kids 0 = true ∧ v7 φ' (fun b => ¬ b = cb) w W1 [.box cb [.int .i64 (c + 1 + i9 (e.kids.take 0) : Nat)], .box w.heap.size [.slice a1 nv c1, .slice a2 na c2, v3], .box (w.heap.size + 1) [.int .i64 e.kind, .int .i64 e.value, .slice ak e.kids.length ck], .dat (fun w φ => l8 w φ (.slice ak e.kids.length ck) e.kids)]) := by
    refine ⟨?_, ?_⟩
    ·have := HQ.out.1
     simp [n7, i9]; omega
    ·rw [show ((c + 1 + i9 (e.kids.take 0) : Nat) : Int) = (c : Int) + 1 by simp [i9]]
     exact HM.out
   go_loopw [71] (fun i wr => ∃ k : Nat, k ≤ e.kids.length ∧ i = .int .i64 k ∧ n7 nv na d (c + 1) e.kids k = true ∧ v7 φ' (fun b => ¬ b = cb) w wr [.box cb [.int .i64 (c + 1 + i9 (e.kids.take k) : Nat)], .box w.heap.size [.slice a1 nv c1, .slice a2 na c2, v3], .box (w.heap.size + 1) [.int .i64 e.kind, .int .i64 e.value, .slice ak e.kids.length ck], .dat (fun w φ => l8 w φ (.slice ak e.kids.length ck) e.kids)]) (fun i _ => e.kids.length - (intOf i).toNat)
   case atStart => exact ⟨0, bJ2 _, rfl, HST.out.1, HST.out.2⟩
   case round =>
    clear HM
    obtain ⟨k, hk, rfl, hpre, M⟩ := hrel
    have HPRE := show Hid _ from hpre
    have hle : c + 1 + i9 (e.kids.take k) ≤ 15 := by unfold n7 at hpre; simp at hpre; exact hpre.2
    clear hpre
    by_cases hlt : k < e.kids.length
    ·have hncb : ¬ Fr φ' [.box cb [.int .i64 (c + 1 + i9 (e.kids.take k) : Nat)], .box w.heap.size [.slice a1 nv c1, .slice a2 na c2, v3], .box (w.heap.size + 1) [.int .i64 e.kind, .int .i64 e.value, .slice ak e.kids.length ck], .dat (fun w φ => l8 w φ (.slice ak e.kids.length ck) e.kids)] cb := fun h => h.2 _ bH0 rfl
     obtain ⟨a', c', he, -, -, -, hcell⟩ := (M.d 3 rfl).open
     cases he
     obtain ⟨b, off, kv, hbo, hbk, hf, g0, g1, g2, hkk⟩ := hcell k hlt
     cases hbo
     obtain ⟨ka, kc, rfl, -, -, -, -⟩ := hkk.open
     have bz : Below wr.heap.size wr (wr.alloc (.cells #[.int .i64 e.kids[k].kind, .int .i64 e.kids[k].value, .slice ka e.kids[k].kids.length kc] 59)) := by go_grown
     have HE := show Hid _ from l8.nice _ _ _ _ _ _ (Q9.below bz) hkk
     have HNCB := show Hid _ from hncb
     have x0 := M.c 1 0 rfl rfl
     have x1 := M.c 1 1 rfl rfl
     have x2 := M.c 1 2 rfl rfl
     have s1 : w.heap.size < wr.heap.size := M.lt (r := .box w.heap.size [.slice a1 nv c1, .slice a2 na c2, v3]) (bH6 _ bH0) rfl
     have HM := show Hid _ from M.box [.int .i64 e.kids[k].kind, .int .i64 e.kids[k].value, .slice ka e.kids[k].kids.length kc] 59
     have HP := show Hid _ from J8 nv na (d := d) (c := c + 1) hlt
     have HX := show Hid (o0 nv na d (c + 1 + i9 (e.kids.take k)) e.kids[k] = false → o0 nv na (d + 1) c e = false) from fun h => HSC.out.trans (M9 hlt h)
     have HT := show Hid _ from K4 hlt
     clear hcell hncb bz hkk M
     go_wp2_with fail
     refine (ih (deep + 1) (by omega) (by omega) e.kids[k] _ _ (c + 1 + i9 (e.kids.take k)) cb _ ⟨_, rfl, HE.out⟩ HNCB.out (HM.out.blk 0 rfl) hle).mono ?_
     rintro x w2 ⟨rfl, r1, ⟨u, r2⟩, kp⟩
     obtain ⟨q, hq⟩ : ∃ q, q = o0 nv na d (c + 1 + i9 (e.kids.take k)) e.kids[k] := ⟨_, rfl⟩
     rw [← hq] at r1 ⊢
     have HQ2 := show Hid _ from hq
     clear hq x0 x1 x2 g0 g1 g2
     cases q
     ·have M2 := HM.out.callB 0 rfl kp r2
      have HF := show Hid _ from HX.out HQ2.out.symm
      clear r1 r2 kp
      go_wp2_with fail
      go_ret
      exact ⟨c9 (by rw [HF.out]), fun h => absurd (h.symm.trans HF.out) (by simp), ⟨_, M2.blk 0 rfl⟩, M2.kept⟩
     ·have M2 := (HM.out.callB 0 rfl kp (r1 rfl)).take 4
      have HM2 := show Hid _ from M2
      clear r1 r2 kp M2
      go_wp2_with fail
      refine ⟨⟨k + 1, by omega, by go_num, by rw [HP.out, HPRE.out, ← HQ2.out]; rfl, ?_⟩, by simp [intOf]; omega⟩
      rw [HT.out, show c + 1 + (i9 (e.kids.take k) + (1 + G8 e.kids[k])) = c + 1 + i9 (e.kids.take k) + 1 + G8 e.kids[k] by omega]
      exact HM2.out
    ·have hkn : k = e.kids.length := by omega
     subst hkn
     have HM := show Hid _ from M
     have HS : Hid (o0 nv na (d + 1) c e = true) := HSC.out.trans HPRE.out
     clear M
     go_wp2_with fail
     go_ret
     refine ⟨c9 (by rw [HS.out]), fun _ => ?_, ⟨_, HM.out.blk 0 rfl⟩, HM.out.kept⟩
     have := HM.out.blk 0 rfl
     rw [bG9 (bH3 _)] at this
     rw [C7]
     exact this
  have k1' : (e.kind == 1) = false := by simp [k1]
  by_cases k2 : e.kind = 2
  ·have qq1 : (e.kind == 2) = true := by simp [k2]
   have qq2 : (e.kind == 3) = false := by simp [k2]
   have HRD : Hid (J3 e = true) := by unfold Hid J3; simp [k2]
   have hhi : (nv : Int) - 1 = v9 nv na e.kind - 1 := by rw [k2]; simp [v9]
   clear k1 k2
   have HNB := show Hid (o7 nv na e = (decide (0 ≤ e.value) && decide (e.value ≤ (nv : Int) - 1))) from by
    unfold Hid o7; rw [decide_eq_true HQ.out.2, R7 hhi]; rfl
   clear hhi
   go_wp2_with fail
   refine (t4 e.value 0 _ _).mono ?_
   rintro x w1 ⟨rfl, rfl⟩
   have HNB2 := show Hid (o7 nv na e = (decide (0 ≤ e.value) && decide (e.value ≤ (nv : Int) - 1))) from HNB.out
   clear HNB
   obtain ⟨qn, hqn⟩ : ∃ qn, qn = (decide (0 ≤ e.value) && decide (e.value ≤ (nv : Int) - 1)) := ⟨_, rfl⟩
   rw [← hqn]
   have HN := show Hid (o7 nv na e = qn) from HNB2.out.trans hqn.symm
   clear hqn HNB2
   cases qn
   ·have HF : Hid (o0 nv na (d + 1) c e = false) := E7 HN.out
    have M := HM.out
    clear HM
    go_wp2_with fail
    go_ret
    exact ⟨c9 (by rw [HF.out]), fun h => absurd (h.symm.trans HF.out) (by simp), ⟨_, M.blk 0 rfl⟩, M.kept⟩
   have HSC : Hid (o0 nv na (d + 1) c e = n7 nv na d (c + 1) e.kids e.kids.length) := R3 HN.out HRD.out
   go_wp2_with fail
   clear y0 y1 y2 y3 y4
   have HST : Hid (n7 nv na d (c + 1) e.kids 0 = true ∧ v7 φ' (fun b => ¬ b = cb) w W1 [.box cb [.int .i64 (c + 1 + i9 (e.kids.take 0) : Nat)], .box w.heap.size [.slice a1 nv c1, .slice a2 na c2, v3], .box (w.heap.size + 1) [.int .i64 e.kind, .int .i64 e.value, .slice ak e.kids.length ck], .dat (fun w φ => l8 w φ (.slice ak e.kids.length ck) e.kids)]) := by
    refine ⟨?_, ?_⟩
    ·have := HQ.out.1
     simp [n7, i9]; omega
    ·rw [show ((c + 1 + i9 (e.kids.take 0) : Nat) : Int) = (c : Int) + 1 by simp [i9]]
     exact HM.out
   go_loopw [71] (fun i wr => ∃ k : Nat, k ≤ e.kids.length ∧ i = .int .i64 k ∧ n7 nv na d (c + 1) e.kids k = true ∧ v7 φ' (fun b => ¬ b = cb) w wr [.box cb [.int .i64 (c + 1 + i9 (e.kids.take k) : Nat)], .box w.heap.size [.slice a1 nv c1, .slice a2 na c2, v3], .box (w.heap.size + 1) [.int .i64 e.kind, .int .i64 e.value, .slice ak e.kids.length ck], .dat (fun w φ => l8 w φ (.slice ak e.kids.length ck) e.kids)]) (fun i _ => e.kids.length - (intOf i).toNat)
   case atStart => exact ⟨0, bJ2 _, rfl, HST.out.1, HST.out.2⟩
   case round =>
    clear HM
    obtain ⟨k, hk, rfl, hpre, M⟩ := hrel
    have HPRE := show Hid _ from hpre
    have hle : c + 1 + i9 (e.kids.take k) ≤ 15 := by unfold n7 at hpre; simp at hpre; exact hpre.2
    clear hpre
    by_cases hlt : k < e.kids.length
    ·have hncb : ¬ Fr φ' [.box cb [.int .i64 (c + 1 + i9 (e.kids.take k) : Nat)], .box w.heap.size [.slice a1 nv c1, .slice a2 na c2, v3], .box (w.heap.size + 1) [.int .i64 e.kind, .int .i64 e.value, .slice ak e.kids.length ck], .dat (fun w φ => l8 w φ (.slice ak e.kids.length ck) e.kids)] cb := fun h => h.2 _ bH0 rfl
     obtain ⟨a', c', he, -, -, -, hcell⟩ := (M.d 3 rfl).open
     cases he
     obtain ⟨b, off, kv, hbo, hbk, hf, g0, g1, g2, hkk⟩ := hcell k hlt
     cases hbo
     obtain ⟨ka, kc, rfl, -, -, -, -⟩ := hkk.open
     have bz : Below wr.heap.size wr (wr.alloc (.cells #[.int .i64 e.kids[k].kind, .int .i64 e.kids[k].value, .slice ka e.kids[k].kids.length kc] 59)) := by go_grown
     have HE := show Hid _ from l8.nice _ _ _ _ _ _ (Q9.below bz) hkk
     have HNCB := show Hid _ from hncb
     have x0 := M.c 1 0 rfl rfl
     have x1 := M.c 1 1 rfl rfl
     have x2 := M.c 1 2 rfl rfl
     have s1 : w.heap.size < wr.heap.size := M.lt (r := .box w.heap.size [.slice a1 nv c1, .slice a2 na c2, v3]) (bH6 _ bH0) rfl
     have HM := show Hid _ from M.box [.int .i64 e.kids[k].kind, .int .i64 e.kids[k].value, .slice ka e.kids[k].kids.length kc] 59
     have HP := show Hid _ from J8 nv na (d := d) (c := c + 1) hlt
     have HX := show Hid (o0 nv na d (c + 1 + i9 (e.kids.take k)) e.kids[k] = false → o0 nv na (d + 1) c e = false) from fun h => HSC.out.trans (M9 hlt h)
     have HT := show Hid _ from K4 hlt
     clear hcell hncb bz hkk M
     go_wp2_with fail
     refine (ih (deep + 1) (by omega) (by omega) e.kids[k] _ _ (c + 1 + i9 (e.kids.take k)) cb _ ⟨_, rfl, HE.out⟩ HNCB.out (HM.out.blk 0 rfl) hle).mono ?_
     rintro x w2 ⟨rfl, r1, ⟨u, r2⟩, kp⟩
     obtain ⟨q, hq⟩ : ∃ q, q = o0 nv na d (c + 1 + i9 (e.kids.take k)) e.kids[k] := ⟨_, rfl⟩
     rw [← hq] at r1 ⊢
     have HQ2 := show Hid _ from hq
     clear hq x0 x1 x2 g0 g1 g2
     cases q
     ·have M2 := HM.out.callB 0 rfl kp r2
      have HF := show Hid _ from HX.out HQ2.out.symm
      clear r1 r2 kp
      go_wp2_with fail
      go_ret
      exact ⟨c9 (by rw [HF.out]), fun h => absurd (h.symm.trans HF.out) (by simp), ⟨_, M2.blk 0 rfl⟩, M2.kept⟩
     ·have M2 := (HM.out.callB 0 rfl kp (r1 rfl)).take 4
      have HM2 := show Hid _ from M2
      clear r1 r2 kp M2
      go_wp2_with fail
      refine ⟨⟨k + 1, by omega, by go_num, by rw [HP.out, HPRE.out, ← HQ2.out]; rfl, ?_⟩, by simp [intOf]; omega⟩
      rw [HT.out, show c + 1 + (i9 (e.kids.take k) + (1 + G8 e.kids[k])) = c + 1 + i9 (e.kids.take k) + 1 + G8 e.kids[k] by omega]
      exact HM2.out
    ·have hkn : k = e.kids.length := by omega
     subst hkn
     have HM := show Hid _ from M
     have HS : Hid (o0 nv na (d + 1) c e = true) := HSC.out.trans HPRE.out
     clear M
     go_wp2_with fail
     go_ret
     refine ⟨c9 (by rw [HS.out]), fun _ => ?_, ⟨_, HM.out.blk 0 rfl⟩, HM.out.kept⟩
     have := HM.out.blk 0 rfl
     rw [bG9 (bH3 _)] at this
     rw [C7]
     exact this
  have k2' : (e.kind == 2) = false := by simp [k2]
  by_cases k3 : e.kind = 3
  ·have qq1 : (e.kind == 3) = true := by simp [k3]
   have qq2 := k2'
   have HRD : Hid (e.kind = 3) := k3
   have hhi : (na : Int) - 1 = v9 nv na e.kind - 1 := by rw [k3]; simp [v9]
   clear k1 k2 k3
   have HNB := show Hid (o7 nv na e = (decide (0 ≤ e.value) && decide (e.value ≤ (na : Int) - 1))) from by
    unfold Hid o7; rw [decide_eq_true HQ.out.2, R7 hhi]; rfl
   clear hhi
   go_wp2_with fail
   refine (t4 e.value 0 _ _).mono ?_
   rintro x w1 ⟨rfl, rfl⟩
   have HNB2 := show Hid (o7 nv na e = (decide (0 ≤ e.value) && decide (e.value ≤ (na : Int) - 1))) from HNB.out
   clear HNB
   obtain ⟨qn, hqn⟩ : ∃ qn, qn = (decide (0 ≤ e.value) && decide (e.value ≤ (na : Int) - 1)) := ⟨_, rfl⟩
   rw [← hqn]
   have HN := show Hid (o7 nv na e = qn) from HNB2.out.trans hqn.symm
   clear hqn HNB2
   cases qn
   ·have HF : Hid (o0 nv na (d + 1) c e = false) := E7 HN.out
    have M := HM.out
    clear HM
    go_wp2_with fail
    go_ret
    exact ⟨c9 (by rw [HF.out]), fun h => absurd (h.symm.trans HF.out) (by simp), ⟨_, M.blk 0 rfl⟩, M.kept⟩
   have hl1 : e.kids.length = 1 := by have := HQ.out.2; rw [HRD.out] at this; simp [e7] at this; omega
   have hpos : 0 < (e.kids.length : Int) := by omega
   obtain ⟨a', c', he, -, -, -, hcell⟩ := (HM.out.d 3 rfl).open
   have e1 : ak = a' := by cases he; rfl
   have e2 : ck = c' := by cases he; rfl
   subst e1 e2
   obtain ⟨b, off, kv, rfl, hbk, hf, g0, g1, g2, hkk⟩ := hcell 0 (by omega)
   simp only [Nat.zero_mul, Nat.add_zero] at g0 g1 g2
   have HR := show Hid _ from ag6 HRD.out (by omega)
   clear hcell hkk
   go_wp2_with fail
   refine (ae2 _ _ _ _).mono ?_
   rintro x w2 ⟨rfl, b2⟩
   replace HM := show Hid _ from HM.out.call b2
   obtain ⟨qr, hqr⟩ : ∃ qr, qr = (decide ((e.kids[0]'(by omega)).kind = 1) || decide ((e.kids[0]'(by omega)).kind = 2)) := ⟨_, rfl⟩
   rw [← hqr]
   have HRR := show Hid (J3 e = qr) from HR.out.trans hqr.symm
   clear hqr b2 HR g0 g1 g2
   cases qr
   ·have HF : Hid (o0 nv na (d + 1) c e = false) := aB1 HRR.out
    have M := HM.out
    clear HM
    go_wp2_with fail
    go_ret
    exact ⟨c9 (by rw [HF.out]), fun h => absurd (h.symm.trans HF.out) (by simp), ⟨_, M.blk 0 rfl⟩, M.kept⟩
   clear y0 y1 y2 y3 y4
   have y4 := HM.out.c 2 2 rfl rfl
   have HSC : Hid (o0 nv na (d + 1) c e = n7 nv na d (c + 1) e.kids e.kids.length) := R3 HN.out HRR.out
   go_wp2_with fail
   clear y4
   have HST : Hid (n7 nv na d (c + 1) e.kids 0 = true ∧ v7 φ' (fun b => ¬ b = cb) w w2 [.box cb [.int .i64 (c + 1 + i9 (e.kids.take 0) : Nat)], .box w.heap.size [.slice a1 nv c1, .slice a2 na c2, v3], .box (w.heap.size + 1) [.int .i64 e.kind, .int .i64 e.value, .slice (some ⟨b, off, none⟩) e.kids.length ck], .dat (fun w φ => l8 w φ (.slice (some ⟨b, off, none⟩) e.kids.length ck) e.kids)]) := by
    refine ⟨?_, ?_⟩
    ·have := HQ.out.1
     simp [n7, i9]; omega
    ·rw [show ((c + 1 + i9 (e.kids.take 0) : Nat) : Int) = (c : Int) + 1 by simp [i9]]
     exact HM.out
   go_loopw [71] (fun i wr => ∃ k : Nat, k ≤ e.kids.length ∧ i = .int .i64 k ∧ n7 nv na d (c + 1) e.kids k = true ∧ v7 φ' (fun b => ¬ b = cb) w wr [.box cb [.int .i64 (c + 1 + i9 (e.kids.take k) : Nat)], .box w.heap.size [.slice a1 nv c1, .slice a2 na c2, v3], .box (w.heap.size + 1) [.int .i64 e.kind, .int .i64 e.value, .slice (some ⟨b, off, none⟩) e.kids.length ck], .dat (fun w φ => l8 w φ (.slice (some ⟨b, off, none⟩) e.kids.length ck) e.kids)]) (fun i _ => e.kids.length - (intOf i).toNat)
   case atStart => exact ⟨0, bJ2 _, rfl, HST.out.1, HST.out.2⟩
   case round =>
    clear HM
    obtain ⟨k, hk, rfl, hpre, M⟩ := hrel
    have HPRE := show Hid _ from hpre
    have hle : c + 1 + i9 (e.kids.take k) ≤ 15 := by unfold n7 at hpre; simp at hpre; exact hpre.2
    clear hpre
    by_cases hlt : k < e.kids.length
    ·have hncb : ¬ Fr φ' [.box cb [.int .i64 (c + 1 + i9 (e.kids.take k) : Nat)], .box w.heap.size [.slice a1 nv c1, .slice a2 na c2, v3], .box (w.heap.size + 1) [.int .i64 e.kind, .int .i64 e.value, .slice (some ⟨b, off, none⟩) e.kids.length ck], .dat (fun w φ => l8 w φ (.slice (some ⟨b, off, none⟩) e.kids.length ck) e.kids)] cb := fun h => h.2 _ bH0 rfl
     obtain ⟨a', c', he, -, -, -, hcell⟩ := (M.d 3 rfl).open
     cases he
     obtain ⟨b, off, kv, hbo, hbk, hf, g0, g1, g2, hkk⟩ := hcell k hlt
     cases hbo
     obtain ⟨ka, kc, rfl, -, -, -, -⟩ := hkk.open
     have bz : Below wr.heap.size wr (wr.alloc (.cells #[.int .i64 e.kids[k].kind, .int .i64 e.kids[k].value, .slice ka e.kids[k].kids.length kc] 59)) := by go_grown
     have HE := show Hid _ from l8.nice _ _ _ _ _ _ (Q9.below bz) hkk
     have HNCB := show Hid _ from hncb
     have x0 := M.c 1 0 rfl rfl
     have x1 := M.c 1 1 rfl rfl
     have x2 := M.c 1 2 rfl rfl
     have s1 : w.heap.size < wr.heap.size := M.lt (r := .box w.heap.size [.slice a1 nv c1, .slice a2 na c2, v3]) (bH6 _ bH0) rfl
     have HM := show Hid _ from M.box [.int .i64 e.kids[k].kind, .int .i64 e.kids[k].value, .slice ka e.kids[k].kids.length kc] 59
     have HP := show Hid _ from J8 nv na (d := d) (c := c + 1) hlt
     have HX := show Hid (o0 nv na d (c + 1 + i9 (e.kids.take k)) e.kids[k] = false → o0 nv na (d + 1) c e = false) from fun h => HSC.out.trans (M9 hlt h)
     have HT := show Hid _ from K4 hlt
     clear hcell hncb bz hkk M
     go_wp2_with fail
     refine (ih (deep + 1) (by omega) (by omega) e.kids[k] _ _ (c + 1 + i9 (e.kids.take k)) cb _ ⟨_, rfl, HE.out⟩ HNCB.out (HM.out.blk 0 rfl) hle).mono ?_
     rintro x w2 ⟨rfl, r1, ⟨u, r2⟩, kp⟩
     obtain ⟨q, hq⟩ : ∃ q, q = o0 nv na d (c + 1 + i9 (e.kids.take k)) e.kids[k] := ⟨_, rfl⟩
     rw [← hq] at r1 ⊢
     have HQ2 := show Hid _ from hq
     clear hq x0 x1 x2 g0 g1 g2
     cases q
     ·have M2 := HM.out.callB 0 rfl kp r2
      have HF := show Hid _ from HX.out HQ2.out.symm
      clear r1 r2 kp
      go_wp2_with fail
      go_ret
      exact ⟨c9 (by rw [HF.out]), fun h => absurd (h.symm.trans HF.out) (by simp), ⟨_, M2.blk 0 rfl⟩, M2.kept⟩
     ·have M2 := (HM.out.callB 0 rfl kp (r1 rfl)).take 4
      have HM2 := show Hid _ from M2
      clear r1 r2 kp M2
      go_wp2_with fail
      refine ⟨⟨k + 1, by omega, by go_num, by rw [HP.out, HPRE.out, ← HQ2.out]; rfl, ?_⟩, by simp [intOf]; omega⟩
      rw [HT.out, show c + 1 + (i9 (e.kids.take k) + (1 + G8 e.kids[k])) = c + 1 + i9 (e.kids.take k) + 1 + G8 e.kids[k] by omega]
      exact HM2.out
    ·have hkn : k = e.kids.length := by omega
     subst hkn
     have HM := show Hid _ from M
     have HS : Hid (o0 nv na (d + 1) c e = true) := HSC.out.trans HPRE.out
     clear M
     go_wp2_with fail
     go_ret
     refine ⟨c9 (by rw [HS.out]), fun _ => ?_, ⟨_, HM.out.blk 0 rfl⟩, HM.out.kept⟩
     have := HM.out.blk 0 rfl
     rw [bG9 (bH3 _)] at this
     rw [C7]
     exact this
  have qq1 : (e.kind == 3) = false := by simp [k3]
  have qq2 := qq1
  have HRD : Hid (J3 e = true) := by unfold Hid J3; simp [k3]
  have hhi : (0 : Int) = v9 nv na e.kind - 1 := by unfold v9; rw [if_neg k1, if_neg k2, if_neg k3]; rfl
  clear k1 k2 k3
  have HNB := show Hid (o7 nv na e = (decide (0 ≤ e.value) && decide (e.value ≤ 0))) from by
   unfold Hid o7; rw [decide_eq_true HQ.out.2, R7 hhi]; rfl
  clear hhi
  go_wp2_with fail
  refine (t4 e.value 0 _ _).mono ?_
  rintro x w1 ⟨rfl, rfl⟩
  have HNB2 := show Hid (o7 nv na e = (decide (0 ≤ e.value) && decide (e.value ≤ 0))) from HNB.out
  clear HNB
  obtain ⟨qn, hqn⟩ : ∃ qn, qn = (decide (0 ≤ e.value) && decide (e.value ≤ 0)) := ⟨_, rfl⟩
  rw [← hqn]
  have HN := show Hid (o7 nv na e = qn) from HNB2.out.trans hqn.symm
  clear hqn HNB2
  cases qn
  ·have HF : Hid (o0 nv na (d + 1) c e = false) := E7 HN.out
   have M := HM.out
   clear HM
   go_wp2_with fail
   go_ret
   exact ⟨c9 (by rw [HF.out]), fun h => absurd (h.symm.trans HF.out) (by simp), ⟨_, M.blk 0 rfl⟩, M.kept⟩
  have HSC : Hid (o0 nv na (d + 1) c e = n7 nv na d (c + 1) e.kids e.kids.length) := R3 HN.out HRD.out
  go_wp2_with fail
  clear y0 y1 y2 y3 y4
  have HST : Hid (n7 nv na d (c + 1) e.kids 0 = true ∧ v7 φ' (fun b => ¬ b = cb) w W1 [.box cb [.int .i64 (c + 1 + i9 (e.kids.take 0) : Nat)], .box w.heap.size [.slice a1 nv c1, .slice a2 na c2, v3], .box (w.heap.size + 1) [.int .i64 e.kind, .int .i64 e.value, .slice ak e.kids.length ck], .dat (fun w φ => l8 w φ (.slice ak e.kids.length ck) e.kids)]) := by
   refine ⟨?_, ?_⟩
   ·have := HQ.out.1
    simp [n7, i9]; omega
   ·rw [show ((c + 1 + i9 (e.kids.take 0) : Nat) : Int) = (c : Int) + 1 by simp [i9]]
    exact HM.out
  go_loopw [71] (fun i wr => ∃ k : Nat, k ≤ e.kids.length ∧ i = .int .i64 k ∧ n7 nv na d (c + 1) e.kids k = true ∧ v7 φ' (fun b => ¬ b = cb) w wr [.box cb [.int .i64 (c + 1 + i9 (e.kids.take k) : Nat)], .box w.heap.size [.slice a1 nv c1, .slice a2 na c2, v3], .box (w.heap.size + 1) [.int .i64 e.kind, .int .i64 e.value, .slice ak e.kids.length ck], .dat (fun w φ => l8 w φ (.slice ak e.kids.length ck) e.kids)]) (fun i _ => e.kids.length - (intOf i).toNat)
  case atStart => exact ⟨0, bJ2 _, rfl, HST.out.1, HST.out.2⟩
  case round =>
   clear HM
   obtain ⟨k, hk, rfl, hpre, M⟩ := hrel
   have HPRE := show Hid _ from hpre
   have hle : c + 1 + i9 (e.kids.take k) ≤ 15 := by unfold n7 at hpre; simp at hpre; exact hpre.2
   clear hpre
   by_cases hlt : k < e.kids.length
   ·have hncb : ¬ Fr φ' [.box cb [.int .i64 (c + 1 + i9 (e.kids.take k) : Nat)], .box w.heap.size [.slice a1 nv c1, .slice a2 na c2, v3], .box (w.heap.size + 1) [.int .i64 e.kind, .int .i64 e.value, .slice ak e.kids.length ck], .dat (fun w φ => l8 w φ (.slice ak e.kids.length ck) e.kids)] cb := fun h => h.2 _ bH0 rfl
    obtain ⟨a', c', he, -, -, -, hcell⟩ := (M.d 3 rfl).open
    cases he
    obtain ⟨b, off, kv, hbo, hbk, hf, g0, g1, g2, hkk⟩ := hcell k hlt
    cases hbo
    obtain ⟨ka, kc, rfl, -, -, -, -⟩ := hkk.open
    have bz : Below wr.heap.size wr (wr.alloc (.cells #[.int .i64 e.kids[k].kind, .int .i64 e.kids[k].value, .slice ka e.kids[k].kids.length kc] 59)) := by go_grown
    have HE := show Hid _ from l8.nice _ _ _ _ _ _ (Q9.below bz) hkk
    have HNCB := show Hid _ from hncb
    have x0 := M.c 1 0 rfl rfl
    have x1 := M.c 1 1 rfl rfl
    have x2 := M.c 1 2 rfl rfl
    have s1 : w.heap.size < wr.heap.size := M.lt (r := .box w.heap.size [.slice a1 nv c1, .slice a2 na c2, v3]) (bH6 _ bH0) rfl
    have HM := show Hid _ from M.box [.int .i64 e.kids[k].kind, .int .i64 e.kids[k].value, .slice ka e.kids[k].kids.length kc] 59
    have HP := show Hid _ from J8 nv na (d := d) (c := c + 1) hlt
    have HX := show Hid (o0 nv na d (c + 1 + i9 (e.kids.take k)) e.kids[k] = false → o0 nv na (d + 1) c e = false) from fun h => HSC.out.trans (M9 hlt h)
    have HT := show Hid _ from K4 hlt
    clear hcell hncb bz hkk M
    go_wp2_with fail
    refine (ih (deep + 1) (by omega) (by omega) e.kids[k] _ _ (c + 1 + i9 (e.kids.take k)) cb _ ⟨_, rfl, HE.out⟩ HNCB.out (HM.out.blk 0 rfl) hle).mono ?_
    rintro x w2 ⟨rfl, r1, ⟨u, r2⟩, kp⟩
    obtain ⟨q, hq⟩ : ∃ q, q = o0 nv na d (c + 1 + i9 (e.kids.take k)) e.kids[k] := ⟨_, rfl⟩
    rw [← hq] at r1 ⊢
    have HQ2 := show Hid _ from hq
    clear hq x0 x1 x2 g0 g1 g2
    cases q
    ·have M2 := HM.out.callB 0 rfl kp r2
     have HF := show Hid _ from HX.out HQ2.out.symm
     clear r1 r2 kp
     go_wp2_with fail
     go_ret
     exact ⟨c9 (by rw [HF.out]), fun h => absurd (h.symm.trans HF.out) (by simp), ⟨_, M2.blk 0 rfl⟩, M2.kept⟩
    ·have M2 := (HM.out.callB 0 rfl kp (r1 rfl)).take 4
     have HM2 := show Hid _ from M2
     clear r1 r2 kp M2
     go_wp2_with fail
     refine ⟨⟨k + 1, by omega, by go_num, by rw [HP.out, HPRE.out, ← HQ2.out]; rfl, ?_⟩, by simp [intOf]; omega⟩
     rw [HT.out, show c + 1 + (i9 (e.kids.take k) + (1 + G8 e.kids[k])) = c + 1 + i9 (e.kids.take k) + 1 + G8 e.kids[k] by omega]
     exact HM2.out
   ·have hkn : k = e.kids.length := by omega
    subst hkn
    have HM := show Hid _ from M
    have HS : Hid (o0 nv na (d + 1) c e = true) := HSC.out.trans HPRE.out
    clear M
    go_wp2_with fail
    go_ret
    refine ⟨c9 (by rw [HS.out]), fun _ => ?_, ⟨_, HM.out.blk 0 rfl⟩, HM.out.kept⟩
    have := HM.out.blk 0 rfl
    rw [bG9 (bH3 _)] at this
    rw [C7]
    exact this
theorem aO5 (nv na : Nat) (e : b6) : o0 nv na 5 0 e = c6 nv na e := by
 have h : (0 + 1 + G8 e ≤ 15) = (1 + G8 e ≤ 15) := by rw [bJ4]
 unfold o0 c6
 simp only [h]
theorem ay0 (a1 a2 : Option Addr) (nv c1 na c2 : Nat) (v3 : Value) (h1 : nv ≤ 9223372036854775807) (h2 : na ≤ 9223372036854775807) (e : b6) (φ : Nat → Prop) (v : Value) (w : World) (h : L4 w φ v e) :
  Calls Try.prog 92 #[.agg #[.slice a1 nv c1, .slice a2 na c2, v3], v] w fun x w' => x = .returned (.bool (c6 nv na e)) ∧ Below w.heap.size w w' := by
 obtain ⟨kv, rfl, hk⟩ := h
 obtain ⟨W, hW, M⟩ : ∃ W, W = ((w.alloc (.cells #[.slice a1 nv c1, .slice a2 na c2, v3] 26)).alloc (.cells #[.int .i64 e.kind, .int .i64 e.value, kv] 59)).alloc (.cells #[.int .i64 0] 3) ∧ v7 (fun _ => True) (fun _ => True) w W [.box w.heap.size [.slice a1 nv c1, .slice a2 na c2, v3], .box (w.heap.size + 1) [.int .i64 e.kind, .int .i64 e.value, kv], .box (w.heap.size + 1 + 1) [.int .i64 0]] :=
  ⟨_, rfl, (((v7.start fun _ _ => trivial).box _ _).box' _ _ (by simp)).box' _ _ (by simp)⟩
 have hb := M.below fun _ _ => trivial
 have HK := show Hid _ from l8.nice _ _ _ _ φ (fun b => φ b ∧ b < w.heap.size) ⟨hb.size, fun b hl hf => ⟨⟨hf, hl⟩, hb.block b hl⟩⟩ hk
 clear hb hk
 have x0 := M.c 0 0 rfl rfl
 have x1 := M.c 0 1 rfl rfl
 have x2 := M.c 0 2 rfl rfl
 have y0 := M.c 1 0 rfl rfl
 have y1 := M.c 1 1 rfl rfl
 have y2 := M.c 1 2 rfl rfl
 have HM := show Hid _ from M
 rw [hW] at x0 x1 x2 y0 y1 y2
 clear M
 go_enter Try.func92, Try.ntmps92
 go_wp2_with fail
 rw [← hW]
 clear hW x0 x1 x2 y0 y1 y2
 refine (a03 a1 a2 nv c1 na c2 v3 h1 h2 5 1 (by omega) (by omega) e _ _ 0 _ _ ⟨kv, rfl, HK.out⟩ (fun h => by have := h.2; omega) (HM.out.blk 2 rfl) (by omega)).mono ?_
 rintro x w1 ⟨rfl, -, ⟨u, r2⟩, kp⟩
 rw [aO5]
 have M := HM.out.callB 2 rfl kp r2
 have HB := show Hid _ from M.below fun _ _ => trivial
 clear kp r2 M
 go_wp2_with fail
 go_ret
 exact ⟨rfl, HB.out⟩
theorem ar2 (p : b7) (e : b6) (φ φ' : Nat → Prop) (u v : Value) (w : World) (hp : aM8 w φ u p) (h : L4 w φ' v e) :
  Calls Try.prog 35 #[u, v] w fun x w' => x = .returned (.bool (x8 p e)) ∧ Below w.heap.size w w' := by
 obtain ⟨v1, v2, v3, rfl, g1, g2, -⟩ := hp
 obtain ⟨kv, rfl, hk⟩ := h
 obtain ⟨a1, c1, rfl, -, hm1, -⟩ := g1.row.open1
 obtain ⟨a2, c2, rfl, -, hm2, -⟩ := g2.row.open1
 have HR : Hid (x8 p e = (t5 p.vars p.arrays && c6 p.vars.length p.arrays.length e)) := rfl
 obtain ⟨W, hW, M⟩ : ∃ W, W = (w.alloc (.cells #[.slice a1 p.vars.length c1, .slice a2 p.arrays.length c2, v3] 26)).alloc (.cells #[.int .i64 e.kind, .int .i64 e.value, kv] 59) ∧ v7 (fun _ => True) (fun _ => True) w W [.box w.heap.size [.slice a1 p.vars.length c1, .slice a2 p.arrays.length c2, v3], .box (w.heap.size + 1) [.int .i64 e.kind, .int .i64 e.value, kv]] :=
  ⟨_, rfl, ((v7.start fun _ _ => trivial).box _ _).box' _ _ (by simp)⟩
 have HE := show Hid (∀ W', Below w.heap.size w W' → L4 W' φ' (.agg #[.int .i64 e.kind, .int .i64 e.value, kv]) e ∧ K3 W' (.slice a1 p.vars.length c1) p.vars.length 1 (ints p.vars) ∧ K3 W' (.slice a2 p.arrays.length c2) p.arrays.length 1 (ints p.arrays)) from fun W' k => ⟨⟨kv, rfl, l8.nice _ _ _ _ _ _ (Q9.below k) hk⟩, g1.row.below k, g2.row.below k⟩
 clear hk g1 g2
 have x0 := M.c 0 0 rfl rfl
 have x1 := M.c 0 1 rfl rfl
 have x2 := M.c 0 2 rfl rfl
 have y0 := M.c 1 0 rfl rfl
 have y1 := M.c 1 1 rfl rfl
 have y2 := M.c 1 2 rfl rfl
 rw [hW] at x0 x1
 go_enter Try.func35, Try.ntmps35
 go_wp2_with fail
 rw [← hW]
 clear hW x0 x1
 refine (aa1 _ _ p.vars p.arrays _ (HE.out _ (M.below fun _ _ => trivial)).2.1 (HE.out _ (M.below fun _ _ => trivial)).2.2).mono ?_
 rintro x w1 ⟨rfl, rfl⟩
 cases hs : t5 p.vars p.arrays
 ·have HB := show Hid _ from M.below fun _ _ => trivial
  have HS := show Hid _ from hs
  clear hs M
  go_wp2_with fail
  go_ret
  exact ⟨c9 (by rw [HR.out, HS.out]; rfl), HB.out⟩
 ·have HS := show Hid _ from hs
  have x0 := M.c 0 0 rfl rfl
  have x1 := M.c 0 1 rfl rfl
  have HM := show Hid _ from M
  clear hs M
  go_wp2_with fail
  refine (ay0 a1 a2 _ c1 _ c2 v3 hm1 hm2 e φ' _ _ (HE.out _ (HM.out.below fun _ _ => trivial)).1).mono ?_
  rintro x w2 ⟨rfl, b1⟩
  have HB := show Hid _ from (HM.out.call b1).below fun _ _ => trivial
  clear b1 x0 x1 x2 y0 y1 y2
  go_wp2_with fail
  go_ret
  exact ⟨c9 (by rw [HR.out, HS.out]; rfl), HB.out⟩
end Go.Proofs.Ytgmhmijcnlfmfaa

