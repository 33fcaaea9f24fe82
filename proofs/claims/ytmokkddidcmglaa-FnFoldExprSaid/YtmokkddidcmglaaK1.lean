/- Part 1: functions on the way, plain laws. Conditions: as said. -/
import Derived.WalkKit
import Derived.ProofKit
import Derived.Handy
import Derived.WalkSmall
import Derived.Deep.QuietTactic
import Derived.BigQuiet
import Derived.StillTailTactics
import Derived.Deep.Quiet
import Derived.StillTail
import Derived.Test.YtmokkddidcmglaaRows
import Derived.Maps.AppendAt
import Derived.ArgAppend
import Derived.Deep.Upon
set_option maxRecDepth 100000
set_option maxHeartbeats 16000000
set_option linter.unusedVariables false
set_option linter.unusedSimpArgs false
open Bool renaming and_eq_true → bE8, eq_iff_iff → bH9
open List renaming all_eq_true → bF5, getD_eq_getElem?_getD → bF2, getElem?_append_left → bH1, getElem?_append_right → bI6, getElem?_eq_getElem → bF0, getElem?_eq_none → bH2, getElem?_eq_some_iff → bF6, getElem_mem → bG3, length_append → bH8, length_cons → bH3, map_cons → bH5, mem_append → bG8, mem_cons → bI2, mem_cons_of_mem → bG0, mem_cons_self → bF7, mem_of_getElem? → bE9, mem_singleton → bH4, range → bH0, replicate → bG6, take_of_length_le → bF9
open Nat renaming le_refl → bG4, le_trans → bH6, lt_or_ge → bH7, mul_le_mul_right → bI5, succ_mul → bI0, zero_add → bI4, zero_le → bI1
open True renaming intro → bF1

namespace Go.Proofs.Ytmokkddidcmglaa
open Go Go.RowKit
def K9 (w : World) (v : Value) (n sz : Nat) (xs : List Value) : Prop :=
 xs.length = n * sz ∧ ∃ a cap, v = .slice a n cap ∧ n ≤ cap ∧ cap ≤ maxLen ∧
  (0 < n → ∃ b off, a = some ⟨b, off, none⟩ ∧ b < w.heap.size ∧ ∀ j u, xs[j]? = some u → w.cell? ⟨b, off + j, none⟩ = some u)
theorem P7 {W w1 : World} (hb : Below W.heap.size W w1) : (∀ b o, b < W.heap.size → w1.cell? ⟨b, o, none⟩ = W.cell? ⟨b, o, none⟩) ∧ (∀ b o, b < W.heap.size → w1.frozen? ⟨b, o, none⟩ = W.frozen? ⟨b, o, none⟩) :=
 ⟨fun b o h => hb.cell (p := ⟨b, o, none⟩) h, fun b o h => hb.frozen (p := ⟨b, o, none⟩) h⟩
theorem K9.below {w w' : World} {v : Value} {n sz : Nat} {xs : List Value} (h : K9 w v n sz xs) (hb : Below w.heap.size w w') : K9 w' v n sz xs := by
 obtain ⟨hl, a, cap, rfl, h1, h2, h3⟩ := h
 refine ⟨hl, a, cap, rfl, h1, h2, fun hn => ?_⟩
 obtain ⟨b, off, rfl, hbk, hc⟩ := h3 hn
 exact ⟨b, off, rfl, Nat.lt_of_lt_of_le hbk hb.size, fun j u hj => ((P7 hb).1 b _ hbk).trans (hc j u hj)⟩
theorem K9.len {w : World} {v : Value} {n sz : Nat} {xs : List Value} (h : K9 w v n sz xs) : n ≤ 9223372036854775807 := by
 obtain ⟨_, a, cap, rfl, h1, h2, _⟩ := h; unfold maxLen at h2; omega
theorem K9.nil (w : World) (sz : Nat) : K9 w (.slice none 0 0) 0 sz [] := ⟨by simp, none, 0, rfl, bG4 _, by unfold maxLen; omega, fun h => absurd h (by omega)⟩
theorem K9.open {w : World} {v : Value} {n sz : Nat} {xs : List Value} (h : K9 w v n sz xs) : ∃ a cap, v = .slice a n cap ∧ n ≤ cap ∧ n ≤ 9223372036854775807 ∧ cap ≤ 9223372036854775807 ∧
  ∀ i, i < n → ∃ b off, a = some ⟨b, off, none⟩ ∧ b < w.heap.size ∧ ∀ j, j < sz → w.cell? ⟨b, off + i * sz + j, none⟩ = xs[i * sz + j]? := by
 obtain ⟨hl, a, cap, rfl, h1, h2, h3⟩ := h
 unfold maxLen at h2
 refine ⟨a, cap, rfl, h1, by omega, by omega, fun i hi => ?_⟩
 obtain ⟨b, off, rfl, hbk, hc⟩ := h3 (by omega)
 refine ⟨b, off, rfl, hbk, fun j hj => ?_⟩
 have hlt : i * sz + j < xs.length := by
  rw [hl]; have := bI5 sz (Nat.succ_le_of_lt hi); rw [bI0] at this; omega
 rw [bF0 hlt, Nat.add_assoc]
 exact hc _ _ (bF0 hlt)
theorem K9.form {w : World} {v : Value} {n sz : Nat} {xs : List Value} (h : K9 w v n sz xs) : ∃ a cap, v = .slice a n cap := by
 obtain ⟨_, a, cap, hv, _⟩ := h
 exact ⟨a, cap, hv⟩
theorem K9.open1 {w : World} {v : Value} {n : Nat} {xs : List Value} (h : K9 w v n 1 xs) : ∃ a cap, v = .slice a n cap ∧ n ≤ cap ∧ n ≤ 9223372036854775807 ∧ cap ≤ 9223372036854775807 ∧
  ∀ i, i < n → ∃ b off, a = some ⟨b, off, none⟩ ∧ b < w.heap.size ∧ w.cell? ⟨b, off + i, none⟩ = xs[i]? := by
 obtain ⟨a, cap, h0, h1, h2, h3, h4⟩ := h.open
 refine ⟨a, cap, h0, h1, h2, h3, fun i hi => ?_⟩
 obtain ⟨b, off, e, hb, hc⟩ := h4 i hi
 exact ⟨b, off, e, hb, by simpa using hc 0 (by omega)⟩
theorem R8 {w : World} {base : Nat} {e : TypeId} {sz : Nat} {v : Value} {n : Nat} {xs : List Value} (h : w.ownsRow base e sz v n xs) : K9 w v n sz xs := by
 refine ⟨h.1, ?_⟩
 rcases h.2 with ⟨rfl, rfl⟩ | ⟨g, cap, cur, rfl, hbg, hg, hnc, hcm, hcs, ht⟩
 ·exact ⟨none, 0, rfl, bG4 _, by unfold maxLen; omega, fun h => absurd h (by omega)⟩
 ·refine ⟨some ⟨g, 0, none⟩, cap, rfl, hnc, hcm, fun _ => ⟨g, 0, rfl, (Array.getElem?_eq_some_iff.1 hg).1, fun j u hj => ?_⟩⟩
  have hadd : (⟨g, 0, none⟩ : Addr).add j = ⟨g, 0 + j, none⟩ := by unfold Addr.add; split <;> simp_all
  rw [← hadd]
  exact h.cells (g := g) rfl j u hj
theorem Z2 {w : World} {base base' : Nat} {e : TypeId} {sz : Nat} {v : Value} {n : Nat} {xs : List Value} (h : w.ownsRow base e sz v n xs) (hb : base' ≤ base) : w.ownsRow base' e sz v n xs := by
 refine ⟨h.1, ?_⟩
 rcases h.2 with hn | ⟨g, cap, cur, rfl, hbg, r⟩
 ·exact .inl hn
 ·exact .inr ⟨g, cap, cur, rfl, by omega, r⟩
def V7 (w : World) (lo hi : Nat) (e : TypeId) (sz : Nat) (v : Value) (n : Nat) (xs : List Value) : Prop :=
 w.ownsRow lo e sz v n xs ∧ ∀ g, v.ownBlock = some g → g < hi
structure Out (lo hi : Nat) (w w' : World) : Prop where
 os : w'.os = w.os
 tape : w'.tape = w.tape
 output : w'.output = w.output
 size : w.heap.size ≤ w'.heap.size
 block : ∀ k, k < w.heap.size → (k < lo ∨ hi ≤ k) → w'.heap[k]? = w.heap[k]?
theorem Out.refl (lo hi : Nat) (w : World) : Out lo hi w w := ⟨rfl, rfl, rfl, bG4 _, fun _ _ _ => rfl⟩
theorem Out.trans {lo hi : Nat} {a b c : World} (h : Out lo hi a b) (k : Out lo hi b c) : Out lo hi a c :=
 ⟨k.os.trans h.os, k.tape.trans h.tape, k.output.trans h.output, bH6 h.size k.size, fun i hi ho => (k.block i (Nat.lt_of_lt_of_le hi h.size) ho).trans (h.block i hi ho)⟩
theorem Out.below {lo hi B : Nat} {a b : World} (h : Out lo hi a b) (h1 : B ≤ lo) (h2 : B ≤ a.heap.size) : Below B a b :=
 ⟨h.os, h.tape, h.output, h.size, fun k hk => h.block k (by omega) (by omega)⟩
theorem Out.of_below {lo hi B : Nat} {a b : World} (h : Below B a b) (h1 : a.heap.size ≤ B) : Out lo hi a b :=
 ⟨h.os, h.tape, h.output, h.size, fun k hk _ => h.block k (by omega)⟩
theorem Out.setCell {lo hi : Nat} {a w : World} (h : Out lo hi a w) {p : Addr} (h1 : lo ≤ p.block) (h2 : p.block < hi) (u : Value) : Out lo hi a (w.setCell p u) :=
 h.trans ⟨rfl, rfl, rfl, by simp [World.setCell], fun k _ ho => Below.heap_setCell _ _ _ _ (by omega)⟩
theorem V7.lt {w : World} {lo hi : Nat} {e : TypeId} {sz : Nat} {v : Value} {n : Nat} {xs : List Value} (h : V7 w lo hi e sz v n xs) : ∀ g, v.ownBlock = some g → lo ≤ g ∧ g < hi ∧ g < w.heap.size :=
 fun g hg => ⟨(h.1.lt g hg).1, h.2 g hg, (h.1.lt g hg).2⟩
theorem V7.row {w : World} {lo hi : Nat} {e : TypeId} {sz : Nat} {v : Value} {n : Nat} {xs : List Value} (h : V7 w lo hi e sz v n xs) : K9 w v n sz xs := R8 h.1
theorem V7.mk' {w : World} {lo : Nat} {e : TypeId} {sz : Nat} {v : Value} {n : Nat} {xs : List Value} (h : w.ownsRow lo e sz v n xs) : V7 w lo w.heap.size e sz v n xs :=
 ⟨h, fun g hg => (h.lt g hg).2⟩
theorem V7.form {w : World} {lo hi : Nat} {e : TypeId} {sz : Nat} {v : Value} {n : Nat} {xs : List Value} (h : V7 w lo hi e sz v n xs) : ∃ a cap, v = .slice a n cap := by
 obtain ⟨_, a, cap, hv, _⟩ := h.row
 exact ⟨a, cap, hv⟩
theorem V7.same {w w' : World} {lo hi : Nat} {e : TypeId} {sz : Nat} {v : Value} {n : Nat} {xs : List Value} (h : V7 w lo hi e sz v n xs)
  (hs : ∀ g, v.ownBlock = some g → w'.heap[g]? = w.heap[g]?) : V7 w' lo hi e sz v n xs := by
 refine ⟨⟨h.1.1, ?_⟩, h.2⟩
 rcases h.1.2 with hn | ⟨g, cap, cur, rfl, hbg, hg, r⟩
 ·exact .inl hn
 ·exact .inr ⟨g, cap, cur, rfl, hbg, (hs g rfl).trans hg, r⟩
theorem V7.keep {w w' : World} {lo hi B : Nat} {e : TypeId} {sz : Nat} {v : Value} {n : Nat} {xs : List Value} (h : V7 w lo hi e sz v n xs) (hb : Below B w w') (hB : hi ≤ B) : V7 w' lo hi e sz v n xs :=
 h.same fun g hg => hb.block g (by have := h.lt g hg; omega)
theorem V7.out {w w' : World} {lo hi lo' hi' : Nat} {e : TypeId} {sz : Nat} {v : Value} {n : Nat} {xs : List Value} (h : V7 w lo hi e sz v n xs) (ho : Out lo' hi' w w') (hd : hi ≤ lo' ∨ hi' ≤ lo) : V7 w' lo hi e sz v n xs :=
 h.same fun g hg => ho.block g (h.lt g hg).2.2 (by have := h.lt g hg; omega)
theorem V7.open {w : World} {lo hi : Nat} {e : TypeId} {sz : Nat} {v : Value} {n : Nat} {xs : List Value} (h : V7 w lo hi e sz v n xs) (hn : 0 < n) :
  ∃ g cap, v = .slice (some ⟨g, 0, none⟩) n cap ∧ lo ≤ g ∧ g < hi ∧ g < w.heap.size ∧ n ≤ cap ∧ cap ≤ maxLen ∧ (∀ o, w.frozen? ⟨g, o, none⟩ = false) ∧ ∀ j u, xs[j]? = some u → w.cell? ⟨g, j, none⟩ = some u := by
 have hl := h.lt
 rcases h.1.2 with ⟨_, h0⟩ | ⟨g, cap, cur, rfl, hbg, hg, hnc, hcm, hcs, ht⟩
 ·omega
 ·obtain ⟨l1, l2, l3⟩ := hl g rfl
  refine ⟨g, cap, rfl, l1, l2, l3, hnc, hcm, fun o => ?_, fun j u hj => ?_⟩
  ·simp only [World.frozen?, hg]; simp
  ·have hadd : (⟨g, 0, none⟩ : Addr).add j = ⟨g, j, none⟩ := by unfold Addr.add; split <;> simp_all
   rw [← hadd]
   exact h.1.cells (g := g) rfl j u hj
theorem V7.at {w : World} {lo hi : Nat} {e : TypeId} {sz : Nat} {v : Value} {n : Nat} {xs : List Value} (h : V7 w lo hi e sz v n xs) {j : Nat} (hj : j < xs.length) :
  ∃ g cap, v = .slice (some ⟨g, 0, none⟩) n cap ∧ lo ≤ g ∧ g < hi ∧ g < w.heap.size ∧ w.frozen? ⟨g, j, none⟩ = false ∧ ∃ u, w.cell? ⟨g, j, none⟩ = some u := by
 have hn : 0 < n := by
  rcases Nat.eq_zero_or_pos n with h0 | h0
  ·subst h0; have := h.1.1; omega
  ·exact h0
 obtain ⟨g, cap, hv, h1, h2, h3, _, _, h4, h5⟩ := h.open hn
 exact ⟨g, cap, hv, h1, h2, h3, h4 j, _, h5 j _ (bF0 hj)⟩
theorem V7.setCell {w : World} {lo hi : Nat} {e : TypeId} {sz : Nat} {n cap g : Nat} {xs : List Value} (h : V7 w lo hi e sz (.slice (some ⟨g, 0, none⟩) n cap) n xs) {j : Nat} (_hj : j < xs.length) (u : Value) :
  V7 (w.setCell ⟨g, j, none⟩ u) lo hi e sz (.slice (some ⟨g, 0, none⟩) n cap) n (xs.set j u) := by
 refine ⟨⟨by rw [List.length_set]; exact h.1.1, ?_⟩, h.2⟩
 rcases h.1.2 with ⟨hv, _⟩ | ⟨g', cap', cur, hv, hbg, hg, hnc, hcm, hcs, ht⟩
 ·cases hv
 ·cases hv
  refine .inr ⟨g, cap, cur.setIfInBounds j u, rfl, hbg, ?_, hnc, hcm, by simpa using hcs, ?_⟩
  ·have hlt := (Array.getElem?_eq_some_iff.1 hg).1
   simp only [World.setCell, Array.getElem?_modify]
   simp [hg]
  ·rw [Array.toList_setIfInBounds, List.take_set, ht]
theorem f8 {a b : Bool} (h : a = b) : Ending.returned (.bool a) = .returned (.bool b) := by rw [h]
theorem v9 {k : IntKind} {a b : Int} (h : a = b) : Ending.returned (.int k a) = .returned (.int k b) := by rw [h]
theorem n8 {α : Type} (l : List α) (k : Nat) (h : k < l.length) : l.take (k + 1) = l.take k ++ [l[k]] := by
 rw [List.take_succ_eq_append_getElem h]
theorem ay8 {α : Type} {xs ys : List α} {k : Nat} (h : xs.take k = ys.take k) (h1 : k < xs.length) (h2 : k < ys.length) (he : xs[k] = ys[k]) : xs.take (k + 1) = ys.take (k + 1) := by
 rw [n8 _ _ h1, n8 _ _ h2, h, he]
theorem aF0 {α : Type} {xs ys : List α} {k : Nat} (h : xs.take k = ys.take k) (h1 : xs.length ≤ k) (h2 : ys.length ≤ k) : xs = ys := by
 rw [bF9 h1, bF9 h2] at h; exact h
theorem ab1 {α : Type} (ys : List α) (k : Nat) (u : α) (h : k < ys.length) : (ys.set k u).take (k + 1) = ys.take k ++ [u] := by
 rw [n8 _ _ (by simpa using h), List.take_set_of_le (bG4 _)]; simp
def B6 (z : List Value) (n : Nat) : List Value := (bG6 n z).flatten
theorem H3 (z : List Value) (n : Nat) : (B6 z n).length = n * z.length := by simp [B6]
theorem aj6 (z : Value) (n : Nat) : B6 [z] n = bG6 n z := by
 unfold B6
 induction n with
 | zero => rfl
 | succ n ih => rw [List.replicate_succ, List.flatten_cons, ih]; rfl
theorem aq7 (z : Array Value) (n : Nat) (_hz : 0 < z.size) : madeCells z (n * z.size) = (B6 z.toList n).toArray := by
 apply Array.ext
 ·simp [size_madeCells, H3]
 ·intro i h1 h2
  simp only [madeCells, Array.getElem_map, Array.getElem_range, List.getElem_toArray]
  have hlt : i < (B6 z.toList n).length := by simpa using h2
  have key : ∀ (m i : Nat), i < (B6 z.toList m).length → (B6 z.toList m)[i]? = some (z[i % z.size]!) := by
   intro m
   induction m with
   | zero => intro i hi; simp [B6] at hi
   | succ m ih =>
    intro i hi
    have e : B6 z.toList (m + 1) = z.toList ++ B6 z.toList m := by simp [B6, List.replicate_succ]
    rw [e]
    by_cases hlt : i < z.size
    ·rw [bH1 (by simpa using hlt), Nat.mod_eq_of_lt hlt]
     simp [hlt]
    ·rw [bI6 (by simp; omega)]
     have := ih (i - z.toList.length) (by rw [e, bH8] at hi; rw [Array.length_toList] at hi ⊢; omega)
     rw [this]
     congr 2
     rw [Array.length_toList]
     exact (Nat.mod_eq_sub_mod (by omega)).symm
  have := key n i hlt
  rw [bF0 hlt] at this
  exact (Option.some.inj this).symm
theorem a78 {P : Program} {t e : TypeId} {z : Value} {size bytes : Nat} (ht : P.underlying t = some (.slice e)) (hi : (P.info? e).map (fun i => (i.zero, i.size, i.bytes)) = some (some z, size, bytes))
  (hz : z.cells.size = size) (hs : 0 < size) (n : Nat) (hn : bytes * n ≤ 281474976710656) (hm : n ≤ 9223372036854775807) :
  ∀ w, (Instr.makeSlice t (.int .i64 n) (.int .i64 n)).run P w = .ok (.slice (some ⟨w.heap.size, 0, none⟩) n n) (w.alloc (.cells (B6 z.cells.toList n).toArray e)) := by
 intro w
 obtain ⟨i, h1, h2, h3, h4⟩ := info_parts hi
 have := run_make (P := P) w t e i z ht h1 h2 .i64 .i64 n n (by omega) (Int.le_refl _) (by rw [h4, ← Int.natCast_mul]; omega) (by omega)
 rw [this]
 simp only [Int.toNat_natCast, h3]
 subst hz
 rw [aq7 _ _ hs]
theorem ah8 (w : World) {g : Nat} (cs : Array Value) (n sz : Nat) (e : TypeId) (hg : g = w.heap.size) (hz : cs.size = n * sz) (hm : n ≤ 9223372036854775807) :
  V7 (w.alloc (.cells cs e)) w.heap.size (w.heap.size + 1) e sz (.slice (some ⟨g, 0, none⟩) n n) n cs.toList := by
 subst hg
 refine ⟨⟨by simpa using hz, .inr ⟨w.heap.size, n, _, rfl, bG4 _, heap_alloc_new w _, bG4 _, by unfold maxLen; omega, hz, ?_⟩⟩, fun g hg => by cases hg; exact Nat.lt_succ_self _⟩
 rw [← hz]
 exact bF9 (by simp)
theorem a69 (w : World) (z : List Value) (n sz : Nat) (e : TypeId) (hz : z.length = sz) (hm : n ≤ 9223372036854775807) :
  V7 (w.alloc (.cells (B6 z n).toArray e)) w.heap.size (w.heap.size + 1) e sz (.slice (some ⟨w.heap.size, 0, none⟩) n n) n (B6 z n) := by
 refine ⟨⟨by rw [H3, hz], .inr ⟨w.heap.size, n, _, rfl, bG4 _, heap_alloc_new w _, bG4 _, by unfold maxLen; omega, by simp [H3, hz], ?_⟩⟩, fun g hg => by cases hg; exact Nat.lt_succ_self _⟩
 have : (B6 z n).length = n * sz := by rw [H3, hz]
 rw [← this]
 simp
def setFrom (ys : List Value) (p : Nat) : List Value → List Value
 | [] => ys
 | u :: r => setFrom (ys.set p u) (p + 1) r
def World.setFrom (w : World) (g p : Nat) : List Value → World
 | [] => w
 | u :: r => World.setFrom (w.setCell ⟨g, p, none⟩ u) g (p + 1) r
theorem C8 (us : List Value) : ∀ (ys : List Value) (p : Nat), (setFrom ys p us).length = ys.length := by
 induction us with
 | nil => intro ys p; rfl
 | cons u r ih => intro ys p; simp [setFrom, ih]
theorem ae8 (us : List Value) : ∀ (ys : List Value) (p : Nat), p + us.length ≤ ys.length → (setFrom ys p us).take (p + us.length) = ys.take p ++ us := by
 induction us with
 | nil => intro ys p h; simp [setFrom]
 | cons u r ih =>
  intro ys p h
  simp only [bH3] at h
  have := ih (ys.set p u) (p + 1) (by simp; omega)
  simp only [setFrom, bH3]
  rw [show p + (r.length + 1) = p + 1 + r.length by omega, this, ab1 _ _ _ (by omega)]
  simp
theorem V7.setFrom {lo hi : Nat} {e : TypeId} {sz n cap g : Nat} (us : List Value) : ∀ {w : World} {xs : List Value} {p : Nat}, V7 w lo hi e sz (.slice (some ⟨g, 0, none⟩) n cap) n xs → p + us.length ≤ xs.length →
  V7 (World.setFrom w g p us) lo hi e sz (.slice (some ⟨g, 0, none⟩) n cap) n (setFrom xs p us) := by
 induction us with
 | nil => intro w xs p h _; exact h
 | cons u r ih =>
  intro w xs p h hl
  simp only [bH3] at hl
  exact ih (h.setCell (by omega) u) (by simp; omega)
theorem Out.setFrom {lo hi g : Nat} {a : World} (us : List Value) : ∀ {w : World} {p : Nat}, Out lo hi a w → lo ≤ g → g < hi → Out lo hi a (World.setFrom w g p us) := by
 induction us with
 | nil => intro w p h _ _; exact h
 | cons u r ih => intro w p h h1 h2; exact ih (h.setCell h1 h2 u) h1 h2
def aL3 (u v : Value) : Prop := ∀ g, u.ownBlock = some g → v.ownBlock ≠ some g
theorem aL3.symm {u v : Value} (h : aL3 u v) : aL3 v u := fun g h1 h2 => h g h2 h1
def R1 (w : World) (b : Nat) (cs : List Value) : Prop := ∃ T, w.heap[b]? = some (.cells cs.toArray T (0, 0))
theorem R1.lt {w : World} {b : Nat} {cs : List Value} (h : R1 w b cs) : b < w.heap.size := by
 obtain ⟨T, h⟩ := h; exact (Array.getElem?_eq_some_iff.1 h).1
theorem R1.cell {w : World} {b : Nat} {cs : List Value} (h : R1 w b cs) (j : Nat) : w.cell? ⟨b, j, none⟩ = cs[j]? := by
 obtain ⟨T, h⟩ := h; simp [World.cell?, h]
theorem R1.free {w : World} {b : Nat} {cs : List Value} (h : R1 w b cs) (j : Nat) : w.frozen? ⟨b, j, none⟩ = false := by
 obtain ⟨T, h⟩ := h; simp only [World.frozen?, h]; simp
theorem R1.below {w w' : World} {b B : Nat} {cs : List Value} (h : R1 w b cs) (hb : Below B w w') (hB : b < B) : R1 w' b cs := by
 obtain ⟨T, h⟩ := h; exact ⟨T, (hb.block b hB).trans h⟩
theorem R1.out {w w' : World} {b lo hi : Nat} {cs : List Value} (h : R1 w b cs) (hb : Out lo hi w w') (hB : b < lo ∨ hi ≤ b) : R1 w' b cs := by
 have hlt := h.lt
 obtain ⟨T, h⟩ := h; exact ⟨T, (hb.block b hlt hB).trans h⟩
theorem R1.set {w : World} {b j : Nat} {cs : List Value} (h : R1 w b cs) (u : Value) : R1 (w.setCell ⟨b, j, none⟩ u) b (cs.set j u) := by
 obtain ⟨T, h⟩ := h
 refine ⟨T, ?_⟩
 simp only [World.setCell, Array.getElem?_modify]
 simp [h]
theorem R1.new (w : World) (cs : List Value) (T : TypeId) : R1 (w.alloc (.cells cs.toArray T)) w.heap.size cs := ⟨T, heap_alloc_new w _⟩
theorem R1.alloc {w : World} {b : Nat} {cs : List Value} (h : R1 w b cs) (o : Obj) : R1 (w.alloc o) b cs := by
 have hlt := h.lt
 obtain ⟨T, h⟩ := h; exact ⟨T, (Below.heap_alloc w o b hlt).trans h⟩
theorem R1.drew {w : World} {b : Nat} {cs : List Value} (h : R1 w b cs) : R1 w.drew b cs := h
theorem Out.cell (w : World) (b j : Nat) (u : Value) : Out b (b + 1) w (w.setCell ⟨b, j, none⟩ u) :=
 Out.setCell (p := ⟨b, j, none⟩) (Out.refl b (b + 1) w) (bG4 b) (Nat.lt_succ_self b) u
def _root_.Go.World.ext (w X : World) : World := { w with heap := w.heap ++ X.heap, drawn := X.drawn }
theorem t5 (w : World) (X : World) : Below w.heap.size w (w.ext X) :=
 ⟨rfl, rfl, rfl, by simp [World.ext], fun k hk => by simp only [World.ext]; rw [Array.getElem?_append_left hk]⟩
theorem aj3 {w w' : World} (h : Below w.heap.size w w') : ∃ X, w' = w.ext X := by
 refine ⟨{ w' with heap := w'.heap.extract w.heap.size w'.heap.size }, ?_⟩
 obtain ⟨h1, h2, h3, h4, h5⟩ := h
 have hh : w'.heap = w.heap ++ w'.heap.extract w.heap.size w'.heap.size := by
  apply Array.ext_getElem?
  intro i
  rcases bH7 i w.heap.size with hi | hi
  ·rw [Array.getElem?_append_left hi, h5 i hi]
  ·rw [Array.getElem?_append_right hi, Array.getElem?_extract]
   split
   ·rw [show w.heap.size + (i - w.heap.size) = i by omega]
   ·rename_i hn
    rw [Array.getElem?_eq_none]
    simp at hn
    omega
 cases w; cases w'
 simp only [World.ext] at *
 subst h1 h2 h3
 rw [← hh]
theorem o6 {w : World} {b o : Nat} {v : Value} (h : w.cell? ⟨b, o, none⟩ = some v) (X : World) : (w.ext X).cell? ⟨b, o, none⟩ = some v := by
 have hb : b < w.heap.size := World.block_lt_of_cell? w ⟨b, o, none⟩ h
 rw [(P7 (t5 w X)).1 b o hb]; exact h
theorem Calls.ext_of' {P : Program} {f : FuncId} {args : Array Value} {w : World} {X : World} {v : Value}
  (h : Calls P f args (w.ext X) fun e w' => e = .returned v ∧ Below (w.ext X).heap.size (w.ext X) w') : Calls P f args (w.ext X) fun e w'' => e = .returned v ∧ ∃ Y, w'' = w.ext Y :=
 h.mono fun _ _ ⟨he, hb⟩ => ⟨he, aj3 ((t5 w X).trans (hb.mono (t5 w X).size))⟩
theorem s5 {P : Program} {id : Nat} {Q : Exit → Act → World → Prop} {a : Act} {w : World} {l : List Oper} (hm : P.follows .mixedOrders = true) (hB : Region.lexB .any l.toArray = true)
  (h : wpQuiet P l.toArray (fun w' => ∃ X, w' = w.ext X) (fun a' => ∀ w', (∃ X, w' = w.ext X) → Q .normal a' w') l a) : (Code.region id l.toArray true).wp P Q a w :=
 wp_region_quiet (C := fun w' => ∃ X, w' = w.ext X) hm hB (aj3 (w' := w.drew) (Below.refl _ _).drew) (by simpa using h)
theorem ai4 {P : Program} {f : FuncId} {fn : Func} {c : Code} (hf : P.funcs[f]? = some fn) (hn : (fn.name == "runtime.NumGoroutine") = false) (hb : fn.body = some c) :
  ∀ args w, (callFunc f args).run P w = .ok (.enter f args) w := by
 intro args w
 have h1 : fn.name ≠ "runtime.NumGoroutine" := by simpa using hn
 simp [callFunc, hf, h1, hb, mark]
end Go.Proofs.Ytmokkddidcmglaa

namespace Go.Proofs.Ytmokkddidcmglaa
theorem B9 {α : Type} (l : List α) (k : Nat) (h : k < l.length) : l.take (k + 1) = l.take k ++ [l[k]] := by
 rw [List.take_succ_eq_append_getElem h]
theorem Q9 {α : Type} (p : α → Bool) (l : List α) (k : Nat) (h : k < l.length) : (l.take (k + 1)).all p = ((l.take k).all p && p l[k]) := by
 rw [B9 l k h, List.all_append]; simp
theorem an0 {α : Type} {p : α → Bool} {l : List α} {k : Nat} (h : k < l.length) (hp : p l[k] = false) : l.all p = false := by
 rw [List.all_eq_false]; exact ⟨l[k], bG3 h, by simp [hp]⟩
structure I8 where
 op : Int
 a : Int
 b : Int
 c : Int
 d : Int
def I8.l (x : I8) : List Int := [x.op, x.a, x.b, x.c, x.d]
def aa3 : List I8 → List Int
 | [] => []
 | x :: r => x.op :: x.a :: x.b :: x.c :: x.d :: aa3 r
theorem a95 (l : List I8) : (aa3 l).length = l.length * 5 := by
 induction l with
 | nil => rfl
 | cons x r ih => simp [aa3, ih]; omega
theorem I8.ext' {x y : I8} (h : x.l = y.l) : x = y := by
 cases x; cases y; simp [I8.l] at h; simp [h]
theorem a96 (l : List I8) (i : Nat) (hi : i < l.length) : (aa3 l)[i * 5]? = some l[i].op ∧ (aa3 l)[i * 5 + 1]? = some l[i].a ∧ (aa3 l)[i * 5 + 2]? = some l[i].b ∧ (aa3 l)[i * 5 + 3]? = some l[i].c ∧ (aa3 l)[i * 5 + 4]? = some l[i].d := by
 induction l generalizing i with
 | nil => simp at hi
 | cons x r ih =>
  cases i with
  | zero => simp [aa3]
  | succ i =>
   rw [bI0]
   have := ih i (by simpa using hi)
   simpa [aa3, Nat.add_assoc] using this
structure E7 where
 vars : List Int
 arrays : List Int
 list : List I8
def E7.size (c : E7) : Nat := c.vars.length + c.arrays.length + c.list.length
def E7.same (c d : E7) : Bool := decide (c.vars = d.vars) && decide (c.arrays = d.arrays) && decide (aa3 c.list = aa3 d.list)
def m8 (l : Int) : Bool := decide (0 ≤ l) && decide (l ≤ 3)
def A5 (vars arrays : List Int) : Bool := vars.all m8 && arrays.all m8 && decide (1 ≤ vars.length) && decide (vars.length ≤ 12) && decide (arrays.length ≤ 2)
def bg7 (c : E7) (kd : UInt8) (n : Int) : Bool :=
 if kd = 114 then decide (0 ≤ n) && decide (n < 14)
 else if kd = 99 then decide (0 ≤ n) && decide (n ≤ 255)
 else if kd = 118 then decide (0 ≤ n) && decide (n < c.vars.length)
 else if kd = 97 then decide (0 ≤ n) && decide (n < c.arrays.length)
 else if kd = 111 then decide (4 ≤ n) && decide (n ≤ 10)
 else decide (0 ≤ n) && decide (n < c.list.length)
def ai2 (op : Int) : List UInt8 :=
 if op = 1 then [114, 99] else if op = 2 then [114, 118] else if op = 3 then [118, 114] else if op = 4 then [114, 97, 114] else if op = 5 then [97, 114, 114]
 else if op = 6 then [114, 111, 114, 114] else if op = 7 then [114, 114, 114, 114] else if op = 8 then [116] else if op = 9 then [114, 116] else if op = 10 then [114, 116]
 else if op = 11 then [114] else []
def aA8 (c : E7) (kinds : List UInt8) (k : Nat) (n : Int) : Bool :=
 match kinds[k]? with
 | some kd => bg7 c kd n
 | none => decide (n = 0)
def bm5 (c : E7) (x : I8) : Bool :=
 decide (1 ≤ x.op) && decide (x.op ≤ 13) && (aA8 c (ai2 x.op) 0 x.a && aA8 c (ai2 x.op) 1 x.b && aA8 c (ai2 x.op) 2 x.c && aA8 c (ai2 x.op) 3 x.d)
def a86 (c : E7) : Bool := match c.list.getLast? with | some x => decide (x.op = 13) || decide (x.op = 8) | none => false
def aC7 (c : E7) : Bool := A5 c.vars c.arrays && decide (1 ≤ c.list.length) && decide (c.list.length ≤ 400) && c.list.all (bm5 c) && a86 c
def bu9 (x : I8) (i : Int) : List Int := if x.op = 13 then [] else if x.op = 8 then [x.a] else if x.op = 9 ∨ x.op = 10 then [i + 1, x.b] else [i + 1]
def nx (c : E7) (t : Int) : List Int := match c.list[t.toNat]? with | some x => bu9 x t | none => []
theorem ag4 {c : E7} (h : aC7 c = true) : A5 c.vars c.arrays = true ∧ 1 ≤ c.list.length ∧ c.list.length ≤ 400 ∧ (∀ (i : Nat) (hi : i < c.list.length), bm5 c c.list[i] = true) ∧ a86 c = true := by
 unfold aC7 at h
 simp only [bE8, decide_eq_true_eq, bF5] at h
 obtain ⟨⟨⟨⟨h1, h2⟩, h3⟩, h4⟩, h5⟩ := h
 exact ⟨h1, h2, h3, fun i hi => h4 _ (bG3 hi), h5⟩
inductive Rc (c : E7) : Int → Prop
 | zero : Rc c 0
 | step {i t : Int} : Rc c i → t ∈ nx c i → Rc c t
noncomputable def bB0 (c : E7) : List Bool := (bH0 c.list.length).map fun (j : Nat) => @decide (Rc c (j : Int)) (Classical.propDecidable _)
theorem ax5 {bs : List Bool} {k : Nat} (h : bs[k]? = some false) : (bs.set k true).count false + 1 = bs.count false := by
 induction bs generalizing k with
 | nil => simp at h
 | cons b r ih =>
  cases k with
  | zero => simp at h; subst h; simp
  | succ k =>
   simp at h
   have := ih h
   simp only [List.set_cons_succ, List.count_cons]
   omega
theorem az8 {bs : List Bool} {k j : Nat} (h : (bs.set k true)[j]? = some true) : j = k ∨ bs[j]? = some true := by
 rw [List.getElem?_set] at h
 split at h
 ·rename_i e; exact .inl e.symm
 ·exact .inr h
theorem aF9 {bs : List Bool} {k : Nat} (h : k < bs.length) : (bs.set k true)[k]? = some true := by simp [h]
structure bz4 (c : E7) (qs : List Int) (bs : List Bool) : Prop where
 len : bs.length = c.list.length
 cnt : qs.length + bs.count false = c.list.length
 q : ∀ t ∈ qs, 0 ≤ t ∧ t < c.list.length ∧ Rc c t
 sound : ∀ j : Nat, bs[j]? = some true → Rc c j
 inq : ∀ j : Nat, bs[j]? = some true → (j : Int) ∈ qs
 zero : bs[0]? = some true
theorem bz4.start {c : E7} (hc : aC7 c = true) : bz4 c [0] ((bG6 c.list.length false).set 0 true) := by
 have hn := (ag4 hc).2.1
 have hone : ∀ j : Nat, ((bG6 c.list.length false).set 0 true)[j]? = some true → j = 0 := by
  intro j h
  rcases az8 h with h | h
  ·exact h
  ·rw [List.getElem?_replicate] at h; split at h <;> simp at h
 refine ⟨by simp, ?_, ?_, ?_, ?_, ?_⟩
 ·have := ax5 (bs := bG6 c.list.length false) (k := 0) (by rw [List.getElem?_replicate, if_pos (by omega)])
  simp at this ⊢
  omega
 ·intro t ht
  simp at ht; subst ht
  exact ⟨by omega, by omega, .zero⟩
 ·intro j h; rw [hone j h]; exact .zero
 ·intro j h; rw [hone j h]; simp
 ·exact aF9 (by simp; omega)
structure be5 (c : E7) (ls : List Int) (bs : List Bool) : Prop where
 len : bs.length = c.list.length
 cnt : ls.length + 2 * bs.count false ≤ 2 * c.list.length + 1
 l : ∀ t ∈ ls, 0 ≤ t ∧ t < c.list.length ∧ Rc c t
 sound : ∀ j : Nat, bs[j]? = some true → Rc c j
 zero : bs[0]? = some true ∨ (0 : Int) ∈ ls
 clos : ∀ j : Nat, bs[j]? = some true → ∀ t ∈ nx c j, bs[t.toNat]? = some true ∨ t ∈ ls
theorem be5.start {c : E7} (hc : aC7 c = true) : be5 c [0] (bG6 c.list.length false) := by
 have hn := (ag4 hc).2.1
 refine ⟨by simp, by simp; omega, ?_, ?_, .inr (by simp), ?_⟩
 ·intro t ht
  simp at ht; subst ht
  exact ⟨by omega, by omega, .zero⟩
 ·intro j h; rw [List.getElem?_replicate] at h; split at h <;> simp at h
 ·intro j h; rw [List.getElem?_replicate] at h; split at h <;> simp at h
theorem be5.skip {c : E7} {ls : List Int} {i : Int} {bs : List Bool} (h : be5 c (ls ++ [i]) bs) (hb : bs[i.toNat]? = some true) : be5 c ls bs := by
 refine ⟨h.len, by have := h.cnt; simp at this; omega, fun t ht => h.l t (List.mem_append_left _ ht), h.sound, ?_, ?_⟩
 ·rcases h.zero with h0 | h0
  ·exact .inl h0
  ·rcases bG8.1 h0 with h0 | h0
   ·exact .inr h0
   ·simp at h0; subst h0; exact .inl hb
 ·intro j hj t ht
  rcases h.clos j hj t ht with h1 | h1
  ·exact .inl h1
  ·rcases bG8.1 h1 with h1 | h1
   ·exact .inr h1
   ·simp at h1; subst h1; exact .inl hb
end Go.Proofs.Ytmokkddidcmglaa

namespace Go.Proofs.Ytmokkddidcmglaa
open Go Go.RowKit
section
variable {P : Program} {md : Region.Mode} {C : World → Prop}
def W2 (o : Oper) : Oper := { o with op := .move (.const (.bool false)), guard := none }
theorem aO1 {ops ops' : Array Oper} (hs : ops'.size = ops.size) (h : ∀ i : Nat, (ops'[i]?).map (·.after) = (ops[i]?).map (·.after)) (listed : Array Bool) : Region.ready md ops' listed = Region.ready md ops listed := by
 unfold Region.ready
 rw [hs]
 refine List.filter_congr fun i _ => ?_
 have := h i
 cases h1 : ops'[i]? <;> cases h2 : ops[i]? <;> simp [h1, h2] at this ⊢
 rw [this]
def bd9 (ops : Array Oper) : Bool := (bH0 ops.size).all fun j => (ops[j]?).any fun o => o.after.all fun e => decide (e.on < j)
theorem aN1 {ops : Array Oper} (hb : bd9 ops = true) {listed : Array Bool} (hsz : listed.size = ops.size) : ∀ k, k < ops.size → listed.getD k true = false → Region.ready md ops listed ≠ [] := by
 intro k
 induction k using Nat.strongRecOn with
 | _ k ih =>
  intro hk hl hn
  by_cases hall : ∃ j, j < k ∧ listed.getD j true = false
  ·obtain ⟨j, hj, hlj⟩ := hall
   exact ih j hj (by omega) hlj hn
  ·have hok : ops[k]? = some ops[k] := Array.getElem?_eq_getElem hk
   have : k ∈ Region.ready md ops listed := by
    refine mem_ready.2 ⟨hl, ops[k], hok, fun e he _ => ?_⟩
    have h1 := bF5.1 hb k (List.mem_range.2 hk)
    rw [hok] at h1
    simp only [Option.any_some] at h1
    have h2 := Array.all_eq_true'.1 h1 e he
    simp only [decide_eq_true_eq] at h2
    cases h3 : listed.getD e.on true
    ·exact absurd ⟨e.on, h2, h3⟩ hall
    ·have : e.on < listed.size := by omega
     simp [this] at h3 ⊢
     exact h3
   rw [hn] at this
   cases this
theorem aY3 {ops ops' : Array Oper} {i : Nat} {Q : Exit → Act → World → Prop} {K : Act → World → Prop} {a : Act} {w : World} (h : ops'[i]? = ops[i]?) (hy : yielded ops' a.tmps = yielded ops a.tmps)
  (hh : wpOp P ops' Q i K a w) : wpOp P ops Q i K a w := by
 unfold wpOp at *
 rw [h, hy] at hh
 exact hh
theorem F6 {listed : Array Bool} {i : Nat} (h : listed.getD i true = false) : (listed.setIfInBounds i true).toList.count false + 1 = listed.toList.count false := by
 rw [Array.toList_setIfInBounds]
 refine ax5 ?_
 rcases bH7 i listed.size with h' | h'
 ·simp [h'] at h ⊢; exact h
 ·simp [Array.getElem?_eq_none h'] at h
theorem aE4 {ops : Array Oper} {n : Nat} {o : Oper} (hn : ops.size = n + 1) (ho : ops[n]? = some o) (hdst : o.dst = none) (hs : Region.sinkB md ops n = true) (hc : Region.chainB md ops n = true) (hb : bd9 ops = true)
  {Q : Act → Prop} {Q' : Exit → Act → World → Prop} (hlast : ∀ a w, C w → Q a → wpOp P ops Q' n (Q' .normal) a w) :
  ∀ (fuel : Nat) (listed : Array Bool) (a : Act) (w : World), C w → HeadInv md ops n listed → listed.toList.count false = fuel → wpAnyQ P md (ops.setIfInBounds n (W2 o)) C Q fuel listed a → wpAny P md ops Q' fuel listed a w := by
 have hsame : ∀ i : Nat, i ≠ n → (ops.setIfInBounds n (W2 o))[i]? = ops[i]? := fun i hi => Array.getElem?_setIfInBounds_ne (fun e => hi e.symm)
 have hat : (ops.setIfInBounds n (W2 o))[n]? = some (W2 o) := by simp [hn]
 have hafter : ∀ i : Nat, ((ops.setIfInBounds n (W2 o))[i]?).map (·.after) = (ops[i]?).map (·.after) := fun i => by
  by_cases hi : i = n
  ·subst hi; rw [hat, ho]; rfl
  ·rw [hsame i hi]
 have hready : ∀ listed, Region.ready md (ops.setIfInBounds n (W2 o)) listed = Region.ready md ops listed := aO1 (by simp) hafter
 have hyield : ∀ tmps, yielded (ops.setIfInBounds n (W2 o)) tmps = yielded ops tmps := fun tmps => by
  funext j
  unfold yielded
  by_cases hj : j = n
  ·subst hj; rw [hat, ho]; rfl
  ·rw [hsame j hj]
 intro fuel
 induction fuel with
 | zero =>
  intro listed a w _ inv hcnt _
  have := F6 (inv.tail n (bG4 _) (by omega))
  omega
 | succ f ih =>
  intro listed a w hC inv hcnt h
  obtain ⟨_, h2⟩ := h
  refine ⟨fun h0 => absurd h0 (aN1 hb inv.size n (by omega) (inv.tail n (bG4 _) (by omega))), fun i hi => ?_⟩
  have h3 := h2 i (by rw [hready]; exact hi)
  have hun := (mem_ready.1 hi).1
  have hcl := F6 hun
  rcases bH7 i n with hin | hin
  ·refine aY3 (hsame i (by omega)) (hyield _) (wpOp_of_qOp hC (fun a' w' hC' hK => ih _ a' w' hC' (inv.set hi hin) (by omega) hK) h3)
  ·obtain ⟨_, o', ho', _⟩ := mem_ready.1 hi
   have hisz := (Array.getElem?_eq_some_iff.1 ho').1
   obtain rfl : i = n := by omega
   have hall : ∀ j, j < i → listed.getD j true = true := fun j hj => by
    cases hl : listed.getD j true
    ·exact absurd hi (tail_waits hs hc (by omega) inv _ j rfl hj hl i (bG4 _))
    ·rfl
   have hnone : Region.ready md ops (listed.setIfInBounds i true) = [] := by
    rw [List.eq_nil_iff_forall_not_mem]
    intro j hj
    obtain ⟨hj1, oj, hoj, _⟩ := mem_ready.1 hj
    have hjs := (Array.getElem?_eq_some_iff.1 hoj).1
    by_cases hji : j = i
    ·subst hji; simp [inv.size, hn] at hj1
    ·rw [getD_set_ne true (fun e => hji e.symm), hall j (by omega)] at hj1; cases hj1
   have hQ : Q a := by
    have hK : wpAnyQ P md (ops.setIfInBounds i (W2 o)) C Q f (listed.setIfInBounds i true) a := by
     unfold qOp at h3
     rw [hat] at h3
     simp only at h3
     split at h3
     ·obtain ⟨v, _, h4⟩ := h3
      rwa [show (W2 o).dst = none from hdst] at h4
     ·rwa [show (W2 o).dst = none from hdst] at h3
    cases f with
    | zero => exact hK.2
    | succ f => exact hK.1 (by rw [hready]; exact hnone)
   refine wpOp_mono (fun a' w' hq => ?_) (hlast a w hC hQ)
   cases f with
   | zero => exact ⟨hnone, hq⟩
   | succ f => exact ⟨fun _ => hq, fun j hj => by rw [hnone] at hj; cases hj⟩
def aO4 (l : List Oper) (n : Nat) : Bool :=
 match l[n]? with
 | none => false
 | some o => decide (l.length = n + 1) && o.dst.isNone && Region.sinkB .any l.toArray n && Region.chainB .any l.toArray n && bd9 l.toArray && Region.lexB .any (l.set n (W2 o)).toArray
theorem am3 {id : Nat} {Q : Exit → Act → World → Prop} {a : Act} {w : World} {l : List Oper} (n : Nat) (o : Oper) (ho : l[n]? = some o) (hm : P.follows .mixedOrders = true) (hB : aO4 l n = true) (hC : C { w with drawn := w.drawn + 1 })
  (h : wpQuiet P (l.set n (W2 o)).toArray C (fun a' => ∀ w', C w' → wpList P l.toArray Q [o] a' w') (l.set n (W2 o)) a) : (Code.region id l.toArray true).wp P Q a w := by
 unfold aO4 at hB
 rw [ho] at hB
 simp only [bE8, decide_eq_true_eq, Option.isNone_iff_eq_none] at hB
 obtain ⟨⟨⟨⟨⟨hn, hd⟩, hs⟩, hc⟩, hb⟩, hlex⟩ := hB
 simp only [Region.lexB, bE8] at hlex
 have hn' : l.toArray.size = n + 1 := by simpa using hn
 have ho' : l.toArray[n]? = some o := by simpa using ho
 have inv0 : HeadInv .any l.toArray n (Array.replicate l.toArray.size false) :=
  ⟨by simp, fun j oj _ hl => (by rw [getD_replicate_false] at hl; cases hl), fun t _ ht => getD_in (by simpa using ht) (getD_replicate_false _ _)⟩
 have H := wpAnyQ_lex (P := P) (C := C) (md := .any) hlex.1 (l.set n (W2 o)) 0 (Array.replicate (l.set n (W2 o)).toArray.size false) a (by simp) (by simpa using hlex.2) h
 refine wp_region_any hm (aE4 hn' ho' hd hs hc hb (Q := fun a' => ∀ w', C w' → wpList P l.toArray Q [o] a' w') (fun a' w' hC' hq => ?_) _ _ _ _ hC inv0 (by simp) ?_)
 ·have := hq w' hC'
  unfold wpOp
  simp only [ho']
  exact this
 ·simpa using H
theorem ao3 {id : Nat} {Q : Exit → Act → World → Prop} {a : Act} {w : World} {l : List Oper} (n : Nat) (o : Oper) (ho : l[n]? = some o) (hm : P.follows .mixedOrders = true) (hB : aO4 l n = true)
  (h : wpQuiet P (l.set n (W2 o)).toArray (fun w' => ∃ X, w' = w.ext X) (fun a' => ∀ w', (∃ X, w' = w.ext X) → wpList P l.toArray Q [o] a' w') (l.set n (W2 o)) a) : (Code.region id l.toArray true).wp P Q a w :=
 am3 (C := fun w' => ∃ X, w' = w.ext X) n o ho hm hB (aj3 (w' := w.drew) (Below.refl _ _).drew) h
theorem ac6 {w : World} {b o : Nat} {v : Bool} (hb : b < w.heap.size) (h : w.frozen? ⟨b, o, none⟩ = v) (X : World) : (w.ext X).frozen? ⟨b, o, none⟩ = v := by
 rw [(P7 (t5 w X)).2 b o hb]; exact h
end
abbrev ints (l : List Int) : List Value := l.map (Value.int .i64)
theorem ar4 (l : List Int) (k : Nat) (h : k < l.length) : (ints l)[k]? = some (.int .i64 l[k]) := by simp [ints, h]
def aP9 (K n : Nat) : List Int := (bH0 n).map fun (j : Nat) => ((K : Int) + (j : Int))
abbrev br4 (w : World) (v : Value) (l : List I8) : Prop := K9 w v l.length 5 (ints (aa3 l))
abbrev I8.v (x : I8) : Value := .agg #[.int .i64 x.op, .int .i64 x.a, .int .i64 x.b, .int .i64 x.c, .int .i64 x.d]
def an6 (w : World) (v : Value) (c : E7) : Prop :=
 ∃ v1 v2 v3, v = .agg #[v1, v2, v3] ∧ K9 w v1 c.vars.length 1 (ints c.vars) ∧ K9 w v2 c.arrays.length 1 (ints c.arrays) ∧ br4 w v3 c.list
def P9 (w : World) (lo hi : Nat) (v : Value) (c : E7) : Prop :=
 ∃ v1 v2 v3, v = .agg #[v1, v2, v3] ∧ V7 w lo hi 3 1 v1 c.vars.length (ints c.vars) ∧ V7 w lo hi 3 1 v2 c.arrays.length (ints c.arrays) ∧ V7 w lo hi 122 5 v3 c.list.length (ints (aa3 c.list)) ∧
  aL3 v1 v2 ∧ aL3 v1 v3 ∧ aL3 v2 v3
theorem an6.below {w w' : World} {v : Value} {c : E7} (h : an6 w v c) (hb : Below w.heap.size w w') : an6 w' v c := by
 obtain ⟨v1, v2, v3, rfl, h1, h2, h3⟩ := h
 exact ⟨v1, v2, v3, rfl, h1.below hb, h2.below hb, h3.below hb⟩
theorem P9.row {w : World} {lo hi : Nat} {v : Value} {c : E7} (h : P9 w lo hi v c) : an6 w v c := by
 obtain ⟨v1, v2, v3, rfl, h1, h2, h3, _⟩ := h
 exact ⟨v1, v2, v3, rfl, h1.row, h2.row, h3.row⟩
theorem P9.keep {w w' : World} {lo hi B : Nat} {v : Value} {c : E7} (h : P9 w lo hi v c) (hb : Below B w w') (hB : hi ≤ B) : P9 w' lo hi v c := by
 obtain ⟨v1, v2, v3, rfl, h1, h2, h3, hd⟩ := h
 exact ⟨v1, v2, v3, rfl, h1.keep hb hB, h2.keep hb hB, h3.keep hb hB, hd⟩
theorem P9.out {w w' : World} {lo hi lo' hi' : Nat} {v : Value} {c : E7} (h : P9 w lo hi v c) (hb : Out lo' hi' w w') (hB : hi ≤ lo' ∨ hi' ≤ lo) : P9 w' lo hi v c := by
 obtain ⟨v1, v2, v3, rfl, h1, h2, h3, hd⟩ := h
 exact ⟨v1, v2, v3, rfl, h1.out hb hB, h2.out hb hB, h3.out hb hB, hd⟩
def aj5 (w : World) (v : Value) (K nv na nl : Nat) : Prop :=
 ∃ v1 v2 v3, v = .agg #[v1, v2, v3] ∧ K9 w v1 nv 1 (ints (aP9 K nv)) ∧ K9 w v2 na 1 (ints (aP9 (K + nv) na)) ∧ K9 w v3 nl 5 (ints (aP9 (K + nv + na) (nl * 5)))
theorem aj5.below {w w' : World} {v : Value} {K nv na nl : Nat} (h : aj5 w v K nv na nl) (hb : Below w.heap.size w w') : aj5 w' v K nv na nl := by
 obtain ⟨v1, v2, v3, rfl, h1, h2, h3⟩ := h
 exact ⟨v1, v2, v3, rfl, h1.below hb, h2.below hb, h3.below hb⟩
theorem aG3 {P : Program} {w : World} {lo : Nat} {t ty e : TypeId} {i : TypeInfo} {size : Nat} (ht : P.underlying t = some (.slice e)) (hi : P.info? e = some i)
  {v : Value} {n : Nat} {xs : List Value} (hown : w.ownsRow lo e size v n xs) (c : Nat) : (Builtin.append_ #[t, t] ty #[v, .slice none 0 c]).run P w = .ok v w := by
 obtain ⟨_, h⟩ := hown
 rcases h with ⟨rfl, rfl⟩ | ⟨g, cap, cur, rfl, _, _, hnc, _⟩
 ·simp [Builtin.append_, run_underlying ht, sizeOf, typeInfo, hi, Builtin.lenOf, Builtin.firstCells]
 ·simp [Builtin.append_, run_underlying ht, sizeOf, typeInfo, hi, Builtin.lenOf, Builtin.firstCells, hnc, storeCells]
theorem aw6 {w : World} {lo : Nat} {e : TypeId} {sz : Nat} {v : Value} {n : Nat} {xs : List Value} (h : w.ownsRow lo e sz v n xs) : ∃ a k, v = .slice a n k := by
 rcases h.2 with ⟨rfl, rfl⟩ | ⟨g, cap, cur, rfl, _⟩
 ·exact ⟨_, _, rfl⟩
 ·exact ⟨_, _, rfl⟩
theorem af0 {P : Program} {w : World} {lo : Nat} {t ty e : TypeId} {z : Value} {size bytes : Nat} (ht : P.underlying t = some (.slice e)) (hi : (P.info? e).map (fun i => (i.zero, i.size, i.bytes)) = some (some z, size, bytes))
  (hzs : z.cells.size = size) (hsz : 0 < size) {v : Value} {n : Nat} {xs : List Value} (hown : w.ownsRow lo e size v n xs) {u : Value} {m : Nat} {news : List Value} (hr : K9 w u m size news) (h1 : ∀ u ∈ news, u.oneCell' = true)
  (h63 : n + m ≤ 9223372036854775807) (hbytes : (n + m) * bytes ≤ 140737488355328) (hbase : lo ≤ w.heap.size) :
  ∃ a' k' w', (Builtin.append_ #[t, t] ty #[v, u]).run P w = .ok (.slice a' (n + m) k') w' ∧ w'.ownsRow lo e size (.slice a' (n + m) k') (n + m) (xs ++ news) ∧ Below lo w w' ∧ w.grownBy w' v.ownBlock ∧ (∀ g, (Value.slice a' (n + m) k').ownBlock = some g → v.ownBlock = some g ∨ w.heap.size ≤ g) := by
 obtain ⟨i, g1, g2, g3, g4⟩ := info_parts hi
 obtain ⟨hl, A, c, rfl, hmc, hc, hA⟩ := hr
 have below_of : ∀ {w' : World}, w.grownBy w' v.ownBlock → Below lo w w' := fun {w'} hg => by
  refine ⟨hg.os, hg.tape, hg.output, hg.size, fun k hk => hg.block k (by omega) fun he => ?_⟩
  have := hown.lt k he.symm
  omega
 rcases A with _ | a
 ·have hm : m = 0 := by
   rcases Nat.eq_zero_or_pos m with h0 | h0
   ·exact h0
   ·obtain ⟨_, _, he, _⟩ := hA h0; cases he
  subst hm
  have hn : news = [] := List.eq_nil_of_length_eq_zero (by simpa using hl)
  subst hn
  obtain ⟨a', k', rfl⟩ := aw6 hown
  exact ⟨a', k', w, aG3 ht g1 hown c, by simpa using hown, Below.refl _ _, ⟨rfl, rfl, rfl, bG4 _, fun _ _ _ => rfl⟩, fun g hg => .inl hg⟩
 ·have hcells : ∀ j u, news[j]? = some u → w.cell? (a.add j) = some u := by
   intro j u hu
   have h0 : 0 < m := by
    rcases Nat.eq_zero_or_pos m with h0 | h0
    ·subst h0
     have hn : news = [] := List.eq_nil_of_length_eq_zero (by simpa using hl)
     subst hn; simp at hu
    ·exact h0
   obtain ⟨b, off, he, hb, hx⟩ := hA h0
   cases he
   have hadd : (⟨b, off, none⟩ : Addr).add j = ⟨b, off + j, none⟩ := by unfold Addr.add; split <;> simp_all
   rw [hadd]
   exact hx j u hu
  obtain ⟨v', w', hrun, h2, h3, _, h5⟩ := run_append_own_at (P := P) w lo t ty e i z size bytes ht g1 g2 g3 g4 hzs hsz v n xs hown a m c news hl hcells h1 (by unfold maxLen; omega) hbytes hbase
  obtain ⟨a', k', rfl⟩ := aw6 h2
  exact ⟨a', k', w', hrun, h2, below_of h3, h3, fun g hg => h5.elim (fun h => .inl (h ▸ hg)) fun h => .inr (by rw [h] at hg; cases hg; exact bG4 _)⟩
theorem ao5 {P : Program} {w : World} {ops : Array Oper} {rest : List Oper} {o : Oper} {a : Act} {Q : Exit → Act → World → Prop} {lo : Nat} {t e : TypeId} {z : Value} {size bytes : Nat} {v : Value} {n : Nat} {xs : List Value} {u : Value} {m : Nat} {news : List Value}
  (hgd : o.guard = none) (s x : Operand) (ho : o.op = .call { callee := .builtin .append, args := #[s, x], argTypes := #[t, t] })
  (ht : P.underlying t = some (.slice e)) (hi : (P.info? e).map (fun i => (i.zero, i.size, i.bytes)) = some (some z, size, bytes))
  (hzs : z.cells.size = size) (hsz : 0 < size) (hs : a.eval s = v) (hown : w.ownsRow lo e size v n xs) (hx : a.eval x = u) (hr : K9 w u m size news) (h1 : ∀ u ∈ news, u.oneCell' = true)
  (h63 : n + m ≤ 9223372036854775807) (hbytes : (n + m) * bytes ≤ 140737488355328) (hbase : lo ≤ w.heap.size)
  (h : ∀ a' k' w', w'.ownsRow lo e size (.slice a' (n + m) k') (n + m) (xs ++ news) → Below lo w w' → w.grownBy w' v.ownBlock → (∀ g, (Value.slice a' (n + m) k').ownBlock = some g → v.ownBlock = some g ∨ w.heap.size ≤ g) → wpList P ops Q rest (a.put o.dst (.slice a' (n + m) k')) w') : wpList P ops Q (o :: rest) a w := by
 refine wpList_plain hgd fun K hK => ?_
 obtain ⟨a', k', w', hrun, h2, h3, h4, h5⟩ := af0 (ty := o.type) ht hi hzs hsz hown hr h1 h63 hbytes hbase
 unfold Oper.wp execOp
 simp only [ho, resolve, invoke, builtin, Sem.run_bind, Sem.run_pure, Result.andThen_ok, List.map_toArray, bH5, List.map_nil, hs, hx, hrun]
 exact hK _ _ (h a' k' w' h2 h3 h4 h5)
section
variable {P : Program}
theorem ah1 {x : Oper} {a : Act} {w : World} {K : Act → World → Prop} {Q Q0 : Exit → Act → World → Prop} (h0 : ∀ e a w, Q0 e a w → e = .normal) (h : x.wp P a w K Q0) : x.wp P a w K Q := by
 unfold Oper.wp at *
 generalize (execOp a.eval x).run P w = r at *
 cases r with
 | ok n w' =>
  cases n <;> simp only [Oper.upon] at h ⊢ <;>
   first
    | exact h
    | exact Calls.mono h (fun e w'' he => by
      cases e
      ·exact he
      ·exact absurd (h0 _ _ _ he) (by simp)
      ·obtain ⟨a, w, hq⟩ := he; exact absurd (h0 _ _ _ hq) (by simp))
 | halt y w' =>
  cases y <;> simp only [Oper.upon] at h ⊢ <;> first | exact h | exact absurd (h0 _ _ _ h) (by simp)
end
def J6 (f : Nat → Value) (i : Nat) (v : Value) : Nat → Value := fun k => if k = i then v else f k
section
variable {P : Program}
def j4 (a : Act) : List Oper → Nat → (Nat → Value) → Act
 | [], _, _ => a
 | o :: r, k, f => j4 (a.put o.dst (f k)) r (k + 1) f
def aJ2 : List Oper → Bool
 | [] => true
 | o :: r => (match o.dst with | none => true | some d => r.all fun q => q.dst != some d) && aJ2 r
theorem a65 (a : Act) (d : Option Tmp) : a.put d (match d with | some t => a.tmps.getD t undef | none => undef) = a := by
 cases d with
 | none => rfl
 | some t =>
  cases a
  rename_i ts ds
  simp only [Act.put, Act.mk.injEq, and_true]
  apply Array.ext (by simp)
  intro i h1 h2
  by_cases e : t = i
  ·subst e; simp [h2]
  ·simp only [Array.getElem_setIfInBounds_ne h2 e]
theorem bg8 (a : Act) (d : Option Tmp) (v u : Value) : (a.put d v).put d u = a.put d u := by
 cases d with
 | none => rfl
 | some t => simp [Act.put]
theorem al4 (l : List Oper) : ∀ (a : Act) (k : Nat), ∃ f, a = j4 a l k f := by
 induction l with
 | nil => intro a k; exact ⟨fun _ => undef, rfl⟩
 | cons o r ih =>
  intro a k
  obtain ⟨f, hf⟩ := ih a (k + 1)
  refine ⟨fun i => if i = k then (match o.dst with | some t => a.tmps.getD t undef | none => undef) else f i, ?_⟩
  have key : ∀ (l : List Oper) (a : Act) (m : Nat) (f g : Nat → Value), (∀ i, m ≤ i → f i = g i) → j4 a l m f = j4 a l m g := by
   intro l
   induction l with
   | nil => intros; rfl
   | cons o r ih => intro a m f g h; simp only [j4]; rw [h m (bG4 _)]; exact ih _ _ _ _ fun i hi => h i (by omega)
  simp only [j4, if_true]
  rw [a65, key r a (k + 1) _ f fun i hi => if_neg (by omega)]
  exact hf
theorem aO6 (l : List Oper) : ∀ (a : Act) (k : Nat) (f : Nat → Value) (d : Option Tmp) (v : Value), (∀ t, d = some t → l.all fun q => q.dst != some t) → (j4 a l k f).put d v = j4 (a.put d v) l k f := by
 induction l with
 | nil => intros; rfl
 | cons o r ih =>
  intro a k f d v h
  simp only [j4]
  rw [ih _ _ _ _ _ fun t ht => (by have := h t ht; simp only [List.all_cons, bE8] at this; exact this.2)]
  congr 1
  refine (Act.put_comm a v (f k) fun t ht he => ?_).symm
  have := h t ht
  simp [he] at this
theorem aq1 (l : List Oper) : ∀ (a : Act) (k i : Nat) (f : Nat → Value) (o : Oper) (v : Value), aJ2 l = true → l[i]? = some o → j4 a l k (J6 f (k + i) v) = (j4 a l k f).put o.dst v := by
 induction l with
 | nil => intro a k i f o v _ h; simp at h
 | cons q r ih =>
  intro a k i f o v hd h
  simp only [aJ2, bE8] at hd
  cases i with
  | zero =>
   simp at h
   subst h
   simp only [j4, Nat.add_zero]
   rw [aO6 r _ _ _ _ _ fun t ht => (by have := hd.1; rw [ht] at this; exact this), bg8]
   have key : ∀ (l : List Oper) (a : Act) (m : Nat) (f g : Nat → Value), (∀ i, m ≤ i → f i = g i) → j4 a l m f = j4 a l m g := by
    intro l
    induction l with
    | nil => intros; rfl
    | cons o r ih => intro a m f g h; simp only [j4]; rw [h m (bG4 _)]; exact ih _ _ _ _ fun i hi => h i (by omega)
   rw [show J6 f k v k = v by simp [J6]]
   exact key _ _ _ _ _ fun i hi => by simp only [J6]; rw [if_neg (by omega)]
  | succ i =>
   simp only [j4]
   rw [show k + (i + 1) = (k + 1) + i by omega, ih _ _ _ _ _ _ hd.2 (by simpa using h)]
   rw [show J6 f (k + 1 + i) v k = f k by simp only [J6]; rw [if_neg (by omega)]]
structure bE7 (mk : (Nat → Value) → Act) (C : World → Prop) (R : Nat → Value → World → Prop) (n : Nat) (listed : Array Bool) (f : Nat → Value) (a : Act) (w : World) : Prop where
 act : a = mk f
 cls : C w
 val : ∀ i, i < n → listed.getD i false = true → R i (f i) w
end
theorem o3 {f : Nat → Value} {i : Nat} {v : Value} (h : f i = v) : ∃ g, f = J6 g i v := ⟨f, by funext k; simp only [J6]; split; rename_i e; subst e; exact h; rfl⟩
theorem o7 {Q : Exit → Act → World → Prop} {a a' : Act} {w : World} (h : Q .normal a w) (e : a = a') : Q .normal a' w := e ▸ h
def O1 (φ φ' : Nat → Prop) (w w' : World) : Prop := w.heap.size ≤ w'.heap.size ∧ ∀ b, b < w.heap.size → φ b → φ' b ∧ w'.heap[b]? = w.heap[b]?
def U6 (R : World → (Nat → Prop) → Prop) : Prop := ∀ w w' φ φ', O1 φ φ' w w' → R w φ → R w' φ'
theorem O1.below {φ : Nat → Prop} {w w' : World} (h : Below w.heap.size w w') : O1 φ φ w w' := ⟨h.size, fun b hb hf => ⟨hf, h.block b hb⟩⟩
theorem O1.mono {φ φ' : Nat → Prop} {w : World} (h : ∀ b, b < w.heap.size → φ b → φ' b) : O1 φ φ' w w := ⟨bG4 _, fun b hb hf => ⟨h b hb hf, rfl⟩⟩
theorem O1.cell {φ φ' : Nat → Prop} {w w' : World} (h : O1 φ φ' w w') {b o : Nat} (hb : b < w.heap.size) (hf : φ b) : w'.cell? ⟨b, o, none⟩ = w.cell? ⟨b, o, none⟩ := by
 simp only [World.cell?, (h.2 b hb hf).2]
def w3 (w : World) (φ : Nat → Prop) (v : Value) (n sz : Nat) (xs : List Value) : Prop :=
 xs.length = n * sz ∧ ∃ a cap, v = .slice a n cap ∧ n ≤ cap ∧ cap ≤ maxLen ∧
  (0 < n → ∃ b off, a = some ⟨b, off, none⟩ ∧ b < w.heap.size ∧ φ b ∧ ∀ j u, xs[j]? = some u → w.cell? ⟨b, off + j, none⟩ = some u)
theorem w3.nice (v : Value) (n sz : Nat) (xs : List Value) : U6 fun w φ => w3 w φ v n sz xs := by
 rintro w w' φ φ' ha ⟨hl, a, cap, rfl, h1, h2, h3⟩
 refine ⟨hl, a, cap, rfl, h1, h2, fun hn => ?_⟩
 obtain ⟨b, off, rfl, hb, hf, hc⟩ := h3 hn
 exact ⟨b, off, rfl, Nat.lt_of_lt_of_le hb ha.1, (ha.2 b hb hf).1, fun j u hj => (ha.cell hb hf).trans (hc j u hj)⟩
theorem w3.row {w : World} {φ : Nat → Prop} {v : Value} {n sz : Nat} {xs : List Value} (h : w3 w φ v n sz xs) : K9 w v n sz xs := by
 obtain ⟨hl, a, cap, rfl, h1, h2, h3⟩ := h
 refine ⟨hl, a, cap, rfl, h1, h2, fun hn => ?_⟩
 obtain ⟨b, off, rfl, hb, _, hc⟩ := h3 hn
 exact ⟨b, off, rfl, hb, hc⟩
theorem K9.rowF {w : World} {v : Value} {n sz : Nat} {xs : List Value} (h : K9 w v n sz xs) {φ : Nat → Prop} (hf : ∀ b, b < w.heap.size → φ b) : w3 w φ v n sz xs := by
 obtain ⟨hl, a, cap, rfl, h1, h2, h3⟩ := h
 refine ⟨hl, a, cap, rfl, h1, h2, fun hn => ?_⟩
 obtain ⟨b, off, rfl, hb, hc⟩ := h3 hn
 exact ⟨b, off, rfl, hb, hf b hb, hc⟩
theorem w3.nil (w : World) (φ : Nat → Prop) (sz : Nat) : w3 w φ (.slice none 0 0) 0 sz [] := ⟨by simp, none, 0, rfl, bG4 _, by unfold maxLen; omega, fun h => absurd h (by omega)⟩
theorem A0 {w : World} {lo : Nat} {e : TypeId} {sz : Nat} {v : Value} {n : Nat} {xs : List Value} (h : w.ownsRow lo e sz v n xs) {φ : Nat → Prop} (hf : ∀ g, v.ownBlock = some g → φ g) : w3 w φ v n sz xs := by
 obtain ⟨hl, a, cap, hv, h1, h2, h3⟩ := R8 h
 refine ⟨hl, a, cap, hv, h1, h2, fun hn => ?_⟩
 obtain ⟨b, off, he, hb, hc⟩ := h3 hn
 refine ⟨b, off, he, hb, ?_, hc⟩
 rcases h.2 with ⟨hv', h0⟩ | ⟨g, cap', cur, hv', _⟩
 ·omega
 ·rw [hv'] at hv
  cases hv
  cases he
  exact hf _ (by rw [hv']; rfl)
inductive K3 where
 | box (b : Nat) (cs : List Value)
 | row (e : TypeId) (sz : Nat) (v : Value) (n : Nat) (xs : List Value)
 | dat (R : World → (Nat → Prop) → Prop)
 | own (S : Nat → Prop) (R : World → Prop)
def K3.blk : K3 → Nat → Prop
 | .box b _ => fun g => g = b
 | .row _ _ v _ _ => fun g => v.ownBlock = some g
 | .dat _ => fun _ => False
 | .own S _ => S
def Fr (φ : Nat → Prop) (L : List K3) (b : Nat) : Prop := φ b ∧ ∀ r ∈ L, ¬ r.blk b
def K3.holds (w : World) (φ : Nat → Prop) : K3 → Prop
 | .box b cs => R1 w b cs
 | .row e sz v n xs => w.ownsRow 0 e sz v n xs
 | .dat R => U6 R ∧ R w φ
 | .own S R => (∀ w w', R w → (∀ b, S b → b < w.heap.size → w'.heap[b]? = w.heap[b]?) → R w') ∧ R w ∧ ∀ b, S b → b < w.heap.size
structure y6 (ψ : Nat → Prop) (w w' : World) : Prop where
 os : w'.os = w.os
 tape : w'.tape = w.tape
 output : w'.output = w.output
 size : w.heap.size ≤ w'.heap.size
 block : ∀ b, b < w.heap.size → ψ b → w'.heap[b]? = w.heap[b]?
theorem y6.refl (ψ : Nat → Prop) (w : World) : y6 ψ w w := ⟨rfl, rfl, rfl, bG4 _, fun _ _ _ => rfl⟩
theorem y6.trans {ψ : Nat → Prop} {a b c : World} (h : y6 ψ a b) (k : y6 ψ b c) : y6 ψ a c :=
 ⟨k.os.trans h.os, k.tape.trans h.tape, k.output.trans h.output, bH6 h.size k.size, fun i hi hp => (k.block i (Nat.lt_of_lt_of_le hi h.size) hp).trans (h.block i hi hp)⟩
theorem y6.of_below {ψ : Nat → Prop} {w w' : World} {B : Nat} (h : Below B w w') (hB : ∀ b, b < w.heap.size → ψ b → b < B) : y6 ψ w w' := ⟨h.os, h.tape, h.output, h.size, fun b hb hp => h.block b (hB b hb hp)⟩
theorem y6.below {w w' : World} {ψ : Nat → Prop} (h : y6 ψ w w') (hp : ∀ b, b < w.heap.size → ψ b) : Below w.heap.size w w' := ⟨h.os, h.tape, h.output, h.size, fun b hb => h.block b hb (hp b hb)⟩
structure m0 (φ ψ : Nat → Prop) (w0 w : World) (L : List K3) : Prop where
 kept : y6 ψ w0 w
 fresh : ∀ b, w0.heap.size ≤ b → φ b
 holds : ∀ (r : K3), r ∈ L → r.holds w (Fr φ L)
 dis : ∀ (i j : Nat) (a b : K3) (g : Nat), L[i]? = some a → L[j]? = some b → i ≠ j → a.blk g → ¬ b.blk g
 ge : ∀ (r : K3) (b : Nat), r ∈ L → r.blk b → w0.heap.size ≤ b ∨ ¬ ψ b
section
variable {φ ψ : Nat → Prop} {w0 w w' : World} {L : List K3}
theorem m0.start (hf : ∀ b, w0.heap.size ≤ b → φ b) : m0 φ ψ w0 w0 [] := ⟨y6.refl _ _, hf, (fun _ h => by cases h), (fun i j a b g h => by simp at h), (fun _ _ h => by cases h)⟩
theorem K3.lt {r : K3} (h : r.holds w φ) {b : Nat} (hb : r.blk b) : b < w.heap.size := by
 cases r with
 | box b' cs => cases hb; exact R1.lt h
 | row e sz v n xs => exact (World.ownsRow.lt h b hb).2
 | dat R => cases hb
 | own S R => exact h.2.2 b hb
theorem m0.lt (M : m0 φ ψ w0 w L) {r : K3} (hr : r ∈ L) {b : Nat} (hb : r.blk b) : b < w.heap.size := K3.lt (M.holds r hr) hb
theorem m0.size (M : m0 φ ψ w0 w L) : w0.heap.size ≤ w.heap.size := M.kept.size
theorem m0.below (M : m0 φ ψ w0 w L) (hp : ∀ b, b < w0.heap.size → ψ b) : Below w0.heap.size w0 w := M.kept.below hp
theorem K3.keep {φ' : Nat → Prop} {r : K3} (h : r.holds w φ) (ha : O1 φ φ' w w') (hb : ∀ b, r.blk b → w'.heap[b]? = w.heap[b]?) : r.holds w' φ' := by
 cases r with
 | box b cs => obtain ⟨T, h⟩ := h; exact ⟨T, (hb b rfl).trans h⟩
 | row e sz v n xs => exact (V7.same (lo := 0) (hi := w.heap.size) ⟨h, fun g hg => (World.ownsRow.lt h g hg).2⟩ hb).1
 | dat R => exact ⟨h.1, h.1 _ _ _ _ ha h.2⟩
 | own S R => exact ⟨h.1, h.1 _ _ h.2.1 fun b hs _ => hb b hs, fun b hs => Nat.lt_of_lt_of_le (h.2.2 b hs) ha.1⟩
theorem m0.call (M : m0 φ ψ w0 w L) (b : Below w.heap.size w w') : m0 φ ψ w0 w' L :=
 ⟨M.kept.trans (y6.of_below b fun _ h _ => h), M.fresh, fun r hr => K3.keep (M.holds r hr) (O1.below b) fun g hg => b.block g (M.lt hr hg), M.dis, M.ge⟩
theorem m0.drew (M : m0 φ ψ w0 w L) : m0 φ ψ w0 w.drew L := M.call (Below.refl _ _).drew
theorem Fr.snoc {r : K3} {b : Nat} : Fr φ (L ++ [r]) b ↔ Fr φ L b ∧ ¬ r.blk b := by
 unfold Fr
 constructor
 ·rintro ⟨h1, h2⟩; exact ⟨⟨h1, fun x hx => h2 x (by simp [hx])⟩, h2 r (by simp)⟩
 ·rintro ⟨⟨h1, h2⟩, h3⟩
  refine ⟨h1, fun x hx => ?_⟩
  simp only [bG8, bH4] at hx
  rcases hx with hx | rfl
  ·exact h2 x hx
  ·exact h3
theorem m0.add (M : m0 φ ψ w0 w L) (b : Below w.heap.size w w') (r : K3) (h : r.holds w' (Fr φ (L ++ [r]))) (hg : ∀ g, r.blk g → w.heap.size ≤ g) : m0 φ ψ w0 w' (L ++ [r]) := by
 have M' := M.call b
 refine ⟨M'.kept, M.fresh, fun x hx => ?_, fun i j x y g hi hj hij hx hy => ?_, fun x g hx hxg => ?_⟩
 ·simp only [bG8, bH4] at hx
  rcases hx with hx | rfl
  ·exact K3.keep (M.holds x hx) ⟨b.size, fun c hc hf => ⟨Fr.snoc.2 ⟨hf, fun he => by have := hg c he; omega⟩, b.block c hc⟩⟩ fun g hgx => b.block g (M.lt hx hgx)
  ·exact h
 ·have lt : ∀ (k : Nat) (z : K3), (L ++ [r])[k]? = some z → (k < L.length ∧ L[k]? = some z) ∨ (k = L.length ∧ z = r) := by
   intro k z hz
   rcases bH7 k L.length with hk | hk
   ·rw [bH1 hk] at hz; exact .inl ⟨hk, hz⟩
   ·rw [bI6 hk] at hz
    have : k - L.length = 0 := by
     rcases Nat.eq_zero_or_pos (k - L.length) with h | h
     ·exact h
     ·rw [bH2 (by rw [List.length_singleton]; exact h)] at hz; cases hz
    rw [this] at hz; simp at hz
    exact .inr ⟨by omega, hz.symm⟩
  rcases lt i x hi with ⟨hi', h1⟩ | ⟨hi', rfl⟩ <;> rcases lt j y hj with ⟨hj', h2⟩ | ⟨hj', rfl⟩
  ·exact M.dis i j x y g h1 h2 hij hx hy
  ·have := M.lt (bE9 h1) hx; have := hg g hy; omega
  ·have := M.lt (bE9 h2) hy; have := hg g hx; omega
  ·omega
 ·simp only [bG8, bH4] at hx
  rcases hx with hx | rfl
  ·exact M.ge x g hx hxg
  ·exact .inl (bH6 M.size (hg g hxg))
theorem m0.box (M : m0 φ ψ w0 w L) (cs : List Value) (T : TypeId) : m0 φ ψ w0 (w.alloc (.cells cs.toArray T)) (L ++ [.box w.heap.size cs]) :=
 M.add ((Below.refl _ _).alloc (bG4 _) _) _ (R1.new w cs T) fun g hg => by cases hg; exact bG4 _
theorem m0.box' (M : m0 φ ψ w0 w L) (cs : List Value) (T : TypeId) {b : Nat} (hb : b = w.heap.size) : m0 φ ψ w0 (w.alloc (.cells cs.toArray T)) (L ++ [.box b cs]) := by subst hb; exact M.box cs T
theorem m0.dat (M : m0 φ ψ w0 w L) {R : World → (Nat → Prop) → Prop} (hn : U6 R) (h : R w (Fr φ L)) : m0 φ ψ w0 w (L ++ [.dat R]) :=
 M.add (Below.refl _ _) _ ⟨hn, hn _ _ _ _ (O1.mono fun b _ hf => Fr.snoc.2 ⟨hf, fun h => by cases h⟩) h⟩ fun g hg => by cases hg
theorem m0.nil (M : m0 φ ψ w0 w L) (e : TypeId) (sz : Nat) : m0 φ ψ w0 w (L ++ [.row e sz (.slice none 0 0) 0 []]) :=
 M.add (Below.refl _ _) _ (World.ownsRow_nil _ _ _ _) fun g hg => by cases hg
theorem Fr.set {r : K3} {i : Nat} {a : K3} (_hi : L[i]? = some a) {b : Nat} (h : Fr φ L b) (hr : ¬ r.blk b) : Fr φ (L.set i r) b :=
 ⟨h.1, fun x hx => by
  rcases List.mem_or_eq_of_mem_set hx with hx | rfl
  ·exact h.2 x hx
  ·exact hr⟩
theorem m0.put (M : m0 φ ψ w0 w L) {i : Nat} {a : K3} (hi : L[i]? = some a) (r : K3) (hk : y6 (fun b => ¬ a.blk b) w w') (h : r.holds w' (Fr φ (L.set i r))) (hg : ∀ g, r.blk g → a.blk g ∨ w.heap.size ≤ g) : m0 φ ψ w0 w' (L.set i r) := by
 have hil := (bF6.1 hi).1
 have ha := bE9 hi
 have get : ∀ (j : Nat) (z : K3), (L.set i r)[j]? = some z → (j ≠ i ∧ L[j]? = some z) ∨ (j = i ∧ z = r) := by
  intro j z hz
  by_cases e : j = i
  ·subst e; rw [List.getElem?_set_self hil] at hz; exact .inr ⟨rfl, (Option.some.inj hz).symm⟩
  ·rw [List.getElem?_set_ne (fun h => e h.symm)] at hz; exact .inl ⟨e, hz⟩
 refine ⟨⟨hk.os.trans M.kept.os, hk.tape.trans M.kept.tape, hk.output.trans M.kept.output, bH6 M.size hk.size, fun b hb hp => (hk.block b (Nat.lt_of_lt_of_le hb M.size) fun he => ?_).trans (M.kept.block b hb hp)⟩, M.fresh, fun x hx => ?_, fun j k x y g hj hk' hjk hx hy => ?_, fun x g hx hxg => ?_⟩
 ·rcases M.ge a b ha he with h' | h'
  ·omega
  ·exact h' hp
 ·obtain ⟨j, hj⟩ := List.mem_iff_getElem?.1 hx
  rcases get j x hj with ⟨hne, hj'⟩ | ⟨_, rfl⟩
  ·refine K3.keep (M.holds x (bE9 hj')) ⟨hk.size, fun b hb hf => ⟨Fr.set hi hf fun he => ?_, hk.block b hb (hf.2 a ha)⟩⟩ fun g hgx => hk.block g (M.lt (bE9 hj') hgx) fun he => M.dis i j a x g hi hj' (fun e => hne e.symm) he hgx
   rcases hg b he with h' | h'
   ·exact hf.2 a ha h'
   ·omega
  ·exact h
 ·rcases get j x hj with ⟨hne, hj'⟩ | ⟨e1, rfl⟩ <;> rcases get k y hk' with ⟨hne', hk''⟩ | ⟨e2, rfl⟩
  ·exact M.dis j k x y g hj' hk'' hjk hx hy
  ·rcases hg g hy with h' | h'
   ·exact M.dis j i x a g hj' hi hne hx h'
   ·have := M.lt (bE9 hj') hx; omega
  ·rcases hg g hx with h' | h'
   ·exact M.dis i k a y g hi hk'' (fun e => hne' e.symm) h' hy
   ·have := M.lt (bE9 hk'') hy; omega
  ·omega
 ·obtain ⟨j, hj⟩ := List.mem_iff_getElem?.1 hx
  rcases get j x hj with ⟨hne, hj'⟩ | ⟨_, rfl⟩
  ·exact M.ge x g (bE9 hj') hxg
  ·rcases hg g hxg with h' | h'
   ·exact M.ge a g ha h'
   ·exact .inl (bH6 M.size h')
theorem y6.mono {ψ ψ' : Nat → Prop} {w w' : World} (h : y6 ψ w w') (hp : ∀ b, ψ' b → ψ b) : y6 ψ' w w' := ⟨h.os, h.tape, h.output, h.size, fun b hb hp' => h.block b hb (hp b hp')⟩
theorem y6.setCell (w : World) (b j : Nat) (u : Value) : y6 (fun c => ¬ c = b) w (w.setCell ⟨b, j, none⟩ u) :=
 ⟨rfl, rfl, rfl, by simp [World.setCell], fun c _ hc => Below.heap_setCell _ _ _ _ hc⟩
theorem m0.set (M : m0 φ ψ w0 w L) (i : Nat) {b : Nat} {cs : List Value} (hi : L[i]? = some (.box b cs)) (j : Nat) (u : Value) : m0 φ ψ w0 (w.setCell ⟨b, j, none⟩ u) (L.set i (.box b (cs.set j u))) :=
 M.put hi _ (y6.setCell w b j u) (R1.set (M.holds _ (bE9 hi)) u) fun _ hg => .inl hg
theorem m0.setFrom (us : List Value) : ∀ {w : World} {L : List K3} {p : Nat} {cs : List Value}, m0 φ ψ w0 w L → ∀ (i : Nat) {b : Nat}, L[i]? = some (.box b cs) → m0 φ ψ w0 (World.setFrom w b p us) (L.set i (.box b (Go.Proofs.Ytmokkddidcmglaa.setFrom cs p us))) := by
 induction us with
 | nil =>
  intro w L p cs M i b hi
  have : L.set i (.box b cs) = L := by
   apply List.ext_getElem?
   intro j
   rw [List.getElem?_set]
   split
   ·rename_i e; subst e; rw [if_pos (bF6.1 hi).1, hi]
   ·rfl
  show m0 φ ψ w0 w (L.set i (.box b cs))
  rw [this]; exact M
 | cons u r ih =>
  intro w L p cs M i b hi
  have h1 := M.set i hi p u
  have h2 := ih (p := p + 1) h1 i (by rw [List.getElem?_set_self (bF6.1 hi).1])
  rw [List.set_set] at h2
  exact h2
theorem aG1 {cs us : List Value} (h : us.length = cs.length) : Go.Proofs.Ytmokkddidcmglaa.setFrom cs 0 us = us := by
 have h1 := ae8 us cs 0 (by omega)
 rw [bI4, bF9 (by rw [C8]; omega)] at h1
 simpa using h1
theorem m0.fill (M : m0 φ ψ w0 w L) (i : Nat) {b : Nat} {cs : List Value} (hi : L[i]? = some (.box b cs)) (us : List Value) (h : us.length = cs.length) : m0 φ ψ w0 (World.setFrom w b 0 us) (L.set i (.box b us)) := by
 have h1 := M.setFrom us (p := 0) i hi
 rwa [aG1 h] at h1
theorem m0.callB (M : m0 φ ψ w0 w L) (i : Nat) {b : Nat} {cs cs' : List Value} (hi : L[i]? = some (.box b cs)) (hk : y6 (fun c => ¬ c = b) w w') (h : R1 w' b cs') : m0 φ ψ w0 w' (L.set i (.box b cs')) :=
 M.put hi _ hk h fun _ hg => .inl hg
theorem m0.app (M : m0 φ ψ w0 w L) (i : Nat) {e : TypeId} {sz : Nat} {v v' : Value} {n n' : Nat} {xs xs' : List Value} (hi : L[i]? = some (.row e sz v n xs)) (h : w'.ownsRow 0 e sz v' n' xs') (hg : w.grownBy w' v.ownBlock) (hb : ∀ g, v'.ownBlock = some g → v.ownBlock = some g ∨ w.heap.size ≤ g) :
  m0 φ ψ w0 w' (L.set i (.row e sz v' n' xs')) :=
 M.put hi _ ⟨hg.os, hg.tape, hg.output, hg.size, fun b hb hn => hg.block b hb fun h => hn h.symm⟩ h hb
theorem m0.callO (M : m0 φ ψ w0 w L) (b : Below w.heap.size w w') {S : Nat → Prop} {R : World → Prop} (hR : ∀ w w', R w → (∀ b, S b → b < w.heap.size → w'.heap[b]? = w.heap[b]?) → R w') (h : R w') (hs : ∀ b, S b → w.heap.size ≤ b ∧ b < w'.heap.size) : m0 φ ψ w0 w' (L ++ [.own S R]) :=
 M.add b _ ⟨hR, h, fun b hb => (hs b hb).2⟩ fun g hg => (hs g hg).1
theorem m0.turn (M : m0 φ ψ w0 w L) (i : Nat) {S : Nat → Prop} {R R' : World → Prop} (hi : L[i]? = some (.own S R)) (hk : y6 (fun b => ¬ S b) w w') (hR : ∀ w w', R' w → (∀ b, S b → b < w.heap.size → w'.heap[b]? = w.heap[b]?) → R' w') (h : R' w') : m0 φ ψ w0 w' (L.set i (.own S R')) :=
 M.put hi _ hk ⟨hR, h, fun b hb => Nat.lt_of_lt_of_le ((M.holds _ (bE9 hi)).2.2 b hb) hk.size⟩ fun _ hg => .inl hg
theorem m0.o (M : m0 φ ψ w0 w L) (i : Nat) {S : Nat → Prop} {R : World → Prop} (hi : L[i]? = some (.own S R)) : R w := (M.holds _ (bE9 hi)).2.1
theorem m0.take (M : m0 φ ψ w0 w L) (k : Nat) : m0 φ ψ w0 w (L.take k) :=
 ⟨M.kept, M.fresh, fun r hr => K3.keep (M.holds r (List.mem_of_mem_take hr)) (O1.mono fun _ _ hf => ⟨hf.1, fun x hx => hf.2 x (List.mem_of_mem_take hx)⟩) fun _ _ => rfl,
  fun i j a b g hi hj hij => M.dis i j a b g (by rw [List.getElem?_take] at hi; split at hi; exact hi; cases hi) (by rw [List.getElem?_take] at hj; split at hj; exact hj; cases hj) hij, fun r b hr => M.ge r b (List.mem_of_mem_take hr)⟩
theorem m0.sel (M : m0 φ ψ w0 w L) (is : List Nat) (L' : List K3) (h : L'.map some = is.map fun i => L[i]?) (hn : is.Nodup) : m0 φ ψ w0 w L' := by
 have hl : L'.length = is.length := by simpa using congrArg List.length h
 have get : ∀ (j : Nat) (r : K3), L'[j]? = some r → ∃ i, is[j]? = some i ∧ L[i]? = some r := by
  intro j r hj
  have h1 : (L'.map some)[j]? = some (some r) := by simp [hj]
  rw [h, List.getElem?_map] at h1
  cases hi : is[j]? with
  | none => rw [hi] at h1; cases h1
  | some i => rw [hi] at h1; exact ⟨i, rfl, Option.some.inj h1⟩
 have mem : ∀ r, r ∈ L' → r ∈ L := fun r hr => by
  obtain ⟨j, hj⟩ := List.mem_iff_getElem?.1 hr
  obtain ⟨i, _, hi⟩ := get j r hj
  exact bE9 hi
 refine ⟨M.kept, M.fresh, fun r hr => K3.keep (M.holds r (mem r hr)) (O1.mono fun _ _ hf => ⟨hf.1, fun x hx => hf.2 x (mem x hx)⟩) fun _ _ => rfl, fun j k a b g hj hk hjk ha hb => ?_, fun r b hr => M.ge r b (mem r hr)⟩
 obtain ⟨i1, e1, h1⟩ := get j a hj
 obtain ⟨i2, e2, h2⟩ := get k b hk
 refine M.dis i1 i2 a b g h1 h2 (fun e => hjk ?_) ha hb
 subst e
 have hlt := (bF6.1 e1).1
 exact (List.getElem?_inj hlt hn).1 (e1.trans e2.symm)
theorem m0.c (M : m0 φ ψ w0 w L) (i j : Nat) {b : Nat} {cs : List Value} {u : Value} (hi : L[i]? = some (.box b cs)) (hj : cs[j]? = some u) : w.cell? ⟨b, j, none⟩ = some u :=
 (R1.cell (M.holds _ (bE9 hi)) j).trans hj
theorem m0.f (M : m0 φ ψ w0 w L) (i : Nat) {b : Nat} {cs : List Value} (hi : L[i]? = some (.box b cs)) : ∀ j, w.frozen? ⟨b, j, none⟩ = false := R1.free (M.holds _ (bE9 hi))
theorem m0.blk (M : m0 φ ψ w0 w L) (i : Nat) {b : Nat} {cs : List Value} (hi : L[i]? = some (.box b cs)) : R1 w b cs := M.holds _ (bE9 hi)
theorem m0.r (M : m0 φ ψ w0 w L) (i : Nat) {e : TypeId} {sz : Nat} {v : Value} {n : Nat} {xs : List Value} (hi : L[i]? = some (.row e sz v n xs)) : w.ownsRow 0 e sz v n xs := M.holds _ (bE9 hi)
theorem m0.d (M : m0 φ ψ w0 w L) (i : Nat) {R : World → (Nat → Prop) → Prop} (hi : L[i]? = some (.dat R)) : R w (Fr φ L) := (M.holds _ (bE9 hi)).2
theorem m0.dn (M : m0 φ ψ w0 w L) (i : Nat) {R : World → (Nat → Prop) → Prop} (hi : L[i]? = some (.dat R)) : U6 R := (M.holds _ (bE9 hi)).1
theorem m0.out (M : m0 φ ψ w0 w L) (i : Nat) {R : World → (Nat → Prop) → Prop} (hi : L[i]? = some (.dat R)) : R w φ := M.dn i hi _ _ _ _ (O1.mono fun _ _ hf => hf.1) (M.d i hi)
theorem m0.as (M : m0 φ ψ w0 w L) (L' : List K3) (h : L = L') : m0 φ ψ w0 w L' := h ▸ M
end
end Go.Proofs.Ytmokkddidcmglaa

namespace Go.Proofs.Ytmokkddidcmglaa
inductive b5 where
 | mk (kind value : Int) (kids : List b5)
def b5.kind : b5 → Int | ⟨k, _, _⟩ => k
def b5.value : b5 → Int | ⟨_, n, _⟩ => n
def b5.kids : b5 → List b5 | ⟨_, _, ks⟩ => ks
inductive b8 where
 | mk (kind target : Int) (index value : b5) (count : Int) (body els : List b8)
def b8.kind : b8 → Int | ⟨k, _, _, _, _, _, _⟩ => k
def b8.target : b8 → Int | ⟨_, t, _, _, _, _, _⟩ => t
def b8.index : b8 → b5 | ⟨_, _, i, _, _, _, _⟩ => i
def b8.value : b8 → b5 | ⟨_, _, _, v, _, _, _⟩ => v
def b8.count : b8 → Int | ⟨_, _, _, _, c, _, _⟩ => c
def b8.body : b8 → List b8 | ⟨_, _, _, _, _, b, _⟩ => b
def b8.els : b8 → List b8 | ⟨_, _, _, _, _, _, e⟩ => e
structure f5 where
 vars : List Int
 arrays : List Int
 body : List b8
mutual
theorem b5.ind {P : b5 → Prop} (h : ∀ k n ks, (∀ e ∈ ks, P e) → P ⟨k, n, ks⟩) : ∀ e : b5, P e
 | ⟨k, n, ks⟩ => h k n ks (b5.indL h ks)
theorem b5.indL {P : b5 → Prop} (h : ∀ k n ks, (∀ e ∈ ks, P e) → P ⟨k, n, ks⟩) : ∀ ks : List b5, ∀ e ∈ ks, P e
 | [] => fun _ hm => by cases hm
 | a :: r => fun _ hm => (bI2.1 hm).elim (fun he => he ▸ b5.ind h a) fun hm => b5.indL h r _ hm
end
mutual
theorem b8.ind {P : b8 → Prop} (h : ∀ k t i v c b e, (∀ s ∈ b, P s) → (∀ s ∈ e, P s) → P ⟨k, t, i, v, c, b, e⟩) : ∀ s : b8, P s
 | ⟨k, t, i, v, c, b, e⟩ => h k t i v c b e (b8.indL h b) (b8.indL h e)
theorem b8.indL {P : b8 → Prop} (h : ∀ k t i v c b e, (∀ s ∈ b, P s) → (∀ s ∈ e, P s) → P ⟨k, t, i, v, c, b, e⟩) : ∀ ss : List b8, ∀ s ∈ ss, P s
 | [] => fun _ hm => by cases hm
 | a :: r => fun _ hm => (bI2.1 hm).elim (fun he => he ▸ b8.ind h a) fun hm => b8.indL h r _ hm
end
mutual
def G7 : b5 → Nat
 | ⟨_, _, ks⟩ => m6 ks
def m6 : List b5 → Nat
 | [] => 0
 | e :: r => 1 + G7 e + m6 r
end
mutual
def szS : b8 → Nat
 | ⟨_, _, i, v, _, b, e⟩ => G7 i + G7 v + x9 b + x9 e
def x9 : List b8 → Nat
 | [] => 0
 | s :: r => 1 + szS s + x9 r
end
def f5.size (p : f5) : Nat := p.vars.length + p.arrays.length + x9 p.body
theorem O9 (a b : List b5) : m6 (a ++ b) = m6 a + m6 b := by
 induction a with
 | nil => simp [m6]
 | cons x r ih => simp [m6, ih]; omega
theorem aF1 (a : List b5) : a.length ≤ m6 a := by
 induction a with
 | nil => simp
 | cons x r ih => simp only [m6, bH3]; omega
theorem ae2 (a : List b8) : a.length ≤ x9 a := by
 induction a with
 | nil => simp
 | cons x r ih => simp only [x9, bH3]; omega
theorem aU4 {e : b5} {ks : List b5} (h : e ∈ ks) : G7 e < m6 ks := by
 induction ks with
 | nil => cases h
 | cons x r ih =>
  simp only [m6]
  rcases bI2.1 h with rfl | h
  ·omega
  ·have := ih h; omega
theorem O8 {s : b8} {ss : List b8} (h : s ∈ ss) : szS s < x9 ss := by
 induction ss with
 | nil => cases h
 | cons x r ih =>
  simp only [x9]
  rcases bI2.1 h with rfl | h
  ·omega
  ·have := ih h; omega
mutual
def J0 : b5 → b5 → Bool
 | ⟨k, n, ks⟩, ⟨k', n', ks'⟩ => decide (k = k') && decide (n = n') && E9 ks ks'
def E9 : List b5 → List b5 → Bool
 | [], [] => true
 | e :: r, e' :: r' => J0 e e' && E9 r r'
 | _, _ => false
end
mutual
def bt3 : b8 → b8 → Bool
 | ⟨k, t, i, v, c, b, e⟩, ⟨k', t', i', v', c', b', e'⟩ => decide (k = k') && decide (t = t') && J0 i i' && J0 v v' && decide (c = c') && aA2 b b' && aA2 e e'
def aA2 : List b8 → List b8 → Bool
 | [], [] => true
 | s :: r, s' :: r' => bt3 s s' && aA2 r r'
 | _, _ => false
end
mutual
theorem X2 : ∀ (a b : b5), J0 a b = true ↔ a = b
 | ⟨k, n, ks⟩, ⟨k', n', ks'⟩ => by
  simp only [J0, bE8, decide_eq_true_eq, b5.mk.injEq, R6 ks ks', and_assoc]
theorem R6 : ∀ (a b : List b5), E9 a b = true ↔ a = b
 | [], [] => by simp [E9]
 | [], _ :: _ => by simp [E9]
 | _ :: _, [] => by simp [E9]
 | e :: r, e' :: r' => by simp only [E9, bE8, List.cons.injEq, X2 e e', R6 r r']
end
def f5.same (p q : f5) : Bool := decide (p.vars = q.vars) && decide (p.arrays = q.arrays) && aA2 p.body q.body
end Go.Proofs.Ytmokkddidcmglaa

namespace Go.Proofs.Ytmokkddidcmglaa
open Go Go.RowKit
section
mutual
def J5 (w : World) (φ : Nat → Prop) : b5 → List Value → Prop
 | ⟨k, n, ks⟩, cs => ∃ v xs, cs = [.int .i64 k, .int .i64 n, v] ∧ w3 w φ v ks.length 3 xs ∧ v5 w φ ks xs
def v5 (w : World) (φ : Nat → Prop) : List b5 → List Value → Prop
 | [], xs => xs = []
 | e :: r, xs => ∃ c ys, xs = c ++ ys ∧ J5 w φ e c ∧ v5 w φ r ys
end
def n7 (w : World) (φ : Nat → Prop) (v : Value) (ks : List b5) : Prop := ∃ xs, w3 w φ v ks.length 3 xs ∧ v5 w φ ks xs
def E8 (w : World) (φ : Nat → Prop) (v : Value) (e : b5) : Prop := ∃ kv, v = .agg #[.int .i64 e.kind, .int .i64 e.value, kv] ∧ n7 w φ kv e.kids
mutual
def I5 (w : World) (φ : Nat → Prop) : b8 → List Value → Prop
 | ⟨k, t, i, v, c, b, e⟩, cs => ∃ iv vv bv ev xb xe, cs = [.int .i64 k, .int .i64 t, .int .i64 i.kind, .int .i64 i.value, iv, .int .i64 v.kind, .int .i64 v.value, vv, .int .i64 c, bv, ev] ∧
   n7 w φ iv i.kids ∧ n7 w φ vv v.kids ∧ w3 w φ bv b.length 11 xb ∧ t2 w φ b xb ∧ w3 w φ ev e.length 11 xe ∧ t2 w φ e xe
def t2 (w : World) (φ : Nat → Prop) : List b8 → List Value → Prop
 | [], xs => xs = []
 | s :: r, xs => ∃ c ys, xs = c ++ ys ∧ I5 w φ s c ∧ t2 w φ r ys
end
def D4 (w : World) (φ : Nat → Prop) (v : Value) (ss : List b8) : Prop := ∃ xs, w3 w φ v ss.length 11 xs ∧ t2 w φ ss xs
def aY0 (w : World) (φ : Nat → Prop) (v : Value) (s : b8) : Prop :=
 ∃ iv vv bv ev, v = .agg #[.int .i64 s.kind, .int .i64 s.target, .int .i64 s.index.kind, .int .i64 s.index.value, iv, .int .i64 s.value.kind, .int .i64 s.value.value, vv, .int .i64 s.count, bv, ev] ∧
  n7 w φ iv s.index.kids ∧ n7 w φ vv s.value.kids ∧ D4 w φ bv s.body ∧ D4 w φ ev s.els
def aL1 (w : World) (φ : Nat → Prop) (v : Value) (p : f5) : Prop :=
 ∃ v1 v2 v3, v = .agg #[v1, v2, v3] ∧ w3 w φ v1 p.vars.length 1 (ints p.vars) ∧ w3 w φ v2 p.arrays.length 1 (ints p.arrays) ∧ D4 w φ v3 p.body
variable {w w' : World} {φ φ' : Nat → Prop}
mutual
theorem J5.agr (ha : O1 φ φ' w w') : ∀ (e : b5) (cs : List Value), J5 w φ e cs → J5 w' φ' e cs
 | ⟨_, _, ks⟩, _, ⟨v, xs, h1, h2, h3⟩ => ⟨v, xs, h1, w3.nice _ _ _ _ _ _ _ _ ha h2, v5.agr ha ks xs h3⟩
theorem v5.agr (ha : O1 φ φ' w w') : ∀ (ks : List b5) (xs : List Value), v5 w φ ks xs → v5 w' φ' ks xs
 | [], _, h => h
 | e :: r, _, ⟨c, ys, h1, h2, h3⟩ => ⟨c, ys, h1, J5.agr ha e c h2, v5.agr ha r ys h3⟩
end
theorem v5.nice (ks : List b5) (xs : List Value) : U6 fun w φ => v5 w φ ks xs := fun _ _ _ _ ha h => v5.agr ha ks xs h
theorem n7.nice (v : Value) (ks : List b5) : U6 fun w φ => n7 w φ v ks := fun _ _ _ _ ha ⟨xs, h1, h2⟩ => ⟨xs, w3.nice _ _ _ _ _ _ _ _ ha h1, v5.agr ha ks xs h2⟩
theorem E8.nice (v : Value) (e : b5) : U6 fun w φ => E8 w φ v e := fun _ _ _ _ ha ⟨kv, h1, h2⟩ => ⟨kv, h1, n7.nice _ _ _ _ _ _ ha h2⟩
mutual
theorem I5.agr (ha : O1 φ φ' w w') : ∀ (s : b8) (cs : List Value), I5 w φ s cs → I5 w' φ' s cs
 | ⟨_, _, _, _, _, b, e⟩, _, ⟨iv, vv, bv, ev, xb, xe, h1, h2, h3, h4, h5, h6, h7⟩ =>
  ⟨iv, vv, bv, ev, xb, xe, h1, n7.nice _ _ _ _ _ _ ha h2, n7.nice _ _ _ _ _ _ ha h3, w3.nice _ _ _ _ _ _ _ _ ha h4, t2.agr ha b xb h5, w3.nice _ _ _ _ _ _ _ _ ha h6, t2.agr ha e xe h7⟩
theorem t2.agr (ha : O1 φ φ' w w') : ∀ (ss : List b8) (xs : List Value), t2 w φ ss xs → t2 w' φ' ss xs
 | [], _, h => h
 | s :: r, _, ⟨c, ys, h1, h2, h3⟩ => ⟨c, ys, h1, I5.agr ha s c h2, t2.agr ha r ys h3⟩
end
theorem t2.nice (ss : List b8) (xs : List Value) : U6 fun w φ => t2 w φ ss xs := fun _ _ _ _ ha h => t2.agr ha ss xs h
theorem D4.nice (v : Value) (ss : List b8) : U6 fun w φ => D4 w φ v ss := fun _ _ _ _ ha ⟨xs, h1, h2⟩ => ⟨xs, w3.nice _ _ _ _ _ _ _ _ ha h1, t2.agr ha ss xs h2⟩
theorem aY0.nice (v : Value) (s : b8) : U6 fun w φ => aY0 w φ v s := fun _ _ _ _ ha ⟨iv, vv, bv, ev, h1, h2, h3, h4, h5⟩ =>
 ⟨iv, vv, bv, ev, h1, n7.nice _ _ _ _ _ _ ha h2, n7.nice _ _ _ _ _ _ ha h3, D4.nice _ _ _ _ _ _ ha h4, D4.nice _ _ _ _ _ _ ha h5⟩
theorem aL1.nice (v : Value) (p : f5) : U6 fun w φ => aL1 w φ v p := fun _ _ _ _ ha ⟨v1, v2, v3, h1, h2, h3, h4⟩ =>
 ⟨v1, v2, v3, h1, w3.nice _ _ _ _ _ _ _ _ ha h2, w3.nice _ _ _ _ _ _ _ _ ha h3, D4.nice _ _ _ _ _ _ ha h4⟩
theorem J5.iff (e : b5) (cs : List Value) : J5 w φ e cs ↔ ∃ kv, cs = [.int .i64 e.kind, .int .i64 e.value, kv] ∧ n7 w φ kv e.kids := by
 cases e with
 | mk k n ks => exact ⟨fun ⟨v, xs, h1, h2, h3⟩ => ⟨v, h1, xs, h2, h3⟩, fun ⟨v, h1, xs, h2, h3⟩ => ⟨v, xs, h1, h2, h3⟩⟩
theorem I5.iff (s : b8) (cs : List Value) : I5 w φ s cs ↔ ∃ iv vv bv ev, cs = [.int .i64 s.kind, .int .i64 s.target, .int .i64 s.index.kind, .int .i64 s.index.value, iv, .int .i64 s.value.kind, .int .i64 s.value.value, vv, .int .i64 s.count, bv, ev] ∧
  n7 w φ iv s.index.kids ∧ n7 w φ vv s.value.kids ∧ D4 w φ bv s.body ∧ D4 w φ ev s.els := by
 cases s with
 | mk k t i v c b e =>
  exact ⟨fun ⟨iv, vv, bv, ev, xb, xe, h1, h2, h3, h4, h5, h6, h7⟩ => ⟨iv, vv, bv, ev, h1, h2, h3, ⟨xb, h4, h5⟩, ⟨xe, h6, h7⟩⟩,
   fun ⟨iv, vv, bv, ev, h1, h2, h3, ⟨xb, h4, h5⟩, ⟨xe, h6, h7⟩⟩ => ⟨iv, vv, bv, ev, xb, xe, h1, h2, h3, h4, h5, h6, h7⟩⟩
theorem E8.iff {v : Value} {e : b5} : E8 w φ v e ↔ ∃ cs : List Value, v = .agg cs.toArray ∧ J5 w φ e cs :=
 ⟨fun ⟨kv, h1, h2⟩ => ⟨_, h1, (J5.iff e _).2 ⟨kv, rfl, h2⟩⟩, fun ⟨cs, h1, h2⟩ => by obtain ⟨kv, rfl, h3⟩ := (J5.iff e cs).1 h2; exact ⟨kv, h1, h3⟩⟩
theorem aY0.iff {v : Value} {s : b8} : aY0 w φ v s ↔ ∃ cs : List Value, v = .agg cs.toArray ∧ I5 w φ s cs :=
 ⟨fun ⟨iv, vv, bv, ev, h1, h2⟩ => ⟨_, h1, (I5.iff s _).2 ⟨iv, vv, bv, ev, rfl, h2⟩⟩, fun ⟨cs, h1, h2⟩ => by obtain ⟨iv, vv, bv, ev, rfl, h3⟩ := (I5.iff s cs).1 h2; exact ⟨iv, vv, bv, ev, h1, h3⟩⟩
theorem v5.len : ∀ {ks : List b5} {xs : List Value}, v5 w φ ks xs → xs.length = ks.length * 3
 | [], _, h => by rw [show _ = [] from h]; rfl
 | e :: r, _, ⟨c, ys, h1, h2, h3⟩ => by
  obtain ⟨kv, rfl, _⟩ := (J5.iff e c).1 h2
  rw [h1, bH8, v5.len h3, bH3]; simp; omega
theorem t2.len : ∀ {ss : List b8} {xs : List Value}, t2 w φ ss xs → xs.length = ss.length * 11
 | [], _, h => by rw [show _ = [] from h]; rfl
 | s :: r, _, ⟨c, ys, h1, h2, h3⟩ => by
  obtain ⟨iv, vv, bv, ev, rfl, _⟩ := (I5.iff s c).1 h2
  rw [h1, bH8, t2.len h3, bH3]; simp; omega
theorem v5.at : ∀ {ks : List b5} {xs : List Value}, v5 w φ ks xs → ∀ (i : Nat) (hi : i < ks.length), ∃ kv, xs[i * 3]? = some (.int .i64 ks[i].kind) ∧ xs[i * 3 + 1]? = some (.int .i64 ks[i].value) ∧ xs[i * 3 + 2]? = some kv ∧ n7 w φ kv ks[i].kids
 | [], _, _, i, hi => by simp at hi
 | e :: r, _, ⟨c, ys, h1, h2, h3⟩, i, hi => by
  obtain ⟨kv, rfl, hk⟩ := (J5.iff e c).1 h2
  subst h1
  cases i with
  | zero => exact ⟨kv, rfl, rfl, rfl, hk⟩
  | succ i =>
   obtain ⟨kv', a, b, d, f⟩ := v5.at h3 i (by simpa using hi)
   refine ⟨kv', ?_, ?_, ?_, f⟩ <;> (rw [bI0]; simpa [Nat.add_assoc] using by assumption)
theorem t2.at : ∀ {ss : List b8} {xs : List Value}, t2 w φ ss xs → ∀ (i : Nat) (hi : i < ss.length), ∃ cs : List Value, cs.length = 11 ∧ I5 w φ ss[i] cs ∧ ∀ j, j < 11 → xs[i * 11 + j]? = cs[j]?
 | [], _, _, i, hi => by simp at hi
 | s :: r, _, ⟨c, ys, h1, h2, h3⟩, i, hi => by
  have hc : c.length = 11 := by obtain ⟨iv, vv, bv, ev, rfl, _⟩ := (I5.iff s c).1 h2; rfl
  subst h1
  cases i with
  | zero => exact ⟨c, hc, h2, fun j hj => by rw [bH1 (by omega)]; simp⟩
  | succ i =>
   obtain ⟨cs, a, b, d⟩ := t2.at h3 i (by simpa using hi)
   refine ⟨cs, a, b, fun j hj => ?_⟩
   rw [bI6 (by rw [hc, bI0]; omega), ← d j hj]
   congr 1
   rw [hc, bI0]; omega
theorem v5.append : ∀ {ks : List b5} {xs : List Value} {ls : List b5} {ys : List Value}, v5 w φ ks xs → v5 w φ ls ys → v5 w φ (ks ++ ls) (xs ++ ys)
 | [], _, _, _, h, k => by rw [show _ = [] from h]; exact k
 | e :: r, _, _, _, ⟨c, zs, h1, h2, h3⟩, k => ⟨c, zs ++ _, by rw [h1, List.append_assoc], h2, v5.append h3 k⟩
theorem v5.one {e : b5} {c : List Value} (h : J5 w φ e c) : v5 w φ [e] c := ⟨c, [], by simp, h, rfl⟩
theorem t2.append : ∀ {ks : List b8} {xs : List Value} {ls : List b8} {ys : List Value}, t2 w φ ks xs → t2 w φ ls ys → t2 w φ (ks ++ ls) (xs ++ ys)
 | [], _, _, _, h, k => by rw [show _ = [] from h]; exact k
 | e :: r, _, _, _, ⟨c, zs, h1, h2, h3⟩, k => ⟨c, zs ++ _, by rw [h1, List.append_assoc], h2, t2.append h3 k⟩
theorem t2.one {s : b8} {c : List Value} (h : I5 w φ s c) : t2 w φ [s] c := ⟨c, [], by simp, h, rfl⟩
theorem n7.open {v : Value} {ks : List b5} (h : n7 w φ v ks) : ∃ a cap, v = .slice a ks.length cap ∧ ks.length ≤ cap ∧ ks.length ≤ 9223372036854775807 ∧ cap ≤ 9223372036854775807 ∧
  ∀ i (hi : i < ks.length), ∃ b off kv, a = some ⟨b, off, none⟩ ∧ b < w.heap.size ∧ φ b ∧ w.cell? ⟨b, off + i * 3, none⟩ = some (.int .i64 ks[i].kind) ∧ w.cell? ⟨b, off + i * 3 + 1, none⟩ = some (.int .i64 ks[i].value) ∧ w.cell? ⟨b, off + i * 3 + 2, none⟩ = some kv ∧ n7 w φ kv ks[i].kids := by
 obtain ⟨xs, ⟨hl, a, cap, rfl, h1, h2, h3⟩, hx⟩ := h
 unfold maxLen at h2
 refine ⟨a, cap, rfl, h1, by omega, by omega, fun i hi => ?_⟩
 obtain ⟨b, off, rfl, hb, hf, hc⟩ := h3 (by omega)
 obtain ⟨kv, e0, e1, e2, hk⟩ := hx.at i hi
 exact ⟨b, off, kv, rfl, hb, hf, hc _ _ e0, hc _ _ e1, hc _ _ e2, hk⟩
theorem D4.open {v : Value} {ss : List b8} (h : D4 w φ v ss) : ∃ a cap, v = .slice a ss.length cap ∧ ss.length ≤ cap ∧ ss.length ≤ 9223372036854775807 ∧ cap ≤ 9223372036854775807 ∧
  ∀ i (hi : i < ss.length), ∃ b off iv vv bv ev, a = some ⟨b, off, none⟩ ∧ b < w.heap.size ∧ φ b ∧
   (w.cell? ⟨b, off + i * 11, none⟩ = some (.int .i64 ss[i].kind) ∧ w.cell? ⟨b, off + i * 11 + 1, none⟩ = some (.int .i64 ss[i].target) ∧ w.cell? ⟨b, off + i * 11 + 2, none⟩ = some (.int .i64 ss[i].index.kind) ∧ w.cell? ⟨b, off + i * 11 + 3, none⟩ = some (.int .i64 ss[i].index.value) ∧ w.cell? ⟨b, off + i * 11 + 4, none⟩ = some iv ∧
    w.cell? ⟨b, off + i * 11 + 5, none⟩ = some (.int .i64 ss[i].value.kind) ∧ w.cell? ⟨b, off + i * 11 + 6, none⟩ = some (.int .i64 ss[i].value.value) ∧ w.cell? ⟨b, off + i * 11 + 7, none⟩ = some vv ∧ w.cell? ⟨b, off + i * 11 + 8, none⟩ = some (.int .i64 ss[i].count) ∧ w.cell? ⟨b, off + i * 11 + 9, none⟩ = some bv ∧ w.cell? ⟨b, off + i * 11 + 10, none⟩ = some ev) ∧
   n7 w φ iv ss[i].index.kids ∧ n7 w φ vv ss[i].value.kids ∧ D4 w φ bv ss[i].body ∧ D4 w φ ev ss[i].els := by
 obtain ⟨xs, ⟨hl, a, cap, rfl, h1, h2, h3⟩, hx⟩ := h
 unfold maxLen at h2
 refine ⟨a, cap, rfl, h1, by omega, by omega, fun i hi => ?_⟩
 obtain ⟨b, off, rfl, hb, hf, hc⟩ := h3 (by omega)
 obtain ⟨cs, hl2, hs, hj⟩ := hx.at i hi
 obtain ⟨iv, vv, bv, ev, rfl, k1, k2, k3, k4⟩ := (I5.iff _ _).1 hs
 refine ⟨b, off, iv, vv, bv, ev, rfl, hb, hf, ⟨?_, ?_, ?_, ?_, ?_, ?_, ?_, ?_, ?_, ?_, ?_⟩, k1, k2, k3, k4⟩
 ·have := hc (i * 11 + 0) _ ((hj 0 (by omega)).trans rfl); simpa using this
 ·exact hc (i * 11 + 1) _ ((hj 1 (by omega)).trans rfl)
 ·exact hc (i * 11 + 2) _ ((hj 2 (by omega)).trans rfl)
 ·exact hc (i * 11 + 3) _ ((hj 3 (by omega)).trans rfl)
 ·exact hc (i * 11 + 4) _ ((hj 4 (by omega)).trans rfl)
 ·exact hc (i * 11 + 5) _ ((hj 5 (by omega)).trans rfl)
 ·exact hc (i * 11 + 6) _ ((hj 6 (by omega)).trans rfl)
 ·exact hc (i * 11 + 7) _ ((hj 7 (by omega)).trans rfl)
 ·exact hc (i * 11 + 8) _ ((hj 8 (by omega)).trans rfl)
 ·exact hc (i * 11 + 9) _ ((hj 9 (by omega)).trans rfl)
 ·exact hc (i * 11 + 10) _ ((hj 10 (by omega)).trans rfl)
theorem n7.nil (w : World) (φ : Nat → Prop) : n7 w φ (.slice none 0 0) [] := ⟨[], w3.nil _ _ _, rfl⟩
theorem D4.nil (w : World) (φ : Nat → Prop) : D4 w φ (.slice none 0 0) [] := ⟨[], w3.nil _ _ _, rfl⟩
end
section
mutual
def B5 (w : World) : b5 → (Nat → Prop) → List Value → Prop
 | ⟨k, n, ks⟩, S, cs => ∃ (v : Value) (xs : List Value) (S' : Nat → Prop), cs = [.int .i64 k, .int .i64 n, v] ∧ w.ownsRow 0 29 3 v ks.length xs ∧ (∀ g, v.ownBlock = some g → S g ∧ ¬ S' g) ∧ (∀ b, S' b → S b) ∧ f9 w ks S' xs
def f9 (w : World) : List b5 → (Nat → Prop) → List Value → Prop
 | [], _, xs => xs = []
 | e :: r, S, xs => ∃ (c ys : List Value) (S1 S2 : Nat → Prop), xs = c ++ ys ∧ (∀ b, S1 b → S b ∧ ¬ S2 b) ∧ (∀ b, S2 b → S b) ∧ B5 w e S1 c ∧ f9 w r S2 ys
end
def i7 (w : World) (v : Value) (ks : List b5) (S : Nat → Prop) : Prop :=
 ∃ (xs : List Value) (S' : Nat → Prop), w.ownsRow 0 29 3 v ks.length xs ∧ (∀ g, v.ownBlock = some g → S g ∧ ¬ S' g) ∧ (∀ b, S' b → S b) ∧ f9 w ks S' xs
mutual
def C4 (w : World) : b8 → (Nat → Prop) → List Value → Prop
 | ⟨k, t, i, v, c, b, e⟩, S, cs => ∃ (iv vv bv ev : Value) (xb xe : List Value) (Si Sv Sb Se Sb' Se' : Nat → Prop), cs = [.int .i64 k, .int .i64 t, .int .i64 i.kind, .int .i64 i.value, iv, .int .i64 v.kind, .int .i64 v.value, vv, .int .i64 c, bv, ev] ∧
   ((∀ b, Si b → S b ∧ ¬ Sv b ∧ ¬ Sb b ∧ ¬ Se b) ∧ (∀ b, Sv b → S b ∧ ¬ Sb b ∧ ¬ Se b) ∧ (∀ b, Sb b → S b ∧ ¬ Se b) ∧ (∀ b, Se b → S b)) ∧ i7 w iv i.kids Si ∧ i7 w vv v.kids Sv ∧
   (w.ownsRow 0 103 11 bv b.length xb ∧ (∀ g, bv.ownBlock = some g → Sb g ∧ ¬ Sb' g) ∧ (∀ b, Sb' b → Sb b) ∧ l9 w b Sb' xb) ∧
   (w.ownsRow 0 103 11 ev e.length xe ∧ (∀ g, ev.ownBlock = some g → Se g ∧ ¬ Se' g) ∧ (∀ b, Se' b → Se b) ∧ l9 w e Se' xe)
def l9 (w : World) : List b8 → (Nat → Prop) → List Value → Prop
 | [], _, xs => xs = []
 | s :: r, S, xs => ∃ (c ys : List Value) (S1 S2 : Nat → Prop), xs = c ++ ys ∧ (∀ b, S1 b → S b ∧ ¬ S2 b) ∧ (∀ b, S2 b → S b) ∧ C4 w s S1 c ∧ l9 w r S2 ys
end
def E4 (w : World) (v : Value) (ss : List b8) (S : Nat → Prop) : Prop :=
 ∃ (xs : List Value) (S' : Nat → Prop), w.ownsRow 0 103 11 v ss.length xs ∧ (∀ g, v.ownBlock = some g → S g ∧ ¬ S' g) ∧ (∀ b, S' b → S b) ∧ l9 w ss S' xs
def am2 (w : World) (v : Value) (p : f5) (S : Nat → Prop) : Prop :=
 ∃ (v1 v2 v3 : Value) (S3 : Nat → Prop), v = .agg #[v1, v2, v3] ∧ w.ownsRow 0 3 1 v1 p.vars.length (ints p.vars) ∧ w.ownsRow 0 3 1 v2 p.arrays.length (ints p.arrays) ∧ E4 w v3 p.body S3 ∧
  (∀ g, v1.ownBlock = some g → S g ∧ ¬ S3 g ∧ v2.ownBlock ≠ some g) ∧ (∀ g, v2.ownBlock = some g → S g ∧ ¬ S3 g) ∧ (∀ b, S3 b → S b)
variable {w w' : World} {S S' φ : Nat → Prop}
theorem C6 {e : TypeId} {sz : Nat} {v : Value} {n : Nat} {xs : List Value} (h : w.ownsRow 0 e sz v n xs) (hs : ∀ g, v.ownBlock = some g → w'.heap[g]? = w.heap[g]?) : w'.ownsRow 0 e sz v n xs :=
 (V7.same (V7.mk' h) hs).1
mutual
theorem B5.same : ∀ (e : b5) (S : Nat → Prop) (cs : List Value), B5 w e S cs → (∀ b, S b → b < w.heap.size → w'.heap[b]? = w.heap[b]?) → B5 w' e S cs
 | ⟨_, _, ks⟩, S, _, ⟨v, xs, S', h1, h2, h3, h4, h5⟩, hs => ⟨v, xs, S', h1, C6 h2 fun g hg => hs g (h3 g hg).1 (World.ownsRow.lt h2 g hg).2, h3, h4, f9.same ks S' xs h5 fun b hb => hs b (h4 b hb)⟩
theorem f9.same : ∀ (ks : List b5) (S : Nat → Prop) (xs : List Value), f9 w ks S xs → (∀ b, S b → b < w.heap.size → w'.heap[b]? = w.heap[b]?) → f9 w' ks S xs
 | [], _, _, h, _ => h
 | e :: r, S, _, ⟨c, ys, S1, S2, h1, h2, h3, h4, h5⟩, hs => ⟨c, ys, S1, S2, h1, h2, h3, B5.same e S1 c h4 fun b hb => hs b (h2 b hb).1, f9.same r S2 ys h5 fun b hb => hs b (h3 b hb)⟩
end
theorem i7.same {v : Value} {ks : List b5} (h : i7 w v ks S) (hs : ∀ b, S b → b < w.heap.size → w'.heap[b]? = w.heap[b]?) : i7 w' v ks S := by
 obtain ⟨xs, S', h2, h3, h4, h5⟩ := h
 exact ⟨xs, S', C6 h2 fun g hg => hs g (h3 g hg).1 (World.ownsRow.lt h2 g hg).2, h3, h4, f9.same ks S' xs h5 fun b hb => hs b (h4 b hb)⟩
mutual
theorem C4.same : ∀ (s : b8) (S : Nat → Prop) (cs : List Value), C4 w s S cs → (∀ b, S b → b < w.heap.size → w'.heap[b]? = w.heap[b]?) → C4 w' s S cs
 | ⟨_, _, _, _, _, b, e⟩, S, _, ⟨iv, vv, bv, ev, xb, xe, Si, Sv, Sb, Se, Sb', Se', h1, ⟨d1, d2, d3, d4⟩, h2, h3, ⟨b1, b2, b3, b4⟩, ⟨e1, e2, e3, e4⟩⟩, hs =>
  ⟨iv, vv, bv, ev, xb, xe, Si, Sv, Sb, Se, Sb', Se', h1, ⟨d1, d2, d3, d4⟩, h2.same fun b hb => hs b (d1 b hb).1, h3.same fun b hb => hs b (d2 b hb).1,
   ⟨C6 b1 fun g hg => hs g (d3 g (b2 g hg).1).1 (World.ownsRow.lt b1 g hg).2, b2, b3, l9.same b Sb' xb b4 fun x hx => hs x (d3 x (b3 x hx)).1⟩,
   ⟨C6 e1 fun g hg => hs g (d4 g (e2 g hg).1) (World.ownsRow.lt e1 g hg).2, e2, e3, l9.same e Se' xe e4 fun x hx => hs x (d4 x (e3 x hx))⟩⟩
theorem l9.same : ∀ (ss : List b8) (S : Nat → Prop) (xs : List Value), l9 w ss S xs → (∀ b, S b → b < w.heap.size → w'.heap[b]? = w.heap[b]?) → l9 w' ss S xs
 | [], _, _, h, _ => h
 | s :: r, S, _, ⟨c, ys, S1, S2, h1, h2, h3, h4, h5⟩, hs => ⟨c, ys, S1, S2, h1, h2, h3, C4.same s S1 c h4 fun b hb => hs b (h2 b hb).1, l9.same r S2 ys h5 fun b hb => hs b (h3 b hb)⟩
end
theorem E4.same {v : Value} {ss : List b8} (h : E4 w v ss S) (hs : ∀ b, S b → b < w.heap.size → w'.heap[b]? = w.heap[b]?) : E4 w' v ss S := by
 obtain ⟨xs, S', h2, h3, h4, h5⟩ := h
 exact ⟨xs, S', C6 h2 fun g hg => hs g (h3 g hg).1 (World.ownsRow.lt h2 g hg).2, h3, h4, l9.same ss S' xs h5 fun b hb => hs b (h4 b hb)⟩
theorem am2.same {v : Value} {p : f5} (h : am2 w v p S) (hs : ∀ b, S b → b < w.heap.size → w'.heap[b]? = w.heap[b]?) : am2 w' v p S := by
 obtain ⟨v1, v2, v3, S3, rfl, h1, h2, h3, d1, d2, d3⟩ := h
 exact ⟨v1, v2, v3, S3, rfl, C6 h1 fun g hg => hs g (d1 g hg).1 (World.ownsRow.lt h1 g hg).2, C6 h2 fun g hg => hs g (d2 g hg).1 (World.ownsRow.lt h2 g hg).2, h3.same fun b hb => hs b (d3 b hb), d1, d2, d3⟩
theorem i7.mono {v : Value} {ks : List b5} (h : i7 w v ks S) (hs : ∀ b, S b → S' b) : i7 w v ks S' := by
 obtain ⟨xs, T, h2, h3, h4, h5⟩ := h
 exact ⟨xs, T, h2, fun g hg => ⟨hs g (h3 g hg).1, (h3 g hg).2⟩, fun b hb => hs b (h4 b hb), h5⟩
theorem E4.mono {v : Value} {ss : List b8} (h : E4 w v ss S) (hs : ∀ b, S b → S' b) : E4 w v ss S' := by
 obtain ⟨xs, T, h2, h3, h4, h5⟩ := h
 exact ⟨xs, T, h2, fun g hg => ⟨hs g (h3 g hg).1, (h3 g hg).2⟩, fun b hb => hs b (h4 b hb), h5⟩
theorem am2.mono {v : Value} {p : f5} (h : am2 w v p S) (hs : ∀ b, S b → S' b) : am2 w v p S' := by
 obtain ⟨v1, v2, v3, S3, rfl, h1, h2, h3, d1, d2, d3⟩ := h
 exact ⟨v1, v2, v3, S3, rfl, h1, h2, h3, fun g hg => ⟨hs g (d1 g hg).1, (d1 g hg).2⟩, fun g hg => ⟨hs g (d2 g hg).1, (d2 g hg).2⟩, fun b hb => hs b (d3 b hb)⟩
mutual
theorem B5.read : ∀ (e : b5) (S : Nat → Prop) (cs : List Value), B5 w e S cs → (∀ b, S b → φ b) → J5 w φ e cs
 | ⟨_, _, ks⟩, S, _, ⟨v, xs, S', h1, h2, h3, h4, h5⟩, hs => ⟨v, xs, h1, A0 h2 fun g hg => hs g (h3 g hg).1, f9.read ks S' xs h5 fun b hb => hs b (h4 b hb)⟩
theorem f9.read : ∀ (ks : List b5) (S : Nat → Prop) (xs : List Value), f9 w ks S xs → (∀ b, S b → φ b) → v5 w φ ks xs
 | [], _, _, h, _ => h
 | e :: r, S, _, ⟨c, ys, S1, S2, h1, h2, h3, h4, h5⟩, hs => ⟨c, ys, h1, B5.read e S1 c h4 fun b hb => hs b (h2 b hb).1, f9.read r S2 ys h5 fun b hb => hs b (h3 b hb)⟩
end
theorem i7.read {v : Value} {ks : List b5} (h : i7 w v ks S) (hs : ∀ b, S b → φ b) : n7 w φ v ks := by
 obtain ⟨xs, T, h2, h3, h4, h5⟩ := h
 exact ⟨xs, A0 h2 fun g hg => hs g (h3 g hg).1, f9.read ks T xs h5 fun b hb => hs b (h4 b hb)⟩
mutual
theorem C4.read : ∀ (s : b8) (S : Nat → Prop) (cs : List Value), C4 w s S cs → (∀ b, S b → φ b) → I5 w φ s cs
 | ⟨_, _, _, _, _, b, e⟩, S, _, ⟨iv, vv, bv, ev, xb, xe, Si, Sv, Sb, Se, Sb', Se', h1, ⟨d1, d2, d3, d4⟩, h2, h3, ⟨b1, b2, b3, b4⟩, ⟨e1, e2, e3, e4⟩⟩, hs =>
  ⟨iv, vv, bv, ev, xb, xe, h1, h2.read fun b hb => hs b (d1 b hb).1, h3.read fun b hb => hs b (d2 b hb).1,
   A0 b1 fun g hg => hs g (d3 g (b2 g hg).1).1, l9.read b Sb' xb b4 fun x hx => hs x (d3 x (b3 x hx)).1,
   A0 e1 fun g hg => hs g (d4 g (e2 g hg).1), l9.read e Se' xe e4 fun x hx => hs x (d4 x (e3 x hx))⟩
theorem l9.read : ∀ (ss : List b8) (S : Nat → Prop) (xs : List Value), l9 w ss S xs → (∀ b, S b → φ b) → t2 w φ ss xs
 | [], _, _, h, _ => h
 | s :: r, S, _, ⟨c, ys, S1, S2, h1, h2, h3, h4, h5⟩, hs => ⟨c, ys, h1, C4.read s S1 c h4 fun b hb => hs b (h2 b hb).1, l9.read r S2 ys h5 fun b hb => hs b (h3 b hb)⟩
end
theorem E4.read {v : Value} {ss : List b8} (h : E4 w v ss S) (hs : ∀ b, S b → φ b) : D4 w φ v ss := by
 obtain ⟨xs, T, h2, h3, h4, h5⟩ := h
 exact ⟨xs, A0 h2 fun g hg => hs g (h3 g hg).1, l9.read ss T xs h5 fun b hb => hs b (h4 b hb)⟩
theorem am2.read {v : Value} {p : f5} (h : am2 w v p S) (hs : ∀ b, S b → φ b) : aL1 w φ v p := by
 obtain ⟨v1, v2, v3, S3, rfl, h1, h2, h3, d1, d2, d3⟩ := h
 exact ⟨v1, v2, v3, rfl, A0 h1 fun g hg => hs g (d1 g hg).1, A0 h2 fun g hg => hs g (d2 g hg).1, h3.read fun b hb => hs b (d3 b hb)⟩
def bz5 (R : World → (Nat → Prop) → Prop) (S : Nat → Prop) : World → (Nat → Prop) → Prop := fun w φ => R w S ∧ ∀ b, S b → b < w.heap.size ∧ φ b
theorem bz5.nice {R : World → (Nat → Prop) → Prop} (S : Nat → Prop) (hR : ∀ w w' : World, R w S → (∀ b, S b → b < w.heap.size → w'.heap[b]? = w.heap[b]?) → R w' S) : U6 (bz5 R S) :=
 fun w w' _ _ ha ⟨h1, h2⟩ => ⟨hR w w' h1 fun b hb hlt => (ha.2 b hlt (h2 b hb).2).2, fun b hb => ⟨Nat.lt_of_lt_of_le (h2 b hb).1 ha.1, (ha.2 b (h2 b hb).1 (h2 b hb).2).1⟩⟩
theorem f9.mono : ∀ {ks : List b5} {S S' : Nat → Prop} {xs : List Value}, f9 w ks S xs → (∀ b, S b → S' b) → f9 w ks S' xs
 | [], _, _, _, h, _ => h
 | _ :: _, _, _, _, ⟨c, ys, S1, S2, h1, h2, h3, h4, h5⟩, hs => ⟨c, ys, S1, S2, h1, fun b hb => ⟨hs b (h2 b hb).1, (h2 b hb).2⟩, fun b hb => hs b (h3 b hb), h4, h5⟩
theorem l9.mono : ∀ {ks : List b8} {S S' : Nat → Prop} {xs : List Value}, l9 w ks S xs → (∀ b, S b → S' b) → l9 w ks S' xs
 | [], _, _, _, h, _ => h
 | _ :: _, _, _, _, ⟨c, ys, S1, S2, h1, h2, h3, h4, h5⟩, hs => ⟨c, ys, S1, S2, h1, fun b hb => ⟨hs b (h2 b hb).1, (h2 b hb).2⟩, fun b hb => hs b (h3 b hb), h4, h5⟩
theorem f9.snoc : ∀ {ks : List b5} {S S' T : Nat → Prop} {xs c : List Value} {e : b5}, f9 w ks S xs → B5 w e T c → (∀ b, S b → S' b ∧ ¬ T b) → (∀ b, T b → S' b) → f9 w (ks ++ [e]) S' (xs ++ c)
 | [], S, S', T, xs, c, e, h, k, d, f => by
  rw [show xs = [] from h]
  exact ⟨c, [], T, fun _ => False, by simp, fun b hb => ⟨f b hb, fun h => h⟩, fun b hb => hb.elim, k, rfl⟩
 | a :: r, S, S', T, _, c, e, ⟨x, ys, S1, S2, h1, h2, h3, h4, h5⟩, k, d, f =>
  ⟨x, ys ++ c, S1, fun b => S2 b ∨ T b, by rw [h1, List.append_assoc], fun b hb => ⟨(d b (h2 b hb).1).1, fun h => h.elim (h2 b hb).2 (d b (h2 b hb).1).2⟩, fun b hb => hb.elim (fun h => (d b (h3 b h)).1) (f b), h4,
   f9.snoc h5 k (fun b hb => ⟨.inl hb, (d b (h3 b hb)).2⟩) fun b hb => .inr hb⟩
theorem l9.snoc : ∀ {ks : List b8} {S S' T : Nat → Prop} {xs c : List Value} {e : b8}, l9 w ks S xs → C4 w e T c → (∀ b, S b → S' b ∧ ¬ T b) → (∀ b, T b → S' b) → l9 w (ks ++ [e]) S' (xs ++ c)
 | [], S, S', T, xs, c, e, h, k, d, f => by
  rw [show xs = [] from h]
  exact ⟨c, [], T, fun _ => False, by simp, fun b hb => ⟨f b hb, fun h => h⟩, fun b hb => hb.elim, k, rfl⟩
 | a :: r, S, S', T, _, c, e, ⟨x, ys, S1, S2, h1, h2, h3, h4, h5⟩, k, d, f =>
  ⟨x, ys ++ c, S1, fun b => S2 b ∨ T b, by rw [h1, List.append_assoc], fun b hb => ⟨(d b (h2 b hb).1).1, fun h => h.elim (h2 b hb).2 (d b (h2 b hb).1).2⟩, fun b hb => hb.elim (fun h => (d b (h3 b h)).1) (f b), h4,
   l9.snoc h5 k (fun b hb => ⟨.inl hb, (d b (h3 b hb)).2⟩) fun b hb => .inr hb⟩
theorem B5.iff (e : b5) (S : Nat → Prop) (cs : List Value) : B5 w e S cs ↔ ∃ kv, cs = [.int .i64 e.kind, .int .i64 e.value, kv] ∧ i7 w kv e.kids S := by
 cases e with
 | mk k n ks => exact ⟨fun ⟨v, xs, T, h1, h2⟩ => ⟨v, h1, xs, T, h2⟩, fun ⟨v, h1, xs, T, h2⟩ => ⟨v, xs, T, h1, h2⟩⟩
theorem C4.iff (s : b8) (S : Nat → Prop) (cs : List Value) : C4 w s S cs ↔ ∃ (iv vv bv ev : Value) (Si Sv Sb Se : Nat → Prop), cs = [.int .i64 s.kind, .int .i64 s.target, .int .i64 s.index.kind, .int .i64 s.index.value, iv, .int .i64 s.value.kind, .int .i64 s.value.value, vv, .int .i64 s.count, bv, ev] ∧
  ((∀ b, Si b → S b ∧ ¬ Sv b ∧ ¬ Sb b ∧ ¬ Se b) ∧ (∀ b, Sv b → S b ∧ ¬ Sb b ∧ ¬ Se b) ∧ (∀ b, Sb b → S b ∧ ¬ Se b) ∧ (∀ b, Se b → S b)) ∧ i7 w iv s.index.kids Si ∧ i7 w vv s.value.kids Sv ∧ E4 w bv s.body Sb ∧ E4 w ev s.els Se := by
 cases s with
 | mk k t i v c b e =>
  exact ⟨fun ⟨iv, vv, bv, ev, xb, xe, Si, Sv, Sb, Se, Sb', Se', h1, h2, h3, h4, h5, h6⟩ => ⟨iv, vv, bv, ev, Si, Sv, Sb, Se, h1, h2, h3, h4, ⟨xb, Sb', h5⟩, ⟨xe, Se', h6⟩⟩,
   fun ⟨iv, vv, bv, ev, Si, Sv, Sb, Se, h1, h2, h3, h4, ⟨xb, Sb', h5⟩, ⟨xe, Se', h6⟩⟩ => ⟨iv, vv, bv, ev, xb, xe, Si, Sv, Sb, Se, Sb', Se', h1, h2, h3, h4, h5, h6⟩⟩
end
theorem N6 {ks : List b5} {k : Nat} (h : k < ks.length) : m6 (ks.take (k + 1)) = m6 (ks.take k) + (1 + G7 ks[k]) := by
 rw [n8 _ _ h, O9]
 simp [m6]
theorem bm6 : (Try.prog.info? 29).map (fun i => (i.zero, i.size, i.bytes)) = some (some (.agg #[.int .i64 0, .int .i64 0, .slice none 0 0]), 3, 40) := by kernel_rfl
theorem L2 (us : List Value) : ∀ (c ys : List Value) (p : Nat), c.length ≤ p → setFrom (c ++ ys) p us = c ++ setFrom ys (p - c.length) us := by
 induction us with
 | nil => intro c ys p _; rfl
 | cons u r ih =>
  intro c ys p hp
  simp only [setFrom]
  rw [List.set_append_right _ _ hp, ih _ _ _ (by omega), show p + 1 - c.length = p - c.length + 1 by omega]
theorem M6 (us : List Value) : ∀ (c ys : List Value) (p : Nat), p + us.length ≤ c.length → setFrom (c ++ ys) p us = setFrom c p us ++ ys := by
 induction us with
 | nil => intro c ys p _; rfl
 | cons u r ih =>
  intro c ys p hp
  simp only [bH3] at hp
  simp only [setFrom]
  rw [List.set_append_left _ _ (by omega), ih _ _ _ (by simp; omega)]
theorem ab2 {c us : List Value} (h : us.length = c.length) : setFrom c 0 us = us := by
 have h1 := ae8 us c 0 (by omega)
 rw [bI4, bF9 (by rw [C8]; omega)] at h1
 simpa using h1
theorem B5.len {w : World} {e : b5} {S : Nat → Prop} {c : List Value} (h : B5 w e S c) : c.length = 3 := by
 obtain ⟨kv, rfl, _⟩ := (B5.iff e S c).1 h; rfl
theorem C4.len {w : World} {s : b8} {S : Nat → Prop} {c : List Value} (h : C4 w s S c) : c.length = 11 := by
 obtain ⟨_, _, _, _, _, _, _, _, rfl, _⟩ := (C4.iff s S c).1 h; rfl
theorem f9.focus {w : World} : ∀ {ls : List b5} {S : Nat → Prop} {xs : List Value}, f9 w ls S xs → ∀ (i : Nat) (hi : i < ls.length), ∃ (c : List Value) (Sc : Nat → Prop), B5 w ls[i] Sc c ∧ (∀ b, Sc b → S b) ∧ (∀ j, j < 3 → xs[i * 3 + j]? = c[j]?) ∧
  ∀ (w' : World) (e' : b5) (c' : List Value), (∀ b, S b → ¬ Sc b → b < w.heap.size → w'.heap[b]? = w.heap[b]?) → B5 w' e' Sc c' → f9 w' (ls.set i e') S (setFrom xs (i * 3) c')
 | [], _, _, _, i, hi => by simp at hi
 | e :: r, S, xs, ⟨c, ys, S1, S2, h1, h2, h3, h4, h5⟩, i, hi => by
  have hc := h4.len
  subst h1
  cases i with
  | zero =>
   refine ⟨c, S1, h4, fun b hb => (h2 b hb).1, fun j hj => by rw [bH1 (by omega)]; simp, fun w' e' c' hs hO => ?_⟩
   refine ⟨c', ys, S1, S2, ?_, h2, h3, hO, f9.same r S2 ys h5 fun b hb hlt => hs b (h3 b hb) (fun h => (h2 b h).2 hb) hlt⟩
   rw [Nat.zero_mul, M6 c' c ys 0 (by rw [hO.len]; omega), ab2 (by rw [hO.len, hc])]
  | succ i =>
   obtain ⟨d, Sc, k1, k2, k3, k4⟩ := f9.focus h5 i (by simpa using hi)
   refine ⟨d, Sc, k1, fun b hb => h3 b (k2 b hb), fun j hj => ?_, fun w' e' c' hs hO => ?_⟩
   ·rw [bI6 (by rw [hc, bI0]; omega), ← k3 j hj]
    congr 1
    rw [hc, bI0]; omega
   ·refine ⟨c, setFrom ys (i * 3) c', S1, S2, ?_, h2, h3, B5.same e S1 c h4 fun b hb hlt => hs b (h2 b hb).1 (fun h => (h2 b hb).2 (k2 b h)) hlt, k4 w' e' c' (fun b hb hn hlt => hs b (h3 b hb) hn hlt) hO⟩
    rw [L2 c' c ys _ (by rw [hc, bI0]; omega), hc, bI0, Nat.add_sub_cancel]
theorem l9.focus {w : World} : ∀ {ls : List b8} {S : Nat → Prop} {xs : List Value}, l9 w ls S xs → ∀ (i : Nat) (hi : i < ls.length), ∃ (c : List Value) (Sc : Nat → Prop), C4 w ls[i] Sc c ∧ (∀ b, Sc b → S b) ∧ (∀ j, j < 11 → xs[i * 11 + j]? = c[j]?) ∧
  ∀ (w' : World) (e' : b8) (c' : List Value), (∀ b, S b → ¬ Sc b → b < w.heap.size → w'.heap[b]? = w.heap[b]?) → C4 w' e' Sc c' → l9 w' (ls.set i e') S (setFrom xs (i * 11) c')
 | [], _, _, _, i, hi => by simp at hi
 | e :: r, S, xs, ⟨c, ys, S1, S2, h1, h2, h3, h4, h5⟩, i, hi => by
  have hc := h4.len
  subst h1
  cases i with
  | zero =>
   refine ⟨c, S1, h4, fun b hb => (h2 b hb).1, fun j hj => by rw [bH1 (by omega)]; simp, fun w' e' c' hs hO => ?_⟩
   refine ⟨c', ys, S1, S2, ?_, h2, h3, hO, l9.same r S2 ys h5 fun b hb hlt => hs b (h3 b hb) (fun h => (h2 b h).2 hb) hlt⟩
   rw [Nat.zero_mul, M6 c' c ys 0 (by rw [hO.len]; omega), ab2 (by rw [hO.len, hc])]
  | succ i =>
   obtain ⟨d, Sc, k1, k2, k3, k4⟩ := l9.focus h5 i (by simpa using hi)
   refine ⟨d, Sc, k1, fun b hb => h3 b (k2 b hb), fun j hj => ?_, fun w' e' c' hs hO => ?_⟩
   ·rw [bI6 (by rw [hc, bI0]; omega), ← k3 j hj]
    congr 1
    rw [hc, bI0]; omega
   ·refine ⟨c, setFrom ys (i * 11) c', S1, S2, ?_, h2, h3, C4.same e S1 c h4 fun b hb hlt => hs b (h2 b hb).1 (fun h => (h2 b hb).2 (k2 b h)) hlt, k4 w' e' c' (fun b hb hn hlt => hs b (h3 b hb) hn hlt) hO⟩
    rw [L2 c' c ys _ (by rw [hc, bI0]; omega), hc, bI0, Nat.add_sub_cancel]
section
variable {φ ψ : Nat → Prop} {w0 w w' : World} {L : List K3}
theorem m0.fuse {a b : K3} (M : m0 φ ψ w0 w (L ++ [a, b])) (c : K3) (hb : ∀ g, c.blk g → a.blk g ∨ b.blk g)
  (hc : (∀ g, a.blk g → ¬ b.blk g) → a.holds w (Fr φ (L ++ [a, b])) → b.holds w (Fr φ (L ++ [a, b])) → c.holds w (Fr φ (L ++ [c]))) : m0 φ ψ w0 w (L ++ [c]) := by
 have ga : (L ++ [a, b])[L.length]? = some a := by simp
 have gb : (L ++ [a, b])[L.length + 1]? = some b := by simp
 have gl : ∀ (i : Nat) (x : K3), L[i]? = some x → (L ++ [a, b])[i]? = some x := fun i x h => by
  have := (bF6.1 h).1
  rw [bH1 this]; exact h
 have get : ∀ (i : Nat) (x : K3), (L ++ [c])[i]? = some x → (i < L.length ∧ L[i]? = some x) ∨ (i = L.length ∧ x = c) := by
  intro k z hz
  rcases bH7 k L.length with hk | hk
  ·rw [bH1 hk] at hz; exact .inl ⟨hk, hz⟩
  ·rw [bI6 hk] at hz
   have : k - L.length = 0 := by
    rcases Nat.eq_zero_or_pos (k - L.length) with h | h
    ·exact h
    ·rw [bH2 (by rw [List.length_singleton]; exact h)] at hz; cases hz
   rw [this] at hz; simp at hz
   exact .inr ⟨by omega, hz.symm⟩
 refine ⟨M.kept, M.fresh, fun r hr => ?_, fun i j x y g hi hj hij hx hy => ?_, fun r g hr hg => ?_⟩
 ·rcases bG8.1 hr with hr | hr
  ·refine K3.keep (M.holds r (by simp [hr])) (O1.mono fun g _ hf => ⟨hf.1, fun x hx he => ?_⟩) fun _ _ => rfl
   rcases bG8.1 hx with hx | hx
   ·exact hf.2 x (by simp [hx]) he
   ·rw [bH4] at hx; subst hx
    rcases hb g he with h | h
    ·exact hf.2 a (by simp) h
    ·exact hf.2 b (by simp) h
  ·rw [bH4] at hr; subst hr
   exact hc (fun g h1 h2 => M.dis _ _ a b g ga gb (by omega) h1 h2) (M.holds a (by simp)) (M.holds b (by simp))
 ·rcases get i x hi with ⟨hi1, hi2⟩ | ⟨hi1, rfl⟩ <;> rcases get j y hj with ⟨hj1, hj2⟩ | ⟨hj1, rfl⟩
  ·exact M.dis i j x y g (gl i x hi2) (gl j y hj2) hij hx hy
  ·rcases hb g hy with h | h
   ·exact M.dis i _ x a g (gl i x hi2) ga (by omega) hx h
   ·exact M.dis i _ x b g (gl i x hi2) gb (by omega) hx h
  ·rcases hb g hx with h | h
   ·exact M.dis j _ y a g (gl j y hj2) ga (by omega) hy h
   ·exact M.dis j _ y b g (gl j y hj2) gb (by omega) hy h
  ·omega
 ·rcases bG8.1 hr with hr | hr
  ·exact M.ge r g (by simp [hr]) hg
  ·rw [bH4] at hr; subst hr
   rcases hb g hg with h | h
   ·exact M.ge a g (by simp) h
   ·exact M.ge b g (by simp) h
theorem m0.joinE {S T : Nat → Prop} {ks : List b5} {xs : List Value} {e : b5} {kv : Value} (M : m0 φ ψ w0 w (L ++ [.own S (fun w => f9 w ks S xs), .own T (fun w => i7 w kv e.kids T)])) :
  m0 φ ψ w0 w (L ++ [.own (fun b => S b ∨ T b) (fun w => f9 w (ks ++ [e]) (fun b => S b ∨ T b) (xs ++ [.int .i64 e.kind, .int .i64 e.value, kv]))]) :=
 M.fuse _ (fun _ h => h) fun hd h1 h2 => ⟨fun _ _ h hs => f9.same _ _ _ h hs, f9.snoc h1.2.1 ((B5.iff _ _ _).2 ⟨kv, rfl, h2.2.1⟩) (fun b hb => ⟨.inl hb, hd b hb⟩) (fun _ hb => .inr hb), fun b hb => hb.elim (h1.2.2 b) (h2.2.2 b)⟩
theorem m0.joinK {S : Nat → Prop} {ks : List b5} {n : Nat} {xs : List Value} {v : Value} (M : m0 φ ψ w0 w (L ++ [.row 29 3 v n xs, .own S (fun w => f9 w ks S xs)])) (hn : n = ks.length) :
  m0 φ ψ w0 w (L ++ [.own (fun b => v.ownBlock = some b ∨ S b) (fun w => i7 w v ks (fun b => v.ownBlock = some b ∨ S b))]) := by
 subst hn
 exact M.fuse _ (fun _ h => h) fun hd h1 h2 => ⟨fun _ _ h hs => i7.same h hs, ⟨xs, S, h1, fun g hg => ⟨.inl hg, hd g hg⟩, fun _ hb => .inr hb, h2.2.1⟩, fun b hb => hb.elim (fun h => (World.ownsRow.lt h1 b h).2) (h2.2.2 b)⟩
theorem m0.noneE (M : m0 φ ψ w0 w L) : m0 φ ψ w0 w (L ++ [.own (fun _ => False) (fun w => f9 w [] (fun _ => False) [])]) :=
 M.callO (Below.refl _ _) (fun _ _ _ _ => rfl) rfl fun _ h => h.elim
theorem f9.at : ∀ {ks : List b5} {S : Nat → Prop} {xs : List Value}, f9 w ks S xs → ∀ (i : Nat) (hi : i < ks.length), ∃ kv, xs[i * 3]? = some (.int .i64 ks[i].kind) ∧ xs[i * 3 + 1]? = some (.int .i64 ks[i].value) ∧ xs[i * 3 + 2]? = some kv ∧ i7 w kv ks[i].kids S
 | [], _, _, _, i, hi => by simp at hi
 | e :: r, S, _, ⟨c, ys, S1, S2, h1, h2, h3, h4, h5⟩, i, hi => by
  obtain ⟨kv, rfl, hk⟩ := (B5.iff e S1 c).1 h4
  subst h1
  cases i with
  | zero => exact ⟨kv, rfl, rfl, rfl, hk.mono fun b hb => (h2 b hb).1⟩
  | succ i =>
   obtain ⟨kv', a, b, d, f⟩ := f9.at h5 i (by simpa using hi)
   refine ⟨kv', ?_, ?_, ?_, f.mono h3⟩ <;> (rw [bI0]; simpa [Nat.add_assoc] using by assumption)
theorem i7.open {v : Value} {ks : List b5} {S : Nat → Prop} (h : i7 w v ks S) : ∃ a cap, v = .slice a ks.length cap ∧ ks.length ≤ cap ∧ ks.length ≤ 9223372036854775807 ∧ cap ≤ 9223372036854775807 ∧
  ∀ i (hi : i < ks.length), ∃ b off kv, a = some ⟨b, off, none⟩ ∧ b < w.heap.size ∧ S b ∧ w.cell? ⟨b, off + i * 3, none⟩ = some (.int .i64 ks[i].kind) ∧ w.cell? ⟨b, off + i * 3 + 1, none⟩ = some (.int .i64 ks[i].value) ∧ w.cell? ⟨b, off + i * 3 + 2, none⟩ = some kv ∧ i7 w kv ks[i].kids S := by
 obtain ⟨xs, S', h2, h3, h4, h5⟩ := h
 obtain ⟨hl, a, cap, hv, n1, n2, n3⟩ := A0 (φ := fun g => S g ∧ ¬ S' g) h2 h3
 unfold maxLen at n2
 refine ⟨a, cap, hv, n1, by omega, by omega, fun i hi => ?_⟩
 obtain ⟨b, off, he, hb, hf, hc⟩ := n3 (by omega)
 obtain ⟨kv, e0, e1, e2, hk⟩ := h5.at i hi
 exact ⟨b, off, kv, he, hb, hf.1, hc _ _ e0, hc _ _ e1, hc _ _ e2, hk.mono h4⟩
theorem i7.nil (w : World) (S : Nat → Prop) : i7 w (.slice none 0 0) [] S := ⟨[], fun _ => False, World.ownsRow_nil _ _ _ _, (fun g hg => by cases hg), fun _ h => h.elim, rfl⟩
end
theorem X0 (us : List Value) : ∀ (ys : List Value) (p q : Nat), p + us.length ≤ ys.length → (setFrom ys p us)[q]? = if p ≤ q ∧ q < p + us.length then us[q - p]? else ys[q]? := by
 induction us with
 | nil => intro ys p q _; simp only [setFrom, List.length_nil]; split; omega; rfl
 | cons u r ih =>
  intro ys p q h
  simp only [bH3] at h
  simp only [setFrom, bH3]
  rw [ih _ _ _ (by simp; omega)]
  by_cases h1 : q = p
  ·subst h1
   rw [if_neg (by omega), if_pos (by omega), List.getElem?_set_self (by omega), Nat.sub_self]; rfl
  ·by_cases h2 : p + 1 ≤ q ∧ q < p + 1 + r.length
   ·rw [if_pos h2, if_pos (by omega), show q - p = q - (p + 1) + 1 by omega]; rfl
   ·rw [if_neg h2, if_neg (by omega), List.getElem?_set_ne (by omega)]
theorem ae9 {xs cs : List Value} {p : Nat} (h : p + cs.length ≤ xs.length) (hc : ∀ j, j < cs.length → xs[p + j]? = cs[j]?) : setFrom xs p cs = xs := by
 apply List.ext_getElem?
 intro q
 rw [X0 _ _ _ _ h]
 split
 ·rename_i h1
  rw [← hc _ (by omega)]; congr 1; omega
 ·rfl
theorem al3 {xs cs : List Value} {p k : Nat} (u : Value) (h : p + cs.length ≤ xs.length) (hk : k < cs.length) : (setFrom xs p cs).set (p + k) u = setFrom xs p (cs.set k u) := by
 apply List.ext_getElem?
 intro q
 rw [X0 _ _ _ _ (by simpa using h), List.getElem?_set, X0 _ _ _ _ h, C8, List.length_set]
 by_cases h1 : p + k = q
 ·subst h1
  rw [if_pos rfl, if_pos (by omega), if_pos (by omega), Nat.add_sub_cancel_left, List.getElem?_set_self hk]
 ·rw [if_neg h1]
  split
  ·rw [List.getElem?_set_ne (by omega)]
  ·rfl
def K3.plain : K3 → Prop
 | .dat _ => False
 | _ => True
theorem K3.holds_plain {w : World} {φ φ' : Nat → Prop} {r : K3} (hp : r.plain) (h : r.holds w φ) : r.holds w φ' := by
 cases r with
 | dat R => exact hp.elim
 | box b cs => exact h
 | row e sz v n xs => exact h
 | own S R => exact h
theorem m0.adopt {φ ψ : Nat → Prop} {w0 w : World} {L : List K3} (M : m0 φ ψ w0 w L) (r : K3) (hL : ∀ a ∈ L, a.plain) (hp : r.plain) (h : r.holds w (fun _ => True)) (hd : ∀ a ∈ L, ∀ g, r.blk g → ¬ a.blk g) (hg : ∀ g, r.blk g → ¬ ψ g) : m0 φ ψ w0 w (L ++ [r]) := by
 have get : ∀ (i : Nat) (x : K3), (L ++ [r])[i]? = some x → (i < L.length ∧ x ∈ L ∧ L[i]? = some x) ∨ (i = L.length ∧ x = r) := by
  intro k z hz
  rcases bH7 k L.length with hk | hk
  ·rw [bH1 hk] at hz; exact .inl ⟨hk, bE9 hz, hz⟩
  ·rw [bI6 hk] at hz
   have : k - L.length = 0 := by
    rcases Nat.eq_zero_or_pos (k - L.length) with h | h
    ·exact h
    ·rw [bH2 (by rw [List.length_singleton]; exact h)] at hz; cases hz
   rw [this] at hz; simp at hz
   exact .inr ⟨by omega, hz.symm⟩
 refine ⟨M.kept, M.fresh, fun x hx => ?_, fun i j x y g hi hj hij hx hy => ?_, fun x g hx hxg => ?_⟩
 ·rcases bG8.1 hx with hx | hx
  ·exact K3.holds_plain (hL x hx) (M.holds x hx)
  ·rw [bH4] at hx; subst hx; exact K3.holds_plain hp h
 ·rcases get i x hi with ⟨hi1, hi2, hi3⟩ | ⟨hi1, rfl⟩ <;> rcases get j y hj with ⟨hj1, hj2, hj3⟩ | ⟨hj1, rfl⟩
  ·exact M.dis i j x y g hi3 hj3 hij hx hy
  ·exact hd x hi2 g hy hx
  ·exact hd y hj2 g hx hy
  ·omega
 ·rcases bG8.1 hx with hx | hx
  ·exact M.ge x g hx hxg
  ·rw [bH4] at hx; subst hx; exact .inr (hg g hxg)
section
variable {w : World}
mutual
theorem B5.cut : ∀ (e : b5) (S : Nat → Prop) (cs : List Value), B5 w e S cs → B5 w e (fun b => S b ∧ b < w.heap.size) cs
 | ⟨_, _, ks⟩, _, _, ⟨v, xs, S', h1, h2, h3, h4, h5⟩ => ⟨v, xs, fun b => S' b ∧ b < w.heap.size, h1, h2, fun g hg => ⟨⟨(h3 g hg).1, (World.ownsRow.lt h2 g hg).2⟩, fun h => (h3 g hg).2 h.1⟩, fun b hb => ⟨h4 b hb.1, hb.2⟩, f9.cut ks S' xs h5⟩
theorem f9.cut : ∀ (ks : List b5) (S : Nat → Prop) (xs : List Value), f9 w ks S xs → f9 w ks (fun b => S b ∧ b < w.heap.size) xs
 | [], _, _, h => h
 | e :: r, _, _, ⟨c, ys, S1, S2, h1, h2, h3, h4, h5⟩ => ⟨c, ys, fun b => S1 b ∧ b < w.heap.size, fun b => S2 b ∧ b < w.heap.size, h1, fun b hb => ⟨⟨(h2 b hb.1).1, hb.2⟩, fun h => (h2 b hb.1).2 h.1⟩, fun b hb => ⟨h3 b hb.1, hb.2⟩, B5.cut e S1 c h4, f9.cut r S2 ys h5⟩
end
theorem i7.cut {v : Value} {ks : List b5} {S : Nat → Prop} (h : i7 w v ks S) : i7 w v ks (fun b => S b ∧ b < w.heap.size) := by
 obtain ⟨xs, S', h2, h3, h4, h5⟩ := h
 exact ⟨xs, fun b => S' b ∧ b < w.heap.size, h2, fun g hg => ⟨⟨(h3 g hg).1, (World.ownsRow.lt h2 g hg).2⟩, fun h => (h3 g hg).2 h.1⟩, fun b hb => ⟨h4 b hb.1, hb.2⟩, f9.cut ks S' xs h5⟩
mutual
theorem C4.cut : ∀ (s : b8) (S : Nat → Prop) (cs : List Value), C4 w s S cs → C4 w s (fun b => S b ∧ b < w.heap.size) cs
 | ⟨_, _, _, _, _, b, e⟩, _, _, ⟨iv, vv, bv, ev, xb, xe, Si, Sv, Sb, Se, Sb', Se', h1, ⟨d1, d2, d3, d4⟩, h2, h3, ⟨b1, b2, b3, b4⟩, ⟨e1, e2, e3, e4⟩⟩ =>
  ⟨iv, vv, bv, ev, xb, xe, fun b => Si b ∧ b < w.heap.size, fun b => Sv b ∧ b < w.heap.size, fun b => Sb b ∧ b < w.heap.size, fun b => Se b ∧ b < w.heap.size, fun b => Sb' b ∧ b < w.heap.size, fun b => Se' b ∧ b < w.heap.size, h1,
   ⟨fun b hb => ⟨⟨(d1 b hb.1).1, hb.2⟩, fun h => (d1 b hb.1).2.1 h.1, fun h => (d1 b hb.1).2.2.1 h.1, fun h => (d1 b hb.1).2.2.2 h.1⟩, fun b hb => ⟨⟨(d2 b hb.1).1, hb.2⟩, fun h => (d2 b hb.1).2.1 h.1, fun h => (d2 b hb.1).2.2 h.1⟩,
    fun b hb => ⟨⟨(d3 b hb.1).1, hb.2⟩, fun h => (d3 b hb.1).2 h.1⟩, fun b hb => ⟨d4 b hb.1, hb.2⟩⟩, h2.cut, h3.cut,
   ⟨b1, fun g hg => ⟨⟨(b2 g hg).1, (World.ownsRow.lt b1 g hg).2⟩, fun h => (b2 g hg).2 h.1⟩, fun b hb => ⟨b3 b hb.1, hb.2⟩, l9.cut b Sb' xb b4⟩,
   ⟨e1, fun g hg => ⟨⟨(e2 g hg).1, (World.ownsRow.lt e1 g hg).2⟩, fun h => (e2 g hg).2 h.1⟩, fun b hb => ⟨e3 b hb.1, hb.2⟩, l9.cut e Se' xe e4⟩⟩
theorem l9.cut : ∀ (ks : List b8) (S : Nat → Prop) (xs : List Value), l9 w ks S xs → l9 w ks (fun b => S b ∧ b < w.heap.size) xs
 | [], _, _, h => h
 | e :: r, _, _, ⟨c, ys, S1, S2, h1, h2, h3, h4, h5⟩ => ⟨c, ys, fun b => S1 b ∧ b < w.heap.size, fun b => S2 b ∧ b < w.heap.size, h1, fun b hb => ⟨⟨(h2 b hb.1).1, hb.2⟩, fun h => (h2 b hb.1).2 h.1⟩, fun b hb => ⟨h3 b hb.1, hb.2⟩, C4.cut e S1 c h4, l9.cut r S2 ys h5⟩
end
theorem E4.cut {v : Value} {ks : List b8} {S : Nat → Prop} (h : E4 w v ks S) : E4 w v ks (fun b => S b ∧ b < w.heap.size) := by
 obtain ⟨xs, S', h2, h3, h4, h5⟩ := h
 exact ⟨xs, fun b => S' b ∧ b < w.heap.size, h2, fun g hg => ⟨⟨(h3 g hg).1, (World.ownsRow.lt h2 g hg).2⟩, fun h => (h3 g hg).2 h.1⟩, fun b hb => ⟨h4 b hb.1, hb.2⟩, l9.cut ks S' xs h5⟩
end
section
variable {φ ψ : Nat → Prop} {w0 w : World} {L : List K3}
end
section
variable {P : Program}
structure S5 (wr w : World) (S : Nat → Prop) : Prop where
 below : Below wr.heap.size wr w
 box : ∀ b, S b → wr.heap.size ≤ b ∧ b < w.heap.size
theorem S5.start (w : World) : S5 w w.drew fun _ => False := ⟨(Below.refl _ _).drew, fun _ h => h.elim⟩
theorem S5.call {wr w w' : World} {S : Nat → Prop} (h : S5 wr w S) (b : Below w.heap.size w w') : S5 wr w' S := ⟨h.below.trans (b.mono h.below.size), fun c hc => ⟨(h.box c hc).1, Nat.lt_of_lt_of_le (h.box c hc).2 b.size⟩⟩
theorem S5.new {wr w w' : World} {S : Nat → Prop} (h : S5 wr w S) (b : Below w.heap.size w w') (hs : w.heap.size < w'.heap.size) : S5 wr w' fun c => S c ∨ c = w.heap.size :=
 ⟨h.below.trans (b.mono h.below.size), fun c hc => by
  rcases hc with hc | rfl
  ·exact ⟨(h.box c hc).1, Nat.lt_of_lt_of_le (h.box c hc).2 b.size⟩
  ·exact ⟨h.below.size, hs⟩⟩
def RF (φ S : Nat → Prop) (b : Nat) : Prop := φ b ∧ ¬ S b
theorem S5.fresh {wr w : World} {S φ : Nat → Prop} (h : S5 wr w S) (hf : ∀ b, wr.heap.size ≤ b → φ b) : ∀ b, w.heap.size ≤ b → RF φ S b := fun b hb => ⟨hf b (bH6 h.below.size hb), fun hs => by have := (h.box b hs).2; omega⟩
theorem S5.old {wr w : World} {S φ : Nat → Prop} (h : S5 wr w S) {R : World → (Nat → Prop) → Prop} (hn : U6 R) (hr : R wr φ) : R w (RF φ S) :=
 hn _ _ _ _ ⟨h.below.size, fun b hb hf => ⟨⟨hf, fun hs => by have := (h.box b hs).1; omega⟩, h.below.block b hb⟩⟩ hr
end
theorem m0.region {φ ψ : Nat → Prop} {w0 wr w : World} {L : List K3} {S : Nat → Prop} (M : m0 φ ψ w0 wr L) (hg : S5 wr w S) {g : Nat} {cs : List Value} (hb : R1 w g cs) (hs : S g) : m0 φ ψ w0 w (L ++ [.box g cs]) :=
 M.add hg.below _ hb fun g' h => by cases h; exact (hg.box _ hs).1
theorem RF.app {φ S : Nat → Prop} {L : List K3} {b : Nat} (h : RF (Fr φ L) S b) (X : List K3) (hX : ∀ r ∈ X, ∀ g, r.blk g → S g) : Fr φ (L ++ X) b :=
 ⟨h.1.1, fun r hr he => by
  rcases bG8.1 hr with hr | hr
  ·exact h.1.2 r hr he
  ·exact h.2 (hX r hr b he)⟩
section
variable {P : Program}
def Q8 (ops : Array Oper) : Bool := (bH0 ops.size).all fun j => (ops[j]?).any fun o => o.after.all fun e => !Region.binds .any e || decide (e.on < j)
theorem Y5 {ops : Array Oper} (hb : Q8 ops = true) {k : Nat} {o : Oper} (hk : k < ops.size) (ho : ops[k]? = some o) {e : Edge} (he : e ∈ o.after) (hbi : Region.binds .any e = true) : e.on < k := by
 have h1 := bF5.1 hb k (List.mem_range.2 hk)
 rw [ho] at h1
 simp only [Option.any_some] at h1
 have h2 := Array.all_eq_true'.1 h1 e he
 rw [hbi] at h2
 simpa using h2
theorem al2 {ops : Array Oper} (hb : Q8 ops = true) {listed : Array Bool} (hsz : listed.size = ops.size) : ∀ k, k < ops.size → listed.getD k true = false → Region.ready .any ops listed ≠ [] := by
 intro k
 induction k using Nat.strongRecOn with
 | _ k ih =>
  intro hk hl hn
  by_cases hall : ∃ j, j < k ∧ listed.getD j true = false
  ·obtain ⟨j, hj, hlj⟩ := hall
   exact ih j hj (by omega) hlj hn
  ·have hok : ops[k]? = some ops[k] := Array.getElem?_eq_getElem hk
   have : k ∈ Region.ready .any ops listed := by
    refine mem_ready.2 ⟨hl, ops[k], hok, fun e he hbi => ?_⟩
    have h2 := Y5 hb hk hok he hbi
    cases h3 : listed.getD e.on true
    ·exact absurd ⟨e.on, h2, h3⟩ hall
    ·have : e.on < listed.size := by omega
     simp [this] at h3 ⊢
     exact h3
   rw [hn] at this
   cases this
def aB5 (l : List Oper) (n : Nat) : Bool :=
 match l[n]? with
 | none => false
 | some _ => decide (l.length = n + 1) && Region.sinkB .any l.toArray n && Region.chainB .any l.toArray n && Q8 l.toArray
theorem ak6 {l : List Oper} {n : Nat} {Q : Exit → Act → World → Prop} (I : Array Bool → Act → World → Prop) (hn : l.toArray.size = n + 1) (hs : Region.sinkB .any l.toArray n = true) (hc : Region.chainB .any l.toArray n = true) (hb : Q8 l.toArray = true)
  (step : ∀ listed a w, I listed a w → ∀ i o, i < n → l[i]? = some o → listed.getD i true = false → (∀ e ∈ o.after, Region.binds .any e = true → listed.getD e.on false = true) →
   ∀ Q' : Exit → Act → World → Prop, (∀ a w, I (listed.setIfInBounds i true) a w → Q' .normal a w) → wpList P l.toArray Q' [o] a w)
  (last : ∀ listed a w, I listed a w → (∀ j, j < n → listed.getD j true = true) → ∀ o, l[n]? = some o → wpList P l.toArray Q [o] a w) :
  ∀ (fuel : Nat) (listed : Array Bool) (a : Act) (w : World), HeadInv .any l.toArray n listed → listed.toList.count false = fuel → I listed a w → wpAny P .any l.toArray Q fuel listed a w := by
 intro fuel
 induction fuel with
 | zero =>
  intro listed a w inv hcnt _
  have := F6 (inv.tail n (bG4 _) (by omega))
  omega
 | succ f ih =>
  intro listed a w inv hcnt hI
  refine ⟨fun h0 => absurd h0 (al2 hb inv.size n (by omega) (inv.tail n (bG4 _) (by omega))), fun i hi => ?_⟩
  obtain ⟨h1, o, ho, h2⟩ := mem_ready.1 hi
  have ho' : l[i]? = some o := by simpa using ho
  have hcl := F6 h1
  have hisz := (Array.getElem?_eq_some_iff.1 ho).1
  rcases bH7 i n with hin | hin
  ·have hs' := step listed a w hI i o hin ho' h1 h2 (fun e a w => e = .normal ∧ I (listed.setIfInBounds i true) a w) fun a w h => ⟨rfl, h⟩
   unfold wpOp
   rw [ho]
   simp only
   unfold wpList at hs'
   split
   ·rename_i hw
    rw [if_pos hw] at hs'
    rcases hs' with hs' | ⟨_, a, w, he, _⟩
    ·exact .inl (ah1 (fun _ _ _ h => h.1) (Oper.wp_mono (fun a' w' h => ih _ a' w' (inv.set hi hin) (by omega) h.2) hs'))
    ·cases he
   ·rename_i hw
    rw [if_neg hw] at hs'
    exact ih _ _ _ (inv.set hi hin) (by omega) hs'.2
  ·obtain rfl : i = n := by omega
   have hall : ∀ j, j < i → listed.getD j true = true := fun j hj => by
    cases hl : listed.getD j true
    ·exact absurd hi (tail_waits hs hc (by omega) inv _ j rfl hj hl i (bG4 _))
    ·rfl
   have hnone : Region.ready .any l.toArray (listed.setIfInBounds i true) = [] := by
    rw [List.eq_nil_iff_forall_not_mem]
    intro j hj
    obtain ⟨hj1, oj, hoj, _⟩ := mem_ready.1 hj
    have hjs := (Array.getElem?_eq_some_iff.1 hoj).1
    by_cases hji : j = i
    ·subst hji; simp [inv.size, hn] at hj1
    ·rw [getD_set_ne true (fun e => hji e.symm), hall j (by omega)] at hj1; cases hj1
   have hl := last listed a w hI hall o ho'
   unfold wpOp
   rw [ho]
   simp only
   unfold wpList at hl
   have hfin : ∀ a' w', Q .normal a' w' → wpAny P .any l.toArray Q f (listed.setIfInBounds i true) a' w' := fun a' w' hq => by
    cases f with
    | zero => exact ⟨hnone, hq⟩
    | succ f => exact ⟨fun _ => hq, fun j hj => by rw [hnone] at hj; cases hj⟩
   split
   ·rename_i hw
    rw [if_pos hw] at hl
    exact hl.imp (Oper.wp_mono (fun a' w' h => hfin a' w' h)) id
   ·rename_i hw
    rw [if_neg hw] at hl
    exact hfin _ _ hl
def at2 (l : List Oper) : List Nat → Bool
 | [] => true
 | [_] => true
 | i :: j :: r => (match l[j]? with | some o => o.after.any (fun e => Region.binds .any e && e.on == i) | none => false) && at2 l (j :: r)
theorem ax6 {l : List Oper} : ∀ {Js : List Nat}, at2 l Js = true → ∀ (s j j' : Nat) (o : Oper), Js[s]? = some j → Js[s + 1]? = some j' → l[j']? = some o → ∃ e, e ∈ o.after ∧ Region.binds .any e = true ∧ e.on = j
 | [], _, s, j, j', o, h1, _, _ => by simp at h1
 | [x], _, s, j, j', o, h1, h2, _ => by simp at h2
 | x :: y :: r, h, 0, j, j', o, h1, h2, ho => by
  simp at h1 h2
  subst h1 h2
  simp only [at2, bE8] at h
  rw [ho] at h
  obtain ⟨e, he, h3⟩ := Array.any_eq_true'.1 h.1
  simp only [bE8, beq_iff_eq] at h3
  exact ⟨e, he, h3.1, h3.2⟩
 | x :: y :: r, h, s + 1, j, j', o, h1, h2, ho => by
  simp only [at2, bE8] at h
  exact ax6 h.2 s j j' o (by simpa using h1) (by simpa using h2) ho
theorem Z5 {a : Array Bool} {j : Nat} (h : j < a.size) : a.getD j true = a.getD j false := by simp [h]
def JV (Js : List Nat) (f : Nat → Value) : Nat → Value := fun j => f (Js.getD j 0)
def ChI (A : (Nat → Value) → Act) (Js : List Nat) (U : Nat → Value) (St : Nat → (Nat → Value) → World → Prop) (n m : Nat) (listed : Array Bool) (a : Act) (w : World) : Prop :=
 listed.size = m ∧ ∃ f s, a = A f ∧ s ≤ Js.length ∧ St s (JV Js f) w ∧ (∀ (j i : Nat), Js[j]? = some i → (listed.getD i false = true ↔ j < s)) ∧ ∀ i, i < n → i ∉ Js → listed.getD i false = true → f i = U i
theorem U9 {id : Nat} {l : List Oper} {Q : Exit → Act → World → Prop} {a0 : Act} {wr : World} (n : Nat) (Js : List Nat) (U : Nat → Value) (St : Nat → (Nat → Value) → World → Prop)
  (hm : P.follows .mixedOrders = true) (hB : aB5 l n = true) (hd : aJ2 l = true) (hJ : at2 l Js = true) (hJn : Js.all (fun i => decide (i < n)) = true) (hnd : Js.Nodup)
  (hSt : ∀ s g g' w, (∀ j, j < s → g j = g' j) → St s g w → St s g' w)
  (init : ∀ g, St 0 g wr.drew)
  (other : ∀ i o, i < n → i ∉ Js → l[i]? = some o → ∀ s f w, St s (JV Js f) w → (∀ e ∈ o.after, Region.binds .any e = true → e.on ∉ Js → f e.on = U e.on) →
   ∀ Q' : Exit → Act → World → Prop, Q' .normal ((j4 a0 l 0 f).put o.dst (U i)) w → wpList P l.toArray Q' [o] (j4 a0 l 0 f) w)
  (step : ∀ s j o, Js[s]? = some j → l[j]? = some o → ∀ f w, St s (JV Js f) w → (∀ e ∈ o.after, Region.binds .any e = true → e.on ∉ Js → f e.on = U e.on) →
   ∀ Q' : Exit → Act → World → Prop, (∀ v w', St (s + 1) (fun j => if j = s then v else JV Js f j) w' → Q' .normal ((j4 a0 l 0 f).put o.dst v) w') → wpList P l.toArray Q' [o] (j4 a0 l 0 f) w)
  (last : ∀ o, l[n]? = some o → ∀ f w, St Js.length (JV Js f) w → (∀ j, j < n → j ∉ Js → f j = U j) → wpList P l.toArray Q [o] (j4 a0 l 0 f) w) : (Code.region id l.toArray true).wp P Q a0 wr := by
 unfold aB5 at hB
 cases ho : l[n]? with
 | none => rw [ho] at hB; cases hB
 | some o =>
  rw [ho] at hB
  simp only [bE8, decide_eq_true_eq] at hB
  obtain ⟨⟨⟨hn, hs⟩, hc⟩, hb⟩ := hB
  have hn' : l.toArray.size = n + 1 := by simpa using hn
  have hlt : ∀ i, i ∈ Js → i < n := fun i hi => by simpa using bF5.1 hJn i hi
  have inv0 : HeadInv .any l.toArray n (Array.replicate l.toArray.size false) :=
   ⟨by simp, fun j oj _ hl => (by rw [getD_replicate_false] at hl; cases hl), fun t _ ht => getD_in (by simpa using ht) (getD_replicate_false _ _)⟩
  refine wp_region_any hm (ak6 (ChI (j4 a0 l 0) Js U St n l.length) hn' hs hc hb ?_ ?_ _ _ _ _ inv0 (by simp) ?_)
  ·rintro listed a w ⟨hsz, f, s, rfl, hsl, hst, hlj, hv⟩ i o' hin ho' hun hdep Q' hQ
   have hdep' : ∀ e ∈ o'.after, Region.binds .any e = true → e.on ∉ Js → f e.on = U e.on := fun e he hbi hnj => by
    have h2 := Y5 hb (show i < l.toArray.size by omega) (show l.toArray[i]? = some o' by simpa using ho') he hbi
    exact hv _ (by omega) hnj (hdep e he hbi)
   have hput : ∀ v, (j4 a0 l 0 f).put o'.dst v = j4 a0 l 0 (J6 f i v) := fun v => by
    have := aq1 l a0 0 i f o' v hd ho'; rw [bI4] at this; exact this.symm
   by_cases hij : i ∈ Js
   ·obtain ⟨j, hj⟩ := List.mem_iff_getElem?.1 hij
    have hll : l.length = n + 1 := by simpa using hn'
    have hjs : ¬ j < s := fun h => by
     rw [Z5 (by omega), (hlj j i hj).2 h] at hun
     cases hun
    have hje : j = s := by
     rcases bH7 s j with h | h
     ·obtain ⟨j0, rfl⟩ : ∃ j0, j = j0 + 1 := ⟨j - 1, by omega⟩
      have hl0 : j0 < Js.length := by have := (bF6.1 hj).1; omega
      obtain ⟨e, he, hbi, heo⟩ := ax6 hJ j0 Js[j0] i o' (bF0 hl0) hj ho'
      have h3 := hdep e he hbi
      rw [heo] at h3
      have := (hlj j0 Js[j0] (bF0 hl0)).1 h3
      omega
     ·omega
    subst hje
    have hjl := (bF6.1 hj).1
    refine step j i o' hj ho' f w hst hdep' Q' fun v w' hs' => hQ _ _ ⟨by simpa using hsz, J6 f i v, j + 1, hput v, by omega, hSt _ _ _ _ (fun k hk => ?_) hs', fun k i' hk => ?_, fun i' hi' hn' hl' => ?_⟩
    ·by_cases e : k = j
     ·subst e
      rw [if_pos rfl]
      unfold JV
      rw [bF2, hj]
      simp [J6]
     ·rw [if_neg e]
      unfold JV
      have hkl : k < Js.length := by omega
      have hne : Js[k] ≠ i := fun he => e ((List.getElem?_inj hkl hnd).1 ((bF0 hkl).trans (by rw [he, hj])))
      rw [bF2, bF0 hkl]
      simp only [Option.getD_some, J6]
      rw [if_neg hne]
    ·by_cases e : i' = i
     ·subst e
      have hkj : k = j := (List.getElem?_inj (bF6.1 hk).1 hnd).1 (hk.trans hj.symm)
      subst hkj
      have hi' : i' < listed.size := by have := hlt i' hij; have h9 : l.length = n + 1 := (by simpa using hn'); omega
      simp [hi']
     ·rw [getD_set_ne false (fun h => e h.symm)]
      rw [hlj k i' hk]
      constructor
      ·intro h; omega
      ·intro h
       rcases bH7 k j with h' | h'
       ·exact h'
       ·have hkj : k = j := by omega
        subst hkj
        exact absurd (Option.some.inj (hk.symm.trans hj)) e
    ·have hne : i' ≠ i := fun h => hn' (h ▸ hij)
     rw [getD_set_ne false (fun h => hne h.symm)] at hl'
     simp only [J6, if_neg hne]
     exact hv i' hi' hn' hl'
   ·refine other i o' hin hij ho' s f w hst hdep' Q' (hQ _ _ ⟨by simpa using hsz, J6 f i (U i), s, hput _, hsl, hSt _ _ _ _ (fun k hk => ?_) hst, fun k i' hk => ?_, fun i' hi' hn' hl' => ?_⟩)
    ·unfold JV
     have hkl : k < Js.length := by omega
     have hne : Js[k] ≠ i := fun he => hij (he ▸ bG3 hkl)
     rw [bF2, bF0 hkl]
     simp only [Option.getD_some, J6]
     rw [if_neg hne]
    ·have hne : i' ≠ i := fun h => hij (h ▸ bE9 hk)
     rw [getD_set_ne false (fun h => hne h.symm)]
     exact hlj k i' hk
    ·by_cases e : i' = i
     ·subst e; simp [J6]
     ·rw [getD_set_ne false (fun h => e h.symm)] at hl'
      simp only [J6, if_neg e]
      exact hv i' hi' hn' hl'
  ·rintro listed a w ⟨hsz, f, s, rfl, hsl, hst, hlj, hv⟩ hall0 o' ho'
   have h9 : l.length = n + 1 := by simpa using hn'
   have hall : ∀ j, j < n → listed.getD j false = true := fun j hj => by rw [← Z5 (by omega)]; exact hall0 j hj
   have hse : s = Js.length := by
    rcases bH7 s Js.length with h | h
    ·have h1 := hall Js[s] (hlt _ (bG3 h))
     have := (hlj s Js[s] (bF0 h)).1 h1
     omega
    ·omega
   subst hse
   exact last o' ho' f w hst fun j hj hnj => hv j hj hnj (hall j hj)
  ·obtain ⟨f, hf⟩ := al4 l a0 0
   refine ⟨by simp, f, 0, hf, bI1 _, init _, fun j i _ => ?_, fun i hi _ g => ?_⟩
   ·rw [getD_replicate_false]; simp
   ·rw [getD_replicate_false] at g; cases g
def FlI (A : (Nat → Value) → Act) (Js : List Nat) (U : Nat → Value) (St : (Nat → Bool) → (Nat → Value) → World → Prop) (n m : Nat) (listed : Array Bool) (a : Act) (w : World) : Prop :=
 listed.size = m ∧ ∃ f, a = A f ∧ St (fun j => listed.getD (Js.getD j 0) false) (JV Js f) w ∧ ∀ i, i < n → i ∉ Js → listed.getD i false = true → f i = U i
theorem am4 {id : Nat} {l : List Oper} {Q : Exit → Act → World → Prop} {a0 : Act} {wr : World} (n : Nat) (Js : List Nat) (U : Nat → Value) (St : (Nat → Bool) → (Nat → Value) → World → Prop)
  (hm : P.follows .mixedOrders = true) (hB : aB5 l n = true) (hd : aJ2 l = true) (hJn : Js.all (fun i => decide (i < n)) = true) (hnd : Js.Nodup)
  (hSt : ∀ b b' g g' w, (∀ j, j < Js.length → b j = b' j) → (∀ j, j < Js.length → b j = true → g j = g' j) → St b g w → St b' g' w)
  (init : ∀ g, St (fun _ => false) g wr.drew)
  (other : ∀ i o, i < n → i ∉ Js → l[i]? = some o → ∀ b f w, St b (JV Js f) w → (∀ e ∈ o.after, Region.binds .any e = true → e.on ∉ Js → f e.on = U e.on) →
   ∀ Q' : Exit → Act → World → Prop, Q' .normal ((j4 a0 l 0 f).put o.dst (U i)) w → wpList P l.toArray Q' [o] (j4 a0 l 0 f) w)
  (step : ∀ j i o, Js[j]? = some i → l[i]? = some o → ∀ b f w, b j = false → St b (JV Js f) w → (∀ e ∈ o.after, Region.binds .any e = true → e.on ∉ Js → f e.on = U e.on) →
   (∀ e ∈ o.after, Region.binds .any e = true → ∀ k, Js[k]? = some e.on → b k = true) →
   ∀ Q' : Exit → Act → World → Prop, (∀ v w', St (fun k => if k = j then true else b k) (fun k => if k = j then v else JV Js f k) w' → Q' .normal ((j4 a0 l 0 f).put o.dst v) w') → wpList P l.toArray Q' [o] (j4 a0 l 0 f) w)
  (last : ∀ o, l[n]? = some o → ∀ f w, St (fun _ => true) (JV Js f) w → (∀ j, j < n → j ∉ Js → f j = U j) → wpList P l.toArray Q [o] (j4 a0 l 0 f) w) : (Code.region id l.toArray true).wp P Q a0 wr := by
 unfold aB5 at hB
 cases ho : l[n]? with
 | none => rw [ho] at hB; cases hB
 | some o =>
  rw [ho] at hB
  simp only [bE8, decide_eq_true_eq] at hB
  obtain ⟨⟨⟨hn, hs⟩, hc⟩, hb⟩ := hB
  have hn' : l.toArray.size = n + 1 := by simpa using hn
  have hll : l.length = n + 1 := by simpa using hn'
  have hlt : ∀ i, i ∈ Js → i < n := fun i hi => by simpa using bF5.1 hJn i hi
  have inv0 : HeadInv .any l.toArray n (Array.replicate l.toArray.size false) :=
   ⟨by simp, fun j oj _ hl => (by rw [getD_replicate_false] at hl; cases hl), fun t _ ht => getD_in (by simpa using ht) (getD_replicate_false _ _)⟩
  refine wp_region_any hm (ak6 (FlI (j4 a0 l 0) Js U St n l.length) hn' hs hc hb ?_ ?_ _ _ _ _ inv0 (by simp) ?_)
  ·rintro listed a w ⟨hsz, f, rfl, hst, hv⟩ i o' hin ho' hun hdep Q' hQ
   have hdep' : ∀ e ∈ o'.after, Region.binds .any e = true → e.on ∉ Js → f e.on = U e.on := fun e he hbi hnj => by
    have h2 := Y5 hb (show i < l.toArray.size by omega) (show l.toArray[i]? = some o' by simpa using ho') he hbi
    exact hv _ (by omega) hnj (hdep e he hbi)
   have hput : ∀ v, (j4 a0 l 0 f).put o'.dst v = j4 a0 l 0 (J6 f i v) := fun v => by
    have := aq1 l a0 0 i f o' v hd ho'; rw [bI4] at this; exact this.symm
   by_cases hij : i ∈ Js
   ·obtain ⟨j, hj⟩ := List.mem_iff_getElem?.1 hij
    have hjl := (bF6.1 hj).1
    have hgd : ∀ k, k < Js.length → k ≠ j → Js.getD k 0 ≠ i := fun k hk hne he => by
     rw [bF2, bF0 hk] at he
     exact hne ((List.getElem?_inj hk hnd).1 ((bF0 hk).trans (by rw [hj]; exact congrArg some he)))
    have hgj : Js.getD j 0 = i := by rw [bF2, hj]; rfl
    refine step j i o' hj ho' _ f w (by show listed.getD (Js.getD j 0) false = false; rw [hgj, ← Z5 (by omega)]; exact hun) hst hdep' (fun e he hbi k hk => ?_) Q' fun v w' hs' => hQ _ _ ⟨by simpa using hsz, J6 f i v, hput v, hSt _ _ _ _ _ (fun k hk => ?_) (fun k hk _ => ?_) hs', fun i' hi' hn' hl' => ?_⟩
    ·have := hdep e he hbi
     rw [bF2, hk]; exact this
    ·by_cases e : k = j
     ·subst e
      rw [if_pos rfl, hgj]
      have : i < listed.size := by omega
      simp [this]
     ·rw [if_neg e, getD_set_ne false (fun h => hgd k hk e h.symm)]
    ·by_cases e : k = j
     ·subst e
      rw [if_pos rfl]
      unfold JV
      rw [hgj]; simp [J6]
     ·rw [if_neg e]
      unfold JV
      simp only [J6]
      rw [if_neg (hgd k hk e)]
    ·have hne : i' ≠ i := fun h => hn' (h ▸ hij)
     rw [getD_set_ne false (fun h => hne h.symm)] at hl'
     simp only [J6, if_neg hne]
     exact hv i' hi' hn' hl'
   ·have hgd : ∀ k, k < Js.length → Js.getD k 0 ≠ i := fun k hk he => by
     rw [bF2, bF0 hk] at he
     have he' : Js[k] = i := he
     exact hij (he' ▸ bG3 hk)
    refine other i o' hin hij ho' _ f w hst hdep' Q' (hQ _ _ ⟨by simpa using hsz, J6 f i (U i), hput _, hSt _ _ _ _ _ (fun k hk => ?_) (fun k hk _ => ?_) hst, fun i' hi' hn' hl' => ?_⟩)
    ·rw [getD_set_ne false (fun h => hgd k hk h.symm)]
    ·unfold JV
     simp only [J6]
     rw [if_neg (hgd k hk)]
    ·by_cases e : i' = i
     ·subst e; simp [J6]
     ·rw [getD_set_ne false (fun h => e h.symm)] at hl'
      simp only [J6, if_neg e]
      exact hv i' hi' hn' hl'
  ·rintro listed a w ⟨hsz, f, rfl, hst, hv⟩ hall0 o' ho'
   have hall : ∀ j, j < n → listed.getD j false = true := fun j hj => by rw [← Z5 (by omega)]; exact hall0 j hj
   refine last o' ho' f w (hSt _ _ _ _ _ (fun k hk => ?_) (fun _ _ _ => rfl) hst) fun j hj hnj => hv j hj hnj (hall j hj)
   rw [bF2, bF0 hk]
   exact hall _ (hlt _ (bG3 hk))
  ·obtain ⟨f, hf⟩ := al4 l a0 0
   refine ⟨by simp, f, hf, hSt _ _ _ _ _ (fun k _ => ?_) (fun _ _ h => by cases h) (init (JV Js f)), fun i hi _ g => ?_⟩
   ·rw [getD_replicate_false]
   ·rw [getD_replicate_false] at g; cases g
theorem aM1 {ops : Array Oper} {o : Oper} {a0 : Act} {w : World} {Q : Exit → Act → World → Prop} {A : Act} (G : World → Prop) (h : wpList P ops (fun e a w => e = .normal ∧ a = A ∧ G w) [o] a0 w) (k : ∀ w, G w → Q .normal A w) : wpList P ops Q [o] a0 w := by
 unfold wpList at *
 split
 ·rename_i hw
  rw [if_pos hw] at h
  rcases h with h | ⟨_, a, w, he, _⟩
  ·refine .inl (ah1 (fun _ _ _ h => h.1) (Oper.wp_mono (fun a' w' h' => ?_) h))
   have h2 : Exit.normal = .normal ∧ a' = A ∧ G w' := h'
   show Q .normal a' w'
   rw [h2.2.1]
   exact k _ h2.2.2
  ·cases he
 ·rename_i hw
  rw [if_neg hw] at h
  have h2 : Exit.normal = .normal ∧ _ = A ∧ G w := h
  show Q .normal _ w
  rw [h2.2.1]
  exact k _ h2.2.2
end
def Fl3 (b0 b1 b2 : Bool) (p000 p100 p010 p110 p101 p111 : Prop) : Prop :=
 match b0, b1, b2 with
 | false, false, false => p000
 | true, false, false => p100
 | false, true, false => p010
 | true, true, false => p110
 | true, false, true => p101
 | true, true, true => p111
 | _, _, _ => False
end Go.Proofs.Ytmokkddidcmglaa

namespace Go.Proofs.Ytmokkddidcmglaa
def i8 (k : Int) : Int := if k = 1 ∨ k = 2 then 0 else if k = 3 then 1 else if 4 ≤ k ∧ k ≤ 10 then 2 else if k = 11 then 3 else -1
def w6 (nv na : Nat) (k : Int) : Int := if k = 1 then 256 else if k = 2 then nv else if k = 3 then na else 1
def D6 (e : b5) : Bool := decide (e.kind = 1) || decide (e.kind = 2)
def r9 (nv na : Nat) (e : b5) : Bool := decide ((e.kids.length : Int) = i8 e.kind) && decide (0 ≤ e.value) && decide (e.value < w6 nv na e.kind)
def H8 (e : b5) : Bool := decide (e.kind ≠ 3) || (match e.kids with | k :: _ => D6 k | [] => false)
def d7 (nv na : Nat) : Nat → b5 → Bool
 | 0, _ => false
 | d + 1, e => r9 nv na e && e.kids.all (d7 nv na d) && H8 e
def W3 : Nat → b5 → Nat
 | 0, _ => 1
 | d + 1, e => 1 + (e.kids.map (W3 d)).sum
def d8 (nv na : Nat) (e : b5) : Bool := d7 nv na 5 e && decide (1 + G7 e ≤ 15)
theorem B7 (e : b5) : G7 e = m6 e.kids := by cases e; rfl
theorem aJ5 (nv na : Nat) : ∀ (d : Nat) (e : b5), d7 nv na d e = true → W3 d e = 1 + G7 e := by
 intro d
 induction d with
 | zero => intro e h; simp [d7] at h
 | succ d ih =>
  intro e h
  simp only [d7, bE8, bF5] at h
  rw [W3, B7]
  have key : ∀ ks : List b5, (∀ e ∈ ks, d7 nv na d e = true) → (ks.map (W3 d)).sum = m6 ks := by
   intro ks
   induction ks with
   | nil => intro _; rfl
   | cons a r ihr => intro hk; rw [bH5, List.sum_cons, m6, ihr fun e he => hk e (bG0 _ he), ih a (hk a bF7)]
  rw [key _ h.1.2]
theorem aN9 (nv na : Nat) (e : b5) : d8 nv na e = (d7 nv na 5 e && decide (W3 5 e ≤ 15)) := by
 unfold d8
 cases h : d7 nv na 5 e
 ·rfl
 ·rw [aJ5 nv na 5 e h]
def t3 (nv na : Nat) (d c : Nat) (e : b5) : Bool := d7 nv na d e && decide (c + 1 + G7 e ≤ 15)
def s8 (nv na : Nat) (d c : Nat) (ks : List b5) (k : Nat) : Bool := (ks.take k).all (d7 nv na d) && decide (c + m6 (ks.take k) ≤ 15)
theorem av9 {ks : List b5} {k : Nat} (h : k < ks.length) : m6 (ks.take (k + 1)) = m6 (ks.take k) + (1 + G7 ks[k]) := by
 rw [B9 _ _ h, O9]
 simp [m6]
theorem T3 (ks : List b5) (k : Nat) : m6 (ks.take k) ≤ m6 ks := by
 have := O9 (ks.take k) (ks.drop k)
 rw [List.take_append_drop] at this
 omega
theorem N1 (nv na : Nat) {d c : Nat} {ks : List b5} {k : Nat} (h : k < ks.length) : s8 nv na d c ks (k + 1) = (s8 nv na d c ks k && t3 nv na d (c + m6 (ks.take k)) ks[k]) := by
 unfold s8 t3
 rw [av9 h, B9 _ _ h, List.all_append]
 simp only [List.all_cons, List.all_nil, Bool.and_true]
 rw [bH9]
 simp only [bE8, decide_eq_true_eq]
 constructor
 ·rintro ⟨⟨h1, h2⟩, h3⟩; exact ⟨⟨h1, by omega⟩, h2, by omega⟩
 ·rintro ⟨⟨h1, _⟩, h3, h4⟩; exact ⟨⟨h1, h3⟩, by omega⟩
theorem aA0 (nv na : Nat) {d c : Nat} {ks : List b5} {k : Nat} (h : k < ks.length) (hs : t3 nv na d (c + m6 (ks.take k)) ks[k] = false) : (ks.all (d7 nv na d) && decide (c + m6 ks ≤ 15)) = false := by
 rw [Bool.eq_false_iff]
 intro ht
 simp only [bE8, decide_eq_true_eq, bF5] at ht
 have h1 := ht.1 _ (bG3 h)
 have h2 := T3 ks (k + 1)
 rw [av9 h] at h2
 unfold t3 at hs
 rw [h1] at hs
 simp at hs
 omega
def noneB (e : b5) : Bool := decide (e.kind = 0) && decide (e.value = 0) && decide (e.kids.length = 0)
def m7 (s : b8) : Bool :=
 if (s.kind = 3 ∨ s.kind = 4) then
  decide (s.target = 0) && (if s.kind = 4 then decide (s.els.length = 0) && decide (1 ≤ s.count) && decide (s.count ≤ 3) && noneB s.index && noneB s.value
   else decide (s.count = 0) && noneB s.index)
 else decide (s.body.length = 0) && decide (s.els.length = 0) && decide (s.count = 0) && (decide (s.kind = 2) || noneB s.index)
def m5 (nv na : Nat) : Nat → b8 → Bool
  | 0, _ => false
  | d + 1, s => m7 s &&
    (if s.kind = 1 ∨ s.kind = 5 then decide (0 ≤ s.target) && decide (s.target < nv) && d8 nv na s.value
     else if s.kind = 2 then decide (0 ≤ s.target) && decide (s.target < na) && d8 nv na s.index && D6 s.index && d8 nv na s.value
     else if s.kind = 3 then d8 nv na s.value && s.body.all (m5 nv na d) && s.els.all (m5 nv na d)
     else if s.kind = 4 then s.body.all (m5 nv na d)
     else false)
def ad3 (nv na : Nat) (d : Nat) (ss : List b8) : Bool := ss.all (m5 nv na d)
mutual
def nS : b8 → Nat
 | ⟨_, _, _, _, _, b, e⟩ => 1 + nSs b + nSs e
def nSs : List b8 → Nat
 | [] => 0
 | s :: r => nS s + nSs r
end
def F2 (p : f5) : Bool := A5 p.vars p.arrays && ad3 p.vars.length p.arrays.length 5 p.body && decide (nSs p.body ≤ 60)
end Go.Proofs.Ytmokkddidcmglaa

namespace Go.Proofs.Ytmokkddidcmglaa
open Go Go.RowKit
theorem V1 (l : Int) (w : World) : Calls Try.prog 107 #[.int .i64 l] w fun e w' => e = .returned (.bool (m8 l)) ∧ w = w' := by
 go_enter Try.func107, Try.ntmps107
 go_wp2
 all_goals go_ret
 all_goals exact ⟨f8 (by simp [m8]; try omega), rfl⟩
theorem ae6 (v1 v2 v3 : Value) (vars arrays : List Int) (w : World) (h1 : K9 w v1 vars.length 1 (ints vars)) (h2 : K9 w v2 arrays.length 1 (ints arrays)) :
  Calls Try.prog 73 #[.agg #[v1, v2, v3]] w fun e w' => e = .returned (.bool (A5 vars arrays)) ∧ Below w.heap.size w w' := by
 have B0 : Below w.heap.size w (w.alloc (.cells #[v1, v2, v3] 26)) := by go_grown
 obtain ⟨a1, c1, rfl, -, hm1, -, hc1⟩ := (h1.below B0).open1
 obtain ⟨a2, c2, rfl, -, hm2, -, hc2⟩ := (h2.below B0).open1
 have HT : Hid (A5 vars arrays = (vars.all m8 && arrays.all m8 && decide (1 ≤ vars.length) && decide (vars.length ≤ 12) && decide (arrays.length ≤ 2))) := rfl
 clear h1 h2
 go_enter Try.func73, Try.ntmps73
 go_wp2_with fail
 go_loop [3] (fun i => ∃ k : Nat, k ≤ vars.length ∧ i = .int .i64 k ∧ (vars.take k).all m8 = true) (fun i => vars.length - (intOf i).toNat)
 case atStart => exact ⟨0, bI1 _, rfl, rfl⟩
 case round =>
  obtain ⟨k, hk, rfl, ha⟩ := hrel
  have HA := show Hid _ from ha
  clear ha
  by_cases hlt : k < vars.length
  ·obtain ⟨b1, o1, rfl, hb1, hx⟩ := hc1 k hlt
   rw [ar4 _ _ hlt] at hx
   have HS := show Hid _ from Q9 m8 vars k hlt
   clear hc1 hc2
   cases hl : m8 vars[k]
   all_goals
    have HL := show Hid _ from hl
    clear hl
    go_wp2_with fail
    refine (V1 _ _).mono ?_
    rintro e w1 ⟨rfl, rfl⟩
    rw [HL.out]
    go_wp2_with fail
   ·go_ret
    exact ⟨f8 (by rw [HT.out, an0 hlt HL.out]; rfl), B0⟩
   ·go_round
    case rel => exact ⟨k + 1, by omega, by go_num, by rw [HS.out, HA.out, HL.out]; rfl⟩
    case measure => simp [intOf]; omega
  ·have HA' := show Hid (vars.all m8 = true) from by have := HA.out; rwa [bF9 (by omega)] at this
   clear HA hc1
   go_wp2_with fail
   go_loop [4] (fun i => ∃ k : Nat, k ≤ arrays.length ∧ i = .int .i64 k ∧ (arrays.take k).all m8 = true) (fun i => arrays.length - (intOf i).toNat)
   case atStart => exact ⟨0, bI1 _, rfl, rfl⟩
   case round =>
    obtain ⟨j, hj, rfl, ha⟩ := hrel
    have HB := show Hid _ from ha
    clear ha
    by_cases hlj : j < arrays.length
    ·obtain ⟨b1, o1, rfl, hb1, hx⟩ := hc2 j hlj
     rw [ar4 _ _ hlj] at hx
     have HS := show Hid _ from Q9 m8 arrays j hlj
     clear hc2
     cases hl : m8 arrays[j]
     all_goals
      have HL := show Hid _ from hl
      clear hl
      go_wp2_with fail
      refine (V1 _ _).mono ?_
      rintro e w1 ⟨rfl, rfl⟩
      rw [HL.out]
      go_wp2_with fail
     ·go_ret
      exact ⟨f8 (by rw [HT.out, an0 hlj HL.out]; simp), B0⟩
     ·go_round
      case rel => exact ⟨j + 1, by omega, by go_num, by rw [HS.out, HB.out, HL.out]; rfl⟩
      case measure => simp [intOf]; omega
    ·have HB' := show Hid (arrays.all m8 = true) from by have := HB.out; rwa [bF9 (by omega)] at this
     clear HB hc2
     go_wp2_with fail
     all_goals go_ret
     all_goals refine ⟨f8 ?_, B0⟩
     all_goals rw [HT.out, HA'.out, HB'.out]
     all_goals rw [bH9]
     all_goals simp
     all_goals omega
theorem az7 (k : Int) (w : World) : Calls Try.prog 101 #[.int .i64 k] w fun e w' => e = .returned (.int .i64 (i8 k)) ∧ w = w' := by
 go_enter Try.func101, Try.ntmps101
 go_wp2
 all_goals
  go_ret
  exact ⟨v9 (by unfold i8; (repeat' split) <;> simp_all <;> omega), rfl⟩
theorem aF7 (k n : Int) (kv : Value) (w : World) : Calls Try.prog 103 #[.agg #[.int .i64 k, .int .i64 n, kv]] w fun e w' => e = .returned (.bool (decide (k = 1) || decide (k = 2))) ∧ Below w.heap.size w w' := by
 by_cases h1 : k = 1
 ·have p1 : (k == 1) = true := by simp [h1]
  have Q := show Hid _ from h1
  clear h1
  go_enter Try.func103, Try.ntmps103
  go_wp2
  go_ret
  exact ⟨f8 (by simp [Q.out]), by go_grown⟩
 ·have p1 : (k == 1) = false := by simp [h1]
  have Q := show Hid _ from h1
  clear h1
  by_cases h2 : k = 2
  ·have p2 : (k == 2) = true := by simp [h2]
   have Q2 := show Hid _ from h2
   clear h2
   go_enter Try.func103, Try.ntmps103
   go_wp2
   go_ret
   exact ⟨f8 (by simp [Q2.out]), by go_grown⟩
  ·have p2 : (k == 2) = false := by simp [h2]
   have Q2 := show Hid _ from h2
   clear h2
   go_enter Try.func103, Try.ntmps103
   go_wp2
   go_ret
   exact ⟨f8 (by rw [decide_eq_false Q.out, decide_eq_false Q2.out]; rfl), by go_grown⟩
theorem az5 (a1 a2 : Option Addr) (nv c1 na c2 : Nat) (v3 : Value) (k : Int) (w : World) (h1 : nv ≤ 9223372036854775807) (h2 : na ≤ 9223372036854775807) :
  Calls Try.prog 102 #[.agg #[.slice a1 nv c1, .slice a2 na c2, v3], .int .i64 k] w fun e w' => e = .returned (.int .i64 (w6 nv na k)) ∧ Below w.heap.size w w' := by
 go_enter Try.func102, Try.ntmps102
 go_wp2
 all_goals
  go_ret
  exact ⟨v9 (by unfold w6; (repeat' split) <;> simp_all), by go_grown⟩
theorem ah7 {e : b5} (h3 : e.kind = 3) (hl : 0 < e.kids.length) : H8 e = (decide (e.kids[0].kind = 1) || decide (e.kids[0].kind = 2)) := by
 rcases e with ⟨k, n, ks⟩
 cases ks with
 | nil => simp [b5.kids] at hl
 | cons a r =>
  have h3' : k = 3 := h3
  subst h3'
  simp only [H8, b5.kids, List.getElem_cons_zero, D6]
  rw [decide_eq_false (by simp [b5.kind])]
  rfl
theorem az3 (a1 a2 : Option Addr) (nv c1 na c2 : Nat) (v3 : Value) (h1 : nv ≤ 9223372036854775807) (h2 : na ≤ 9223372036854775807) : ∀ d : Nat, d ≤ 5 → ∀ (e : b5) (φ : Nat → Prop) (v : Value) (w : World), E8 w φ v e →
  Calls Try.prog 63 #[.agg #[.slice a1 nv c1, .slice a2 na c2, v3], v, .int .i64 d] w fun x w' => x = .returned (.bool (d7 nv na d e)) ∧ Below w.heap.size w w' := by
 intro d
 induction d with
 | zero =>
  intro _ e φ v w h
  obtain ⟨kv, rfl, hk⟩ := h
  have HS : Hid (d7 nv na 0 e = false) := rfl
  obtain ⟨W, hW, M⟩ : ∃ W, W = (w.alloc (.cells #[.slice a1 nv c1, .slice a2 na c2, v3] 26)).alloc (.cells #[.int .i64 e.kind, .int .i64 e.value, kv] 29) ∧ m0 (fun _ => True) (fun _ => True) w W [.box w.heap.size [.slice a1 nv c1, .slice a2 na c2, v3], .box (w.heap.size + 1) [.int .i64 e.kind, .int .i64 e.value, kv]] :=
   ⟨_, rfl, ((m0.start fun _ _ => trivial).box _ _).box' _ _ (by simp)⟩
  have HB := show Hid _ from M.below fun _ _ => trivial
  clear hk M
  go_enter Try.func63, Try.ntmps63
  go_wp2_with fail
  rw [← hW]
  clear hW
  refine s5 (by kernel_rfl) (by kernel_rfl) ?_
  repeat (any_goals (first | go_big_quiet_step (((fail))) | quiet_step (((fail)))))
  refine wpQuiet_nil ?_
  rintro _ ⟨X, rfl⟩
  go_wp2_with fail
  go_ret
  exact ⟨f8 HS.out.symm, HB.out.trans ((t5 W X).mono HB.out.size)⟩
 | succ d ih =>
  intro hd5 e φ v w h
  obtain ⟨kv, rfl, hk⟩ := h
  obtain ⟨ak, ck, rfl, -, hn, -, hc⟩ := hk.open
  have hd0 : (d : Int) ≤ 5 := by omega
  have p0 : decide ((d : Int) + 1 < 1) = false := by simp; omega
  have HS : Hid (d7 nv na (d + 1) e = (r9 nv na e && e.kids.all (d7 nv na d) && H8 e)) := rfl
  obtain ⟨W, hW, M⟩ : ∃ W, W = (w.alloc (.cells #[.slice a1 nv c1, .slice a2 na c2, v3] 26)).alloc (.cells #[.int .i64 e.kind, .int .i64 e.value, .slice ak e.kids.length ck] 29) ∧ m0 (fun _ => True) (fun _ => True) w W [.box w.heap.size [.slice a1 nv c1, .slice a2 na c2, v3], .box (w.heap.size + 1) [.int .i64 e.kind, .int .i64 e.value, .slice ak e.kids.length ck]] :=
   ⟨_, rfl, ((m0.start fun _ _ => trivial).box _ _).box' _ _ (by simp)⟩
  have HB := show Hid _ from M.below fun _ _ => trivial
  have HA : Hid (∀ X, Calls Try.prog 101 #[.int .i64 e.kind] (W.ext X) fun x w'' => x = .returned (.int .i64 (i8 e.kind)) ∧ ∃ Y, w'' = W.ext Y) := fun X =>
   Calls.ext_of' ((az7 e.kind _).mono fun x w' h => ⟨h.1, h.2 ▸ Below.refl _ _⟩)
  have HL : Hid (∀ X, Calls Try.prog 102 #[.agg #[.slice a1 nv c1, .slice a2 na c2, v3], .int .i64 e.kind] (W.ext X) fun x w'' => x = .returned (.int .i64 (w6 nv na e.kind)) ∧ ∃ Y, w'' = W.ext Y) := fun X =>
   Calls.ext_of' (az5 a1 a2 nv c1 na c2 v3 e.kind _ h1 h2)
  have HM := show Hid _ from M
  have HC := show Hid _ from hc
  have x0 := M.c 0 0 rfl rfl
  have x1 := M.c 0 1 rfl rfl
  have x2 := M.c 0 2 rfl rfl
  have y0 := M.c 1 0 rfl rfl
  have y1 := M.c 1 1 rfl rfl
  have y2 := M.c 1 2 rfl rfl
  have z0 := fun X => o6 x0 X
  have z1 := fun X => o6 x1 X
  have z2 := fun X => o6 x2 X
  have z3 := fun X => o6 y0 X
  have z4 := fun X => o6 y1 X
  have z5 := fun X => o6 y2 X
  clear hk M hc x0 x1 x2 y0 y1 y2
  by_cases q1 : (e.kids.length : Int) = i8 e.kind
  case neg =>
   have p1 : ((e.kids.length : Int) != i8 e.kind) = true := by simp [q1]
   have HN : Hid (r9 nv na e = false) := by unfold Hid r9; simp [q1]
   clear q1
   go_enter Try.func63, Try.ntmps63
   go_wp2_with fail
   rw [← hW]
   clear hW
   refine s5 (by kernel_rfl) (by kernel_rfl) ?_
   repeat (any_goals (first | go_big_quiet_step (((first | (go_at_call 101; exact HA.out _) | (go_at_call 102; exact HL.out _)))) | quiet_step (((first | (go_at_call 101; exact HA.out _) | (go_at_call 102; exact HL.out _))))))
   refine wpQuiet_nil ?_
   rintro _ ⟨X, rfl⟩
   go_wp2_with fail
   go_ret
   exact ⟨f8 (by rw [HS.out, HN.out]; rfl), HB.out.trans ((t5 W X).mono HB.out.size)⟩
  have p1 : ((e.kids.length : Int) != i8 e.kind) = false := by simp [q1]
  by_cases q2 : e.value < 0
  case pos =>
   have p2 : decide (e.value < 0) = true := by simp [q2]
   have HN : Hid (r9 nv na e = false) := by unfold Hid r9; simp; intro _ h; omega
   clear q1 q2
   go_enter Try.func63, Try.ntmps63
   go_wp2_with fail
   rw [← hW]
   clear hW
   refine s5 (by kernel_rfl) (by kernel_rfl) ?_
   repeat (any_goals (first | go_big_quiet_step (((first | (go_at_call 101; exact HA.out _) | (go_at_call 102; exact HL.out _)))) | quiet_step (((first | (go_at_call 101; exact HA.out _) | (go_at_call 102; exact HL.out _))))))
   refine wpQuiet_nil ?_
   rintro _ ⟨X, rfl⟩
   go_wp2_with fail
   go_ret
   exact ⟨f8 (by rw [HS.out, HN.out]; rfl), HB.out.trans ((t5 W X).mono HB.out.size)⟩
  have p2 : decide (e.value < 0) = false := by simp; omega
  by_cases q3 : w6 nv na e.kind ≤ e.value
  case pos =>
   have p3 : decide (w6 nv na e.kind ≤ e.value) = true := by simp [q3]
   have HN : Hid (r9 nv na e = false) := by unfold Hid r9; simp; intro _ h; omega
   clear q1 q2 q3
   go_enter Try.func63, Try.ntmps63
   go_wp2_with fail
   rw [← hW]
   clear hW
   refine s5 (by kernel_rfl) (by kernel_rfl) ?_
   repeat (any_goals (first | go_big_quiet_step (((first | (go_at_call 101; exact HA.out _) | (go_at_call 102; exact HL.out _)))) | quiet_step (((first | (go_at_call 101; exact HA.out _) | (go_at_call 102; exact HL.out _))))))
   refine wpQuiet_nil ?_
   rintro _ ⟨X, rfl⟩
   go_wp2_with fail
   go_ret
   exact ⟨f8 (by rw [HS.out, HN.out]; rfl), HB.out.trans ((t5 W X).mono HB.out.size)⟩
  have p3 : decide (w6 nv na e.kind ≤ e.value) = false := by simp; omega
  have HN : Hid (r9 nv na e = true) := by unfold Hid r9; simp; exact ⟨⟨q1, by omega⟩, by omega⟩
  have HQ := show Hid _ from q1
  clear q1 q2 q3
  go_enter Try.func63, Try.ntmps63
  go_wp2_with fail
  rw [← hW]
  clear hW
  refine s5 (by kernel_rfl) (by kernel_rfl) ?_
  repeat (any_goals (first | go_big_quiet_step (((first | (go_at_call 101; exact HA.out _) | (go_at_call 102; exact HL.out _)))) | quiet_step (((first | (go_at_call 101; exact HA.out _) | (go_at_call 102; exact HL.out _))))))
  refine wpQuiet_nil ?_
  rintro _ ⟨X, rfl⟩
  have M := HM.out.call (t5 W X)
  generalize W.ext X = W1 at *
  clear HA HL HM HB p1 p2 p3 z0 z1 z2 z3 z4 z5
  go_wp2_with fail
  go_loopw [7] (fun i wr => ∃ k : Nat, k ≤ e.kids.length ∧ i = .int .i64 k ∧ (e.kids.take k).all (d7 nv na d) = true ∧ m0 (fun _ => True) (fun _ => True) w wr [.box w.heap.size [.slice a1 nv c1, .slice a2 na c2, v3], .box (w.heap.size + 1) [.int .i64 e.kind, .int .i64 e.value, .slice ak e.kids.length ck]]) (fun i _ => e.kids.length - (intOf i).toNat)
  case atStart => exact ⟨0, bI1 _, rfl, rfl, M⟩
  case round =>
   clear M
   obtain ⟨k, hk, rfl, hall, M⟩ := hrel
   have HALL := show Hid _ from hall
   clear hall
   have hB := M.below fun _ _ => trivial
   have x0 := M.c 0 0 rfl rfl
   have x1 := M.c 0 1 rfl rfl
   have x2 := M.c 0 2 rfl rfl
   have y0 := M.c 1 0 rfl rfl
   have y2 := M.c 1 2 rfl rfl
   by_cases hlt : k < e.kids.length
   ·obtain ⟨b, off, kv, rfl, hbk, hf, c0, c1', c2', hkv⟩ := HC.out k hlt
    rw [← (P7 hB).1 _ _ hbk] at c0 c1' c2'
    obtain ⟨q, hq⟩ : ∃ q, q = d7 nv na d e.kids[k] := ⟨_, rfl⟩
    have HC3 : Hid (∀ X, Calls Try.prog 63 #[.agg #[.slice a1 nv c1, .slice a2 na c2, v3], .agg #[.int .i64 e.kids[k].kind, .int .i64 e.kids[k].value, kv], .int .i64 d] (wr.ext X) fun x w'' => x = .returned (.bool q) ∧ ∃ Y, w'' = wr.ext Y) := fun X => by
     have bb := hB.trans ((t5 wr X).mono hB.size)
     rw [hq]
     exact Calls.ext_of' (ih (by omega) _ φ _ _ ⟨kv, rfl, n7.nice _ _ _ _ _ _ (O1.below bb) hkv⟩)
    have HQQ := show Hid _ from hq
    have HM := show Hid _ from M
    have j0 := fun X => o6 c0 X
    have j1 := fun X => o6 c1' X
    have j2 := fun X => o6 c2' X
    have z0 := fun X => o6 x0 X
    have z1 := fun X => o6 x1 X
    have z2 := fun X => o6 x2 X
    have z5 := fun X => o6 y2 X
    have hlt' : (k : Int) < e.kids.length := by omega
    clear hkv hq c0 c1' c2' x0 x1 x2 y0 M hB
    cases q
    ·go_wp2_with fail
     refine s5 (by kernel_rfl) (by kernel_rfl) ?_
     repeat (any_goals (first | go_big_quiet_step (((go_at_call 63; exact HC3.out _))) | quiet_step (((go_at_call 63; exact HC3.out _)))))
     refine wpQuiet_nil ?_
     rintro _ ⟨X, rfl⟩
     go_wp2_with fail
     go_ret
     have M := HM.out.call (t5 wr X)
     refine ⟨f8 ?_, M.below fun _ _ => trivial⟩
     have h9 : e.kids.all (d7 nv na d) = false := List.all_eq_false.2 ⟨_, bG3 hlt, by rw [← HQQ.out]; simp⟩
     rw [HS.out, h9, Bool.and_false, Bool.false_and]
    ·go_wp2_with fail
     refine s5 (by kernel_rfl) (by kernel_rfl) ?_
     repeat (any_goals (first | go_big_quiet_step (((go_at_call 63; exact HC3.out _))) | quiet_step (((go_at_call 63; exact HC3.out _)))))
     refine wpQuiet_nil ?_
     rintro _ ⟨X, rfl⟩
     go_wp2_with fail
     refine ⟨⟨k + 1, by omega, by go_num, ?_, HM.out.call (t5 wr X)⟩, by simp [intOf]; omega⟩
     rw [B9 _ _ hlt, List.all_append, HALL.out]
     simp [← HQQ.out]
   ·have hkn : k = e.kids.length := by omega
    subst hkn
    have hall := HALL.out
    rw [bF9 (bG4 _)] at hall
    have HAL := show Hid _ from hall
    have HB := show Hid _ from hB
    have HM := show Hid _ from M
    clear hall x0 x1 x2 M hB
    by_cases q4 : e.kind = 3
    ·have p4 : (e.kind != 3) = false := by simp [q4]
     have hl1 : e.kids.length = 1 := by have := HQ.out; rw [q4] at this; simp [i8] at this; omega
     have HL1 := show Hid _ from hl1
     have hpos : 0 < (e.kids.length : Int) := by omega
     obtain ⟨b, off, kv, rfl, hbk, hf, c0, c1', c2', hkv⟩ := HC.out 0 (by omega)
     rw [← (P7 HB.out).1 _ _ hbk] at c0 c1' c2'
     simp only [Nat.zero_mul, Nat.add_zero] at c0 c1' c2'
     have HR := show Hid _ from ah7 q4 (by omega)
     clear hkv q4
     go_wp2_with fail
     refine (aF7 _ _ _ _).mono ?_
     rintro x w2 ⟨rfl, b2⟩
     have B2 := show Hid _ from HB.out.trans (b2.mono HB.out.size)
     clear b2
     go_wp2_with fail
     go_ret
     exact ⟨f8 (by rw [HS.out, HN.out, HAL.out, HR.out]; rfl), B2.out⟩
    ·have p4 : (e.kind != 3) = true := by simp [q4]
     have HR : Hid (H8 e = true) := by unfold Hid H8; simp [q4]
     clear q4
     go_wp2_with fail
     go_ret
     exact ⟨f8 (by rw [HS.out, HN.out, HAL.out, HR.out]; rfl), HB.out⟩
theorem U5 {nv na d : Nat} {e : b5} (h : d7 nv na (d + 1) e = true) : e.kids.length ≤ 3 ∧ ∀ x ∈ e.kids, d7 nv na d x = true := by
 simp only [d7, r9, bE8, decide_eq_true_eq, bF5] at h
 refine ⟨?_, h.1.2⟩
 have h1 := h.1.1.1.1
 have : i8 e.kind ≤ 3 := by unfold i8; (repeat' split) <;> omega
 omega
theorem aM5 {ks : List b5} {B : Nat} (h : ∀ x ∈ ks, 1 + G7 x ≤ B) : m6 ks ≤ ks.length * B := by
 induction ks with
 | nil => simp [m6]
 | cons a r ih =>
  have h1 := h a bF7
  have h2 := ih fun x hx => h x (bG0 _ hx)
  simp only [m6, bH3, bI0]; omega
theorem ap5 (nv na : Nat) : ∀ (d : Nat) (e : b5), d7 nv na d e = true → 1 + G7 e ≤ 4 ^ d := by
 intro d
 induction d with
 | zero => intro e h; simp [d7] at h
 | succ d ih =>
  intro e h
  obtain ⟨h1, h2⟩ := U5 h
  have h3 := aM5 (ks := e.kids) fun x hx => ih x (h2 x hx)
  have h4 : e.kids.length * 4 ^ d ≤ 3 * 4 ^ d := bI5 _ h1
  have h5 : 0 < 4 ^ d := Nat.pos_of_ne_zero (by simp)
  rw [B7, Nat.pow_succ]
  omega
theorem az6 (nv na : Nat) : ∀ d : Nat, d ≤ 5 → ∀ (e : b5) (φ : Nat → Prop) (v : Value) (w : World), E8 w φ v e → d7 nv na d e = true →
  Calls Try.prog 64 #[v, .int .i64 d] w fun x w' => x = .returned (.int .i64 (1 + G7 e : Nat)) ∧ Below w.heap.size w w' := by
 intro d
 induction d with
 | zero => intro _ e φ v w _ hs; simp [d7] at hs
 | succ d ih =>
  intro hd5 e φ v w h hs
  obtain ⟨kv, rfl, hk⟩ := h
  obtain ⟨ak, ck, rfl, -, hn, -, hc⟩ := hk.open
  have hd0 : (d : Int) ≤ 5 := by omega
  have hd1 : decide (0 < (d : Int) + 1) = true := decide_eq_true (by omega)
  have hsz : m6 e.kids ≤ 1024 := by
   have h1 := ap5 nv na (d + 1) e hs
   have h2 : 4 ^ (d + 1) ≤ 4 ^ 5 := Nat.pow_le_pow_right (by omega) hd5
   rw [B7] at h1; omega
  have HK := show Hid _ from (U5 hs).2
  obtain ⟨W, hW, M⟩ : ∃ W, W = w.alloc (.cells #[.int .i64 e.kind, .int .i64 e.value, .slice ak e.kids.length ck] 29) ∧ m0 (fun _ => True) (fun _ => True) w W [.box w.heap.size [.int .i64 e.kind, .int .i64 e.value, .slice ak e.kids.length ck]] :=
   ⟨_, rfl, (m0.start fun _ _ => trivial).box _ _⟩
  have HC := show Hid _ from hc
  have HSZ := show Hid _ from B7 e
  clear hk hc hs
  go_enter Try.func64, Try.ntmps64
  go_wp2_with fail
  rw [← hW]
  clear hW
  go_loopw [5, 6] (fun q i wr => ∃ k : Nat, k ≤ e.kids.length ∧ i = .int .i64 k ∧ q = .int .i64 (1 + m6 (e.kids.take k) : Nat) ∧ m0 (fun _ => True) (fun _ => True) w wr [.box w.heap.size [.int .i64 e.kind, .int .i64 e.value, .slice ak e.kids.length ck]]) (fun _ i _ => e.kids.length - (intOf i).toNat)
  case atStart => exact ⟨0, bI1 _, rfl, rfl, M⟩
  case round =>
   clear M
   obtain ⟨k, hk, rfl, rfl, M⟩ := hrel
   have hB := M.below fun _ _ => trivial
   have y2 := M.c 0 2 rfl rfl
   have htl := T3 e.kids k
   obtain ⟨z, hz⟩ : ∃ z, z = m6 (e.kids.take k) := ⟨_, rfl⟩
   rw [← hz] at htl ⊢
   have HZ := show Hid _ from hz
   clear hz
   by_cases hlt : k < e.kids.length
   ·obtain ⟨b, off, kv, rfl, hbk, hf, c0, c1', c2', hkv⟩ := HC.out k hlt
    rw [← (P7 hB).1 _ _ hbk] at c0 c1' c2'
    have HE := show Hid (E8 wr φ (.agg #[.int .i64 e.kids[k].kind, .int .i64 e.kids[k].value, kv]) e.kids[k]) from ⟨kv, rfl, n7.nice _ _ _ _ _ _ (O1.below hB) hkv⟩
    have HM := show Hid _ from M
    have hlt' : (k : Int) < e.kids.length := by omega
    have HT := show Hid _ from N6 hlt
    have htl1 := T3 e.kids (k + 1)
    rw [HT.out, ← HZ.out] at htl1
    clear hkv M hB
    go_wp2_with fail
    refine (ih (by omega) _ φ _ _ HE.out (HK.out _ (bG3 hlt))).mono ?_
    rintro x w2 ⟨rfl, b2⟩
    have HM2 := show Hid _ from HM.out.call b2
    clear b2 y2
    go_wp2_with fail
    exact ⟨⟨k + 1, by omega, by go_num, by rw [HT.out, ← HZ.out]; go_num, HM2.out⟩, by simp [intOf]; omega⟩
   ·have hkn : k = e.kids.length := by omega
    subst hkn
    have HB := show Hid _ from hB
    clear M hB
    go_wp2_with fail
    go_ret
    exact ⟨v9 (by rw [HZ.out, bF9 (bG4 _), HSZ.out]), HB.out⟩
theorem az4 (a1 a2 : Option Addr) (nv c1 na c2 : Nat) (v3 : Value) (h1 : nv ≤ 9223372036854775807) (h2 : na ≤ 9223372036854775807) (e : b5) (φ : Nat → Prop) (v : Value) (w : World) (h : E8 w φ v e) :
  Calls Try.prog 31 #[.agg #[.slice a1 nv c1, .slice a2 na c2, v3], v] w fun x w' => x = .returned (.bool (d8 nv na e)) ∧ Below w.heap.size w w' := by
 obtain ⟨kv, rfl, hk⟩ := h
 have HR : Hid (d8 nv na e = (d7 nv na 5 e && decide (1 + G7 e ≤ 15))) := rfl
 obtain ⟨W, hW, M⟩ : ∃ W, W = (w.alloc (.cells #[.slice a1 nv c1, .slice a2 na c2, v3] 26)).alloc (.cells #[.int .i64 e.kind, .int .i64 e.value, kv] 29) ∧ m0 (fun _ => True) (fun _ => True) w W [.box w.heap.size [.slice a1 nv c1, .slice a2 na c2, v3], .box (w.heap.size + 1) [.int .i64 e.kind, .int .i64 e.value, kv]] :=
  ⟨_, rfl, ((m0.start fun _ _ => trivial).box _ _).box' _ _ (by simp)⟩
 have HE := show Hid (∀ W', Below w.heap.size w W' → E8 W' φ (.agg #[.int .i64 e.kind, .int .i64 e.value, kv]) e) from fun W' k => ⟨kv, rfl, n7.nice _ _ _ _ _ _ (O1.below k) hk⟩
 clear hk
 have x0 := M.c 0 0 rfl rfl
 have x1 := M.c 0 1 rfl rfl
 have x2 := M.c 0 2 rfl rfl
 have y0 := M.c 1 0 rfl rfl
 have y1 := M.c 1 1 rfl rfl
 have y2 := M.c 1 2 rfl rfl
 rw [hW] at x0 x1 x2 y0 y1 y2
 go_enter Try.func31, Try.ntmps31
 go_wp2_with fail
 rw [← hW]
 clear hW x0 x1 x2 y0 y1 y2
 refine (az3 a1 a2 nv c1 na c2 v3 h1 h2 5 (by omega) e φ _ _ (HE.out _ (M.below fun _ _ => trivial))).mono ?_
 rintro x w1 ⟨rfl, b1⟩
 replace M := M.call b1
 clear b1
 cases hs : d7 nv na 5 e
 ·have HB := show Hid _ from M.below fun _ _ => trivial
  have HS := show Hid _ from hs
  clear hs M
  go_wp2_with fail
  go_ret
  exact ⟨f8 (by rw [HR.out, HS.out]; rfl), HB.out⟩
 ·have HS := show Hid _ from hs
  have hsz := ap5 nv na 5 e hs
  have y0 := M.c 1 0 rfl rfl
  have y1 := M.c 1 1 rfl rfl
  have y2 := M.c 1 2 rfl rfl
  have HM := show Hid _ from M
  clear hs M
  go_wp2_with fail
  refine (az6 nv na 5 (by omega) e φ _ _ (HE.out _ (HM.out.below fun _ _ => trivial)) HS.out).mono ?_
  rintro x w2 ⟨rfl, b1⟩
  have HB := show Hid _ from (HM.out.call b1).below fun _ _ => trivial
  clear b1 y0 y1 y2
  go_wp2_with fail
  go_ret
  exact ⟨f8 (by rw [HR.out, HS.out, Bool.true_and]; exact decide_eq_decide.2 (by omega)), HB.out⟩
def l0 (p : f5) (e : b5) : Bool := A5 p.vars p.arrays && d8 p.vars.length p.arrays.length e
theorem ap4 (p : f5) (e : b5) (φ φ' : Nat → Prop) (u v : Value) (w : World) (hp : aL1 w φ u p) (h : E8 w φ' v e) :
  Calls Try.prog 35 #[u, v] w fun x w' => x = .returned (.bool (l0 p e)) ∧ Below w.heap.size w w' := by
 obtain ⟨v1, v2, v3, rfl, g1, g2, -⟩ := hp
 obtain ⟨kv, rfl, hk⟩ := h
 obtain ⟨a1, c1, rfl, -, hm1, -⟩ := g1.row.open1
 obtain ⟨a2, c2, rfl, -, hm2, -⟩ := g2.row.open1
 have HR : Hid (l0 p e = (A5 p.vars p.arrays && d8 p.vars.length p.arrays.length e)) := rfl
 obtain ⟨W, hW, M⟩ : ∃ W, W = (w.alloc (.cells #[.slice a1 p.vars.length c1, .slice a2 p.arrays.length c2, v3] 26)).alloc (.cells #[.int .i64 e.kind, .int .i64 e.value, kv] 29) ∧ m0 (fun _ => True) (fun _ => True) w W [.box w.heap.size [.slice a1 p.vars.length c1, .slice a2 p.arrays.length c2, v3], .box (w.heap.size + 1) [.int .i64 e.kind, .int .i64 e.value, kv]] :=
  ⟨_, rfl, ((m0.start fun _ _ => trivial).box _ _).box' _ _ (by simp)⟩
 have HE := show Hid (∀ W', Below w.heap.size w W' → E8 W' φ' (.agg #[.int .i64 e.kind, .int .i64 e.value, kv]) e ∧ K9 W' (.slice a1 p.vars.length c1) p.vars.length 1 (ints p.vars) ∧ K9 W' (.slice a2 p.arrays.length c2) p.arrays.length 1 (ints p.arrays)) from fun W' k => ⟨⟨kv, rfl, n7.nice _ _ _ _ _ _ (O1.below k) hk⟩, g1.row.below k, g2.row.below k⟩
 clear hk g1 g2
 have x0 := M.c 0 0 rfl rfl
 have x1 := M.c 0 1 rfl rfl
 have x2 := M.c 0 2 rfl rfl
 rw [hW] at x0 x1 x2
 go_enter Try.func35, Try.ntmps35
 go_wp2_with fail
 rw [← hW]
 clear hW x0 x1 x2
 refine (ae6 _ _ v3 p.vars p.arrays _ (HE.out _ (M.below fun _ _ => trivial)).2.1 (HE.out _ (M.below fun _ _ => trivial)).2.2).mono ?_
 rintro x w1 ⟨rfl, b1⟩
 replace M := M.call b1
 clear b1
 cases hs : A5 p.vars p.arrays
 ·have HB := show Hid _ from M.below fun _ _ => trivial
  have HS := show Hid _ from hs
  clear hs M
  go_wp2_with fail
  go_ret
  exact ⟨f8 (by rw [HR.out, HS.out]; rfl), HB.out⟩
 ·have HS := show Hid _ from hs
  have x0 := M.c 0 0 rfl rfl
  have x1 := M.c 0 1 rfl rfl
  have x2 := M.c 0 2 rfl rfl
  have y0 := M.c 1 0 rfl rfl
  have y1 := M.c 1 1 rfl rfl
  have y2 := M.c 1 2 rfl rfl
  have HM := show Hid _ from M
  clear hs M
  go_wp2_with fail
  refine (az4 a1 a2 _ c1 _ c2 v3 hm1 hm2 e φ' _ _ (HE.out _ (HM.out.below fun _ _ => trivial)).1).mono ?_
  rintro x w2 ⟨rfl, b1⟩
  have HB := show Hid _ from (HM.out.call b1).below fun _ _ => trivial
  clear b1 x0 x1 x2 y0 y1 y2
  go_wp2_with fail
  go_ret
  exact ⟨f8 (by rw [HR.out, HS.out]; rfl), HB.out⟩
theorem v6 (n lo hi : Int) (w : World) : Calls Try.prog 69 #[.int .i64 n, .int .i64 lo, .int .i64 hi] w fun e w' => e = .returned (.bool (decide (lo ≤ n) && decide (n ≤ hi))) ∧ w = w' := by
 go_enter Try.func69, Try.ntmps69
 go_wp2
 all_goals go_ret
 all_goals exact ⟨f8 (by simp; try omega), rfl⟩
theorem V4 (l : Int) (w : World) : Calls Try.prog 43 #[.int .i64 l] w fun e w' => e = .returned (.bool (m8 l)) ∧ w = w' := by
 go_enter Try.func43, Try.ntmps43
 go_wp2_with fail
 refine (v6 l 0 3 _).mono ?_
 rintro e w1 ⟨rfl, rfl⟩
 go_wp2_with fail
 go_ret
 exact ⟨rfl, rfl⟩
theorem am6 (l : Int) (w : World) : Calls Try.prog 117 #[.int .i64 l] w fun e w' => e = .returned (.bool (!m8 l)) ∧ w = w' := by
 go_enter Try.func117, Try.ntmps117
 go_wp2_with fail
 refine (V4 l _).mono ?_
 rintro e w1 ⟨rfl, rfl⟩
 go_wp2_with fail
 go_ret
 exact ⟨rfl, rfl⟩
theorem au7 (p : Int → Bool) (f : FuncId) (v : Value) (xs : List Int) (w : World) (h : K9 w v xs.length 1 (ints xs)) (he : ∀ args w, (callFunc f args).run Try.prog w = .ok (.enter f args) w)
  (hf : ∀ x w', Calls Try.prog f #[.int .i64 x] w' fun e w'' => e = .returned (.bool (p x)) ∧ w' = w'') :
  Calls Try.prog 137 #[v, .func (.func f) #[] #[]] w fun e w' => ∃ r : Int, e = .returned (.int .i64 r) ∧ decide (0 ≤ r) = xs.any p ∧ w = w' := by
 obtain ⟨a1, c1, rfl, -, hm1, -, hc1⟩ := h.open1
 have HF := show Hid _ from hf
 clear h hf
 go_enter Try.func137, Try.ntmps137
 go_wp2_with fail
 go_loop [5, 8] (fun _ i => ∃ k : Nat, k ≤ xs.length ∧ i = .int .i64 k ∧ (xs.take k).any p = false) (fun _ i => xs.length - (intOf i).toNat)
 case atStart => exact ⟨0, bI1 _, rfl, rfl⟩
 case round =>
  obtain ⟨k, hk, rfl, ha⟩ := hrel
  have HA := show Hid _ from ha
  clear ha
  by_cases hlt : k < xs.length
  ·obtain ⟨b1, o1, rfl, hb1, hx⟩ := hc1 k hlt
   rw [ar4 _ _ hlt] at hx
   clear hc1
   cases hp : p xs[k]
   all_goals
    have HP := show Hid _ from hp
    clear hp
    go_wp2_with fail
    refine (HF.out xs[k] _).mono ?_
    rintro e w1 ⟨rfl, rfl⟩
    rw [HP.out]
    go_wp2_with fail
   ·go_round
    case rel => exact ⟨k + 1, by omega, by go_num, by rw [n8 _ _ hlt, List.any_append, HA.out]; simp [HP.out]⟩
    case measure => simp [intOf]; omega
   ·go_ret
    exact ⟨_, rfl, by rw [decide_eq_true (by omega)]; symm; rw [List.any_eq_true]; exact ⟨_, bG3 hlt, HP.out⟩, rfl⟩
  ·go_wp2_with fail
   go_ret
   refine ⟨_, rfl, ?_, rfl⟩
   have := HA.out
   rw [bF9 (by omega)] at this
   rw [this]; rfl
theorem ai8 (p : Int → Bool) (f : FuncId) (v : Value) (xs : List Int) (w : World) (h : K9 w v xs.length 1 (ints xs)) (he : ∀ args w, (callFunc f args).run Try.prog w = .ok (.enter f args) w)
  (hf : ∀ x w', Calls Try.prog f #[.int .i64 x] w' fun e w'' => e = .returned (.bool (p x)) ∧ w' = w'') :
  Calls Try.prog 116 #[v, .func (.func f) #[] #[]] w fun e w' => e = .returned (.bool (xs.any p)) ∧ w = w' := by
 obtain ⟨a1, c1, rfl, -⟩ := h.open1
 have HF := show Hid _ from hf
 have HE := show Hid _ from he
 clear hf he
 go_enter Try.func116, Try.ntmps116
 go_wp2_with fail
 refine (au7 p f _ xs _ h HE.out HF.out).mono ?_
 rintro e w1 ⟨r, rfl, hr, rfl⟩
 have HR := show Hid _ from hr
 clear hr
 go_wp2_with fail
 go_ret
 exact ⟨f8 HR.out, rfl⟩
theorem aK6 (xs : List Int) : (!xs.any fun l => !m8 l) = xs.all m8 := by
 induction xs with
 | nil => rfl
 | cons x r ih => simp only [List.any_cons, List.all_cons, ← ih]; cases m8 x <;> simp
theorem O0 (v : Value) (xs : List Int) (w : World) (h : K9 w v xs.length 1 (ints xs)) :
  Calls Try.prog 80 #[v] w fun e w' => e = .returned (.bool (xs.all m8)) ∧ w = w' := by
 obtain ⟨a1, c1, rfl, -⟩ := h.open1
 go_enter Try.func80, Try.ntmps80
 go_wp2_with fail
 refine (ai8 (fun l => !m8 l) 117 _ xs _ h (ai4 Try.func117 (by kernel_rfl) rfl) (fun x w' => am6 x w')).mono ?_
 rintro e w1 ⟨rfl, rfl⟩
 have HN := show Hid _ from aK6 xs
 go_wp2_with fail
 go_ret
 exact ⟨f8 HN.out, rfl⟩
theorem ab3 (v1 v2 : Value) (vars arrays : List Int) (w : World) (h1 : K9 w v1 vars.length 1 (ints vars)) (h2 : K9 w v2 arrays.length 1 (ints arrays)) :
  Calls Try.prog 41 #[v1, v2] w fun e w' => e = .returned (.bool (A5 vars arrays)) ∧ w = w' := by
 obtain ⟨a1, c1, rfl, -, q1, -⟩ := h1.open1
 obtain ⟨a2, c2, rfl, -, q2, -⟩ := h2.open1
 have HT : Hid (A5 vars arrays = (vars.all m8 && arrays.all m8 && decide (1 ≤ vars.length) && decide (vars.length ≤ 12) && decide (arrays.length ≤ 2))) := rfl
 by_cases hn : (1 : Int) ≤ (vars.length : Int) ∧ (vars.length : Int) ≤ 12
 ·have hb : (decide ((1 : Int) ≤ vars.length) && decide ((vars.length : Int) ≤ 12)) = true := by simpa using hn
  have HB := show Hid _ from hb
  by_cases hm : (arrays.length : Int) ≤ 2
  ·cases hv : vars.all m8
   ·have HV := show Hid _ from hv
    clear hv hb hn
    go_enter Try.func41, Try.ntmps41
    go_wp2_with fail
    refine (v6 _ 1 12 _).mono ?_
    rintro e w1 ⟨rfl, rfl⟩
    rw [HB.out]
    go_wp2_with fail
    refine (O0 _ vars _ h1).mono ?_
    rintro e w1 ⟨rfl, rfl⟩
    rw [HV.out]
    go_wp2_with fail
    go_ret
    exact ⟨f8 (by rw [HT.out, HV.out]; rfl), rfl⟩
   ·have HV := show Hid _ from hv
    have hn' := show Hid _ from hn
    have hm' := show Hid _ from hm
    clear hv hb hn
    go_enter Try.func41, Try.ntmps41
    go_wp2_with fail
    refine (v6 _ 1 12 _).mono ?_
    rintro e w1 ⟨rfl, rfl⟩
    rw [HB.out]
    go_wp2_with fail
    refine (O0 _ vars _ h1).mono ?_
    rintro e w1 ⟨rfl, rfl⟩
    rw [HV.out]
    go_wp2_with fail
    refine (O0 _ arrays _ h2).mono ?_
    rintro e w1 ⟨rfl, rfl⟩
    go_wp2_with fail
    go_ret
    refine ⟨f8 ?_, rfl⟩
    have h3 := hn'.out
    have h4 := hm'.out
    rw [HT.out, HV.out, decide_eq_true (show 1 ≤ vars.length by omega), decide_eq_true (show vars.length ≤ 12 by omega), decide_eq_true (show arrays.length ≤ 2 by omega)]
    simp
  ·have hF : Hid (A5 vars arrays = false) := by unfold Hid; rw [HT.out, decide_eq_false (show ¬ arrays.length ≤ 2 by omega)]; simp
   clear hb hn
   go_enter Try.func41, Try.ntmps41
   go_wp2_with fail
   refine (v6 _ 1 12 _).mono ?_
   rintro e w1 ⟨rfl, rfl⟩
   rw [HB.out]
   go_wp2_with fail
   go_ret
   exact ⟨f8 hF.out.symm, rfl⟩
 ·have hb : (decide ((1 : Int) ≤ vars.length) && decide ((vars.length : Int) ≤ 12)) = false := by
   rw [Bool.eq_false_iff]; simp only [ne_eq, bE8, decide_eq_true_eq]; exact hn
  have HB := show Hid _ from hb
  have hF : Hid (A5 vars arrays = false) := by
   unfold Hid; rw [HT.out]
   rcases Classical.not_and_iff_not_or_not.1 hn with h | h
   ·rw [decide_eq_false (show ¬ 1 ≤ vars.length by omega)]; simp
   ·rw [decide_eq_false (show ¬ vars.length ≤ 12 by omega)]; simp
  clear hb hn
  go_enter Try.func41, Try.ntmps41
  go_wp2_with fail
  refine (v6 _ 1 12 _).mono ?_
  rintro e w1 ⟨rfl, rfl⟩
  rw [HB.out]
  go_wp2_with fail
  go_ret
  exact ⟨f8 hF.out.symm, rfl⟩
theorem af7 (k n : Int) (kv : Value) (w : World) : Calls Try.prog 115 #[.agg #[.int .i64 k, .int .i64 n, kv]] w fun e w' => e = .returned (.bool (decide (k = 1) || decide (k = 2))) ∧ Below w.heap.size w w' := by
 by_cases h1 : k = 1
 ·have p1 : (k == 1) = true := by simp [h1]
  have Q := show Hid _ from h1
  clear h1
  go_enter Try.func115, Try.ntmps115
  go_wp2
  go_ret
  exact ⟨f8 (by simp [Q.out]), by go_grown⟩
 ·have p1 : (k == 1) = false := by simp [h1]
  have Q := show Hid _ from h1
  clear h1
  by_cases h2 : k = 2
  ·have p2 : (k == 2) = true := by simp [h2]
   have Q2 := show Hid _ from h2
   clear h2
   go_enter Try.func115, Try.ntmps115
   go_wp2
   go_ret
   exact ⟨f8 (by simp [Q2.out]), by go_grown⟩
  ·have p2 : (k == 2) = false := by simp [h2]
   have Q2 := show Hid _ from h2
   clear h2
   go_enter Try.func115, Try.ntmps115
   go_wp2
   go_ret
   exact ⟨f8 (by rw [decide_eq_false Q.out, decide_eq_false Q2.out]; rfl), by go_grown⟩
theorem au8 (k : Int) (w : World) : Calls Try.prog 114 #[.int .i64 k] w fun e w' => e = .returned (.int .i64 (i8 k)) ∧ w = w' := by
 by_cases h1 : k = 1
 ·subst h1
  go_enter Try.func114, Try.ntmps114
  go_wp2_with fail
  go_ret
  exact ⟨v9 (by simp [i8]), rfl⟩
 by_cases h2 : k = 2
 ·subst h2
  go_enter Try.func114, Try.ntmps114
  go_wp2_with fail
  go_ret
  exact ⟨v9 (by simp [i8]), rfl⟩
 by_cases h3 : k = 3
 ·subst h3
  go_enter Try.func114, Try.ntmps114
  go_wp2_with fail
  go_ret
  exact ⟨v9 (by simp [i8]), rfl⟩
 have p1 : (k == 1) = false := by simp [h1]
 have p2 : (k == 2) = false := by simp [h2]
 have p3 : (k == 3) = false := by simp [h3]
 have H := show Hid _ from And.intro h1 (And.intro h2 h3)
 clear h1 h2 h3
 go_enter Try.func114, Try.ntmps114
 go_wp2_with fail
 refine (v6 k 4 10 _).mono ?_
 rintro x w1 ⟨rfl, rfl⟩
 by_cases h4 : 4 ≤ k ∧ k ≤ 10
 ·have p4 : (decide (4 ≤ k) && decide (k ≤ 10)) = true := by simp [h4]
  rw [p4]
  have H4 := show Hid _ from h4
  clear h4 p4
  go_wp2_with fail
  go_ret
  exact ⟨v9 (by have := H.out; have := H4.out; unfold i8; rw [if_neg (by omega), if_neg (by omega), if_pos (by omega)]), rfl⟩
 ·have p4 : (decide (4 ≤ k) && decide (k ≤ 10)) = false := by simp; omega
  rw [p4]
  have H4 := show Hid _ from h4
  clear h4 p4
  by_cases h5 : k = 11
  ·subst h5
   go_wp2_with fail
   go_ret
   exact ⟨v9 (by simp [i8]), rfl⟩
  ·have p5 : (k == 11) = false := by simp [h5]
   have H5 := show Hid _ from h5
   clear h5
   go_wp2_with fail
   go_ret
   exact ⟨v9 (by have := H.out; have := H4.out; have := H5.out; unfold i8; rw [if_neg (by omega), if_neg (by omega), if_neg (by omega), if_neg (by omega)]), rfl⟩
theorem T5 {nv na d c : Nat} {e : b5} (h1 : r9 nv na e = true) (h2 : H8 e = true) : t3 nv na (d + 1) c e = s8 nv na d (c + 1) e.kids e.kids.length := by
 unfold t3 s8
 rw [bF9 (bG4 _), d7, h1, h2, B7]
 simp
theorem P2 {nv na d c k : Nat} {ks : List b5} (hk : k < ks.length) (hs : t3 nv na d (c + m6 (ks.take k)) ks[k] = false) : s8 nv na d c ks ks.length = false := by
 unfold s8
 rw [bF9 (bG4 _)]
 exact aA0 nv na hk hs
theorem H7 {nv na d c : Nat} {e : b5} (h1 : r9 nv na e = false) : t3 nv na (d + 1) c e = false := by
 unfold t3; rw [d7, h1]; rfl
theorem aA1 {nv na d c : Nat} {e : b5} (h1 : H8 e = false) : t3 nv na (d + 1) c e = false := by
 unfold t3; rw [d7, h1]; simp
theorem T8 {nv na : Nat} {k n h : Int} (hh : h = w6 nv na k - 1) : (decide (0 ≤ n) && decide (n ≤ h)) = (decide (0 ≤ n) && decide (n < w6 nv na k)) := by
 congr 1; exact decide_eq_decide.2 (by omega)
theorem aZ4 (a1 a2 : Option Addr) (nv c1 na c2 : Nat) (v3 : Value) (h1 : nv ≤ 9223372036854775807) (h2 : na ≤ 9223372036854775807) : ∀ (d : Nat) (deep : Int), deep + d = 6 → 1 ≤ deep → ∀ (e : b5) (φ : Nat → Prop) (v : Value) (c cb : Nat) (w : World), E8 w φ v e → ¬ φ cb → R1 w cb [.int .i64 c] → c ≤ 15 →
  Calls Try.prog 77 #[.agg #[.slice a1 nv c1, .slice a2 na c2, v3], v, .int .i64 deep, .pointer (some ⟨cb, 0, none⟩)] w fun x w' =>
   x = .returned (.bool (t3 nv na d c e)) ∧ (t3 nv na d c e = true → R1 w' cb [.int .i64 (c + 1 + G7 e : Nat)]) ∧ (∃ u, R1 w' cb [u]) ∧ y6 (fun b => ¬ b = cb) w w' := by
 intro d
 induction d with
 | zero =>
  intro deep hdp hd1 e φ v c cb w h hcb hblk hc
  obtain ⟨kv, rfl, hk⟩ := h
  have HF : Hid (t3 nv na 0 c e = false) := rfl
  obtain rfl : deep = 6 := by omega
  have hl := hblk.lt
  have x0 : w.cell? ⟨cb, 0, none⟩ = some (.int .i64 c) := (hblk.cell 0).trans rfl
  have f0 := hblk.free
  obtain ⟨W, hW, M⟩ : ∃ W, W = (((w.setCell ⟨cb, 0, none⟩ (.int .i64 ((c : Int) + 1))).alloc (.cells #[.slice a1 nv c1, .slice a2 na c2, v3] 26)).alloc (.cells #[.int .i64 e.kind, .int .i64 e.value, kv] 29)) ∧ m0 (fun _ => True) (fun b => ¬ b = cb) w W [.box cb [.int .i64 ((c : Int) + 1)]] :=
   ⟨_, rfl, (((m0.start fun _ _ => trivial).adopt (.box cb [.int .i64 c]) (fun _ ha => by cases ha) bF1 hblk (fun _ ha => by cases ha) (fun g hg hn => by cases hg; exact hn rfl)).set 0 rfl 0 (.int .i64 ((c : Int) + 1))).call (by go_grown)⟩
  have y0 := M.c 0 0 rfl rfl
  have z0 := fun X => o6 y0 X
  clear hk y0 hblk
  by_cases q : (15 : Int) < (c : Int) + 1
  ·have p : decide ((15 : Int) < (c : Int) + 1) = true := by simp; omega
   clear q
   go_enter Try.func77, Try.ntmps77
   go_wp2_with fail
   rw [← hW]
   clear hW
   refine s5 (by kernel_rfl) (by kernel_rfl) ?_
   repeat (any_goals (first | go_big_quiet_step (((fail))) | quiet_step (((fail)))))
   refine wpQuiet_nil ?_
   rintro _ ⟨X, rfl⟩
   replace M := M.call (t5 W X)
   go_wp2_with fail
   go_ret
   exact ⟨f8 (by rw [HF.out]), fun h => absurd (h.symm.trans HF.out) (by simp), ⟨_, M.blk 0 rfl⟩, M.kept⟩
  ·have p : decide ((15 : Int) < (c : Int) + 1) = false := by simp; omega
   clear q
   go_enter Try.func77, Try.ntmps77
   go_wp2_with fail
   rw [← hW]
   clear hW
   refine s5 (by kernel_rfl) (by kernel_rfl) ?_
   repeat (any_goals (first | go_big_quiet_step (((fail))) | quiet_step (((fail)))))
   refine wpQuiet_nil ?_
   rintro _ ⟨X, rfl⟩
   replace M := M.call (t5 W X)
   go_wp2_with fail
   go_ret
   exact ⟨f8 (by rw [HF.out]), fun h => absurd (h.symm.trans HF.out) (by simp), ⟨_, M.blk 0 rfl⟩, M.kept⟩
 | succ d ih =>
  intro deep hdp hd1 e φ v c cb w h hcb hblk hc
  obtain ⟨kv, rfl, hk⟩ := h
  obtain ⟨ak, ck, rfl, -, hn, -, -⟩ := hk.open
  have hl := hblk.lt
  have hd5 : deep ≤ 5 := by omega
  obtain ⟨φ', hφ'⟩ : ∃ φ' : Nat → Prop, φ' = fun b => φ b ∨ w.heap.size ≤ b := ⟨_, rfl⟩
  have x0 : w.cell? ⟨cb, 0, none⟩ = some (.int .i64 c) := (hblk.cell 0).trans rfl
  have f0 := hblk.free
  obtain ⟨W, hW, M⟩ : ∃ W, W = (((w.setCell ⟨cb, 0, none⟩ (.int .i64 ((c : Int) + 1))).alloc (.cells #[.slice a1 nv c1, .slice a2 na c2, v3] 26)).alloc (.cells #[.int .i64 e.kind, .int .i64 e.value, .slice ak e.kids.length ck] 29)) ∧
    m0 φ' (fun b => ¬ b = cb) w W [.box cb [.int .i64 ((c : Int) + 1)], .box w.heap.size [.slice a1 nv c1, .slice a2 na c2, v3], .box (w.heap.size + 1) [.int .i64 e.kind, .int .i64 e.value, .slice ak e.kids.length ck], .dat (fun w φ => n7 w φ (.slice ak e.kids.length ck) e.kids)] := by
   refine ⟨_, rfl, (((((m0.start (by rw [hφ']; exact fun _ h => .inr h)).adopt (.box cb [.int .i64 c]) (fun _ ha => by cases ha) bF1 hblk (fun _ ha => by cases ha) (fun g hg hn => by cases hg; exact hn rfl)).set 0 rfl 0 (.int .i64 ((c : Int) + 1))).box' _ _ (by simp)).box' _ _ (by simp)).dat (n7.nice _ _) (n7.nice _ _ _ _ _ _ ⟨by simp; omega, fun b hb hf => ⟨⟨by rw [hφ']; exact .inl hf, fun r hr he => ?_⟩, ?_⟩⟩ hk)⟩
   ·simp at hr
    rcases hr with rfl | rfl | rfl
    ·cases he; exact hcb hf
    ·cases he; omega
    ·cases he; omega
   ·have hbc : b ≠ cb := fun he => hcb (he ▸ hf)
    exact (((Below.refl w.heap.size (w.setCell ⟨cb, 0, none⟩ (.int .i64 ((c : Int) + 1)))).alloc (by simp) _ |>.alloc (by simp) _).block b (by simpa using hb)).trans (Below.heap_setCell _ _ _ _ hbc)
  clear hk hblk hφ'
  have y0 := M.c 0 0 rfl rfl
  have y1 := M.c 2 0 rfl rfl
  have y2 := M.c 2 2 rfl rfl
  have z0 := fun X => o6 y0 X
  have z1 := fun X => o6 y1 X
  have z2 := fun X => o6 y2 X
  have HA : Hid (∀ X, Calls Try.prog 114 #[.int .i64 e.kind] (W.ext X) fun x w'' => x = .returned (.int .i64 (i8 e.kind)) ∧ ∃ Y, w'' = W.ext Y) := fun X =>
   Calls.ext_of' ((au8 e.kind _).mono fun x w' h => ⟨h.1, h.2 ▸ Below.refl _ _⟩)
  clear y0 y1 y2
  have p2 : decide ((5 : Int) < deep) = false := decide_eq_false (by omega)
  by_cases q1 : (15 : Int) < (c : Int) + 1
  ·have p1 : decide ((15 : Int) < (c : Int) + 1) = true := decide_eq_true q1
   have HF : Hid (t3 nv na (d + 1) c e = false) := by unfold Hid t3; rw [decide_eq_false (by omega), Bool.and_false]
   clear q1
   go_enter Try.func77, Try.ntmps77
   go_wp2_with fail
   rw [← hW]
   clear hW
   refine s5 (by kernel_rfl) (by kernel_rfl) ?_
   repeat (any_goals (first | go_big_quiet_step (((go_at_call 114; exact HA.out _))) | quiet_step (((go_at_call 114; exact HA.out _)))))
   refine wpQuiet_nil ?_
   rintro _ ⟨X, rfl⟩
   replace M := M.call (t5 W X)
   go_wp2_with fail
   go_ret
   exact ⟨f8 (by rw [HF.out]), fun h => absurd (h.symm.trans HF.out) (by simp), ⟨_, M.blk 0 rfl⟩, M.kept⟩
  have p1 : decide ((15 : Int) < (c : Int) + 1) = false := decide_eq_false q1
  by_cases q3 : (e.kids.length : Int) = i8 e.kind
  case neg =>
   have p3 : (i8 e.kind != (e.kids.length : Int)) = true := by simp; omega
   have HF : Hid (t3 nv na (d + 1) c e = false) := H7 (by unfold r9; rw [decide_eq_false q3]; rfl)
   clear q1 q3
   go_enter Try.func77, Try.ntmps77
   go_wp2_with fail
   rw [← hW]
   clear hW
   refine s5 (by kernel_rfl) (by kernel_rfl) ?_
   repeat (any_goals (first | go_big_quiet_step (((go_at_call 114; exact HA.out _))) | quiet_step (((go_at_call 114; exact HA.out _)))))
   refine wpQuiet_nil ?_
   rintro _ ⟨X, rfl⟩
   replace M := M.call (t5 W X)
   go_wp2_with fail
   go_ret
   exact ⟨f8 (by rw [HF.out]), fun h => absurd (h.symm.trans HF.out) (by simp), ⟨_, M.blk 0 rfl⟩, M.kept⟩
  have p3 : (i8 e.kind != (e.kids.length : Int)) = false := by simp; omega
  have HQ := show Hid _ from And.intro q1 q3
  clear q1 q3
  go_enter Try.func77, Try.ntmps77
  go_wp2_with fail
  rw [← hW]
  clear hW
  refine s5 (by kernel_rfl) (by kernel_rfl) ?_
  repeat (any_goals (first | go_big_quiet_step (((go_at_call 114; exact HA.out _))) | quiet_step (((go_at_call 114; exact HA.out _)))))
  refine wpQuiet_nil ?_
  rintro _ ⟨X, rfl⟩
  replace M := M.call (t5 W X)
  generalize W.ext X = W1 at *
  clear z0 z1 z2 HA p1 p2 p3 f0 x0
  have y0 := M.c 1 0 rfl rfl
  have y1 := M.c 1 1 rfl rfl
  have y2 := M.c 2 0 rfl rfl
  have y3 := M.c 2 1 rfl rfl
  have y4 := M.c 2 2 rfl rfl
  have HM := show Hid _ from M
  clear M
  by_cases k1 : e.kind = 1
  ·have qq1 : (e.kind == 1) = true := by simp [k1]
   have qq2 : (e.kind == 3) = false := by simp [k1]
   have HRD : Hid (H8 e = true) := by unfold Hid H8; simp [k1]
   have hhi : (255 : Int) = w6 nv na e.kind - 1 := by rw [k1]; simp [w6]
   clear k1
   have HNB := show Hid (r9 nv na e = (decide (0 ≤ e.value) && decide (e.value ≤ 255))) from by
    unfold Hid r9; rw [decide_eq_true HQ.out.2, T8 hhi]; rfl
   clear hhi
   go_wp2_with fail
   refine (v6 e.value 0 _ _).mono ?_
   rintro x w1 ⟨rfl, rfl⟩
   have HNB2 := show Hid (r9 nv na e = (decide (0 ≤ e.value) && decide (e.value ≤ 255))) from HNB.out
   clear HNB
   obtain ⟨qn, hqn⟩ : ∃ qn, qn = (decide (0 ≤ e.value) && decide (e.value ≤ 255)) := ⟨_, rfl⟩
   rw [← hqn]
   have HN := show Hid (r9 nv na e = qn) from HNB2.out.trans hqn.symm
   clear hqn HNB2
   cases qn
   ·have HF : Hid (t3 nv na (d + 1) c e = false) := H7 HN.out
    have M := HM.out
    clear HM
    go_wp2_with fail
    go_ret
    exact ⟨f8 (by rw [HF.out]), fun h => absurd (h.symm.trans HF.out) (by simp), ⟨_, M.blk 0 rfl⟩, M.kept⟩
   have HSC : Hid (t3 nv na (d + 1) c e = s8 nv na d (c + 1) e.kids e.kids.length) := T5 HN.out HRD.out
   go_wp2_with fail
   clear y0 y1 y2 y3 y4
   have HST : Hid (s8 nv na d (c + 1) e.kids 0 = true ∧ m0 φ' (fun b => ¬ b = cb) w W1 [.box cb [.int .i64 (c + 1 + m6 (e.kids.take 0) : Nat)], .box w.heap.size [.slice a1 nv c1, .slice a2 na c2, v3], .box (w.heap.size + 1) [.int .i64 e.kind, .int .i64 e.value, .slice ak e.kids.length ck], .dat (fun w φ => n7 w φ (.slice ak e.kids.length ck) e.kids)]) := by
    refine ⟨?_, ?_⟩
    ·have := HQ.out.1
     simp [s8, m6]; omega
    ·rw [show ((c + 1 + m6 (e.kids.take 0) : Nat) : Int) = (c : Int) + 1 by simp [m6]]
     exact HM.out
   go_loopw [71] (fun i wr => ∃ k : Nat, k ≤ e.kids.length ∧ i = .int .i64 k ∧ s8 nv na d (c + 1) e.kids k = true ∧ m0 φ' (fun b => ¬ b = cb) w wr [.box cb [.int .i64 (c + 1 + m6 (e.kids.take k) : Nat)], .box w.heap.size [.slice a1 nv c1, .slice a2 na c2, v3], .box (w.heap.size + 1) [.int .i64 e.kind, .int .i64 e.value, .slice ak e.kids.length ck], .dat (fun w φ => n7 w φ (.slice ak e.kids.length ck) e.kids)]) (fun i _ => e.kids.length - (intOf i).toNat)
   case atStart => exact ⟨0, bI1 _, rfl, HST.out.1, HST.out.2⟩
   case round =>
    clear HM
    obtain ⟨k, hk, rfl, hpre, M⟩ := hrel
    have HPRE := show Hid _ from hpre
    have hle : c + 1 + m6 (e.kids.take k) ≤ 15 := by unfold s8 at hpre; simp at hpre; exact hpre.2
    clear hpre
    by_cases hlt : k < e.kids.length
    ·have hncb : ¬ Fr φ' [.box cb [.int .i64 (c + 1 + m6 (e.kids.take k) : Nat)], .box w.heap.size [.slice a1 nv c1, .slice a2 na c2, v3], .box (w.heap.size + 1) [.int .i64 e.kind, .int .i64 e.value, .slice ak e.kids.length ck], .dat (fun w φ => n7 w φ (.slice ak e.kids.length ck) e.kids)] cb := fun h => h.2 _ bF7 rfl
     obtain ⟨a', c', he, -, -, -, hcell⟩ := (M.d 3 rfl).open
     cases he
     obtain ⟨b, off, kv, hbo, hbk, hf, g0, g1, g2, hkk⟩ := hcell k hlt
     cases hbo
     obtain ⟨ka, kc, rfl, -, -, -, -⟩ := hkk.open
     have bz : Below wr.heap.size wr (wr.alloc (.cells #[.int .i64 e.kids[k].kind, .int .i64 e.kids[k].value, .slice ka e.kids[k].kids.length kc] 29)) := by go_grown
     have HE := show Hid _ from n7.nice _ _ _ _ _ _ (O1.below bz) hkk
     have HNCB := show Hid _ from hncb
     have x0 := M.c 1 0 rfl rfl
     have x1 := M.c 1 1 rfl rfl
     have x2 := M.c 1 2 rfl rfl
     have s1 : w.heap.size < wr.heap.size := M.lt (r := .box w.heap.size [.slice a1 nv c1, .slice a2 na c2, v3]) (bG0 _ bF7) rfl
     have HM := show Hid _ from M.box [.int .i64 e.kids[k].kind, .int .i64 e.kids[k].value, .slice ka e.kids[k].kids.length kc] 29
     have HP := show Hid _ from N1 nv na (d := d) (c := c + 1) hlt
     have HX := show Hid (t3 nv na d (c + 1 + m6 (e.kids.take k)) e.kids[k] = false → t3 nv na (d + 1) c e = false) from fun h => HSC.out.trans (P2 hlt h)
     have HT := show Hid _ from N6 hlt
     clear hcell hncb bz hkk M
     go_wp2_with fail
     refine (ih (deep + 1) (by omega) (by omega) e.kids[k] _ _ (c + 1 + m6 (e.kids.take k)) cb _ ⟨_, rfl, HE.out⟩ HNCB.out (HM.out.blk 0 rfl) hle).mono ?_
     rintro x w2 ⟨rfl, r1, ⟨u, r2⟩, kp⟩
     obtain ⟨q, hq⟩ : ∃ q, q = t3 nv na d (c + 1 + m6 (e.kids.take k)) e.kids[k] := ⟨_, rfl⟩
     rw [← hq] at r1 ⊢
     have HQ2 := show Hid _ from hq
     clear hq x0 x1 x2 g0 g1 g2
     cases q
     ·have M2 := HM.out.callB 0 rfl kp r2
      have HF := show Hid _ from HX.out HQ2.out.symm
      clear r1 r2 kp
      go_wp2_with fail
      go_ret
      exact ⟨f8 (by rw [HF.out]), fun h => absurd (h.symm.trans HF.out) (by simp), ⟨_, M2.blk 0 rfl⟩, M2.kept⟩
     ·have M2 := (HM.out.callB 0 rfl kp (r1 rfl)).take 4
      have HM2 := show Hid _ from M2
      clear r1 r2 kp M2
      go_wp2_with fail
      refine ⟨⟨k + 1, by omega, by go_num, by rw [HP.out, HPRE.out, ← HQ2.out]; rfl, ?_⟩, by simp [intOf]; omega⟩
      rw [HT.out, show c + 1 + (m6 (e.kids.take k) + (1 + G7 e.kids[k])) = c + 1 + m6 (e.kids.take k) + 1 + G7 e.kids[k] by omega]
      exact HM2.out
    ·have hkn : k = e.kids.length := by omega
     subst hkn
     have HM := show Hid _ from M
     have HS : Hid (t3 nv na (d + 1) c e = true) := HSC.out.trans HPRE.out
     clear M
     go_wp2_with fail
     go_ret
     refine ⟨f8 (by rw [HS.out]), fun _ => ?_, ⟨_, HM.out.blk 0 rfl⟩, HM.out.kept⟩
     have := HM.out.blk 0 rfl
     rw [bF9 (bG4 _)] at this
     rw [B7]
     exact this
  have k1' : (e.kind == 1) = false := by simp [k1]
  by_cases k2 : e.kind = 2
  ·have qq1 : (e.kind == 2) = true := by simp [k2]
   have qq2 : (e.kind == 3) = false := by simp [k2]
   have HRD : Hid (H8 e = true) := by unfold Hid H8; simp [k2]
   have hhi : (nv : Int) - 1 = w6 nv na e.kind - 1 := by rw [k2]; simp [w6]
   clear k1 k2
   have HNB := show Hid (r9 nv na e = (decide (0 ≤ e.value) && decide (e.value ≤ (nv : Int) - 1))) from by
    unfold Hid r9; rw [decide_eq_true HQ.out.2, T8 hhi]; rfl
   clear hhi
   go_wp2_with fail
   refine (v6 e.value 0 _ _).mono ?_
   rintro x w1 ⟨rfl, rfl⟩
   have HNB2 := show Hid (r9 nv na e = (decide (0 ≤ e.value) && decide (e.value ≤ (nv : Int) - 1))) from HNB.out
   clear HNB
   obtain ⟨qn, hqn⟩ : ∃ qn, qn = (decide (0 ≤ e.value) && decide (e.value ≤ (nv : Int) - 1)) := ⟨_, rfl⟩
   rw [← hqn]
   have HN := show Hid (r9 nv na e = qn) from HNB2.out.trans hqn.symm
   clear hqn HNB2
   cases qn
   ·have HF : Hid (t3 nv na (d + 1) c e = false) := H7 HN.out
    have M := HM.out
    clear HM
    go_wp2_with fail
    go_ret
    exact ⟨f8 (by rw [HF.out]), fun h => absurd (h.symm.trans HF.out) (by simp), ⟨_, M.blk 0 rfl⟩, M.kept⟩
   have HSC : Hid (t3 nv na (d + 1) c e = s8 nv na d (c + 1) e.kids e.kids.length) := T5 HN.out HRD.out
   go_wp2_with fail
   clear y0 y1 y2 y3 y4
   have HST : Hid (s8 nv na d (c + 1) e.kids 0 = true ∧ m0 φ' (fun b => ¬ b = cb) w W1 [.box cb [.int .i64 (c + 1 + m6 (e.kids.take 0) : Nat)], .box w.heap.size [.slice a1 nv c1, .slice a2 na c2, v3], .box (w.heap.size + 1) [.int .i64 e.kind, .int .i64 e.value, .slice ak e.kids.length ck], .dat (fun w φ => n7 w φ (.slice ak e.kids.length ck) e.kids)]) := by
    refine ⟨?_, ?_⟩
    ·have := HQ.out.1
     simp [s8, m6]; omega
    ·rw [show ((c + 1 + m6 (e.kids.take 0) : Nat) : Int) = (c : Int) + 1 by simp [m6]]
     exact HM.out
   go_loopw [71] (fun i wr => ∃ k : Nat, k ≤ e.kids.length ∧ i = .int .i64 k ∧ s8 nv na d (c + 1) e.kids k = true ∧ m0 φ' (fun b => ¬ b = cb) w wr [.box cb [.int .i64 (c + 1 + m6 (e.kids.take k) : Nat)], .box w.heap.size [.slice a1 nv c1, .slice a2 na c2, v3], .box (w.heap.size + 1) [.int .i64 e.kind, .int .i64 e.value, .slice ak e.kids.length ck], .dat (fun w φ => n7 w φ (.slice ak e.kids.length ck) e.kids)]) (fun i _ => e.kids.length - (intOf i).toNat)
   case atStart => exact ⟨0, bI1 _, rfl, HST.out.1, HST.out.2⟩
   case round =>
    clear HM
    obtain ⟨k, hk, rfl, hpre, M⟩ := hrel
    have HPRE := show Hid _ from hpre
    have hle : c + 1 + m6 (e.kids.take k) ≤ 15 := by unfold s8 at hpre; simp at hpre; exact hpre.2
    clear hpre
    by_cases hlt : k < e.kids.length
    ·have hncb : ¬ Fr φ' [.box cb [.int .i64 (c + 1 + m6 (e.kids.take k) : Nat)], .box w.heap.size [.slice a1 nv c1, .slice a2 na c2, v3], .box (w.heap.size + 1) [.int .i64 e.kind, .int .i64 e.value, .slice ak e.kids.length ck], .dat (fun w φ => n7 w φ (.slice ak e.kids.length ck) e.kids)] cb := fun h => h.2 _ bF7 rfl
     obtain ⟨a', c', he, -, -, -, hcell⟩ := (M.d 3 rfl).open
     cases he
     obtain ⟨b, off, kv, hbo, hbk, hf, g0, g1, g2, hkk⟩ := hcell k hlt
     cases hbo
     obtain ⟨ka, kc, rfl, -, -, -, -⟩ := hkk.open
     have bz : Below wr.heap.size wr (wr.alloc (.cells #[.int .i64 e.kids[k].kind, .int .i64 e.kids[k].value, .slice ka e.kids[k].kids.length kc] 29)) := by go_grown
     have HE := show Hid _ from n7.nice _ _ _ _ _ _ (O1.below bz) hkk
     have HNCB := show Hid _ from hncb
     have x0 := M.c 1 0 rfl rfl
     have x1 := M.c 1 1 rfl rfl
     have x2 := M.c 1 2 rfl rfl
     have s1 : w.heap.size < wr.heap.size := M.lt (r := .box w.heap.size [.slice a1 nv c1, .slice a2 na c2, v3]) (bG0 _ bF7) rfl
     have HM := show Hid _ from M.box [.int .i64 e.kids[k].kind, .int .i64 e.kids[k].value, .slice ka e.kids[k].kids.length kc] 29
     have HP := show Hid _ from N1 nv na (d := d) (c := c + 1) hlt
     have HX := show Hid (t3 nv na d (c + 1 + m6 (e.kids.take k)) e.kids[k] = false → t3 nv na (d + 1) c e = false) from fun h => HSC.out.trans (P2 hlt h)
     have HT := show Hid _ from N6 hlt
     clear hcell hncb bz hkk M
     go_wp2_with fail
     refine (ih (deep + 1) (by omega) (by omega) e.kids[k] _ _ (c + 1 + m6 (e.kids.take k)) cb _ ⟨_, rfl, HE.out⟩ HNCB.out (HM.out.blk 0 rfl) hle).mono ?_
     rintro x w2 ⟨rfl, r1, ⟨u, r2⟩, kp⟩
     obtain ⟨q, hq⟩ : ∃ q, q = t3 nv na d (c + 1 + m6 (e.kids.take k)) e.kids[k] := ⟨_, rfl⟩
     rw [← hq] at r1 ⊢
     have HQ2 := show Hid _ from hq
     clear hq x0 x1 x2 g0 g1 g2
     cases q
     ·have M2 := HM.out.callB 0 rfl kp r2
      have HF := show Hid _ from HX.out HQ2.out.symm
      clear r1 r2 kp
      go_wp2_with fail
      go_ret
      exact ⟨f8 (by rw [HF.out]), fun h => absurd (h.symm.trans HF.out) (by simp), ⟨_, M2.blk 0 rfl⟩, M2.kept⟩
     ·have M2 := (HM.out.callB 0 rfl kp (r1 rfl)).take 4
      have HM2 := show Hid _ from M2
      clear r1 r2 kp M2
      go_wp2_with fail
      refine ⟨⟨k + 1, by omega, by go_num, by rw [HP.out, HPRE.out, ← HQ2.out]; rfl, ?_⟩, by simp [intOf]; omega⟩
      rw [HT.out, show c + 1 + (m6 (e.kids.take k) + (1 + G7 e.kids[k])) = c + 1 + m6 (e.kids.take k) + 1 + G7 e.kids[k] by omega]
      exact HM2.out
    ·have hkn : k = e.kids.length := by omega
     subst hkn
     have HM := show Hid _ from M
     have HS : Hid (t3 nv na (d + 1) c e = true) := HSC.out.trans HPRE.out
     clear M
     go_wp2_with fail
     go_ret
     refine ⟨f8 (by rw [HS.out]), fun _ => ?_, ⟨_, HM.out.blk 0 rfl⟩, HM.out.kept⟩
     have := HM.out.blk 0 rfl
     rw [bF9 (bG4 _)] at this
     rw [B7]
     exact this
  have k2' : (e.kind == 2) = false := by simp [k2]
  by_cases k3 : e.kind = 3
  ·have qq1 : (e.kind == 3) = true := by simp [k3]
   have qq2 := k2'
   have HRD : Hid (e.kind = 3) := k3
   have hhi : (na : Int) - 1 = w6 nv na e.kind - 1 := by rw [k3]; simp [w6]
   clear k1 k2 k3
   have HNB := show Hid (r9 nv na e = (decide (0 ≤ e.value) && decide (e.value ≤ (na : Int) - 1))) from by
    unfold Hid r9; rw [decide_eq_true HQ.out.2, T8 hhi]; rfl
   clear hhi
   go_wp2_with fail
   refine (v6 e.value 0 _ _).mono ?_
   rintro x w1 ⟨rfl, rfl⟩
   have HNB2 := show Hid (r9 nv na e = (decide (0 ≤ e.value) && decide (e.value ≤ (na : Int) - 1))) from HNB.out
   clear HNB
   obtain ⟨qn, hqn⟩ : ∃ qn, qn = (decide (0 ≤ e.value) && decide (e.value ≤ (na : Int) - 1)) := ⟨_, rfl⟩
   rw [← hqn]
   have HN := show Hid (r9 nv na e = qn) from HNB2.out.trans hqn.symm
   clear hqn HNB2
   cases qn
   ·have HF : Hid (t3 nv na (d + 1) c e = false) := H7 HN.out
    have M := HM.out
    clear HM
    go_wp2_with fail
    go_ret
    exact ⟨f8 (by rw [HF.out]), fun h => absurd (h.symm.trans HF.out) (by simp), ⟨_, M.blk 0 rfl⟩, M.kept⟩
   have hl1 : e.kids.length = 1 := by have := HQ.out.2; rw [HRD.out] at this; simp [i8] at this; omega
   have hpos : 0 < (e.kids.length : Int) := by omega
   obtain ⟨a', c', he, -, -, -, hcell⟩ := (HM.out.d 3 rfl).open
   have e1 : ak = a' := by cases he; rfl
   have e2 : ck = c' := by cases he; rfl
   subst e1 e2
   obtain ⟨b, off, kv, rfl, hbk, hf, g0, g1, g2, hkk⟩ := hcell 0 (by omega)
   simp only [Nat.zero_mul, Nat.add_zero] at g0 g1 g2
   have HR := show Hid _ from ah7 HRD.out (by omega)
   clear hcell hkk
   go_wp2_with fail
   refine (af7 _ _ _ _).mono ?_
   rintro x w2 ⟨rfl, b2⟩
   replace HM := show Hid _ from HM.out.call b2
   obtain ⟨qr, hqr⟩ : ∃ qr, qr = (decide ((e.kids[0]'(by omega)).kind = 1) || decide ((e.kids[0]'(by omega)).kind = 2)) := ⟨_, rfl⟩
   rw [← hqr]
   have HRR := show Hid (H8 e = qr) from HR.out.trans hqr.symm
   clear hqr b2 HR g0 g1 g2
   cases qr
   ·have HF : Hid (t3 nv na (d + 1) c e = false) := aA1 HRR.out
    have M := HM.out
    clear HM
    go_wp2_with fail
    go_ret
    exact ⟨f8 (by rw [HF.out]), fun h => absurd (h.symm.trans HF.out) (by simp), ⟨_, M.blk 0 rfl⟩, M.kept⟩
   clear y0 y1 y2 y3 y4
   have y4 := HM.out.c 2 2 rfl rfl
   have HSC : Hid (t3 nv na (d + 1) c e = s8 nv na d (c + 1) e.kids e.kids.length) := T5 HN.out HRR.out
   go_wp2_with fail
   clear y4
   have HST : Hid (s8 nv na d (c + 1) e.kids 0 = true ∧ m0 φ' (fun b => ¬ b = cb) w w2 [.box cb [.int .i64 (c + 1 + m6 (e.kids.take 0) : Nat)], .box w.heap.size [.slice a1 nv c1, .slice a2 na c2, v3], .box (w.heap.size + 1) [.int .i64 e.kind, .int .i64 e.value, .slice (some ⟨b, off, none⟩) e.kids.length ck], .dat (fun w φ => n7 w φ (.slice (some ⟨b, off, none⟩) e.kids.length ck) e.kids)]) := by
    refine ⟨?_, ?_⟩
    ·have := HQ.out.1
     simp [s8, m6]; omega
    ·rw [show ((c + 1 + m6 (e.kids.take 0) : Nat) : Int) = (c : Int) + 1 by simp [m6]]
     exact HM.out
   go_loopw [71] (fun i wr => ∃ k : Nat, k ≤ e.kids.length ∧ i = .int .i64 k ∧ s8 nv na d (c + 1) e.kids k = true ∧ m0 φ' (fun b => ¬ b = cb) w wr [.box cb [.int .i64 (c + 1 + m6 (e.kids.take k) : Nat)], .box w.heap.size [.slice a1 nv c1, .slice a2 na c2, v3], .box (w.heap.size + 1) [.int .i64 e.kind, .int .i64 e.value, .slice (some ⟨b, off, none⟩) e.kids.length ck], .dat (fun w φ => n7 w φ (.slice (some ⟨b, off, none⟩) e.kids.length ck) e.kids)]) (fun i _ => e.kids.length - (intOf i).toNat)
   case atStart => exact ⟨0, bI1 _, rfl, HST.out.1, HST.out.2⟩
   case round =>
    clear HM
    obtain ⟨k, hk, rfl, hpre, M⟩ := hrel
    have HPRE := show Hid _ from hpre
    have hle : c + 1 + m6 (e.kids.take k) ≤ 15 := by unfold s8 at hpre; simp at hpre; exact hpre.2
    clear hpre
    by_cases hlt : k < e.kids.length
    ·have hncb : ¬ Fr φ' [.box cb [.int .i64 (c + 1 + m6 (e.kids.take k) : Nat)], .box w.heap.size [.slice a1 nv c1, .slice a2 na c2, v3], .box (w.heap.size + 1) [.int .i64 e.kind, .int .i64 e.value, .slice (some ⟨b, off, none⟩) e.kids.length ck], .dat (fun w φ => n7 w φ (.slice (some ⟨b, off, none⟩) e.kids.length ck) e.kids)] cb := fun h => h.2 _ bF7 rfl
     obtain ⟨a', c', he, -, -, -, hcell⟩ := (M.d 3 rfl).open
     cases he
     obtain ⟨b, off, kv, hbo, hbk, hf, g0, g1, g2, hkk⟩ := hcell k hlt
     cases hbo
     obtain ⟨ka, kc, rfl, -, -, -, -⟩ := hkk.open
     have bz : Below wr.heap.size wr (wr.alloc (.cells #[.int .i64 e.kids[k].kind, .int .i64 e.kids[k].value, .slice ka e.kids[k].kids.length kc] 29)) := by go_grown
     have HE := show Hid _ from n7.nice _ _ _ _ _ _ (O1.below bz) hkk
     have HNCB := show Hid _ from hncb
     have x0 := M.c 1 0 rfl rfl
     have x1 := M.c 1 1 rfl rfl
     have x2 := M.c 1 2 rfl rfl
     have s1 : w.heap.size < wr.heap.size := M.lt (r := .box w.heap.size [.slice a1 nv c1, .slice a2 na c2, v3]) (bG0 _ bF7) rfl
     have HM := show Hid _ from M.box [.int .i64 e.kids[k].kind, .int .i64 e.kids[k].value, .slice ka e.kids[k].kids.length kc] 29
     have HP := show Hid _ from N1 nv na (d := d) (c := c + 1) hlt
     have HX := show Hid (t3 nv na d (c + 1 + m6 (e.kids.take k)) e.kids[k] = false → t3 nv na (d + 1) c e = false) from fun h => HSC.out.trans (P2 hlt h)
     have HT := show Hid _ from N6 hlt
     clear hcell hncb bz hkk M
     go_wp2_with fail
     refine (ih (deep + 1) (by omega) (by omega) e.kids[k] _ _ (c + 1 + m6 (e.kids.take k)) cb _ ⟨_, rfl, HE.out⟩ HNCB.out (HM.out.blk 0 rfl) hle).mono ?_
     rintro x w2 ⟨rfl, r1, ⟨u, r2⟩, kp⟩
     obtain ⟨q, hq⟩ : ∃ q, q = t3 nv na d (c + 1 + m6 (e.kids.take k)) e.kids[k] := ⟨_, rfl⟩
     rw [← hq] at r1 ⊢
     have HQ2 := show Hid _ from hq
     clear hq x0 x1 x2 g0 g1 g2
     cases q
     ·have M2 := HM.out.callB 0 rfl kp r2
      have HF := show Hid _ from HX.out HQ2.out.symm
      clear r1 r2 kp
      go_wp2_with fail
      go_ret
      exact ⟨f8 (by rw [HF.out]), fun h => absurd (h.symm.trans HF.out) (by simp), ⟨_, M2.blk 0 rfl⟩, M2.kept⟩
     ·have M2 := (HM.out.callB 0 rfl kp (r1 rfl)).take 4
      have HM2 := show Hid _ from M2
      clear r1 r2 kp M2
      go_wp2_with fail
      refine ⟨⟨k + 1, by omega, by go_num, by rw [HP.out, HPRE.out, ← HQ2.out]; rfl, ?_⟩, by simp [intOf]; omega⟩
      rw [HT.out, show c + 1 + (m6 (e.kids.take k) + (1 + G7 e.kids[k])) = c + 1 + m6 (e.kids.take k) + 1 + G7 e.kids[k] by omega]
      exact HM2.out
    ·have hkn : k = e.kids.length := by omega
     subst hkn
     have HM := show Hid _ from M
     have HS : Hid (t3 nv na (d + 1) c e = true) := HSC.out.trans HPRE.out
     clear M
     go_wp2_with fail
     go_ret
     refine ⟨f8 (by rw [HS.out]), fun _ => ?_, ⟨_, HM.out.blk 0 rfl⟩, HM.out.kept⟩
     have := HM.out.blk 0 rfl
     rw [bF9 (bG4 _)] at this
     rw [B7]
     exact this
  have qq1 : (e.kind == 3) = false := by simp [k3]
  have qq2 := qq1
  have HRD : Hid (H8 e = true) := by unfold Hid H8; simp [k3]
  have hhi : (0 : Int) = w6 nv na e.kind - 1 := by unfold w6; rw [if_neg k1, if_neg k2, if_neg k3]; rfl
  clear k1 k2 k3
  have HNB := show Hid (r9 nv na e = (decide (0 ≤ e.value) && decide (e.value ≤ 0))) from by
   unfold Hid r9; rw [decide_eq_true HQ.out.2, T8 hhi]; rfl
  clear hhi
  go_wp2_with fail
  refine (v6 e.value 0 _ _).mono ?_
  rintro x w1 ⟨rfl, rfl⟩
  have HNB2 := show Hid (r9 nv na e = (decide (0 ≤ e.value) && decide (e.value ≤ 0))) from HNB.out
  clear HNB
  obtain ⟨qn, hqn⟩ : ∃ qn, qn = (decide (0 ≤ e.value) && decide (e.value ≤ 0)) := ⟨_, rfl⟩
  rw [← hqn]
  have HN := show Hid (r9 nv na e = qn) from HNB2.out.trans hqn.symm
  clear hqn HNB2
  cases qn
  ·have HF : Hid (t3 nv na (d + 1) c e = false) := H7 HN.out
   have M := HM.out
   clear HM
   go_wp2_with fail
   go_ret
   exact ⟨f8 (by rw [HF.out]), fun h => absurd (h.symm.trans HF.out) (by simp), ⟨_, M.blk 0 rfl⟩, M.kept⟩
  have HSC : Hid (t3 nv na (d + 1) c e = s8 nv na d (c + 1) e.kids e.kids.length) := T5 HN.out HRD.out
  go_wp2_with fail
  clear y0 y1 y2 y3 y4
  have HST : Hid (s8 nv na d (c + 1) e.kids 0 = true ∧ m0 φ' (fun b => ¬ b = cb) w W1 [.box cb [.int .i64 (c + 1 + m6 (e.kids.take 0) : Nat)], .box w.heap.size [.slice a1 nv c1, .slice a2 na c2, v3], .box (w.heap.size + 1) [.int .i64 e.kind, .int .i64 e.value, .slice ak e.kids.length ck], .dat (fun w φ => n7 w φ (.slice ak e.kids.length ck) e.kids)]) := by
   refine ⟨?_, ?_⟩
   ·have := HQ.out.1
    simp [s8, m6]; omega
   ·rw [show ((c + 1 + m6 (e.kids.take 0) : Nat) : Int) = (c : Int) + 1 by simp [m6]]
    exact HM.out
  go_loopw [71] (fun i wr => ∃ k : Nat, k ≤ e.kids.length ∧ i = .int .i64 k ∧ s8 nv na d (c + 1) e.kids k = true ∧ m0 φ' (fun b => ¬ b = cb) w wr [.box cb [.int .i64 (c + 1 + m6 (e.kids.take k) : Nat)], .box w.heap.size [.slice a1 nv c1, .slice a2 na c2, v3], .box (w.heap.size + 1) [.int .i64 e.kind, .int .i64 e.value, .slice ak e.kids.length ck], .dat (fun w φ => n7 w φ (.slice ak e.kids.length ck) e.kids)]) (fun i _ => e.kids.length - (intOf i).toNat)
  case atStart => exact ⟨0, bI1 _, rfl, HST.out.1, HST.out.2⟩
  case round =>
   clear HM
   obtain ⟨k, hk, rfl, hpre, M⟩ := hrel
   have HPRE := show Hid _ from hpre
   have hle : c + 1 + m6 (e.kids.take k) ≤ 15 := by unfold s8 at hpre; simp at hpre; exact hpre.2
   clear hpre
   by_cases hlt : k < e.kids.length
   ·have hncb : ¬ Fr φ' [.box cb [.int .i64 (c + 1 + m6 (e.kids.take k) : Nat)], .box w.heap.size [.slice a1 nv c1, .slice a2 na c2, v3], .box (w.heap.size + 1) [.int .i64 e.kind, .int .i64 e.value, .slice ak e.kids.length ck], .dat (fun w φ => n7 w φ (.slice ak e.kids.length ck) e.kids)] cb := fun h => h.2 _ bF7 rfl
    obtain ⟨a', c', he, -, -, -, hcell⟩ := (M.d 3 rfl).open
    cases he
    obtain ⟨b, off, kv, hbo, hbk, hf, g0, g1, g2, hkk⟩ := hcell k hlt
    cases hbo
    obtain ⟨ka, kc, rfl, -, -, -, -⟩ := hkk.open
    have bz : Below wr.heap.size wr (wr.alloc (.cells #[.int .i64 e.kids[k].kind, .int .i64 e.kids[k].value, .slice ka e.kids[k].kids.length kc] 29)) := by go_grown
    have HE := show Hid _ from n7.nice _ _ _ _ _ _ (O1.below bz) hkk
    have HNCB := show Hid _ from hncb
    have x0 := M.c 1 0 rfl rfl
    have x1 := M.c 1 1 rfl rfl
    have x2 := M.c 1 2 rfl rfl
    have s1 : w.heap.size < wr.heap.size := M.lt (r := .box w.heap.size [.slice a1 nv c1, .slice a2 na c2, v3]) (bG0 _ bF7) rfl
    have HM := show Hid _ from M.box [.int .i64 e.kids[k].kind, .int .i64 e.kids[k].value, .slice ka e.kids[k].kids.length kc] 29
    have HP := show Hid _ from N1 nv na (d := d) (c := c + 1) hlt
    have HX := show Hid (t3 nv na d (c + 1 + m6 (e.kids.take k)) e.kids[k] = false → t3 nv na (d + 1) c e = false) from fun h => HSC.out.trans (P2 hlt h)
    have HT := show Hid _ from N6 hlt
    clear hcell hncb bz hkk M
    go_wp2_with fail
    refine (ih (deep + 1) (by omega) (by omega) e.kids[k] _ _ (c + 1 + m6 (e.kids.take k)) cb _ ⟨_, rfl, HE.out⟩ HNCB.out (HM.out.blk 0 rfl) hle).mono ?_
    rintro x w2 ⟨rfl, r1, ⟨u, r2⟩, kp⟩
    obtain ⟨q, hq⟩ : ∃ q, q = t3 nv na d (c + 1 + m6 (e.kids.take k)) e.kids[k] := ⟨_, rfl⟩
    rw [← hq] at r1 ⊢
    have HQ2 := show Hid _ from hq
    clear hq x0 x1 x2 g0 g1 g2
    cases q
    ·have M2 := HM.out.callB 0 rfl kp r2
     have HF := show Hid _ from HX.out HQ2.out.symm
     clear r1 r2 kp
     go_wp2_with fail
     go_ret
     exact ⟨f8 (by rw [HF.out]), fun h => absurd (h.symm.trans HF.out) (by simp), ⟨_, M2.blk 0 rfl⟩, M2.kept⟩
    ·have M2 := (HM.out.callB 0 rfl kp (r1 rfl)).take 4
     have HM2 := show Hid _ from M2
     clear r1 r2 kp M2
     go_wp2_with fail
     refine ⟨⟨k + 1, by omega, by go_num, by rw [HP.out, HPRE.out, ← HQ2.out]; rfl, ?_⟩, by simp [intOf]; omega⟩
     rw [HT.out, show c + 1 + (m6 (e.kids.take k) + (1 + G7 e.kids[k])) = c + 1 + m6 (e.kids.take k) + 1 + G7 e.kids[k] by omega]
     exact HM2.out
   ·have hkn : k = e.kids.length := by omega
    subst hkn
    have HM := show Hid _ from M
    have HS : Hid (t3 nv na (d + 1) c e = true) := HSC.out.trans HPRE.out
    clear M
    go_wp2_with fail
    go_ret
    refine ⟨f8 (by rw [HS.out]), fun _ => ?_, ⟨_, HM.out.blk 0 rfl⟩, HM.out.kept⟩
    have := HM.out.blk 0 rfl
    rw [bF9 (bG4 _)] at this
    rw [B7]
    exact this
theorem aN7 (nv na : Nat) (e : b5) : t3 nv na 5 0 e = d8 nv na e := by
 have h : (0 + 1 + G7 e ≤ 15) = (1 + G7 e ≤ 15) := by rw [bI4]
 unfold t3 d8
 simp only [h]
theorem aw8 (a1 a2 : Option Addr) (nv c1 na c2 : Nat) (v3 : Value) (h1 : nv ≤ 9223372036854775807) (h2 : na ≤ 9223372036854775807) (e : b5) (φ : Nat → Prop) (v : Value) (w : World) (h : E8 w φ v e) :
  Calls Try.prog 39 #[.agg #[.slice a1 nv c1, .slice a2 na c2, v3], v] w fun x w' => x = .returned (.bool (d8 nv na e)) ∧ Below w.heap.size w w' := by
 obtain ⟨kv, rfl, hk⟩ := h
 obtain ⟨W, hW, M⟩ : ∃ W, W = ((w.alloc (.cells #[.slice a1 nv c1, .slice a2 na c2, v3] 26)).alloc (.cells #[.int .i64 e.kind, .int .i64 e.value, kv] 29)).alloc (.cells #[.int .i64 0] 3) ∧ m0 (fun _ => True) (fun _ => True) w W [.box w.heap.size [.slice a1 nv c1, .slice a2 na c2, v3], .box (w.heap.size + 1) [.int .i64 e.kind, .int .i64 e.value, kv], .box (w.heap.size + 1 + 1) [.int .i64 0]] :=
  ⟨_, rfl, (((m0.start fun _ _ => trivial).box _ _).box' _ _ (by simp)).box' _ _ (by simp)⟩
 have hb := M.below fun _ _ => trivial
 have HK := show Hid _ from n7.nice _ _ _ _ φ (fun b => φ b ∧ b < w.heap.size) ⟨hb.size, fun b hl hf => ⟨⟨hf, hl⟩, hb.block b hl⟩⟩ hk
 clear hb hk
 have x0 := M.c 0 0 rfl rfl
 have x1 := M.c 0 1 rfl rfl
 have x2 := M.c 0 2 rfl rfl
 have y0 := M.c 1 0 rfl rfl
 have y1 := M.c 1 1 rfl rfl
 have y2 := M.c 1 2 rfl rfl
 have HM := show Hid _ from M
 rw [hW] at x0 x1 x2 y0 y1 y2
 clear M
 go_enter Try.func39, Try.ntmps39
 go_wp2_with fail
 rw [← hW]
 clear hW x0 x1 x2 y0 y1 y2
 refine (aZ4 a1 a2 nv c1 na c2 v3 h1 h2 5 1 (by omega) (by omega) e _ _ 0 _ _ ⟨kv, rfl, HK.out⟩ (fun h => by have := h.2; omega) (HM.out.blk 2 rfl) (by omega)).mono ?_
 rintro x w1 ⟨rfl, -, ⟨u, r2⟩, kp⟩
 rw [aN7]
 have M := HM.out.callB 2 rfl kp r2
 have HB := show Hid _ from M.below fun _ _ => trivial
 clear kp r2 M
 go_wp2_with fail
 go_ret
 exact ⟨rfl, HB.out⟩
theorem ar8 (p : f5) (e : b5) (φ φ' : Nat → Prop) (u v : Value) (w : World) (hp : aL1 w φ u p) (h : E8 w φ' v e) :
  Calls Try.prog 12 #[u, v] w fun x w' => x = .returned (.bool (l0 p e)) ∧ Below w.heap.size w w' := by
 obtain ⟨v1, v2, v3, rfl, g1, g2, -⟩ := hp
 obtain ⟨kv, rfl, hk⟩ := h
 obtain ⟨a1, c1, rfl, -, hm1, -⟩ := g1.row.open1
 obtain ⟨a2, c2, rfl, -, hm2, -⟩ := g2.row.open1
 have HR : Hid (l0 p e = (A5 p.vars p.arrays && d8 p.vars.length p.arrays.length e)) := rfl
 obtain ⟨W, hW, M⟩ : ∃ W, W = (w.alloc (.cells #[.slice a1 p.vars.length c1, .slice a2 p.arrays.length c2, v3] 26)).alloc (.cells #[.int .i64 e.kind, .int .i64 e.value, kv] 29) ∧ m0 (fun _ => True) (fun _ => True) w W [.box w.heap.size [.slice a1 p.vars.length c1, .slice a2 p.arrays.length c2, v3], .box (w.heap.size + 1) [.int .i64 e.kind, .int .i64 e.value, kv]] :=
  ⟨_, rfl, ((m0.start fun _ _ => trivial).box _ _).box' _ _ (by simp)⟩
 have HE := show Hid (∀ W', Below w.heap.size w W' → E8 W' φ' (.agg #[.int .i64 e.kind, .int .i64 e.value, kv]) e ∧ K9 W' (.slice a1 p.vars.length c1) p.vars.length 1 (ints p.vars) ∧ K9 W' (.slice a2 p.arrays.length c2) p.arrays.length 1 (ints p.arrays)) from fun W' k => ⟨⟨kv, rfl, n7.nice _ _ _ _ _ _ (O1.below k) hk⟩, g1.row.below k, g2.row.below k⟩
 clear hk g1 g2
 have x0 := M.c 0 0 rfl rfl
 have x1 := M.c 0 1 rfl rfl
 have x2 := M.c 0 2 rfl rfl
 have y0 := M.c 1 0 rfl rfl
 have y1 := M.c 1 1 rfl rfl
 have y2 := M.c 1 2 rfl rfl
 rw [hW] at x0 x1
 go_enter Try.func12, Try.ntmps12
 go_wp2_with fail
 rw [← hW]
 clear hW x0 x1
 refine (ab3 _ _ p.vars p.arrays _ (HE.out _ (M.below fun _ _ => trivial)).2.1 (HE.out _ (M.below fun _ _ => trivial)).2.2).mono ?_
 rintro x w1 ⟨rfl, rfl⟩
 cases hs : A5 p.vars p.arrays
 ·have HB := show Hid _ from M.below fun _ _ => trivial
  have HS := show Hid _ from hs
  clear hs M
  go_wp2_with fail
  go_ret
  exact ⟨f8 (by rw [HR.out, HS.out]; rfl), HB.out⟩
 ·have HS := show Hid _ from hs
  have x0 := M.c 0 0 rfl rfl
  have x1 := M.c 0 1 rfl rfl
  have HM := show Hid _ from M
  clear hs M
  go_wp2_with fail
  refine (aw8 a1 a2 _ c1 _ c2 v3 hm1 hm2 e φ' _ _ (HE.out _ (HM.out.below fun _ _ => trivial)).1).mono ?_
  rintro x w2 ⟨rfl, b1⟩
  have HB := show Hid _ from (HM.out.call b1).below fun _ _ => trivial
  clear b1 x0 x1 x2 y0 y1 y2
  go_wp2_with fail
  go_ret
  exact ⟨f8 (by rw [HR.out, HS.out]; rfl), HB.out⟩
end Go.Proofs.Ytmokkddidcmglaa

