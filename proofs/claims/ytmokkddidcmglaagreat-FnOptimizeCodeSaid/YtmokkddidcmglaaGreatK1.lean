/- Part 1: functions on the way, plain laws. Conditions: as said. -/
import Derived.WalkKit
import Derived.ProofKit
import Derived.Handy
import Derived.WalkSmall
import Derived.Deep.QuietTactic
import Derived.BigQuiet
import Derived.StillTailTactics
import Derived.Deep.Quiet
import Derived.StillTail
import Derived.Test.YtmokkddidcmglaaGreatRows
import Derived.Maps.AppendAt
import Derived.ArgAppend
import Derived.Deep.Upon
set_option maxRecDepth 100000
set_option maxHeartbeats 16000000
set_option linter.unusedVariables false
set_option linter.unusedSimpArgs false
open Array renaming replicate → cd9
open Bool renaming and_eq_true → cb0, eq_iff_iff → ce0
open Int renaming toNat_natCast → ce4
open List renaming all_eq_true → cb9, append_assoc → cf7, eq_nil_of_length_eq_zero → cc8, getElem?_append_left → cd5, getElem?_append_right → cg0, getElem?_eq_getElem → ca8, getElem?_eq_none → cd6, getElem?_eq_some_iff → cb6, getElem_mem → cd1, length_append → cb2, length_cons → cb8, length_nil → cc1, length_set → cd2, map_cons → cd7, mem_append → cc4, mem_cons → ce7, mem_cons_of_mem → ce5, mem_cons_self → ce6, mem_of_getElem? → cc3, mem_range → ce9, mem_singleton → cd4, range → cc5, replicate → ca7, take → cc0, take_of_length_le → cc6
open Nat renaming add_zero → cf3, le_refl → cb1, le_trans → cd3, lt_of_lt_of_le → cf1, lt_or_ge → cc9, lt_succ_self → cd8, mul_le_mul_right → ce8, succ_mul → ce3, zero_add → cf2, zero_le → cc7

namespace Go.Proofs.YtmokkddidcmglaaGreat
open Go Go.RowKit
def D3 (w : World) (v : Value) (n sz : Nat) (xs : List Value) : Prop :=
 xs.length = n * sz ∧ ∃ a cap, v = .slice a n cap ∧ n ≤ cap ∧ cap ≤ maxLen ∧
  (0 < n → ∃ b off, a = some ⟨b, off, none⟩ ∧ b < w.heap.size ∧ ∀ j u, xs[j]? = some u → w.cell? ⟨b, off + j, none⟩ = some u)
theorem D8 {W w1 : World} (hb : Below W.heap.size W w1) : (∀ b o, b < W.heap.size → w1.cell? ⟨b, o, none⟩ = W.cell? ⟨b, o, none⟩) ∧ (∀ b o, b < W.heap.size → w1.frozen? ⟨b, o, none⟩ = W.frozen? ⟨b, o, none⟩) :=
 ⟨fun b o h => hb.cell (p := ⟨b, o, none⟩) h, fun b o h => hb.frozen (p := ⟨b, o, none⟩) h⟩
theorem D3.below {w w' : World} {v : Value} {n sz : Nat} {xs : List Value} (h : D3 w v n sz xs) (hb : Below w.heap.size w w') : D3 w' v n sz xs := by
 obtain ⟨hl, a, cap, rfl, h1, h2, h3⟩ := h
 refine ⟨hl, a, cap, rfl, h1, h2, fun hn => ?_⟩
 obtain ⟨b, off, rfl, hbk, hc⟩ := h3 hn
 exact ⟨b, off, rfl, cf1 hbk hb.size, fun j u hj => ((D8 hb).1 b _ hbk).trans (hc j u hj)⟩
theorem D3.len {w : World} {v : Value} {n sz : Nat} {xs : List Value} (h : D3 w v n sz xs) : n ≤ 9223372036854775807 := by
 obtain ⟨_, a, cap, rfl, h1, h2, _⟩ := h; unfold maxLen at h2; omega
theorem D3.nil (w : World) (sz : Nat) : D3 w (.slice none 0 0) 0 sz [] := ⟨by simp, none, 0, rfl, cb1 _, by unfold maxLen; omega, fun h => absurd h (by omega)⟩
theorem D3.open {w : World} {v : Value} {n sz : Nat} {xs : List Value} (h : D3 w v n sz xs) : ∃ a cap, v = .slice a n cap ∧ n ≤ cap ∧ n ≤ 9223372036854775807 ∧ cap ≤ 9223372036854775807 ∧
  ∀ i, i < n → ∃ b off, a = some ⟨b, off, none⟩ ∧ b < w.heap.size ∧ ∀ j, j < sz → w.cell? ⟨b, off + i * sz + j, none⟩ = xs[i * sz + j]? := by
 obtain ⟨hl, a, cap, rfl, h1, h2, h3⟩ := h
 unfold maxLen at h2
 refine ⟨a, cap, rfl, h1, by omega, by omega, fun i hi => ?_⟩
 obtain ⟨b, off, rfl, hbk, hc⟩ := h3 (by omega)
 refine ⟨b, off, rfl, hbk, fun j hj => ?_⟩
 have hlt : i * sz + j < xs.length := by
  rw [hl]; have := ce8 sz (Nat.succ_le_of_lt hi); rw [ce3] at this; omega
 rw [ca8 hlt, Nat.add_assoc]
 exact hc _ _ (ca8 hlt)
theorem D3.form {w : World} {v : Value} {n sz : Nat} {xs : List Value} (h : D3 w v n sz xs) : ∃ a cap, v = .slice a n cap := by
 obtain ⟨_, a, cap, hv, _⟩ := h
 exact ⟨a, cap, hv⟩
theorem D3.open1 {w : World} {v : Value} {n : Nat} {xs : List Value} (h : D3 w v n 1 xs) : ∃ a cap, v = .slice a n cap ∧ n ≤ cap ∧ n ≤ 9223372036854775807 ∧ cap ≤ 9223372036854775807 ∧
  ∀ i, i < n → ∃ b off, a = some ⟨b, off, none⟩ ∧ b < w.heap.size ∧ w.cell? ⟨b, off + i, none⟩ = xs[i]? := by
 obtain ⟨a, cap, h0, h1, h2, h3, h4⟩ := h.open
 refine ⟨a, cap, h0, h1, h2, h3, fun i hi => ?_⟩
 obtain ⟨b, off, e, hb, hc⟩ := h4 i hi
 exact ⟨b, off, e, hb, by simpa using hc 0 (by omega)⟩
theorem ab4 {w : World} {base : Nat} {e : TypeId} {sz : Nat} {v : Value} {n : Nat} {xs : List Value} (h : w.ownsRow base e sz v n xs) : D3 w v n sz xs := by
 refine ⟨h.1, ?_⟩
 rcases h.2 with ⟨rfl, rfl⟩ | ⟨g, cap, cur, rfl, hbg, hg, hnc, hcm, hcs, ht⟩
 ·exact ⟨none, 0, rfl, cb1 _, by unfold maxLen; omega, fun h => absurd h (by omega)⟩
 ·refine ⟨some ⟨g, 0, none⟩, cap, rfl, hnc, hcm, fun _ => ⟨g, 0, rfl, (Array.getElem?_eq_some_iff.1 hg).1, fun j u hj => ?_⟩⟩
  have hadd : (⟨g, 0, none⟩ : Addr).add j = ⟨g, 0 + j, none⟩ := by unfold Addr.add; split <;> simp_all
  rw [← hadd]
  exact h.cells (g := g) rfl j u hj
theorem H1 {w w' : World} {base B : Nat} {e : TypeId} {sz : Nat} {v : Value} {n : Nat} {xs : List Value} (h : w.ownsRow base e sz v n xs) (hb : Below B w w') (hB : w.heap.size ≤ B) : w'.ownsRow base e sz v n xs := by
 refine ⟨h.1, ?_⟩
 rcases h.2 with hn | ⟨g, cap, cur, rfl, hbg, hg, hnc, hcm, hcs, ht⟩
 ·exact .inl hn
 ·have hlt : g < w.heap.size := (Array.getElem?_eq_some_iff.1 hg).1
  exact .inr ⟨g, cap, cur, rfl, hbg, (hb.block g (by omega)).trans hg, hnc, hcm, hcs, ht⟩
theorem v8 {w : World} {base base' : Nat} {e : TypeId} {sz : Nat} {v : Value} {n : Nat} {xs : List Value} (h : w.ownsRow base e sz v n xs) (hb : base' ≤ base) : w.ownsRow base' e sz v n xs := by
 refine ⟨h.1, ?_⟩
 rcases h.2 with hn | ⟨g, cap, cur, rfl, hbg, r⟩
 ·exact .inl hn
 ·exact .inr ⟨g, cap, cur, rfl, by omega, r⟩
def y7 (w : World) (lo hi : Nat) (e : TypeId) (sz : Nat) (v : Value) (n : Nat) (xs : List Value) : Prop :=
 w.ownsRow lo e sz v n xs ∧ ∀ g, v.ownBlock = some g → g < hi
structure V5 (lo hi : Nat) (w w' : World) : Prop where
 os : w'.os = w.os
 tape : w'.tape = w.tape
 output : w'.output = w.output
 size : w.heap.size ≤ w'.heap.size
 block : ∀ k, k < w.heap.size → (k < lo ∨ hi ≤ k) → w'.heap[k]? = w.heap[k]?
theorem V5.refl (lo hi : Nat) (w : World) : V5 lo hi w w := ⟨rfl, rfl, rfl, cb1 _, fun _ _ _ => rfl⟩
theorem V5.trans {lo hi : Nat} {a b c : World} (h : V5 lo hi a b) (k : V5 lo hi b c) : V5 lo hi a c :=
 ⟨k.os.trans h.os, k.tape.trans h.tape, k.output.trans h.output, cd3 h.size k.size, fun i hi ho => (k.block i (cf1 hi h.size) ho).trans (h.block i hi ho)⟩
theorem V5.wide {lo hi lo' hi' : Nat} {a b : World} (h : V5 lo hi a b) (h1 : lo' ≤ lo) (h2 : hi ≤ hi') : V5 lo' hi' a b :=
 ⟨h.os, h.tape, h.output, h.size, fun k hk ho => h.block k hk (by omega)⟩
theorem V5.below {lo hi B : Nat} {a b : World} (h : V5 lo hi a b) (h1 : B ≤ lo) (h2 : B ≤ a.heap.size) : Below B a b :=
 ⟨h.os, h.tape, h.output, h.size, fun k hk => h.block k (by omega) (by omega)⟩
theorem V5.of_below {lo hi B : Nat} {a b : World} (h : Below B a b) (h1 : a.heap.size ≤ B) : V5 lo hi a b :=
 ⟨h.os, h.tape, h.output, h.size, fun k hk _ => h.block k (by omega)⟩
theorem V5.setCell {lo hi : Nat} {a w : World} (h : V5 lo hi a w) {p : Addr} (h1 : lo ≤ p.block) (h2 : p.block < hi) (u : Value) : V5 lo hi a (w.setCell p u) :=
 h.trans ⟨rfl, rfl, rfl, by simp [World.setCell], fun k _ ho => Below.heap_setCell _ _ _ _ (by omega)⟩
theorem y7.lt {w : World} {lo hi : Nat} {e : TypeId} {sz : Nat} {v : Value} {n : Nat} {xs : List Value} (h : y7 w lo hi e sz v n xs) : ∀ g, v.ownBlock = some g → lo ≤ g ∧ g < hi ∧ g < w.heap.size :=
 fun g hg => ⟨(h.1.lt g hg).1, h.2 g hg, (h.1.lt g hg).2⟩
theorem y7.row {w : World} {lo hi : Nat} {e : TypeId} {sz : Nat} {v : Value} {n : Nat} {xs : List Value} (h : y7 w lo hi e sz v n xs) : D3 w v n sz xs := ab4 h.1
theorem y7.mk' {w : World} {lo : Nat} {e : TypeId} {sz : Nat} {v : Value} {n : Nat} {xs : List Value} (h : w.ownsRow lo e sz v n xs) : y7 w lo w.heap.size e sz v n xs :=
 ⟨h, fun g hg => (h.lt g hg).2⟩
theorem y7.wide {w : World} {lo hi lo' hi' : Nat} {e : TypeId} {sz : Nat} {v : Value} {n : Nat} {xs : List Value} (h : y7 w lo hi e sz v n xs) (h1 : lo' ≤ lo) (h2 : hi ≤ hi') : y7 w lo' hi' e sz v n xs :=
 ⟨v8 h.1 h1, fun g hg => cf1 (h.2 g hg) h2⟩
theorem y7.form {w : World} {lo hi : Nat} {e : TypeId} {sz : Nat} {v : Value} {n : Nat} {xs : List Value} (h : y7 w lo hi e sz v n xs) : ∃ a cap, v = .slice a n cap := by
 obtain ⟨_, a, cap, hv, _⟩ := h.row
 exact ⟨a, cap, hv⟩
theorem y7.same {w w' : World} {lo hi : Nat} {e : TypeId} {sz : Nat} {v : Value} {n : Nat} {xs : List Value} (h : y7 w lo hi e sz v n xs)
  (hs : ∀ g, v.ownBlock = some g → w'.heap[g]? = w.heap[g]?) : y7 w' lo hi e sz v n xs := by
 refine ⟨⟨h.1.1, ?_⟩, h.2⟩
 rcases h.1.2 with hn | ⟨g, cap, cur, rfl, hbg, hg, r⟩
 ·exact .inl hn
 ·exact .inr ⟨g, cap, cur, rfl, hbg, (hs g rfl).trans hg, r⟩
theorem y7.keep {w w' : World} {lo hi B : Nat} {e : TypeId} {sz : Nat} {v : Value} {n : Nat} {xs : List Value} (h : y7 w lo hi e sz v n xs) (hb : Below B w w') (hB : hi ≤ B) : y7 w' lo hi e sz v n xs :=
 h.same fun g hg => hb.block g (by have := h.lt g hg; omega)
theorem y7.out {w w' : World} {lo hi lo' hi' : Nat} {e : TypeId} {sz : Nat} {v : Value} {n : Nat} {xs : List Value} (h : y7 w lo hi e sz v n xs) (ho : V5 lo' hi' w w') (hd : hi ≤ lo' ∨ hi' ≤ lo) : y7 w' lo hi e sz v n xs :=
 h.same fun g hg => ho.block g (h.lt g hg).2.2 (by have := h.lt g hg; omega)
theorem y7.open {w : World} {lo hi : Nat} {e : TypeId} {sz : Nat} {v : Value} {n : Nat} {xs : List Value} (h : y7 w lo hi e sz v n xs) (hn : 0 < n) :
  ∃ g cap, v = .slice (some ⟨g, 0, none⟩) n cap ∧ lo ≤ g ∧ g < hi ∧ g < w.heap.size ∧ n ≤ cap ∧ cap ≤ maxLen ∧ (∀ o, w.frozen? ⟨g, o, none⟩ = false) ∧ ∀ j u, xs[j]? = some u → w.cell? ⟨g, j, none⟩ = some u := by
 have hl := h.lt
 rcases h.1.2 with ⟨_, h0⟩ | ⟨g, cap, cur, rfl, hbg, hg, hnc, hcm, hcs, ht⟩
 ·omega
 ·obtain ⟨l1, l2, l3⟩ := hl g rfl
  refine ⟨g, cap, rfl, l1, l2, l3, hnc, hcm, fun o => ?_, fun j u hj => ?_⟩
  ·simp only [World.frozen?, hg]; simp
  ·have hadd : (⟨g, 0, none⟩ : Addr).add j = ⟨g, j, none⟩ := by unfold Addr.add; split <;> simp_all
   rw [← hadd]
   exact h.1.cells (g := g) rfl j u hj
theorem y7.at {w : World} {lo hi : Nat} {e : TypeId} {sz : Nat} {v : Value} {n : Nat} {xs : List Value} (h : y7 w lo hi e sz v n xs) {j : Nat} (hj : j < xs.length) :
  ∃ g cap, v = .slice (some ⟨g, 0, none⟩) n cap ∧ lo ≤ g ∧ g < hi ∧ g < w.heap.size ∧ w.frozen? ⟨g, j, none⟩ = false ∧ ∃ u, w.cell? ⟨g, j, none⟩ = some u := by
 have hn : 0 < n := by
  rcases Nat.eq_zero_or_pos n with h0 | h0
  ·subst h0; have := h.1.1; omega
  ·exact h0
 obtain ⟨g, cap, hv, h1, h2, h3, _, _, h4, h5⟩ := h.open hn
 exact ⟨g, cap, hv, h1, h2, h3, h4 j, _, h5 j _ (ca8 hj)⟩
theorem y7.setCell {w : World} {lo hi : Nat} {e : TypeId} {sz : Nat} {n cap g : Nat} {xs : List Value} (h : y7 w lo hi e sz (.slice (some ⟨g, 0, none⟩) n cap) n xs) {j : Nat} (_hj : j < xs.length) (u : Value) :
  y7 (w.setCell ⟨g, j, none⟩ u) lo hi e sz (.slice (some ⟨g, 0, none⟩) n cap) n (xs.set j u) := by
 refine ⟨⟨by rw [cd2]; exact h.1.1, ?_⟩, h.2⟩
 rcases h.1.2 with ⟨hv, _⟩ | ⟨g', cap', cur, hv, hbg, hg, hnc, hcm, hcs, ht⟩
 ·cases hv
 ·cases hv
  refine .inr ⟨g, cap, cur.setIfInBounds j u, rfl, hbg, ?_, hnc, hcm, by simpa using hcs, ?_⟩
  ·have hlt := (Array.getElem?_eq_some_iff.1 hg).1
   simp only [World.setCell, Array.getElem?_modify]
   simp [hg]
  ·rw [Array.toList_setIfInBounds, List.take_set, ht]
theorem i9 {a b : Bool} (h : a = b) : Ending.returned (.bool a) = .returned (.bool b) := by rw [h]
theorem F6 {k : IntKind} {a b : Int} (h : a = b) : Ending.returned (.int k a) = .returned (.int k b) := by rw [h]
theorem s4 {α : Type} (l : List α) (k : Nat) (h : k < l.length) : l.take (k + 1) = l.take k ++ [l[k]] := by
 rw [List.take_succ_eq_append_getElem h]
theorem O4 {α : Type} {xs ys : List α} {k : Nat} (h : xs.take k = ys.take k) (h1 : k < xs.length) (h2 : k < ys.length) (he : xs[k] = ys[k]) : xs.take (k + 1) = ys.take (k + 1) := by
 rw [s4 _ _ h1, s4 _ _ h2, h, he]
theorem S4 {α : Type} {xs ys : List α} {k : Nat} (h : xs.take k = ys.take k) (h1 : xs.length ≤ k) (h2 : ys.length ≤ k) : xs = ys := by
 rw [cc6 h1, cc6 h2] at h; exact h
theorem aj7 {α : Type} (ys : List α) (k : Nat) (u : α) (h : k < ys.length) : (ys.set k u).take (k + 1) = ys.take k ++ [u] := by
 rw [s4 _ _ (by simpa using h), List.take_set_of_le (cb1 _)]; simp
def E6 (z : List Value) (n : Nat) : List Value := (ca7 n z).flatten
theorem O1 (z : List Value) (n : Nat) : (E6 z n).length = n * z.length := by simp [E6]
theorem G5 (z : Value) (n : Nat) : E6 [z] n = ca7 n z := by
 unfold E6
 induction n with
 | zero => rfl
 | succ n ih => rw [List.replicate_succ, List.flatten_cons, ih]; rfl
theorem aC2 (z : Array Value) (n : Nat) (_hz : 0 < z.size) : madeCells z (n * z.size) = (E6 z.toList n).toArray := by
 apply Array.ext
 ·simp [size_madeCells, O1]
 ·intro i h1 h2
  simp only [madeCells, Array.getElem_map, Array.getElem_range, List.getElem_toArray]
  have hlt : i < (E6 z.toList n).length := by simpa using h2
  have key : ∀ (m i : Nat), i < (E6 z.toList m).length → (E6 z.toList m)[i]? = some (z[i % z.size]!) := by
   intro m
   induction m with
   | zero => intro i hi; simp [E6] at hi
   | succ m ih =>
    intro i hi
    have e : E6 z.toList (m + 1) = z.toList ++ E6 z.toList m := by simp [E6, List.replicate_succ]
    rw [e]
    by_cases hlt : i < z.size
    ·rw [cd5 (by simpa using hlt), Nat.mod_eq_of_lt hlt]
     simp [hlt]
    ·rw [cg0 (by simp; omega)]
     have := ih (i - z.toList.length) (by rw [e, cb2] at hi; rw [Array.length_toList] at hi ⊢; omega)
     rw [this]
     congr 2
     rw [Array.length_toList]
     exact (Nat.mod_eq_sub_mod (by omega)).symm
  have := key n i hlt
  rw [ca8 hlt] at this
  exact (Option.some.inj this).symm
theorem ap3 {P : Program} {t e : TypeId} {z : Value} {size bytes : Nat} (ht : P.underlying t = some (.slice e)) (hi : (P.info? e).map (fun i => (i.zero, i.size, i.bytes)) = some (some z, size, bytes))
  (hz : z.cells.size = size) (hs : 0 < size) (n : Nat) (hn : bytes * n ≤ 281474976710656) (hm : n ≤ 9223372036854775807) :
  ∀ w, (Instr.makeSlice t (.int .i64 n) (.int .i64 n)).run P w = .ok (.slice (some ⟨w.heap.size, 0, none⟩) n n) (w.alloc (.cells (E6 z.cells.toList n).toArray e)) := by
 intro w
 obtain ⟨i, h1, h2, h3, h4⟩ := info_parts hi
 have := run_make (P := P) w t e i z ht h1 h2 .i64 .i64 n n (by omega) (Int.le_refl _) (by rw [h4, ← Int.natCast_mul]; omega) (by omega)
 rw [this]
 simp only [ce4, h3]
 subst hz
 rw [aC2 _ _ hs]
theorem t0 (w : World) {g : Nat} (cs : Array Value) (n sz : Nat) (e : TypeId) (hg : g = w.heap.size) (hz : cs.size = n * sz) (hm : n ≤ 9223372036854775807) :
  y7 (w.alloc (.cells cs e)) w.heap.size (w.heap.size + 1) e sz (.slice (some ⟨g, 0, none⟩) n n) n cs.toList := by
 subst hg
 refine ⟨⟨by simpa using hz, .inr ⟨w.heap.size, n, _, rfl, cb1 _, heap_alloc_new w _, cb1 _, by unfold maxLen; omega, hz, ?_⟩⟩, fun g hg => by cases hg; exact cd8 _⟩
 rw [← hz]
 exact cc6 (by simp)
theorem ao6 (w : World) (z : List Value) (n sz : Nat) (e : TypeId) (hz : z.length = sz) (hm : n ≤ 9223372036854775807) :
  y7 (w.alloc (.cells (E6 z n).toArray e)) w.heap.size (w.heap.size + 1) e sz (.slice (some ⟨w.heap.size, 0, none⟩) n n) n (E6 z n) := by
 refine ⟨⟨by rw [O1, hz], .inr ⟨w.heap.size, n, _, rfl, cb1 _, heap_alloc_new w _, cb1 _, by unfold maxLen; omega, by simp [O1, hz], ?_⟩⟩, fun g hg => by cases hg; exact cd8 _⟩
 have : (E6 z n).length = n * sz := by rw [O1, hz]
 rw [← this]
 simp
def setFrom (ys : List Value) (p : Nat) : List Value → List Value
 | [] => ys
 | u :: r => setFrom (ys.set p u) (p + 1) r
def World.setFrom (w : World) (g p : Nat) : List Value → World
 | [] => w
 | u :: r => World.setFrom (w.setCell ⟨g, p, none⟩ u) g (p + 1) r
theorem G6 (us : List Value) : ∀ (ys : List Value) (p : Nat), (setFrom ys p us).length = ys.length := by
 induction us with
 | nil => intro ys p; rfl
 | cons u r ih => intro ys p; simp [setFrom, ih]
theorem ao0 (us : List Value) : ∀ (ys : List Value) (p : Nat), p + us.length ≤ ys.length → (setFrom ys p us).take (p + us.length) = ys.take p ++ us := by
 induction us with
 | nil => intro ys p h; simp [setFrom]
 | cons u r ih =>
  intro ys p h
  simp only [cb8] at h
  have := ih (ys.set p u) (p + 1) (by simp; omega)
  simp only [setFrom, cb8]
  rw [show p + (r.length + 1) = p + 1 + r.length by omega, this, aj7 _ _ _ (by omega)]
  simp
theorem y7.setFrom {lo hi : Nat} {e : TypeId} {sz n cap g : Nat} (us : List Value) : ∀ {w : World} {xs : List Value} {p : Nat}, y7 w lo hi e sz (.slice (some ⟨g, 0, none⟩) n cap) n xs → p + us.length ≤ xs.length →
  y7 (World.setFrom w g p us) lo hi e sz (.slice (some ⟨g, 0, none⟩) n cap) n (setFrom xs p us) := by
 induction us with
 | nil => intro w xs p h _; exact h
 | cons u r ih =>
  intro w xs p h hl
  simp only [cb8] at hl
  exact ih (h.setCell (by omega) u) (by simp; omega)
theorem V5.setFrom {lo hi g : Nat} {a : World} (us : List Value) : ∀ {w : World} {p : Nat}, V5 lo hi a w → lo ≤ g → g < hi → V5 lo hi a (World.setFrom w g p us) := by
 induction us with
 | nil => intro w p h _ _; exact h
 | cons u r ih => intro w p h h1 h2; exact ih (h.setCell h1 h2 u) h1 h2
theorem aa8 {B g : Nat} {a : World} (us : List Value) : ∀ {w : World} {p : Nat}, Below B a w → B ≤ g → Below B a (World.setFrom w g p us) := by
 induction us with
 | nil => intro w p h _; exact h
 | cons u r ih => intro w p h h1; exact ih (h.setCell h1 u) h1
def N9 (u v : Value) : Prop := ∀ g, u.ownBlock = some g → v.ownBlock ≠ some g
theorem N9.symm {u v : Value} (h : N9 u v) : N9 v u := fun g h1 h2 => h g h2 h1
theorem U9 {w w' : World} {lo hi lo' hi' : Nat} {e e' : TypeId} {sz sz' : Nat} {v v' : Value} {n n' : Nat} {xs xs' : List Value} (h : y7 w lo hi e sz v n xs) (h' : y7 w' lo' hi' e' sz' v' n' xs') (hd : hi ≤ lo' ∨ hi' ≤ lo) : N9 v v' := by
 intro g h1 h2
 have := h.lt g h1
 have := h'.lt g h2
 omega
theorem y7.disj {w w' : World} {lo hi lo' hi' : Nat} {e : TypeId} {sz : Nat} {v u : Value} {n : Nat} {xs : List Value} (h : y7 w lo hi e sz v n xs) (ho : V5 lo' hi' w w') (ht : ∀ g, lo' ≤ g → g < hi' → u.ownBlock = some g) (hd : N9 u v) : y7 w' lo hi e sz v n xs :=
 h.same fun g hg => ho.block g (h.lt g hg).2.2 (by
  rcases cc9 g lo' with h1 | h1
  ·exact .inl h1
  ·rcases cc9 g hi' with h2 | h2
   ·exact absurd hg (hd g (ht g h1 h2))
   ·exact .inr h2)
def v9 (w : World) (b : Nat) (cs : List Value) : Prop := ∃ T, w.heap[b]? = some (.cells cs.toArray T (0, 0))
theorem v9.lt {w : World} {b : Nat} {cs : List Value} (h : v9 w b cs) : b < w.heap.size := by
 obtain ⟨T, h⟩ := h; exact (Array.getElem?_eq_some_iff.1 h).1
theorem v9.cell {w : World} {b : Nat} {cs : List Value} (h : v9 w b cs) (j : Nat) : w.cell? ⟨b, j, none⟩ = cs[j]? := by
 obtain ⟨T, h⟩ := h; simp [World.cell?, h]
theorem v9.free {w : World} {b : Nat} {cs : List Value} (h : v9 w b cs) (j : Nat) : w.frozen? ⟨b, j, none⟩ = false := by
 obtain ⟨T, h⟩ := h; simp only [World.frozen?, h]; simp
theorem v9.below {w w' : World} {b B : Nat} {cs : List Value} (h : v9 w b cs) (hb : Below B w w') (hB : b < B) : v9 w' b cs := by
 obtain ⟨T, h⟩ := h; exact ⟨T, (hb.block b hB).trans h⟩
theorem v9.out {w w' : World} {b lo hi : Nat} {cs : List Value} (h : v9 w b cs) (hb : V5 lo hi w w') (hB : b < lo ∨ hi ≤ b) : v9 w' b cs := by
 have hlt := h.lt
 obtain ⟨T, h⟩ := h; exact ⟨T, (hb.block b hlt hB).trans h⟩
theorem v9.set {w : World} {b j : Nat} {cs : List Value} (h : v9 w b cs) (u : Value) : v9 (w.setCell ⟨b, j, none⟩ u) b (cs.set j u) := by
 obtain ⟨T, h⟩ := h
 refine ⟨T, ?_⟩
 simp only [World.setCell, Array.getElem?_modify]
 simp [h]
theorem v9.other {w : World} {b : Nat} {p : Addr} {cs : List Value} (h : v9 w b cs) (hp : b ≠ p.block) (u : Value) : v9 (w.setCell p u) b cs := by
 obtain ⟨T, h⟩ := h; exact ⟨T, (Below.heap_setCell _ _ _ _ hp).trans h⟩
theorem v9.new (w : World) (cs : List Value) (T : TypeId) : v9 (w.alloc (.cells cs.toArray T)) w.heap.size cs := ⟨T, heap_alloc_new w _⟩
theorem v9.new' (w : World) {b : Nat} (cs : List Value) (T : TypeId) (hb : b = w.heap.size) : v9 (w.alloc (.cells cs.toArray T)) b cs := by subst hb; exact v9.new w cs T
theorem v9.alloc {w : World} {b : Nat} {cs : List Value} (h : v9 w b cs) (o : Obj) : v9 (w.alloc o) b cs := by
 have hlt := h.lt
 obtain ⟨T, h⟩ := h; exact ⟨T, (Below.heap_alloc w o b hlt).trans h⟩
theorem v9.drew {w : World} {b : Nat} {cs : List Value} (h : v9 w b cs) : v9 w.drew b cs := h
theorem V5.cell (w : World) (b j : Nat) (u : Value) : V5 b (b + 1) w (w.setCell ⟨b, j, none⟩ u) :=
 V5.setCell (p := ⟨b, j, none⟩) (V5.refl b (b + 1) w) (cb1 b) (cd8 b) u
theorem y7.other {w : World} {lo hi : Nat} {e : TypeId} {sz : Nat} {v : Value} {n : Nat} {xs : List Value} (h : y7 w lo hi e sz v n xs) {b : Nat} (hb : b < lo ∨ hi ≤ b) (j : Nat) (u : Value) : y7 (w.setCell ⟨b, j, none⟩ u) lo hi e sz v n xs :=
 h.out (V5.cell w b j u) (by omega)
def _root_.Go.World.ext (w X : World) : World := { w with heap := w.heap ++ X.heap, drawn := X.drawn }
theorem t4 (w : World) (X : World) : Below w.heap.size w (w.ext X) :=
 ⟨rfl, rfl, rfl, by simp [World.ext], fun k hk => by simp only [World.ext]; rw [Array.getElem?_append_left hk]⟩
theorem at6 {w w' : World} (h : Below w.heap.size w w') : ∃ X, w' = w.ext X := by
 refine ⟨{ w' with heap := w'.heap.extract w.heap.size w'.heap.size }, ?_⟩
 obtain ⟨h1, h2, h3, h4, h5⟩ := h
 have hh : w'.heap = w.heap ++ w'.heap.extract w.heap.size w'.heap.size := by
  apply Array.ext_getElem?
  intro i
  rcases cc9 i w.heap.size with hi | hi
  ·rw [Array.getElem?_append_left hi, h5 i hi]
  ·rw [Array.getElem?_append_right hi, Array.getElem?_extract]
   split
   ·rw [show w.heap.size + (i - w.heap.size) = i by omega]
   ·rename_i hn
    rw [Array.getElem?_eq_none]
    simp at hn
    omega
 cases w; cases w'
 simp only [World.ext] at *
 subst h1 h2 h3
 rw [← hh]
theorem i5 {w : World} {b o : Nat} {v : Value} (h : w.cell? ⟨b, o, none⟩ = some v) (X : World) : (w.ext X).cell? ⟨b, o, none⟩ = some v := by
 have hb : b < w.heap.size := World.block_lt_of_cell? w ⟨b, o, none⟩ h
 rw [(D8 (t4 w X)).1 b o hb]; exact h
theorem Calls.ext_of' {P : Program} {f : FuncId} {args : Array Value} {w : World} {X : World} {v : Value}
  (h : Calls P f args (w.ext X) fun e w' => e = .returned v ∧ Below (w.ext X).heap.size (w.ext X) w') : Calls P f args (w.ext X) fun e w'' => e = .returned v ∧ ∃ Y, w'' = w.ext Y :=
 h.mono fun _ _ ⟨he, hb⟩ => ⟨he, at6 ((t4 w X).trans (hb.mono (t4 w X).size))⟩
theorem I2 {P : Program} {id : Nat} {Q : Exit → Act → World → Prop} {a : Act} {w : World} {l : List Oper} (hm : P.follows .mixedOrders = true) (hB : Region.lexB .any l.toArray = true)
  (h : wpQuiet P l.toArray (fun w' => ∃ X, w' = w.ext X) (fun a' => ∀ w', (∃ X, w' = w.ext X) → Q .normal a' w') l a) : (Code.region id l.toArray true).wp P Q a w :=
 wp_region_quiet (C := fun w' => ∃ X, w' = w.ext X) hm hB (at6 (w' := w.drew) (Below.refl _ _).drew) (by simpa using h)
theorem as4 {P : Program} {f : FuncId} {fn : Func} {c : Code} (hf : P.funcs[f]? = some fn) (hn : (fn.name == "runtime.NumGoroutine") = false) (hb : fn.body = some c) :
  ∀ args w, (callFunc f args).run P w = .ok (.enter f args) w := by
 intro args w
 have h1 : fn.name ≠ "runtime.NumGoroutine" := by simpa using hn
 simp [callFunc, hf, h1, hb, mark]
end Go.Proofs.YtmokkddidcmglaaGreat

namespace Go.Proofs.YtmokkddidcmglaaGreat
theorem D0 {α : Type} (l : List α) (k : Nat) (h : k < l.length) : l.take (k + 1) = l.take k ++ [l[k]] := by
 rw [List.take_succ_eq_append_getElem h]
theorem R8 {α : Type} (p : α → Bool) (l : List α) (k : Nat) (h : k < l.length) : (l.take (k + 1)).all p = ((l.take k).all p && p l[k]) := by
 rw [D0 l k h, List.all_append]; simp
theorem ap0 {α : Type} {p : α → Bool} {l : List α} {k : Nat} (h : k < l.length) (hp : p l[k] = false) : l.all p = false := by
 rw [List.all_eq_false]; exact ⟨l[k], cd1 h, by simp [hp]⟩
structure d8 where
 op : Int
 a : Int
 b : Int
 c : Int
 d : Int
def d8.l (x : d8) : List Int := [x.op, x.a, x.b, x.c, x.d]
def t8 : List d8 → List Int
 | [] => []
 | x :: r => x.op :: x.a :: x.b :: x.c :: x.d :: t8 r
theorem bx8 (l : List d8) : (t8 l).length = l.length * 5 := by
 induction l with
 | nil => rfl
 | cons x r ih => simp [t8, ih]; omega
theorem d8.ext' {x y : d8} (h : x.l = y.l) : x = y := by
 cases x; cases y; simp [d8.l] at h; simp [h]
theorem ab8 : ∀ {l m : List d8}, t8 l = t8 m → l = m
 | [], [], _ => rfl
 | [], _ :: _, h => by simp [t8] at h
 | _ :: _, [], h => by simp [t8] at h
 | x :: r, y :: s, h => by
  simp only [t8, List.cons.injEq] at h
  obtain ⟨h1, h2, h3, h4, h5, h6⟩ := h
  rw [ab8 h6, d8.ext' (x := x) (y := y) (by simp [d8.l, h1, h2, h3, h4, h5])]
theorem Z5 (l m : List d8) : t8 (l ++ m) = t8 l ++ t8 m := by
 induction l with
 | nil => rfl
 | cons x r ih => simp [t8, ih]
theorem a00 (l : List d8) (i : Nat) (hi : i < l.length) : (t8 l)[i * 5]? = some l[i].op ∧ (t8 l)[i * 5 + 1]? = some l[i].a ∧ (t8 l)[i * 5 + 2]? = some l[i].b ∧ (t8 l)[i * 5 + 3]? = some l[i].c ∧ (t8 l)[i * 5 + 4]? = some l[i].d := by
 induction l generalizing i with
 | nil => simp at hi
 | cons x r ih =>
  cases i with
  | zero => simp [t8]
  | succ i =>
   rw [ce3]
   have := ih i (by simpa using hi)
   simpa [t8, Nat.add_assoc] using this
structure b6 where
 vars : List Int
 arrays : List Int
 list : List d8
def b6.size (c : b6) : Nat := c.vars.length + c.arrays.length + c.list.length
def b6.same (c d : b6) : Bool := decide (c.vars = d.vars) && decide (c.arrays = d.arrays) && decide (t8 c.list = t8 d.list)
theorem b6.same_eq {c d : b6} : c.same d = true ↔ c = d := by
 cases c; cases d
 simp only [b6.same, cb0, decide_eq_true_eq, b6.mk.injEq]
 constructor
 ·rintro ⟨⟨rfl, rfl⟩, h⟩; exact ⟨rfl, rfl, ab8 h⟩
 ·rintro ⟨rfl, rfl, rfl⟩; exact ⟨⟨rfl, rfl⟩, rfl⟩
theorem b6.same_refl (c : b6) : c.same c = true := b6.same_eq.2 rfl
def F4 (l : Int) : Bool := decide (0 ≤ l) && decide (l ≤ 3)
def F0 (vars arrays : List Int) : Bool := vars.all F4 && arrays.all F4 && decide (1 ≤ vars.length) && decide (vars.length ≤ 12) && decide (arrays.length ≤ 2)
def K4 (c : b6) (kd : UInt8) (n : Int) : Bool :=
 if kd = 114 then decide (0 ≤ n) && decide (n < 14)
 else if kd = 99 then decide (0 ≤ n) && decide (n ≤ 255)
 else if kd = 118 then decide (0 ≤ n) && decide (n < c.vars.length)
 else if kd = 97 then decide (0 ≤ n) && decide (n < c.arrays.length)
 else if kd = 111 then decide (4 ≤ n) && decide (n ≤ 10)
 else decide (0 ≤ n) && decide (n < c.list.length)
def l6 (op : Int) : List UInt8 :=
 if op = 1 then [114, 99] else if op = 2 then [114, 118] else if op = 3 then [118, 114] else if op = 4 then [114, 97, 114] else if op = 5 then [97, 114, 114]
 else if op = 6 then [114, 111, 114, 114] else if op = 7 then [114, 114, 114, 114] else if op = 8 then [116] else if op = 9 then [114, 116] else if op = 10 then [114, 116]
 else if op = 11 then [114] else []
def D7 (c : b6) (kinds : List UInt8) (k : Nat) (n : Int) : Bool :=
 match kinds[k]? with
 | some kd => K4 c kd n
 | none => decide (n = 0)
def x8 (c : b6) (x : d8) : Bool :=
 decide (1 ≤ x.op) && decide (x.op ≤ 13) && (D7 c (l6 x.op) 0 x.a && D7 c (l6 x.op) 1 x.b && D7 c (l6 x.op) 2 x.c && D7 c (l6 x.op) 3 x.d)
def X3 (c : b6) : Bool := match c.list.getLast? with | some x => decide (x.op = 13) || decide (x.op = 8) | none => false
def e6 (c : b6) : Bool := F0 c.vars c.arrays && decide (1 ≤ c.list.length) && decide (c.list.length ≤ 400) && c.list.all (x8 c) && X3 c
theorem al6 (op : Int) : (l6 op).length ≤ 4 := by
 have key : ∀ (c : Prop) [Decidable c] (a b : List UInt8), a.length ≤ 4 → b.length ≤ 4 → (if c then a else b).length ≤ 4 := fun c _ a b h1 h2 => by split <;> assumption
 unfold l6
 repeat' (apply key)
 all_goals decide
def ag0 (c : b6) (kinds : List UInt8) (parts : List Int) (k : Nat) : Bool := (cc5 k).all fun j => D7 c kinds j (parts.getD j 0)
theorem aB2 (c : b6) (kinds : List UInt8) (parts : List Int) (k : Nat) : ag0 c kinds parts (k + 1) = (ag0 c kinds parts k && D7 c kinds k (parts.getD k 0)) := by
 simp [ag0, List.range_succ]
theorem a77 (c : b6) (kinds : List UInt8) (x : d8) : ag0 c kinds [x.a, x.b, x.c, x.d] 4 = (D7 c kinds 0 x.a && D7 c kinds 1 x.b && D7 c kinds 2 x.c && D7 c kinds 3 x.d) := by
 show ag0 c kinds _ (0 + 1 + 1 + 1 + 1) = _
 simp only [aB2]
 simp [ag0]
theorem aB3 {c : b6} {kinds : List UInt8} {parts : List Int} {k : Nat} (n : Nat) (hk : k < n) (h : D7 c kinds k (parts.getD k 0) = false) : ag0 c kinds parts n = false := by
 unfold ag0
 rw [List.all_eq_false]
 exact ⟨k, by simpa using hk, by simpa using h⟩
def J8 (c : b6) (kd : UInt8) (n : Int) : Bool :=
 if kd = 114 then decide (0 ≤ n) && decide (n ≤ 13)
 else if kd = 118 then decide (0 ≤ n) && decide (n ≤ (c.vars.length : Int) - 1)
 else if kd = 97 then decide (0 ≤ n) && decide (n ≤ (c.arrays.length : Int) - 1)
 else if kd = 110 then decide (0 ≤ n) && decide (n ≤ 255)
 else if kd = 111 then decide (4 ≤ n) && decide (n ≤ 10)
 else if kd = 105 then decide (0 ≤ n) && decide (n ≤ (c.list.length : Int) - 1)
 else decide (n = 0)
def N3 (op : Int) : List UInt8 :=
 if op = 1 then [114, 110, 45, 45] else if op = 2 then [114, 118, 45, 45] else if op = 3 then [118, 114, 45, 45] else if op = 4 then [114, 97, 114, 45] else if op = 5 then [97, 114, 114, 45]
 else if op = 6 then [114, 111, 114, 114] else if op = 7 then [114, 114, 114, 114] else if op = 8 then [105, 45, 45, 45] else if op = 9 then [114, 105, 45, 45] else if op = 10 then [114, 105, 45, 45]
 else if op = 11 then [114, 45, 45, 45] else if op = 12 then [45, 45, 45, 45] else if op = 13 then [45, 45, 45, 45] else []
def aB4 (c : b6) (kinds : List UInt8) (parts : List Int) (k : Nat) : Bool := (cc5 k).all fun j => J8 c (kinds.getD j 0) (parts.getD j 0)
theorem aK3 (c : b6) (kinds : List UInt8) (parts : List Int) (k : Nat) : aB4 c kinds parts (k + 1) = (aB4 c kinds parts k && J8 c (kinds.getD k 0) (parts.getD k 0)) := by
 simp [aB4, List.range_succ]
theorem bk9 {c : b6} {kinds : List UInt8} {parts : List Int} {k : Nat} (n : Nat) (hk : k < n) (h : J8 c (kinds.getD k 0) (parts.getD k 0) = false) : aB4 c kinds parts n = false := by
 unfold aB4
 rw [List.all_eq_false]
 exact ⟨k, by simpa using hk, by simpa using h⟩
theorem aJ4 {op : Int} (h : ¬ (1 ≤ op ∧ op ≤ 13)) : N3 op = [] := by
 unfold N3
 repeat (rw [if_neg (by omega)])
theorem bE1 {op : Int} (h : 1 ≤ op ∧ op ≤ 13) : (N3 op).length = 4 := by
 have h' : op = 1 ∨ op = 2 ∨ op = 3 ∨ op = 4 ∨ op = 5 ∨ op = 6 ∨ op = 7 ∨ op = 8 ∨ op = 9 ∨ op = 10 ∨ op = 11 ∨ op = 12 ∨ op = 13 := by omega
 rcases h' with rfl | rfl | rfl | rfl | rfl | rfl | rfl | rfl | rfl | rfl | rfl | rfl | rfl <;> rfl
theorem a93 (c : b6) (x : d8) (h : 1 ≤ x.op ∧ x.op ≤ 13) : x8 c x = aB4 c (N3 x.op) [x.a, x.b, x.c, x.d] 4 := by
 have e : aB4 c (N3 x.op) [x.a, x.b, x.c, x.d] 4 = (J8 c ((N3 x.op).getD 0 0) x.a && J8 c ((N3 x.op).getD 1 0) x.b && J8 c ((N3 x.op).getD 2 0) x.c && J8 c ((N3 x.op).getD 3 0) x.d) := by
  show aB4 c _ _ (0 + 1 + 1 + 1 + 1) = _
  simp only [aK3]
  simp [aB4]
 rw [e]
 unfold x8
 rw [decide_eq_true h.1, decide_eq_true h.2]
 have h' : x.op = 1 ∨ x.op = 2 ∨ x.op = 3 ∨ x.op = 4 ∨ x.op = 5 ∨ x.op = 6 ∨ x.op = 7 ∨ x.op = 8 ∨ x.op = 9 ∨ x.op = 10 ∨ x.op = 11 ∨ x.op = 12 ∨ x.op = 13 := by omega
 rcases h' with h' | h' | h' | h' | h' | h' | h' | h' | h' | h' | h' | h' | h' <;>
 ·rw [h', ce0]
  simp [l6, N3, D7, K4, J8]
  try omega
def i6 (x : d8) : Int := if x.op = 8 then x.a else if x.op = 9 ∨ x.op = 10 then x.b else -1
def H6 (x : d8) (i : Int) : List Int := if x.op = 13 then [] else if x.op = 8 then [x.a] else if x.op = 9 ∨ x.op = 10 then [i + 1, x.b] else [i + 1]
def ab5 (x : d8) (i : Int) : List Int := (if 0 ≤ i6 x then [i6 x] else []) ++ (if x.op ≠ 8 ∧ x.op ≠ 13 then [i + 1] else [])
def nx (c : b6) (t : Int) : List Int := match c.list[t.toNat]? with | some x => H6 x t | none => []
theorem aY3 {c : b6} {t : Int} (h : t.toNat < c.list.length) : nx c t = H6 c.list[t.toNat] t := by simp [nx, h]
theorem i8 {c : b6} (h : e6 c = true) : F0 c.vars c.arrays = true ∧ 1 ≤ c.list.length ∧ c.list.length ≤ 400 ∧ (∀ (i : Nat) (hi : i < c.list.length), x8 c c.list[i] = true) ∧ X3 c = true := by
 unfold e6 at h
 simp only [cb0, decide_eq_true_eq, cb9] at h
 obtain ⟨⟨⟨⟨h1, h2⟩, h3⟩, h4⟩, h5⟩ := h
 exact ⟨h1, h2, h3, fun i hi => h4 _ (cd1 hi), h5⟩
theorem az8 {c : b6} {x : d8} (h : x8 c x = true) (ho : x.op = 8 ∨ x.op = 9 ∨ x.op = 10) : 0 ≤ i6 x ∧ i6 x < c.list.length := by
 unfold x8 at h
 simp only [cb0, decide_eq_true_eq] at h
 obtain ⟨_, ⟨⟨ha, hb⟩, _⟩, _⟩ := h
 rcases ho with ho | ho | ho
 ·rw [ho] at ha
  simp [l6, D7, K4] at ha
  simp [i6, ho]; omega
 ·rw [ho] at hb
  simp [l6, D7, K4] at hb
  simp [i6, ho]; omega
 ·rw [ho] at hb
  simp [l6, D7, K4] at hb
  simp [i6, ho]; omega
theorem bh1 {c : b6} (h : e6 c = true) (i : Nat) (hi : i < c.list.length) (h1 : c.list[i].op ≠ 13) (h2 : c.list[i].op ≠ 8) : i + 1 < c.list.length := by
 obtain ⟨_, hn, _, _, hl⟩ := i8 h
 rcases cc9 (i + 1) c.list.length with hlt | hge
 ·exact hlt
 ·exfalso
  unfold X3 at hl
  rw [List.getLast?_eq_getElem?, show c.list.length - 1 = i by omega, ca8 hi] at hl
  simp at hl
  omega
theorem aB7 {c : b6} (h : e6 c = true) {i t : Int} (hi : 0 ≤ i) (ht : t ∈ nx c i) : 0 ≤ t ∧ t < c.list.length := by
 by_cases hlt : i.toNat < c.list.length
 ·rw [aY3 hlt] at ht
  have ho := (i8 h).2.2.2.1 _ hlt
  have hl := bh1 h _ hlt
  have hk := az8 ho
  unfold H6 at ht
  unfold i6 at hk
  generalize c.list[i.toNat] = x at *
  by_cases h13 : x.op = 13
  ·simp [h13] at ht
  ·by_cases h8 : x.op = 8
   ·simp [h8] at ht hk
    omega
   ·have := hl h13 h8
    by_cases h9 : x.op = 9 ∨ x.op = 10
    ·simp only [if_neg h13, if_neg h8, if_pos h9, ce7, List.not_mem_nil, or_false] at ht hk
     rcases ht with rfl | rfl
     ·omega
     ·exact hk (.inr h9)
    ·simp only [if_neg h13, if_neg h8, if_neg h9, ce7, List.not_mem_nil, or_false] at ht
     omega
 ·unfold nx at ht
  rw [cd6 (by omega)] at ht
  simp at ht
theorem bl3 {c : b6} {x : d8} (h : x8 c x = true) (i t : Int) : t ∈ ab5 x i ↔ t ∈ H6 x i := by
 have hk := az8 h
 unfold ab5 H6
 by_cases h13 : x.op = 13
 ·simp [h13, i6]
 ·by_cases h8 : x.op = 8
  ·have hh := hk (.inl h8)
   simp [h8, i6] at hh ⊢
   omega
  ·by_cases h9 : x.op = 9 ∨ x.op = 10
   ·have hh := hk (.inr h9)
    have e : i6 x = x.b := by simp [i6, h8, h9]
    rw [e] at hh ⊢
    simp only [if_neg h13, if_neg h8, if_pos h9, if_pos hh.1, if_pos (show x.op ≠ 8 ∧ x.op ≠ 13 from ⟨h8, h13⟩)]
    simp [Or.comm]
   ·have e : i6 x = -1 := by simp [i6, h8, h9]
    rw [e]
    simp [h13, h8, h9]
theorem bl4 (x : d8) (i : Int) : (ab5 x i).length ≤ 2 := by
 unfold ab5; rw [cb2]; split <;> split <;> simp
inductive Rc (c : b6) : Int → Prop
 | zero : Rc c 0
 | step {i t : Int} : Rc c i → t ∈ nx c i → Rc c t
noncomputable def E4 (c : b6) : List Bool := (cc5 c.list.length).map fun (j : Nat) => @decide (Rc c (j : Int)) (Classical.propDecidable _)
theorem Rc.nonneg {c : b6} (h : e6 c = true) {t : Int} (hr : Rc c t) : 0 ≤ t := by
 induction hr with
 | zero => omega
 | step _ ht ih => exact (aB7 h ih ht).1
theorem aB0 {c : b6} (hc : e6 c = true) {bs : List Bool} (hl : bs.length = c.list.length) (hs : ∀ j : Nat, bs[j]? = some true → Rc c j) (h0 : bs[0]? = some true)
  (hcl : ∀ j : Nat, bs[j]? = some true → ∀ t ∈ nx c j, bs[t.toNat]? = some true) : bs = E4 c := by
 have key : ∀ t : Int, Rc c t → bs[t.toNat]? = some true := by
  intro t ht
  induction ht with
  | zero => exact h0
  | @step i t hi ht ih =>
   have hn := Rc.nonneg hc hi
   exact hcl i.toNat ih t (by rw [show ((i.toNat : Nat) : Int) = i by omega]; exact ht)
 apply List.ext_getElem
 ·simp [E4, hl]
 ·intro j h1 h2
  have e : (E4 c)[j] = @decide (Rc c (j : Int)) (Classical.propDecidable _) := by simp [E4]
  rw [e]
  by_cases hr : Rc c (j : Int)
  ·have := key _ hr
   rw [ce4, ca8 h1] at this
   simp only [Option.some.injEq] at this
   rw [this]; simp [hr]
  ·cases hb : bs[j]
   ·simp [hr]
   ·exact absurd (hs j (by rw [ca8 h1, hb])) hr
theorem R3 {bs : List Bool} {k : Nat} (h : bs[k]? = some false) : (bs.set k true).count false + 1 = bs.count false := by
 induction bs generalizing k with
 | nil => simp at h
 | cons b r ih =>
  cases k with
  | zero => simp at h; subst h; simp
  | succ k =>
   simp at h
   have := ih h
   simp only [List.set_cons_succ, List.count_cons]
   omega
theorem af6 {bs : List Bool} {k j : Nat} (h : bs[j]? = some true) : (bs.set k true)[j]? = some true := by
 rw [List.getElem?_set]
 split
 ·rename_i e; subst e
  have := (cb6.1 h).1
  simp [this]
 ·exact h
theorem K3 {bs : List Bool} {k j : Nat} (h : (bs.set k true)[j]? = some true) : j = k ∨ bs[j]? = some true := by
 rw [List.getElem?_set] at h
 split at h
 ·rename_i e; exact .inl e.symm
 ·exact .inr h
theorem Z0 {bs : List Bool} {k : Nat} (h : k < bs.length) : (bs.set k true)[k]? = some true := by simp [h]
structure aS5 (c : b6) (qs : List Int) (bs : List Bool) : Prop where
 len : bs.length = c.list.length
 cnt : qs.length + bs.count false = c.list.length
 q : ∀ t ∈ qs, 0 ≤ t ∧ t < c.list.length ∧ Rc c t
 sound : ∀ j : Nat, bs[j]? = some true → Rc c j
 inq : ∀ j : Nat, bs[j]? = some true → (j : Int) ∈ qs
 zero : bs[0]? = some true
theorem aS5.start {c : b6} (hc : e6 c = true) : aS5 c [0] ((ca7 c.list.length false).set 0 true) := by
 have hn := (i8 hc).2.1
 have hone : ∀ j : Nat, ((ca7 c.list.length false).set 0 true)[j]? = some true → j = 0 := by
  intro j h
  rcases K3 h with h | h
  ·exact h
  ·rw [List.getElem?_replicate] at h; split at h <;> simp at h
 refine ⟨by simp, ?_, ?_, ?_, ?_, ?_⟩
 ·have := R3 (bs := ca7 c.list.length false) (k := 0) (by rw [List.getElem?_replicate, if_pos (by omega)])
  simp at this ⊢
  omega
 ·intro t ht
  simp at ht; subst ht
  exact ⟨by omega, by omega, .zero⟩
 ·intro j h; rw [hone j h]; exact .zero
 ·intro j h; rw [hone j h]; simp
 ·exact Z0 (by simp; omega)
theorem aS5.push {c : b6} {qs : List Int} {bs : List Bool} (h : aS5 c qs bs) {t : Int} (h0 : 0 ≤ t) (h1 : t < c.list.length) (hr : Rc c t) (hb : bs[t.toNat]? = some false) :
  aS5 c (qs ++ [t]) (bs.set t.toNat true) := by
 refine ⟨by simp [h.len], ?_, ?_, ?_, ?_, af6 h.zero⟩
 ·have := R3 hb
  have := h.cnt
  simp; omega
 ·intro u hu
  rcases cc4.1 hu with hu | hu
  ·exact h.q u hu
  ·simp at hu; subst hu; exact ⟨h0, h1, hr⟩
 ·intro j hj
  rcases K3 hj with rfl | hj
  ·rw [show ((t.toNat : Nat) : Int) = t by omega]; exact hr
  ·exact h.sound j hj
 ·intro j hj
  rcases K3 hj with rfl | hj
  ·simp; right; omega
  ·exact List.mem_append_left _ (h.inq j hj)
def ad7 (c : b6) (qs : List Int) (bs : List Bool) (i : Nat) : Prop := ∀ (m : Nat) (u : Int), m < i → qs[m]? = some u → ∀ t ∈ nx c u, bs[t.toNat]? = some true
theorem ad7.push {c : b6} {qs : List Int} {bs : List Bool} {i : Nat} (h : ad7 c qs bs i) (hi : i ≤ qs.length) (t : Int) (k : Nat) : ad7 c (qs ++ [t]) (bs.set k true) i :=
 fun m u hm hu x hx => af6 (h m u hm (by rwa [cd5 (by omega)] at hu) x hx)
theorem ad7.done {c : b6} (hc : e6 c = true) {qs : List Int} {bs : List Bool} (h : aS5 c qs bs) (hcl : ad7 c qs bs qs.length) : bs = E4 c := by
 refine aB0 hc h.len h.sound h.zero fun j hj t ht => ?_
 obtain ⟨m, hm, he⟩ := List.getElem_of_mem (h.inq j hj)
 exact hcl m j hm (by rw [ca8 hm, he]) t ht
structure ax2 (c : b6) (ls : List Int) (bs : List Bool) : Prop where
 len : bs.length = c.list.length
 cnt : ls.length + 2 * bs.count false ≤ 2 * c.list.length + 1
 l : ∀ t ∈ ls, 0 ≤ t ∧ t < c.list.length ∧ Rc c t
 sound : ∀ j : Nat, bs[j]? = some true → Rc c j
 zero : bs[0]? = some true ∨ (0 : Int) ∈ ls
 clos : ∀ j : Nat, bs[j]? = some true → ∀ t ∈ nx c j, bs[t.toNat]? = some true ∨ t ∈ ls
theorem ax2.start {c : b6} (hc : e6 c = true) : ax2 c [0] (ca7 c.list.length false) := by
 have hn := (i8 hc).2.1
 refine ⟨by simp, by simp; omega, ?_, ?_, .inr (by simp), ?_⟩
 ·intro t ht
  simp at ht; subst ht
  exact ⟨by omega, by omega, .zero⟩
 ·intro j h; rw [List.getElem?_replicate] at h; split at h <;> simp at h
 ·intro j h; rw [List.getElem?_replicate] at h; split at h <;> simp at h
theorem ax2.skip {c : b6} {ls : List Int} {i : Int} {bs : List Bool} (h : ax2 c (ls ++ [i]) bs) (hb : bs[i.toNat]? = some true) : ax2 c ls bs := by
 refine ⟨h.len, by have := h.cnt; simp at this; omega, fun t ht => h.l t (List.mem_append_left _ ht), h.sound, ?_, ?_⟩
 ·rcases h.zero with h0 | h0
  ·exact .inl h0
  ·rcases cc4.1 h0 with h0 | h0
   ·exact .inr h0
   ·simp at h0; subst h0; exact .inl hb
 ·intro j hj t ht
  rcases h.clos j hj t ht with h1 | h1
  ·exact .inl h1
  ·rcases cc4.1 h1 with h1 | h1
   ·exact .inr h1
   ·simp at h1; subst h1; exact .inl hb
theorem ax2.mark {c : b6} (hc : e6 c = true) {ls : List Int} {i : Int} {bs : List Bool} (h : ax2 c (ls ++ [i]) bs) (hb : bs[i.toNat]? = some false) {news : List Int} (hl : news.length ≤ 2) (hm : ∀ t, t ∈ news ↔ t ∈ nx c i) :
  ax2 c (ls ++ news) (bs.set i.toNat true) := by
 have hi := h.l i (by simp)
 have hlt : i.toNat < bs.length := (cb6.1 hb).1
 refine ⟨by simp [h.len], ?_, ?_, ?_, ?_, ?_⟩
 ·have := R3 hb
  have := h.cnt
  simp at this ⊢; omega
 ·intro t ht
  rcases cc4.1 ht with ht | ht
  ·exact h.l t (List.mem_append_left _ ht)
  ·have hx := (hm t).1 ht
   exact ⟨(aB7 hc hi.1 hx).1, (aB7 hc hi.1 hx).2, .step hi.2.2 hx⟩
 ·intro j hj
  rcases K3 hj with rfl | hj
  ·rw [show ((i.toNat : Nat) : Int) = i by omega]; exact hi.2.2
  ·exact h.sound j hj
 ·rcases h.zero with h0 | h0
  ·exact .inl (af6 h0)
  ·rcases cc4.1 h0 with h0 | h0
   ·exact .inr (List.mem_append_left _ h0)
   ·simp at h0; subst h0; exact .inl (Z0 hlt)
 ·intro j hj t ht
  rcases K3 hj with rfl | hj
  ·rw [show ((i.toNat : Nat) : Int) = i by omega] at ht
   exact .inr (List.mem_append_right _ ((hm t).2 ht))
  ·rcases h.clos j hj t ht with h1 | h1
   ·exact .inl (af6 h1)
   ·rcases cc4.1 h1 with h1 | h1
    ·exact .inr (List.mem_append_left _ h1)
    ·simp at h1; subst h1; exact .inl (Z0 hlt)
theorem ax2.done {c : b6} (hc : e6 c = true) {bs : List Bool} (h : ax2 c [] bs) : bs = E4 c := by
 refine aB0 hc h.len h.sound ?_ fun j hj t ht => ?_
 ·rcases h.zero with h0 | h0
  ·exact h0
  ·simp at h0
 ·rcases h.clos j hj t ht with h1 | h1
  ·exact h1
  ·simp at h1
end Go.Proofs.YtmokkddidcmglaaGreat

namespace Go.Proofs.YtmokkddidcmglaaGreat
open Go Go.RowKit
section
variable {P : Program} {md : Region.Mode} {C : World → Prop}
def Y1 (o : Oper) : Oper := { o with op := .move (.const (.bool false)), guard := none }
theorem a70 {ops ops' : Array Oper} (hs : ops'.size = ops.size) (h : ∀ i : Nat, (ops'[i]?).map (·.after) = (ops[i]?).map (·.after)) (listed : Array Bool) : Region.ready md ops' listed = Region.ready md ops listed := by
 unfold Region.ready
 rw [hs]
 refine List.filter_congr fun i _ => ?_
 have := h i
 cases h1 : ops'[i]? <;> cases h2 : ops[i]? <;> simp [h1, h2] at this ⊢
 rw [this]
def aF5 (ops : Array Oper) : Bool := (cc5 ops.size).all fun j => (ops[j]?).any fun o => o.after.all fun e => decide (e.on < j)
theorem ak7 {ops : Array Oper} (hb : aF5 ops = true) {listed : Array Bool} (hsz : listed.size = ops.size) : ∀ k, k < ops.size → listed.getD k true = false → Region.ready md ops listed ≠ [] := by
 intro k
 induction k using Nat.strongRecOn with
 | _ k ih =>
  intro hk hl hn
  by_cases hall : ∃ j, j < k ∧ listed.getD j true = false
  ·obtain ⟨j, hj, hlj⟩ := hall
   exact ih j hj (by omega) hlj hn
  ·have hok : ops[k]? = some ops[k] := Array.getElem?_eq_getElem hk
   have : k ∈ Region.ready md ops listed := by
    refine mem_ready.2 ⟨hl, ops[k], hok, fun e he _ => ?_⟩
    have h1 := cb9.1 hb k (ce9.2 hk)
    rw [hok] at h1
    simp only [Option.any_some] at h1
    have h2 := Array.all_eq_true'.1 h1 e he
    simp only [decide_eq_true_eq] at h2
    cases h3 : listed.getD e.on true
    ·exact absurd ⟨e.on, h2, h3⟩ hall
    ·have : e.on < listed.size := by omega
     simp [this] at h3 ⊢
     exact h3
   rw [hn] at this
   cases this
theorem bj2 {ops ops' : Array Oper} {i : Nat} {Q : Exit → Act → World → Prop} {K : Act → World → Prop} {a : Act} {w : World} (h : ops'[i]? = ops[i]?) (hy : yielded ops' a.tmps = yielded ops a.tmps)
  (hh : wpOp P ops' Q i K a w) : wpOp P ops Q i K a w := by
 unfold wpOp at *
 rw [h, hy] at hh
 exact hh
theorem E9 {listed : Array Bool} {i : Nat} (h : listed.getD i true = false) : (listed.setIfInBounds i true).toList.count false + 1 = listed.toList.count false := by
 rw [Array.toList_setIfInBounds]
 refine R3 ?_
 rcases cc9 i listed.size with h' | h'
 ·simp [h'] at h ⊢; exact h
 ·simp [Array.getElem?_eq_none h'] at h
theorem aU2 {ops : Array Oper} {n : Nat} {o : Oper} (hn : ops.size = n + 1) (ho : ops[n]? = some o) (hdst : o.dst = none) (hs : Region.sinkB md ops n = true) (hc : Region.chainB md ops n = true) (hb : aF5 ops = true)
  {Q : Act → Prop} {Q' : Exit → Act → World → Prop} (hlast : ∀ a w, C w → Q a → wpOp P ops Q' n (Q' .normal) a w) :
  ∀ (fuel : Nat) (listed : Array Bool) (a : Act) (w : World), C w → HeadInv md ops n listed → listed.toList.count false = fuel → wpAnyQ P md (ops.setIfInBounds n (Y1 o)) C Q fuel listed a → wpAny P md ops Q' fuel listed a w := by
 have hsame : ∀ i : Nat, i ≠ n → (ops.setIfInBounds n (Y1 o))[i]? = ops[i]? := fun i hi => Array.getElem?_setIfInBounds_ne (fun e => hi e.symm)
 have hat : (ops.setIfInBounds n (Y1 o))[n]? = some (Y1 o) := by simp [hn]
 have hafter : ∀ i : Nat, ((ops.setIfInBounds n (Y1 o))[i]?).map (·.after) = (ops[i]?).map (·.after) := fun i => by
  by_cases hi : i = n
  ·subst hi; rw [hat, ho]; rfl
  ·rw [hsame i hi]
 have hready : ∀ listed, Region.ready md (ops.setIfInBounds n (Y1 o)) listed = Region.ready md ops listed := a70 (by simp) hafter
 have hyield : ∀ tmps, yielded (ops.setIfInBounds n (Y1 o)) tmps = yielded ops tmps := fun tmps => by
  funext j
  unfold yielded
  by_cases hj : j = n
  ·subst hj; rw [hat, ho]; rfl
  ·rw [hsame j hj]
 intro fuel
 induction fuel with
 | zero =>
  intro listed a w _ inv hcnt _
  have := E9 (inv.tail n (cb1 _) (by omega))
  omega
 | succ f ih =>
  intro listed a w hC inv hcnt h
  obtain ⟨_, h2⟩ := h
  refine ⟨fun h0 => absurd h0 (ak7 hb inv.size n (by omega) (inv.tail n (cb1 _) (by omega))), fun i hi => ?_⟩
  have h3 := h2 i (by rw [hready]; exact hi)
  have hun := (mem_ready.1 hi).1
  have hcl := E9 hun
  rcases cc9 i n with hin | hin
  ·refine bj2 (hsame i (by omega)) (hyield _) (wpOp_of_qOp hC (fun a' w' hC' hK => ih _ a' w' hC' (inv.set hi hin) (by omega) hK) h3)
  ·obtain ⟨_, o', ho', _⟩ := mem_ready.1 hi
   have hisz := (Array.getElem?_eq_some_iff.1 ho').1
   obtain rfl : i = n := by omega
   have hall : ∀ j, j < i → listed.getD j true = true := fun j hj => by
    cases hl : listed.getD j true
    ·exact absurd hi (tail_waits hs hc (by omega) inv _ j rfl hj hl i (cb1 _))
    ·rfl
   have hnone : Region.ready md ops (listed.setIfInBounds i true) = [] := by
    rw [List.eq_nil_iff_forall_not_mem]
    intro j hj
    obtain ⟨hj1, oj, hoj, _⟩ := mem_ready.1 hj
    have hjs := (Array.getElem?_eq_some_iff.1 hoj).1
    by_cases hji : j = i
    ·subst hji; simp [inv.size, hn] at hj1
    ·rw [getD_set_ne true (fun e => hji e.symm), hall j (by omega)] at hj1; cases hj1
   have hQ : Q a := by
    have hK : wpAnyQ P md (ops.setIfInBounds i (Y1 o)) C Q f (listed.setIfInBounds i true) a := by
     unfold qOp at h3
     rw [hat] at h3
     simp only at h3
     split at h3
     ·obtain ⟨v, _, h4⟩ := h3
      rwa [show (Y1 o).dst = none from hdst] at h4
     ·rwa [show (Y1 o).dst = none from hdst] at h3
    cases f with
    | zero => exact hK.2
    | succ f => exact hK.1 (by rw [hready]; exact hnone)
   refine wpOp_mono (fun a' w' hq => ?_) (hlast a w hC hQ)
   cases f with
   | zero => exact ⟨hnone, hq⟩
   | succ f => exact ⟨fun _ => hq, fun j hj => by rw [hnone] at hj; cases hj⟩
def a72 (l : List Oper) (n : Nat) : Bool :=
 match l[n]? with
 | none => false
 | some o => decide (l.length = n + 1) && o.dst.isNone && Region.sinkB .any l.toArray n && Region.chainB .any l.toArray n && aF5 l.toArray && Region.lexB .any (l.set n (Y1 o)).toArray
theorem aw1 {id : Nat} {Q : Exit → Act → World → Prop} {a : Act} {w : World} {l : List Oper} (n : Nat) (o : Oper) (ho : l[n]? = some o) (hm : P.follows .mixedOrders = true) (hB : a72 l n = true) (hC : C { w with drawn := w.drawn + 1 })
  (h : wpQuiet P (l.set n (Y1 o)).toArray C (fun a' => ∀ w', C w' → wpList P l.toArray Q [o] a' w') (l.set n (Y1 o)) a) : (Code.region id l.toArray true).wp P Q a w := by
 unfold a72 at hB
 rw [ho] at hB
 simp only [cb0, decide_eq_true_eq, Option.isNone_iff_eq_none] at hB
 obtain ⟨⟨⟨⟨⟨hn, hd⟩, hs⟩, hc⟩, hb⟩, hlex⟩ := hB
 simp only [Region.lexB, cb0] at hlex
 have hn' : l.toArray.size = n + 1 := by simpa using hn
 have ho' : l.toArray[n]? = some o := by simpa using ho
 have inv0 : HeadInv .any l.toArray n (cd9 l.toArray.size false) :=
  ⟨by simp, fun j oj _ hl => (by rw [getD_replicate_false] at hl; cases hl), fun t _ ht => getD_in (by simpa using ht) (getD_replicate_false _ _)⟩
 have H := wpAnyQ_lex (P := P) (C := C) (md := .any) hlex.1 (l.set n (Y1 o)) 0 (cd9 (l.set n (Y1 o)).toArray.size false) a (by simp) (by simpa using hlex.2) h
 refine wp_region_any hm (aU2 hn' ho' hd hs hc hb (Q := fun a' => ∀ w', C w' → wpList P l.toArray Q [o] a' w') (fun a' w' hC' hq => ?_) _ _ _ _ hC inv0 (by simp) ?_)
 ·have := hq w' hC'
  unfold wpOp
  simp only [ho']
  exact this
 ·simpa using H
theorem J7 {id : Nat} {Q : Exit → Act → World → Prop} {a : Act} {w : World} {l : List Oper} (n : Nat) (o : Oper) (ho : l[n]? = some o) (hm : P.follows .mixedOrders = true) (hB : a72 l n = true)
  (h : wpQuiet P (l.set n (Y1 o)).toArray (fun w' => ∃ X, w' = w.ext X) (fun a' => ∀ w', (∃ X, w' = w.ext X) → wpList P l.toArray Q [o] a' w') (l.set n (Y1 o)) a) : (Code.region id l.toArray true).wp P Q a w :=
 aw1 (C := fun w' => ∃ X, w' = w.ext X) n o ho hm hB (at6 (w' := w.drew) (Below.refl _ _).drew) h
theorem s6 {w : World} {b o : Nat} {v : Bool} (hb : b < w.heap.size) (h : w.frozen? ⟨b, o, none⟩ = v) (X : World) : (w.ext X).frozen? ⟨b, o, none⟩ = v := by
 rw [(D8 (t4 w X)).2 b o hb]; exact h
end
abbrev ints (l : List Int) : List Value := l.map (Value.int .i64)
theorem O7 (l : List Int) (k : Nat) (h : k < l.length) : (ints l)[k]? = some (.int .i64 l[k]) := by simp [ints, h]
theorem aZ5 (l : List Int) : (ints l).length = l.length := by simp [ints]
theorem ab9 : (Tryz.prog.info? 3).map (fun i => (i.zero, i.size, i.bytes)) = some (some (.int .i64 0), 1, 8) := by kernel_rfl
def a90 (K n : Nat) : List Int := (cc5 n).map fun (j : Nat) => ((K : Int) + (j : Int))
abbrev P3 (w : World) (v : Value) (l : List d8) : Prop := D3 w v l.length 5 (ints (t8 l))
theorem D3.ins {w : World} {v : Value} {l : List d8} (h : P3 w v l) : ∃ a cap, v = .slice a l.length cap ∧ l.length ≤ cap ∧ l.length ≤ 9223372036854775807 ∧ cap ≤ 9223372036854775807 ∧
  ∀ i (hi : i < l.length), ∃ b off, a = some ⟨b, off, none⟩ ∧ b < w.heap.size ∧ w.cell? ⟨b, off + i * 5, none⟩ = some (.int .i64 l[i].op) ∧ w.cell? ⟨b, off + i * 5 + 1, none⟩ = some (.int .i64 l[i].a) ∧
   w.cell? ⟨b, off + i * 5 + 2, none⟩ = some (.int .i64 l[i].b) ∧ w.cell? ⟨b, off + i * 5 + 3, none⟩ = some (.int .i64 l[i].c) ∧ w.cell? ⟨b, off + i * 5 + 4, none⟩ = some (.int .i64 l[i].d) := by
 obtain ⟨a, cap, h0, h1, h2, h3, h4⟩ := h.open
 refine ⟨a, cap, h0, h1, h2, h3, fun i hi => ?_⟩
 obtain ⟨b, off, e, hb, hc⟩ := h4 i hi
 obtain ⟨g0, g1, g2, g3, g4⟩ := a00 l i hi
 have c0 := hc 0 (by omega)
 have c1 := hc 1 (by omega)
 have c2 := hc 2 (by omega)
 have c3 := hc 3 (by omega)
 have c4 := hc 4 (by omega)
 simp only [cf3, List.getElem?_map, g0, g1, g2, g3, g4, Option.map_some] at c0 c1 c2 c3 c4
 exact ⟨b, off, e, hb, c0, c1, c2, c3, c4⟩
abbrev d8.v (x : d8) : Value := .agg #[.int .i64 x.op, .int .i64 x.a, .int .i64 x.b, .int .i64 x.c, .int .i64 x.d]
theorem aK9 : (Tryz.prog.info? 60).map (fun i => (i.zero, i.size, i.bytes)) = some (some (.agg #[.int .i64 0, .int .i64 0, .int .i64 0, .int .i64 0, .int .i64 0]), 5, 40) := by kernel_rfl
def r8 (w : World) (v : Value) (c : b6) : Prop :=
 ∃ v1 v2 v3, v = .agg #[v1, v2, v3] ∧ D3 w v1 c.vars.length 1 (ints c.vars) ∧ D3 w v2 c.arrays.length 1 (ints c.arrays) ∧ P3 w v3 c.list
def y6 (w : World) (lo hi : Nat) (v : Value) (c : b6) : Prop :=
 ∃ v1 v2 v3, v = .agg #[v1, v2, v3] ∧ y7 w lo hi 3 1 v1 c.vars.length (ints c.vars) ∧ y7 w lo hi 3 1 v2 c.arrays.length (ints c.arrays) ∧ y7 w lo hi 60 5 v3 c.list.length (ints (t8 c.list)) ∧
  N9 v1 v2 ∧ N9 v1 v3 ∧ N9 v2 v3
theorem r8.below {w w' : World} {v : Value} {c : b6} (h : r8 w v c) (hb : Below w.heap.size w w') : r8 w' v c := by
 obtain ⟨v1, v2, v3, rfl, h1, h2, h3⟩ := h
 exact ⟨v1, v2, v3, rfl, h1.below hb, h2.below hb, h3.below hb⟩
theorem y6.row {w : World} {lo hi : Nat} {v : Value} {c : b6} (h : y6 w lo hi v c) : r8 w v c := by
 obtain ⟨v1, v2, v3, rfl, h1, h2, h3, _⟩ := h
 exact ⟨v1, v2, v3, rfl, h1.row, h2.row, h3.row⟩
theorem y6.keep {w w' : World} {lo hi B : Nat} {v : Value} {c : b6} (h : y6 w lo hi v c) (hb : Below B w w') (hB : hi ≤ B) : y6 w' lo hi v c := by
 obtain ⟨v1, v2, v3, rfl, h1, h2, h3, hd⟩ := h
 exact ⟨v1, v2, v3, rfl, h1.keep hb hB, h2.keep hb hB, h3.keep hb hB, hd⟩
theorem y6.out {w w' : World} {lo hi lo' hi' : Nat} {v : Value} {c : b6} (h : y6 w lo hi v c) (hb : V5 lo' hi' w w') (hB : hi ≤ lo' ∨ hi' ≤ lo) : y6 w' lo hi v c := by
 obtain ⟨v1, v2, v3, rfl, h1, h2, h3, hd⟩ := h
 exact ⟨v1, v2, v3, rfl, h1.out hb hB, h2.out hb hB, h3.out hb hB, hd⟩
theorem y6.wide {w : World} {lo hi lo' hi' : Nat} {v : Value} {c : b6} (h : y6 w lo hi v c) (h1 : lo' ≤ lo) (h2 : hi ≤ hi') : y6 w lo' hi' v c := by
 obtain ⟨v1, v2, v3, rfl, g1, g2, g3, hd⟩ := h
 exact ⟨v1, v2, v3, rfl, g1.wide h1 h2, g2.wide h1 h2, g3.wide h1 h2, hd⟩
def at7 (w : World) (v : Value) (K nv na nl : Nat) : Prop :=
 ∃ v1 v2 v3, v = .agg #[v1, v2, v3] ∧ D3 w v1 nv 1 (ints (a90 K nv)) ∧ D3 w v2 na 1 (ints (a90 (K + nv) na)) ∧ D3 w v3 nl 5 (ints (a90 (K + nv + na) (nl * 5)))
theorem at7.below {w w' : World} {v : Value} {K nv na nl : Nat} (h : at7 w v K nv na nl) (hb : Below w.heap.size w w') : at7 w' v K nv na nl := by
 obtain ⟨v1, v2, v3, rfl, h1, h2, h3⟩ := h
 exact ⟨v1, v2, v3, rfl, h1.below hb, h2.below hb, h3.below hb⟩
theorem S7 {l : List Int} : ∀ u ∈ ints l, u.oneCell' = true := by
 intro u hu
 obtain ⟨x, _, rfl⟩ := List.mem_map.1 hu
 rfl
theorem aW6 {P : Program} {w : World} {lo : Nat} {t ty e : TypeId} {i : TypeInfo} {size : Nat} (ht : P.underlying t = some (.slice e)) (hi : P.info? e = some i)
  {v : Value} {n : Nat} {xs : List Value} (hown : w.ownsRow lo e size v n xs) (c : Nat) : (Builtin.append_ #[t, t] ty #[v, .slice none 0 c]).run P w = .ok v w := by
 obtain ⟨_, h⟩ := hown
 rcases h with ⟨rfl, rfl⟩ | ⟨g, cap, cur, rfl, _, _, hnc, _⟩
 ·simp [Builtin.append_, run_underlying ht, sizeOf, typeInfo, hi, Builtin.lenOf, Builtin.firstCells]
 ·simp [Builtin.append_, run_underlying ht, sizeOf, typeInfo, hi, Builtin.lenOf, Builtin.firstCells, hnc, storeCells]
theorem G2 {w : World} {lo : Nat} {e : TypeId} {sz : Nat} {v : Value} {n : Nat} {xs : List Value} (h : w.ownsRow lo e sz v n xs) : ∃ a k, v = .slice a n k := by
 rcases h.2 with ⟨rfl, rfl⟩ | ⟨g, cap, cur, rfl, _⟩
 ·exact ⟨_, _, rfl⟩
 ·exact ⟨_, _, rfl⟩
theorem ao2 {P : Program} {w : World} {lo : Nat} {t ty e : TypeId} {z : Value} {size bytes : Nat} (ht : P.underlying t = some (.slice e)) (hi : (P.info? e).map (fun i => (i.zero, i.size, i.bytes)) = some (some z, size, bytes))
  (hzs : z.cells.size = size) (hsz : 0 < size) {v : Value} {n : Nat} {xs : List Value} (hown : w.ownsRow lo e size v n xs) {u : Value} {m : Nat} {news : List Value} (hr : D3 w u m size news) (h1 : ∀ u ∈ news, u.oneCell' = true)
  (h63 : n + m ≤ 9223372036854775807) (hbytes : (n + m) * bytes ≤ 140737488355328) (hbase : lo ≤ w.heap.size) :
  ∃ a' k' w', (Builtin.append_ #[t, t] ty #[v, u]).run P w = .ok (.slice a' (n + m) k') w' ∧ w'.ownsRow lo e size (.slice a' (n + m) k') (n + m) (xs ++ news) ∧ Below lo w w' ∧ w.grownBy w' v.ownBlock ∧ (∀ g, (Value.slice a' (n + m) k').ownBlock = some g → v.ownBlock = some g ∨ w.heap.size ≤ g) := by
 obtain ⟨i, g1, g2, g3, g4⟩ := info_parts hi
 obtain ⟨hl, A, c, rfl, hmc, hc, hA⟩ := hr
 have below_of : ∀ {w' : World}, w.grownBy w' v.ownBlock → Below lo w w' := fun {w'} hg => by
  refine ⟨hg.os, hg.tape, hg.output, hg.size, fun k hk => hg.block k (by omega) fun he => ?_⟩
  have := hown.lt k he.symm
  omega
 rcases A with _ | a
 ·have hm : m = 0 := by
   rcases Nat.eq_zero_or_pos m with h0 | h0
   ·exact h0
   ·obtain ⟨_, _, he, _⟩ := hA h0; cases he
  subst hm
  have hn : news = [] := cc8 (by simpa using hl)
  subst hn
  obtain ⟨a', k', rfl⟩ := G2 hown
  exact ⟨a', k', w, aW6 ht g1 hown c, by simpa using hown, Below.refl _ _, ⟨rfl, rfl, rfl, cb1 _, fun _ _ _ => rfl⟩, fun g hg => .inl hg⟩
 ·have hcells : ∀ j u, news[j]? = some u → w.cell? (a.add j) = some u := by
   intro j u hu
   have h0 : 0 < m := by
    rcases Nat.eq_zero_or_pos m with h0 | h0
    ·subst h0
     have hn : news = [] := cc8 (by simpa using hl)
     subst hn; simp at hu
    ·exact h0
   obtain ⟨b, off, he, hb, hx⟩ := hA h0
   cases he
   have hadd : (⟨b, off, none⟩ : Addr).add j = ⟨b, off + j, none⟩ := by unfold Addr.add; split <;> simp_all
   rw [hadd]
   exact hx j u hu
  obtain ⟨v', w', hrun, h2, h3, _, h5⟩ := run_append_own_at (P := P) w lo t ty e i z size bytes ht g1 g2 g3 g4 hzs hsz v n xs hown a m c news hl hcells h1 (by unfold maxLen; omega) hbytes hbase
  obtain ⟨a', k', rfl⟩ := G2 h2
  exact ⟨a', k', w', hrun, h2, below_of h3, h3, fun g hg => h5.elim (fun h => .inl (h ▸ hg)) fun h => .inr (by rw [h] at hg; cases hg; exact cb1 _)⟩
theorem A5 {P : Program} {w : World} {ops : Array Oper} {rest : List Oper} {o : Oper} {a : Act} {Q : Exit → Act → World → Prop} {lo : Nat} {t e : TypeId} {z : Value} {size bytes : Nat} {v : Value} {n : Nat} {xs : List Value} {u : Value} {m : Nat} {news : List Value}
  (hgd : o.guard = none) (s x : Operand) (ho : o.op = .call { callee := .builtin .append, args := #[s, x], argTypes := #[t, t] })
  (ht : P.underlying t = some (.slice e)) (hi : (P.info? e).map (fun i => (i.zero, i.size, i.bytes)) = some (some z, size, bytes))
  (hzs : z.cells.size = size) (hsz : 0 < size) (hs : a.eval s = v) (hown : w.ownsRow lo e size v n xs) (hx : a.eval x = u) (hr : D3 w u m size news) (h1 : ∀ u ∈ news, u.oneCell' = true)
  (h63 : n + m ≤ 9223372036854775807) (hbytes : (n + m) * bytes ≤ 140737488355328) (hbase : lo ≤ w.heap.size)
  (h : ∀ a' k' w', w'.ownsRow lo e size (.slice a' (n + m) k') (n + m) (xs ++ news) → Below lo w w' → w.grownBy w' v.ownBlock → (∀ g, (Value.slice a' (n + m) k').ownBlock = some g → v.ownBlock = some g ∨ w.heap.size ≤ g) → wpList P ops Q rest (a.put o.dst (.slice a' (n + m) k')) w') : wpList P ops Q (o :: rest) a w := by
 refine wpList_plain hgd fun K hK => ?_
 obtain ⟨a', k', w', hrun, h2, h3, h4, h5⟩ := ao2 (ty := o.type) ht hi hzs hsz hown hr h1 h63 hbytes hbase
 unfold Oper.wp execOp
 simp only [ho, resolve, invoke, builtin, Sem.run_bind, Sem.run_pure, Result.andThen_ok, List.map_toArray, cd7, List.map_nil, hs, hx, hrun]
 exact hK _ _ (h a' k' w' h2 h3 h4 h5)
theorem y7.grown {w w' : World} {lo hi : Nat} {e : TypeId} {sz : Nat} {v : Value} {n : Nat} {xs : List Value} {row : Option Nat} (h : y7 w lo hi e sz v n xs) (hg : w.grownBy w' row) (hne : ∀ g, v.ownBlock = some g → row ≠ some g) : y7 w' lo hi e sz v n xs :=
 h.same fun g hv => hg.block g (h.lt g hv).2.2 fun he => hne g hv he.symm
theorem bF9 (w : World) (u : Value) (T : TypeId) : D3 (w.alloc (.cells #[u] T)) (.slice (some ⟨w.heap.size, 0, none⟩) 1 1) 1 1 [u] := by
 refine ⟨rfl, _, _, rfl, cb1 _, by unfold maxLen; omega, fun _ => ⟨_, _, rfl, by simp, fun j x hj => ?_⟩⟩
 match j, hj with
 | 0, hj =>
  simp at hj
  subst hj
  simp
theorem af9 (w : World) (u : Value) (T : TypeId) {g : Nat} (hg : g = w.heap.size) : D3 (w.alloc (.cells #[u] T)) (.slice (some ⟨g, 0, none⟩) 1 1) 1 1 [u] := by
 subst hg; exact bF9 w u T
theorem bv3 {w : World} {lo : Nat} {e : TypeId} {sz : Nat} {a : Option Addr} {n k cap : Nat} {xs ys : List Value} (h : w.ownsRow lo e sz (.slice a n cap) n (xs ++ ys)) (hk : k ≤ n) (hn : 0 < n) (hx : xs.length = k * sz) : w.ownsRow lo e sz (.slice a k cap) k xs := by
 refine ⟨hx, ?_⟩
 rcases h.2 with ⟨_, h0⟩ | ⟨g, cap', cur, hv, hbg, hg, hnc, hcm, hcs, ht⟩
 ·omega
 ·cases hv
  refine .inr ⟨g, cap, cur, rfl, hbg, hg, by omega, hcm, hcs, ?_⟩
  have := congrArg (cc0 (k * sz)) ht
  rw [List.take_take, Nat.min_eq_left (ce8 _ hk)] at this
  rw [this]
  exact List.take_left' hx
section
variable {P : Program}
theorem aq6 {x : Oper} {a : Act} {w : World} {K : Act → World → Prop} {Q Q0 : Exit → Act → World → Prop} (h0 : ∀ e a w, Q0 e a w → e = .normal) (h : x.wp P a w K Q0) : x.wp P a w K Q := by
 unfold Oper.wp at *
 generalize (execOp a.eval x).run P w = r at *
 cases r with
 | ok n w' =>
  cases n <;> simp only [Oper.upon] at h ⊢ <;>
   first
    | exact h
    | exact Calls.mono h (fun e w'' he => by
      cases e
      ·exact he
      ·exact absurd (h0 _ _ _ he) (by simp)
      ·obtain ⟨a, w, hq⟩ := he; exact absurd (h0 _ _ _ hq) (by simp))
 | halt y w' =>
  cases y <;> simp only [Oper.upon] at h ⊢ <;> first | exact h | exact absurd (h0 _ _ _ h) (by simp)
theorem bj3 {l : List Oper} {Q : Exit → Act → World → Prop} (I : Array Bool → Act → World → Prop) (hb : aF5 l.toArray = true)
  (step : ∀ listed a w, I listed a w → ∀ i o, l[i]? = some o → listed.getD i true = false → (∀ e ∈ o.after, Region.binds .any e = true → listed.getD e.on false = true) →
   ∀ Q' : Exit → Act → World → Prop, (∀ a w, I (listed.setIfInBounds i true) a w → Q' .normal a w) → wpList P l.toArray Q' [o] a w)
  (done : ∀ listed a w, I listed a w → (∀ j, j < l.length → listed.getD j true = true) → Q .normal a w) :
  ∀ (fuel : Nat) (listed : Array Bool) (a : Act) (w : World), listed.size = l.toArray.size → listed.toList.count false = fuel → I listed a w → wpAny P .any l.toArray Q fuel listed a w := by
 have hfin : ∀ (listed : Array Bool) (a : Act) (w : World), listed.size = l.toArray.size → Region.ready .any l.toArray listed = [] → I listed a w → Q .normal a w := by
  intro listed a w hsz hr hI
  refine done listed a w hI fun j hj => ?_
  cases hl : listed.getD j true
  ·exact absurd hr (ak7 hb hsz j (by simpa using hj) hl)
  ·rfl
 intro fuel
 induction fuel with
 | zero =>
  intro listed a w hsz hc hI
  have hr : Region.ready .any l.toArray listed = [] := by
   rw [List.eq_nil_iff_forall_not_mem]
   intro j hj
   have := E9 (mem_ready.1 hj).1
   omega
  exact ⟨hr, hfin listed a w hsz hr hI⟩
 | succ f ih =>
  intro listed a w hsz hc hI
  refine ⟨fun hr => hfin listed a w hsz hr hI, fun i hi => ?_⟩
  obtain ⟨h1, o, ho, h2⟩ := mem_ready.1 hi
  have ho' : l[i]? = some o := by simpa using ho
  have hcl := E9 h1
  have hs := step listed a w hI i o ho' h1 h2 (fun e a w => e = .normal ∧ I (listed.setIfInBounds i true) a w) fun a w h => ⟨rfl, h⟩
  unfold wpOp
  rw [ho]
  simp only
  unfold wpList at hs
  split
  ·rename_i hw
   rw [if_pos hw] at hs
   rcases hs with hs | ⟨_, a, w, he, _⟩
   ·exact .inl (aq6 (fun _ _ _ h => h.1) (Oper.wp_mono (fun a' w' h => ih _ a' w' (by simpa using hsz) (by omega) h.2) hs))
   ·cases he
  ·rename_i hw
   rw [if_neg hw] at hs
   exact ih _ _ _ (by simpa using hsz) (by omega) hs.2
theorem aG1 {id : Nat} {l : List Oper} {Q : Exit → Act → World → Prop} {a : Act} {w : World} (I : Array Bool → Act → World → Prop) (hm : P.follows .mixedOrders = true) (hb : aF5 l.toArray = true)
  (h0 : I (cd9 l.length false) a w.drew)
  (step : ∀ listed a w, I listed a w → ∀ i o, l[i]? = some o → listed.getD i true = false → (∀ e ∈ o.after, Region.binds .any e = true → listed.getD e.on false = true) →
   ∀ Q' : Exit → Act → World → Prop, (∀ a w, I (listed.setIfInBounds i true) a w → Q' .normal a w) → wpList P l.toArray Q' [o] a w)
  (done : ∀ listed a w, I listed a w → (∀ j, j < l.length → listed.getD j true = true) → Q .normal a w) : (Code.region id l.toArray true).wp P Q a w :=
 wp_region_any hm (bj3 I hb step done _ _ _ _ (by simp) (by simp) (by simpa using h0))
end
def upd (f : Nat → Value) (i : Nat) (v : Value) : Nat → Value := fun k => if k = i then v else f k
section
variable {P : Program}
def y8 (a : Act) : List Oper → Nat → (Nat → Value) → Act
 | [], _, _ => a
 | o :: r, k, f => y8 (a.put o.dst (f k)) r (k + 1) f
def a18 : List Oper → Bool
 | [] => true
 | o :: r => (match o.dst with | none => true | some d => r.all fun q => q.dst != some d) && a18 r
theorem bu3 (a : Act) (d : Option Tmp) : a.put d (match d with | some t => a.tmps.getD t undef | none => undef) = a := by
 cases d with
 | none => rfl
 | some t =>
  cases a
  rename_i ts ds
  simp only [Act.put, Act.mk.injEq, and_true]
  apply Array.ext (by simp)
  intro i h1 h2
  by_cases e : t = i
  ·subst e; simp [h2]
  ·simp only [Array.getElem_setIfInBounds_ne h2 e]
theorem bG3 (a : Act) (d : Option Tmp) (v u : Value) : (a.put d v).put d u = a.put d u := by
 cases d with
 | none => rfl
 | some t => simp [Act.put]
theorem aX2 (l : List Oper) : ∀ (a : Act) (k : Nat), ∃ f, a = y8 a l k f := by
 induction l with
 | nil => intro a k; exact ⟨fun _ => undef, rfl⟩
 | cons o r ih =>
  intro a k
  obtain ⟨f, hf⟩ := ih a (k + 1)
  refine ⟨fun i => if i = k then (match o.dst with | some t => a.tmps.getD t undef | none => undef) else f i, ?_⟩
  have key : ∀ (l : List Oper) (a : Act) (m : Nat) (f g : Nat → Value), (∀ i, m ≤ i → f i = g i) → y8 a l m f = y8 a l m g := by
   intro l
   induction l with
   | nil => intros; rfl
   | cons o r ih => intro a m f g h; simp only [y8]; rw [h m (cb1 _)]; exact ih _ _ _ _ fun i hi => h i (by omega)
  simp only [y8, if_true]
  rw [bu3, key r a (k + 1) _ f fun i hi => if_neg (by omega)]
  exact hf
theorem a75 (l : List Oper) : ∀ (a : Act) (k : Nat) (f : Nat → Value) (d : Option Tmp) (v : Value), (∀ t, d = some t → l.all fun q => q.dst != some t) → (y8 a l k f).put d v = y8 (a.put d v) l k f := by
 induction l with
 | nil => intros; rfl
 | cons o r ih =>
  intro a k f d v h
  simp only [y8]
  rw [ih _ _ _ _ _ fun t ht => (by have := h t ht; simp only [List.all_cons, cb0] at this; exact this.2)]
  congr 1
  refine (Act.put_comm a v (f k) fun t ht he => ?_).symm
  have := h t ht
  simp [he] at this
theorem a74 (l : List Oper) : ∀ (a : Act) (k i : Nat) (f : Nat → Value) (o : Oper) (v : Value), a18 l = true → l[i]? = some o → y8 a l k (upd f (k + i) v) = (y8 a l k f).put o.dst v := by
 induction l with
 | nil => intro a k i f o v _ h; simp at h
 | cons q r ih =>
  intro a k i f o v hd h
  simp only [a18, cb0] at hd
  cases i with
  | zero =>
   simp at h
   subst h
   simp only [y8, cf3]
   rw [a75 r _ _ _ _ _ fun t ht => (by have := hd.1; rw [ht] at this; exact this), bG3]
   have key : ∀ (l : List Oper) (a : Act) (m : Nat) (f g : Nat → Value), (∀ i, m ≤ i → f i = g i) → y8 a l m f = y8 a l m g := by
    intro l
    induction l with
    | nil => intros; rfl
    | cons o r ih => intro a m f g h; simp only [y8]; rw [h m (cb1 _)]; exact ih _ _ _ _ fun i hi => h i (by omega)
   rw [show upd f k v k = v by simp [upd]]
   exact key _ _ _ _ _ fun i hi => by simp only [upd]; rw [if_neg (by omega)]
  | succ i =>
   simp only [y8]
   rw [show k + (i + 1) = (k + 1) + i by omega, ih _ _ _ _ _ _ hd.2 (by simpa using h)]
   rw [show upd f (k + 1 + i) v k = f k by simp only [upd]; rw [if_neg (by omega)]]
structure ca6 (mk : (Nat → Value) → Act) (C : World → Prop) (R : Nat → Value → World → Prop) (n : Nat) (listed : Array Bool) (f : Nat → Value) (a : Act) (w : World) : Prop where
 act : a = mk f
 cls : C w
 val : ∀ i, i < n → listed.getD i false = true → R i (f i) w
def bM1 (l : List Oper) (n : Nat) : Bool :=
 match l[n]? with
 | none => false
 | some _ => decide (l.length = n + 1) && Region.sinkB .any l.toArray n && Region.chainB .any l.toArray n && aF5 l.toArray
theorem a48 {l : List Oper} {n : Nat} {Q : Exit → Act → World → Prop} (I : Array Bool → Act → World → Prop) (hn : l.toArray.size = n + 1) (hs : Region.sinkB .any l.toArray n = true) (hc : Region.chainB .any l.toArray n = true) (hb : aF5 l.toArray = true)
  (step : ∀ listed a w, I listed a w → ∀ i o, i < n → l[i]? = some o → listed.getD i true = false → (∀ e ∈ o.after, Region.binds .any e = true → listed.getD e.on false = true) →
   ∀ Q' : Exit → Act → World → Prop, (∀ a w, I (listed.setIfInBounds i true) a w → Q' .normal a w) → wpList P l.toArray Q' [o] a w)
  (last : ∀ listed a w, I listed a w → (∀ j, j < n → listed.getD j true = true) → ∀ o, l[n]? = some o → wpList P l.toArray Q [o] a w) :
  ∀ (fuel : Nat) (listed : Array Bool) (a : Act) (w : World), HeadInv .any l.toArray n listed → listed.toList.count false = fuel → I listed a w → wpAny P .any l.toArray Q fuel listed a w := by
 intro fuel
 induction fuel with
 | zero =>
  intro listed a w inv hcnt _
  have := E9 (inv.tail n (cb1 _) (by omega))
  omega
 | succ f ih =>
  intro listed a w inv hcnt hI
  refine ⟨fun h0 => absurd h0 (ak7 hb inv.size n (by omega) (inv.tail n (cb1 _) (by omega))), fun i hi => ?_⟩
  obtain ⟨h1, o, ho, h2⟩ := mem_ready.1 hi
  have ho' : l[i]? = some o := by simpa using ho
  have hcl := E9 h1
  have hisz := (Array.getElem?_eq_some_iff.1 ho).1
  rcases cc9 i n with hin | hin
  ·have hs' := step listed a w hI i o hin ho' h1 h2 (fun e a w => e = .normal ∧ I (listed.setIfInBounds i true) a w) fun a w h => ⟨rfl, h⟩
   unfold wpOp
   rw [ho]
   simp only
   unfold wpList at hs'
   split
   ·rename_i hw
    rw [if_pos hw] at hs'
    rcases hs' with hs' | ⟨_, a, w, he, _⟩
    ·exact .inl (aq6 (fun _ _ _ h => h.1) (Oper.wp_mono (fun a' w' h => ih _ a' w' (inv.set hi hin) (by omega) h.2) hs'))
    ·cases he
   ·rename_i hw
    rw [if_neg hw] at hs'
    exact ih _ _ _ (inv.set hi hin) (by omega) hs'.2
  ·obtain rfl : i = n := by omega
   have hall : ∀ j, j < i → listed.getD j true = true := fun j hj => by
    cases hl : listed.getD j true
    ·exact absurd hi (tail_waits hs hc (by omega) inv _ j rfl hj hl i (cb1 _))
    ·rfl
   have hnone : Region.ready .any l.toArray (listed.setIfInBounds i true) = [] := by
    rw [List.eq_nil_iff_forall_not_mem]
    intro j hj
    obtain ⟨hj1, oj, hoj, _⟩ := mem_ready.1 hj
    have hjs := (Array.getElem?_eq_some_iff.1 hoj).1
    by_cases hji : j = i
    ·subst hji; simp [inv.size, hn] at hj1
    ·rw [getD_set_ne true (fun e => hji e.symm), hall j (by omega)] at hj1; cases hj1
   have hl := last listed a w hI hall o ho'
   unfold wpOp
   rw [ho]
   simp only
   unfold wpList at hl
   have hfin : ∀ a' w', Q .normal a' w' → wpAny P .any l.toArray Q f (listed.setIfInBounds i true) a' w' := fun a' w' hq => by
    cases f with
    | zero => exact ⟨hnone, hq⟩
    | succ f => exact ⟨fun _ => hq, fun j hj => by rw [hnone] at hj; cases hj⟩
   split
   ·rename_i hw
    rw [if_pos hw] at hl
    exact hl.imp (Oper.wp_mono (fun a' w' h => hfin a' w' h)) id
   ·rename_i hw
    rw [if_neg hw] at hl
    exact hfin _ _ hl
end
theorem ab1 {f : Nat → Value} {i : Nat} {v : Value} (h : f i = v) : ∃ g, f = upd g i v := ⟨f, by funext k; simp only [upd]; split; rename_i e; subst e; exact h; rfl⟩
theorem Y9 {Q : Exit → Act → World → Prop} {a a' : Act} {w : World} (h : Q .normal a w) (e : a = a') : Q .normal a' w := e ▸ h
def bT6 (p : Value → World → Prop) : Prop := ∀ v w w', p v w → Below w.heap.size w w' → p v w'
def PV (L : List (Value → World → Prop)) (i : Nat) (v : Value) (w : World) : Prop := L.getD i (fun _ _ => True) v w
def bi9 : List (Value → World → Prop) → Prop
 | [] => True
 | p :: r => bT6 p ∧ bi9 r
theorem PV.stable {L : List (Value → World → Prop)} (h : bi9 L) : ∀ i v w w', PV L i v w → Below w.heap.size w w' → PV L i v w' := by
 induction L with
 | nil => intro i v w w' _ _; simp [PV]
 | cons p r ih =>
  intro i v w w' hp hb
  cases i with
  | zero => exact h.1 v w w' hp hb
  | succ i => exact ih h.2 i v w w' hp hb
def Agr (φ φ' : Nat → Prop) (w w' : World) : Prop := w.heap.size ≤ w'.heap.size ∧ ∀ b, b < w.heap.size → φ b → φ' b ∧ w'.heap[b]? = w.heap[b]?
def T4 (R : World → (Nat → Prop) → Prop) : Prop := ∀ w w' φ φ', Agr φ φ' w w' → R w φ → R w' φ'
theorem Agr.below {φ : Nat → Prop} {w w' : World} (h : Below w.heap.size w w') : Agr φ φ w w' := ⟨h.size, fun b hb hf => ⟨hf, h.block b hb⟩⟩
theorem Agr.mono {φ φ' : Nat → Prop} {w : World} (h : ∀ b, b < w.heap.size → φ b → φ' b) : Agr φ φ' w w := ⟨cb1 _, fun b hb hf => ⟨h b hb hf, rfl⟩⟩
theorem Agr.cell {φ φ' : Nat → Prop} {w w' : World} (h : Agr φ φ' w w') {b o : Nat} (hb : b < w.heap.size) (hf : φ b) : w'.cell? ⟨b, o, none⟩ = w.cell? ⟨b, o, none⟩ := by
 simp only [World.cell?, (h.2 b hb hf).2]
def l9 (w : World) (φ : Nat → Prop) (v : Value) (n sz : Nat) (xs : List Value) : Prop :=
 xs.length = n * sz ∧ ∃ a cap, v = .slice a n cap ∧ n ≤ cap ∧ cap ≤ maxLen ∧
  (0 < n → ∃ b off, a = some ⟨b, off, none⟩ ∧ b < w.heap.size ∧ φ b ∧ ∀ j u, xs[j]? = some u → w.cell? ⟨b, off + j, none⟩ = some u)
theorem l9.nice (v : Value) (n sz : Nat) (xs : List Value) : T4 fun w φ => l9 w φ v n sz xs := by
 rintro w w' φ φ' ha ⟨hl, a, cap, rfl, h1, h2, h3⟩
 refine ⟨hl, a, cap, rfl, h1, h2, fun hn => ?_⟩
 obtain ⟨b, off, rfl, hb, hf, hc⟩ := h3 hn
 exact ⟨b, off, rfl, cf1 hb ha.1, (ha.2 b hb hf).1, fun j u hj => (ha.cell hb hf).trans (hc j u hj)⟩
theorem l9.row {w : World} {φ : Nat → Prop} {v : Value} {n sz : Nat} {xs : List Value} (h : l9 w φ v n sz xs) : D3 w v n sz xs := by
 obtain ⟨hl, a, cap, rfl, h1, h2, h3⟩ := h
 refine ⟨hl, a, cap, rfl, h1, h2, fun hn => ?_⟩
 obtain ⟨b, off, rfl, hb, _, hc⟩ := h3 hn
 exact ⟨b, off, rfl, hb, hc⟩
theorem D3.rowF {w : World} {v : Value} {n sz : Nat} {xs : List Value} (h : D3 w v n sz xs) {φ : Nat → Prop} (hf : ∀ b, b < w.heap.size → φ b) : l9 w φ v n sz xs := by
 obtain ⟨hl, a, cap, rfl, h1, h2, h3⟩ := h
 refine ⟨hl, a, cap, rfl, h1, h2, fun hn => ?_⟩
 obtain ⟨b, off, rfl, hb, hc⟩ := h3 hn
 exact ⟨b, off, rfl, hb, hf b hb, hc⟩
theorem l9.nil (w : World) (φ : Nat → Prop) (sz : Nat) : l9 w φ (.slice none 0 0) 0 sz [] := ⟨by simp, none, 0, rfl, cb1 _, by unfold maxLen; omega, fun h => absurd h (by omega)⟩
theorem x6 {w : World} {lo : Nat} {e : TypeId} {sz : Nat} {v : Value} {n : Nat} {xs : List Value} (h : w.ownsRow lo e sz v n xs) {φ : Nat → Prop} (hf : ∀ g, v.ownBlock = some g → φ g) : l9 w φ v n sz xs := by
 obtain ⟨hl, a, cap, hv, h1, h2, h3⟩ := ab4 h
 refine ⟨hl, a, cap, hv, h1, h2, fun hn => ?_⟩
 obtain ⟨b, off, he, hb, hc⟩ := h3 hn
 refine ⟨b, off, he, hb, ?_, hc⟩
 rcases h.2 with ⟨hv', h0⟩ | ⟨g, cap', cur, hv', _⟩
 ·omega
 ·rw [hv'] at hv
  cases hv
  cases he
  exact hf _ (by rw [hv']; rfl)
inductive Res where
 | box (b : Nat) (cs : List Value)
 | row (e : TypeId) (sz : Nat) (v : Value) (n : Nat) (xs : List Value)
 | dat (R : World → (Nat → Prop) → Prop)
 | own (S : Nat → Prop) (R : World → Prop)
def Res.blk : Res → Nat → Prop
 | .box b _ => fun g => g = b
 | .row _ _ v _ _ => fun g => v.ownBlock = some g
 | .dat _ => fun _ => False
 | .own S _ => S
def Fr (φ : Nat → Prop) (L : List Res) (b : Nat) : Prop := φ b ∧ ∀ r ∈ L, ¬ r.blk b
def Res.holds (w : World) (φ : Nat → Prop) : Res → Prop
 | .box b cs => v9 w b cs
 | .row e sz v n xs => w.ownsRow 0 e sz v n xs
 | .dat R => T4 R ∧ R w φ
 | .own S R => (∀ w w', R w → (∀ b, S b → b < w.heap.size → w'.heap[b]? = w.heap[b]?) → R w') ∧ R w ∧ ∀ b, S b → b < w.heap.size
structure C6 (ψ : Nat → Prop) (w w' : World) : Prop where
 os : w'.os = w.os
 tape : w'.tape = w.tape
 output : w'.output = w.output
 size : w.heap.size ≤ w'.heap.size
 block : ∀ b, b < w.heap.size → ψ b → w'.heap[b]? = w.heap[b]?
theorem C6.refl (ψ : Nat → Prop) (w : World) : C6 ψ w w := ⟨rfl, rfl, rfl, cb1 _, fun _ _ _ => rfl⟩
theorem C6.trans {ψ : Nat → Prop} {a b c : World} (h : C6 ψ a b) (k : C6 ψ b c) : C6 ψ a c :=
 ⟨k.os.trans h.os, k.tape.trans h.tape, k.output.trans h.output, cd3 h.size k.size, fun i hi hp => (k.block i (cf1 hi h.size) hp).trans (h.block i hi hp)⟩
theorem C6.of_below {ψ : Nat → Prop} {w w' : World} {B : Nat} (h : Below B w w') (hB : ∀ b, b < w.heap.size → ψ b → b < B) : C6 ψ w w' := ⟨h.os, h.tape, h.output, h.size, fun b hb hp => h.block b (hB b hb hp)⟩
theorem C6.below {w w' : World} {ψ : Nat → Prop} (h : C6 ψ w w') (hp : ∀ b, b < w.heap.size → ψ b) : Below w.heap.size w w' := ⟨h.os, h.tape, h.output, h.size, fun b hb => h.block b hb (hp b hb)⟩
structure C0 (φ ψ : Nat → Prop) (w0 w : World) (L : List Res) : Prop where
 kept : C6 ψ w0 w
 fresh : ∀ b, w0.heap.size ≤ b → φ b
 holds : ∀ (r : Res), r ∈ L → r.holds w (Fr φ L)
 dis : ∀ (i j : Nat) (a b : Res) (g : Nat), L[i]? = some a → L[j]? = some b → i ≠ j → a.blk g → ¬ b.blk g
 ge : ∀ (r : Res) (b : Nat), r ∈ L → r.blk b → w0.heap.size ≤ b ∨ ¬ ψ b
section
variable {φ ψ : Nat → Prop} {w0 w w' : World} {L : List Res}
theorem C0.start (hf : ∀ b, w0.heap.size ≤ b → φ b) : C0 φ ψ w0 w0 [] := ⟨C6.refl _ _, hf, (fun _ h => by cases h), (fun i j a b g h => by simp at h), (fun _ _ h => by cases h)⟩
theorem Res.lt {r : Res} (h : r.holds w φ) {b : Nat} (hb : r.blk b) : b < w.heap.size := by
 cases r with
 | box b' cs => cases hb; exact v9.lt h
 | row e sz v n xs => exact (World.ownsRow.lt h b hb).2
 | dat R => cases hb
 | own S R => exact h.2.2 b hb
theorem C0.lt (M : C0 φ ψ w0 w L) {r : Res} (hr : r ∈ L) {b : Nat} (hb : r.blk b) : b < w.heap.size := Res.lt (M.holds r hr) hb
theorem C0.frFresh (M : C0 φ ψ w0 w L) : ∀ b, w.heap.size ≤ b → Fr φ L b := fun b hb => ⟨M.fresh b (cd3 M.kept.size hb), fun r hr he => by have := M.lt hr he; omega⟩
theorem C0.size (M : C0 φ ψ w0 w L) : w0.heap.size ≤ w.heap.size := M.kept.size
theorem C0.below (M : C0 φ ψ w0 w L) (hp : ∀ b, b < w0.heap.size → ψ b) : Below w0.heap.size w0 w := M.kept.below hp
theorem Res.keep {φ' : Nat → Prop} {r : Res} (h : r.holds w φ) (ha : Agr φ φ' w w') (hb : ∀ b, r.blk b → w'.heap[b]? = w.heap[b]?) : r.holds w' φ' := by
 cases r with
 | box b cs => obtain ⟨T, h⟩ := h; exact ⟨T, (hb b rfl).trans h⟩
 | row e sz v n xs => exact (y7.same (lo := 0) (hi := w.heap.size) ⟨h, fun g hg => (World.ownsRow.lt h g hg).2⟩ hb).1
 | dat R => exact ⟨h.1, h.1 _ _ _ _ ha h.2⟩
 | own S R => exact ⟨h.1, h.1 _ _ h.2.1 fun b hs _ => hb b hs, fun b hs => cf1 (h.2.2 b hs) ha.1⟩
theorem C0.call (M : C0 φ ψ w0 w L) (b : Below w.heap.size w w') : C0 φ ψ w0 w' L :=
 ⟨M.kept.trans (C6.of_below b fun _ h _ => h), M.fresh, fun r hr => Res.keep (M.holds r hr) (Agr.below b) fun g hg => b.block g (M.lt hr hg), M.dis, M.ge⟩
theorem C0.drew (M : C0 φ ψ w0 w L) : C0 φ ψ w0 w.drew L := M.call (Below.refl _ _).drew
theorem Fr.snoc {r : Res} {b : Nat} : Fr φ (L ++ [r]) b ↔ Fr φ L b ∧ ¬ r.blk b := by
 unfold Fr
 constructor
 ·rintro ⟨h1, h2⟩; exact ⟨⟨h1, fun x hx => h2 x (by simp [hx])⟩, h2 r (by simp)⟩
 ·rintro ⟨⟨h1, h2⟩, h3⟩
  refine ⟨h1, fun x hx => ?_⟩
  simp only [cc4, cd4] at hx
  rcases hx with hx | rfl
  ·exact h2 x hx
  ·exact h3
theorem C0.add (M : C0 φ ψ w0 w L) (b : Below w.heap.size w w') (r : Res) (h : r.holds w' (Fr φ (L ++ [r]))) (hg : ∀ g, r.blk g → w.heap.size ≤ g) : C0 φ ψ w0 w' (L ++ [r]) := by
 have M' := M.call b
 refine ⟨M'.kept, M.fresh, fun x hx => ?_, fun i j x y g hi hj hij hx hy => ?_, fun x g hx hxg => ?_⟩
 ·simp only [cc4, cd4] at hx
  rcases hx with hx | rfl
  ·exact Res.keep (M.holds x hx) ⟨b.size, fun c hc hf => ⟨Fr.snoc.2 ⟨hf, fun he => by have := hg c he; omega⟩, b.block c hc⟩⟩ fun g hgx => b.block g (M.lt hx hgx)
  ·exact h
 ·have lt : ∀ (k : Nat) (z : Res), (L ++ [r])[k]? = some z → (k < L.length ∧ L[k]? = some z) ∨ (k = L.length ∧ z = r) := by
   intro k z hz
   rcases cc9 k L.length with hk | hk
   ·rw [cd5 hk] at hz; exact .inl ⟨hk, hz⟩
   ·rw [cg0 hk] at hz
    have : k - L.length = 0 := by
     rcases Nat.eq_zero_or_pos (k - L.length) with h | h
     ·exact h
     ·rw [cd6 (by rw [List.length_singleton]; exact h)] at hz; cases hz
    rw [this] at hz; simp at hz
    exact .inr ⟨by omega, hz.symm⟩
  rcases lt i x hi with ⟨hi', h1⟩ | ⟨hi', rfl⟩ <;> rcases lt j y hj with ⟨hj', h2⟩ | ⟨hj', rfl⟩
  ·exact M.dis i j x y g h1 h2 hij hx hy
  ·have := M.lt (cc3 h1) hx; have := hg g hy; omega
  ·have := M.lt (cc3 h2) hy; have := hg g hx; omega
  ·omega
 ·simp only [cc4, cd4] at hx
  rcases hx with hx | rfl
  ·exact M.ge x g hx hxg
  ·exact .inl (cd3 M.size (hg g hxg))
theorem C0.box (M : C0 φ ψ w0 w L) (cs : List Value) (T : TypeId) : C0 φ ψ w0 (w.alloc (.cells cs.toArray T)) (L ++ [.box w.heap.size cs]) :=
 M.add ((Below.refl _ _).alloc (cb1 _) _) _ (v9.new w cs T) fun g hg => by cases hg; exact cb1 _
theorem C0.box' (M : C0 φ ψ w0 w L) (cs : List Value) (T : TypeId) {b : Nat} (hb : b = w.heap.size) : C0 φ ψ w0 (w.alloc (.cells cs.toArray T)) (L ++ [.box b cs]) := by subst hb; exact M.box cs T
theorem C0.dat (M : C0 φ ψ w0 w L) {R : World → (Nat → Prop) → Prop} (hn : T4 R) (h : R w (Fr φ L)) : C0 φ ψ w0 w (L ++ [.dat R]) :=
 M.add (Below.refl _ _) _ ⟨hn, hn _ _ _ _ (Agr.mono fun b _ hf => Fr.snoc.2 ⟨hf, fun h => by cases h⟩) h⟩ fun g hg => by cases hg
theorem C0.callD (M : C0 φ ψ w0 w L) (b : Below w.heap.size w w') {R : World → (Nat → Prop) → Prop} (hn : T4 R) (h : R w' (Fr φ L)) : C0 φ ψ w0 w' (L ++ [.dat R]) := (M.call b).dat hn h
theorem C0.callR (M : C0 φ ψ w0 w L) (b : Below w.heap.size w w') {e : TypeId} {sz : Nat} {v : Value} {n : Nat} {xs : List Value} (h : w'.ownsRow w.heap.size e sz v n xs) : C0 φ ψ w0 w' (L ++ [.row e sz v n xs]) :=
 M.add b _ (v8 h (cc7 _)) fun g hg => (h.lt g hg).1
theorem C0.nil (M : C0 φ ψ w0 w L) (e : TypeId) (sz : Nat) : C0 φ ψ w0 w (L ++ [.row e sz (.slice none 0 0) 0 []]) :=
 M.add (Below.refl _ _) _ (World.ownsRow_nil _ _ _ _) fun g hg => by cases hg
theorem Fr.set {r : Res} {i : Nat} {a : Res} (_hi : L[i]? = some a) {b : Nat} (h : Fr φ L b) (hr : ¬ r.blk b) : Fr φ (L.set i r) b :=
 ⟨h.1, fun x hx => by
  rcases List.mem_or_eq_of_mem_set hx with hx | rfl
  ·exact h.2 x hx
  ·exact hr⟩
theorem C0.put (M : C0 φ ψ w0 w L) {i : Nat} {a : Res} (hi : L[i]? = some a) (r : Res) (hk : C6 (fun b => ¬ a.blk b) w w') (h : r.holds w' (Fr φ (L.set i r))) (hg : ∀ g, r.blk g → a.blk g ∨ w.heap.size ≤ g) : C0 φ ψ w0 w' (L.set i r) := by
 have hil := (cb6.1 hi).1
 have ha := cc3 hi
 have get : ∀ (j : Nat) (z : Res), (L.set i r)[j]? = some z → (j ≠ i ∧ L[j]? = some z) ∨ (j = i ∧ z = r) := by
  intro j z hz
  by_cases e : j = i
  ·subst e; rw [List.getElem?_set_self hil] at hz; exact .inr ⟨rfl, (Option.some.inj hz).symm⟩
  ·rw [List.getElem?_set_ne (fun h => e h.symm)] at hz; exact .inl ⟨e, hz⟩
 refine ⟨⟨hk.os.trans M.kept.os, hk.tape.trans M.kept.tape, hk.output.trans M.kept.output, cd3 M.size hk.size, fun b hb hp => (hk.block b (cf1 hb M.size) fun he => ?_).trans (M.kept.block b hb hp)⟩, M.fresh, fun x hx => ?_, fun j k x y g hj hk' hjk hx hy => ?_, fun x g hx hxg => ?_⟩
 ·rcases M.ge a b ha he with h' | h'
  ·omega
  ·exact h' hp
 ·obtain ⟨j, hj⟩ := List.mem_iff_getElem?.1 hx
  rcases get j x hj with ⟨hne, hj'⟩ | ⟨_, rfl⟩
  ·refine Res.keep (M.holds x (cc3 hj')) ⟨hk.size, fun b hb hf => ⟨Fr.set hi hf fun he => ?_, hk.block b hb (hf.2 a ha)⟩⟩ fun g hgx => hk.block g (M.lt (cc3 hj') hgx) fun he => M.dis i j a x g hi hj' (fun e => hne e.symm) he hgx
   rcases hg b he with h' | h'
   ·exact hf.2 a ha h'
   ·omega
  ·exact h
 ·rcases get j x hj with ⟨hne, hj'⟩ | ⟨e1, rfl⟩ <;> rcases get k y hk' with ⟨hne', hk''⟩ | ⟨e2, rfl⟩
  ·exact M.dis j k x y g hj' hk'' hjk hx hy
  ·rcases hg g hy with h' | h'
   ·exact M.dis j i x a g hj' hi hne hx h'
   ·have := M.lt (cc3 hj') hx; omega
  ·rcases hg g hx with h' | h'
   ·exact M.dis i k a y g hi hk'' (fun e => hne' e.symm) h' hy
   ·have := M.lt (cc3 hk'') hy; omega
  ·omega
 ·obtain ⟨j, hj⟩ := List.mem_iff_getElem?.1 hx
  rcases get j x hj with ⟨hne, hj'⟩ | ⟨_, rfl⟩
  ·exact M.ge x g (cc3 hj') hxg
  ·rcases hg g hxg with h' | h'
   ·exact M.ge a g ha h'
   ·exact .inl (cd3 M.size h')
theorem C6.mono {ψ ψ' : Nat → Prop} {w w' : World} (h : C6 ψ w w') (hp : ∀ b, ψ' b → ψ b) : C6 ψ' w w' := ⟨h.os, h.tape, h.output, h.size, fun b hb hp' => h.block b hb (hp b hp')⟩
theorem C6.setCell (w : World) (b j : Nat) (u : Value) : C6 (fun c => ¬ c = b) w (w.setCell ⟨b, j, none⟩ u) :=
 ⟨rfl, rfl, rfl, by simp [World.setCell], fun c _ hc => Below.heap_setCell _ _ _ _ hc⟩
theorem C0.set (M : C0 φ ψ w0 w L) (i : Nat) {b : Nat} {cs : List Value} (hi : L[i]? = some (.box b cs)) (j : Nat) (u : Value) : C0 φ ψ w0 (w.setCell ⟨b, j, none⟩ u) (L.set i (.box b (cs.set j u))) :=
 M.put hi _ (C6.setCell w b j u) (v9.set (M.holds _ (cc3 hi)) u) fun _ hg => .inl hg
theorem C0.setFrom (us : List Value) : ∀ {w : World} {L : List Res} {p : Nat} {cs : List Value}, C0 φ ψ w0 w L → ∀ (i : Nat) {b : Nat}, L[i]? = some (.box b cs) → C0 φ ψ w0 (World.setFrom w b p us) (L.set i (.box b (Go.Proofs.YtmokkddidcmglaaGreat.setFrom cs p us))) := by
 induction us with
 | nil =>
  intro w L p cs M i b hi
  have : L.set i (.box b cs) = L := by
   apply List.ext_getElem?
   intro j
   rw [List.getElem?_set]
   split
   ·rename_i e; subst e; rw [if_pos (cb6.1 hi).1, hi]
   ·rfl
  show C0 φ ψ w0 w (L.set i (.box b cs))
  rw [this]; exact M
 | cons u r ih =>
  intro w L p cs M i b hi
  have h1 := M.set i hi p u
  have h2 := ih (p := p + 1) h1 i (by rw [List.getElem?_set_self (cb6.1 hi).1])
  rw [List.set_set] at h2
  exact h2
theorem aV9 {cs us : List Value} (h : us.length = cs.length) : Go.Proofs.YtmokkddidcmglaaGreat.setFrom cs 0 us = us := by
 have h1 := ao0 us cs 0 (by omega)
 rw [cf2, cc6 (by rw [G6]; omega)] at h1
 simpa using h1
theorem C0.fill (M : C0 φ ψ w0 w L) (i : Nat) {b : Nat} {cs : List Value} (hi : L[i]? = some (.box b cs)) (us : List Value) (h : us.length = cs.length) : C0 φ ψ w0 (World.setFrom w b 0 us) (L.set i (.box b us)) := by
 have h1 := M.setFrom us (p := 0) i hi
 rwa [aV9 h] at h1
theorem C0.rowSet (M : C0 φ ψ w0 w L) (i : Nat) {e : TypeId} {sz n cap g : Nat} {xs : List Value} (hi : L[i]? = some (.row e sz (.slice (some ⟨g, 0, none⟩) n cap) n xs)) {j : Nat} (hj : j < xs.length) (u : Value) :
  C0 φ ψ w0 (w.setCell ⟨g, j, none⟩ u) (L.set i (.row e sz (.slice (some ⟨g, 0, none⟩) n cap) n (xs.set j u))) :=
 M.put hi _ ((C6.setCell w g j u).mono fun b hb e => hb (by rw [e]; rfl)) (y7.setCell (y7.mk' (M.holds _ (cc3 hi))) hj u).1 fun _ hg => .inl hg
theorem C0.app (M : C0 φ ψ w0 w L) (i : Nat) {e : TypeId} {sz : Nat} {v v' : Value} {n n' : Nat} {xs xs' : List Value} (hi : L[i]? = some (.row e sz v n xs)) (h : w'.ownsRow 0 e sz v' n' xs') (hg : w.grownBy w' v.ownBlock) (hb : ∀ g, v'.ownBlock = some g → v.ownBlock = some g ∨ w.heap.size ≤ g) :
  C0 φ ψ w0 w' (L.set i (.row e sz v' n' xs')) :=
 M.put hi _ ⟨hg.os, hg.tape, hg.output, hg.size, fun b hb hn => hg.block b hb fun h => hn h.symm⟩ h hb
theorem C0.freeze (M : C0 φ ψ w0 w L) (i : Nat) {e : TypeId} {sz : Nat} {v : Value} {n : Nat} {xs : List Value} (hi : L[i]? = some (.row e sz v n xs)) (hs : ∀ g, v.ownBlock = some g → φ g) : C0 φ ψ w0 w (L.set i (.dat fun w φ => l9 w φ v n sz xs)) := by
 have hr := M.holds _ (cc3 hi)
 refine M.put hi _ (C6.refl _ _) ⟨l9.nice _ _ _ _, x6 hr fun g hg => ⟨hs g hg, fun x hx he => ?_⟩⟩ fun g hg => by cases hg
 obtain ⟨j, hj⟩ := List.mem_iff_getElem?.1 hx
 by_cases e : j = i
 ·subst e
  rw [List.getElem?_set_self (cb6.1 hi).1] at hj
  cases hj
  cases he
 ·rw [List.getElem?_set_ne (fun h => e h.symm)] at hj
  exact M.dis i j _ x g hi hj (fun h => e h.symm) hg he
theorem C0.o (M : C0 φ ψ w0 w L) (i : Nat) {S : Nat → Prop} {R : World → Prop} (hi : L[i]? = some (.own S R)) : R w := (M.holds _ (cc3 hi)).2.1
theorem C0.take (M : C0 φ ψ w0 w L) (k : Nat) : C0 φ ψ w0 w (L.take k) :=
 ⟨M.kept, M.fresh, fun r hr => Res.keep (M.holds r (List.mem_of_mem_take hr)) (Agr.mono fun _ _ hf => ⟨hf.1, fun x hx => hf.2 x (List.mem_of_mem_take hx)⟩) fun _ _ => rfl,
  fun i j a b g hi hj hij => M.dis i j a b g (by rw [List.getElem?_take] at hi; split at hi; exact hi; cases hi) (by rw [List.getElem?_take] at hj; split at hj; exact hj; cases hj) hij, fun r b hr => M.ge r b (List.mem_of_mem_take hr)⟩
theorem C0.sel (M : C0 φ ψ w0 w L) (is : List Nat) (L' : List Res) (h : L'.map some = is.map fun i => L[i]?) (hn : is.Nodup) : C0 φ ψ w0 w L' := by
 have hl : L'.length = is.length := by simpa using congrArg List.length h
 have get : ∀ (j : Nat) (r : Res), L'[j]? = some r → ∃ i, is[j]? = some i ∧ L[i]? = some r := by
  intro j r hj
  have h1 : (L'.map some)[j]? = some (some r) := by simp [hj]
  rw [h, List.getElem?_map] at h1
  cases hi : is[j]? with
  | none => rw [hi] at h1; cases h1
  | some i => rw [hi] at h1; exact ⟨i, rfl, Option.some.inj h1⟩
 have mem : ∀ r, r ∈ L' → r ∈ L := fun r hr => by
  obtain ⟨j, hj⟩ := List.mem_iff_getElem?.1 hr
  obtain ⟨i, _, hi⟩ := get j r hj
  exact cc3 hi
 refine ⟨M.kept, M.fresh, fun r hr => Res.keep (M.holds r (mem r hr)) (Agr.mono fun _ _ hf => ⟨hf.1, fun x hx => hf.2 x (mem x hx)⟩) fun _ _ => rfl, fun j k a b g hj hk hjk ha hb => ?_, fun r b hr => M.ge r b (mem r hr)⟩
 obtain ⟨i1, e1, h1⟩ := get j a hj
 obtain ⟨i2, e2, h2⟩ := get k b hk
 refine M.dis i1 i2 a b g h1 h2 (fun e => hjk ?_) ha hb
 subst e
 have hlt := (cb6.1 e1).1
 exact (List.getElem?_inj hlt hn).1 (e1.trans e2.symm)
theorem C0.c (M : C0 φ ψ w0 w L) (i j : Nat) {b : Nat} {cs : List Value} {u : Value} (hi : L[i]? = some (.box b cs)) (hj : cs[j]? = some u) : w.cell? ⟨b, j, none⟩ = some u :=
 (v9.cell (M.holds _ (cc3 hi)) j).trans hj
theorem C0.f (M : C0 φ ψ w0 w L) (i : Nat) {b : Nat} {cs : List Value} (hi : L[i]? = some (.box b cs)) : ∀ j, w.frozen? ⟨b, j, none⟩ = false := v9.free (M.holds _ (cc3 hi))
theorem C0.blk (M : C0 φ ψ w0 w L) (i : Nat) {b : Nat} {cs : List Value} (hi : L[i]? = some (.box b cs)) : v9 w b cs := M.holds _ (cc3 hi)
theorem C0.r (M : C0 φ ψ w0 w L) (i : Nat) {e : TypeId} {sz : Nat} {v : Value} {n : Nat} {xs : List Value} (hi : L[i]? = some (.row e sz v n xs)) : w.ownsRow 0 e sz v n xs := M.holds _ (cc3 hi)
theorem C0.d (M : C0 φ ψ w0 w L) (i : Nat) {R : World → (Nat → Prop) → Prop} (hi : L[i]? = some (.dat R)) : R w (Fr φ L) := (M.holds _ (cc3 hi)).2
theorem C0.dn (M : C0 φ ψ w0 w L) (i : Nat) {R : World → (Nat → Prop) → Prop} (hi : L[i]? = some (.dat R)) : T4 R := (M.holds _ (cc3 hi)).1
theorem C0.out (M : C0 φ ψ w0 w L) (i : Nat) {R : World → (Nat → Prop) → Prop} (hi : L[i]? = some (.dat R)) : R w φ := M.dn i hi _ _ _ _ (Agr.mono fun _ _ hf => hf.1) (M.d i hi)
theorem C0.as (M : C0 φ ψ w0 w L) (L' : List Res) (h : L = L') : C0 φ ψ w0 w L' := h ▸ M
end
end Go.Proofs.YtmokkddidcmglaaGreat

namespace Go.Proofs.YtmokkddidcmglaaGreat
inductive d9 where
 | mk (kind value : Int) (kids : List d9)
def d9.kind : d9 → Int | ⟨k, _, _⟩ => k
def d9.value : d9 → Int | ⟨_, n, _⟩ => n
def d9.kids : d9 → List d9 | ⟨_, _, ks⟩ => ks
inductive c8 where
 | mk (kind target : Int) (index value : d9) (count : Int) (body els : List c8)
def c8.kind : c8 → Int | ⟨k, _, _, _, _, _, _⟩ => k
def c8.target : c8 → Int | ⟨_, t, _, _, _, _, _⟩ => t
def c8.index : c8 → d9 | ⟨_, _, i, _, _, _, _⟩ => i
def c8.value : c8 → d9 | ⟨_, _, _, v, _, _, _⟩ => v
def c8.count : c8 → Int | ⟨_, _, _, _, c, _, _⟩ => c
def c8.body : c8 → List c8 | ⟨_, _, _, _, _, b, _⟩ => b
def c8.els : c8 → List c8 | ⟨_, _, _, _, _, _, e⟩ => e
structure j8 where
 vars : List Int
 arrays : List Int
 body : List c8
mutual
theorem d9.ind {P : d9 → Prop} (h : ∀ k n ks, (∀ e ∈ ks, P e) → P ⟨k, n, ks⟩) : ∀ e : d9, P e
 | ⟨k, n, ks⟩ => h k n ks (d9.indL h ks)
theorem d9.indL {P : d9 → Prop} (h : ∀ k n ks, (∀ e ∈ ks, P e) → P ⟨k, n, ks⟩) : ∀ ks : List d9, ∀ e ∈ ks, P e
 | [] => fun _ hm => by cases hm
 | a :: r => fun _ hm => (ce7.1 hm).elim (fun he => he ▸ d9.ind h a) fun hm => d9.indL h r _ hm
end
mutual
theorem c8.ind {P : c8 → Prop} (h : ∀ k t i v c b e, (∀ s ∈ b, P s) → (∀ s ∈ e, P s) → P ⟨k, t, i, v, c, b, e⟩) : ∀ s : c8, P s
 | ⟨k, t, i, v, c, b, e⟩ => h k t i v c b e (c8.indL h b) (c8.indL h e)
theorem c8.indL {P : c8 → Prop} (h : ∀ k t i v c b e, (∀ s ∈ b, P s) → (∀ s ∈ e, P s) → P ⟨k, t, i, v, c, b, e⟩) : ∀ ss : List c8, ∀ s ∈ ss, P s
 | [] => fun _ hm => by cases hm
 | a :: r => fun _ hm => (ce7.1 hm).elim (fun he => he ▸ c8.ind h a) fun hm => c8.indL h r _ hm
end
mutual
def T2 : d9 → Nat
 | ⟨_, _, ks⟩ => P6 ks
def P6 : List d9 → Nat
 | [] => 0
 | e :: r => 1 + T2 e + P6 r
end
mutual
def szS : c8 → Nat
 | ⟨_, _, i, v, _, b, e⟩ => T2 i + T2 v + v7 b + v7 e
def v7 : List c8 → Nat
 | [] => 0
 | s :: r => 1 + szS s + v7 r
end
def j8.size (p : j8) : Nat := p.vars.length + p.arrays.length + v7 p.body
theorem af4 (a b : List d9) : P6 (a ++ b) = P6 a + P6 b := by
 induction a with
 | nil => simp [P6]
 | cons x r ih => simp [P6, ih]; omega
theorem au6 (a b : List c8) : v7 (a ++ b) = v7 a + v7 b := by
 induction a with
 | nil => simp [v7]
 | cons x r ih => simp [v7, ih]; omega
theorem aV1 (a : List d9) : a.length ≤ P6 a := by
 induction a with
 | nil => simp
 | cons x r ih => simp only [P6, cb8]; omega
theorem an5 (a : List c8) : a.length ≤ v7 a := by
 induction a with
 | nil => simp
 | cons x r ih => simp only [v7, cb8]; omega
theorem bC9 {s : c8} {ss : List c8} (h : s ∈ ss) : szS s < v7 ss := by
 induction ss with
 | nil => cases h
 | cons x r ih =>
  simp only [v7]
  rcases ce7.1 h with rfl | h
  ·omega
  ·have := ih h; omega
mutual
def aW2 : d9 → d9 → Bool
 | ⟨k, n, ks⟩, ⟨k', n', ks'⟩ => decide (k = k') && decide (n = n') && ak9 ks ks'
def ak9 : List d9 → List d9 → Bool
 | [], [] => true
 | e :: r, e' :: r' => aW2 e e' && ak9 r r'
 | _, _ => false
end
mutual
def bs8 : c8 → c8 → Bool
 | ⟨k, t, i, v, c, b, e⟩, ⟨k', t', i', v', c', b', e'⟩ => decide (k = k') && decide (t = t') && aW2 i i' && aW2 v v' && decide (c = c') && ac8 b b' && ac8 e e'
def ac8 : List c8 → List c8 → Bool
 | [], [] => true
 | s :: r, s' :: r' => bs8 s s' && ac8 r r'
 | _, _ => false
end
mutual
theorem aA5 : ∀ (a b : d9), aW2 a b = true ↔ a = b
 | ⟨k, n, ks⟩, ⟨k', n', ks'⟩ => by
  simp only [aW2, cb0, decide_eq_true_eq, d9.mk.injEq, aJ6 ks ks', and_assoc]
theorem aJ6 : ∀ (a b : List d9), ak9 a b = true ↔ a = b
 | [], [] => by simp [ak9]
 | [], _ :: _ => by simp [ak9]
 | _ :: _, [] => by simp [ak9]
 | e :: r, e' :: r' => by simp only [ak9, cb0, List.cons.injEq, aA5 e e', aJ6 r r']
end
mutual
theorem bs7 : ∀ (a b : c8), bs8 a b = true ↔ a = b
 | ⟨k, t, i, v, c, b, e⟩, ⟨k', t', i', v', c', b', e'⟩ => by
  simp only [bs8, cb0, decide_eq_true_eq, c8.mk.injEq, aA5 i i', aA5 v v', ah3 b b', ah3 e e', and_assoc]
theorem ah3 : ∀ (a b : List c8), ac8 a b = true ↔ a = b
 | [], [] => by simp [ac8]
 | [], _ :: _ => by simp [ac8]
 | _ :: _, [] => by simp [ac8]
 | e :: r, e' :: r' => by simp only [ac8, cb0, List.cons.injEq, bs7 e e', ah3 r r']
end
def j8.same (p q : j8) : Bool := decide (p.vars = q.vars) && decide (p.arrays = q.arrays) && ac8 p.body q.body
theorem j8.same_eq {p q : j8} : p.same q = true ↔ p = q := by
 cases p; cases q
 simp only [j8.same, cb0, decide_eq_true_eq, j8.mk.injEq, ah3, and_assoc]
end Go.Proofs.YtmokkddidcmglaaGreat

namespace Go.Proofs.YtmokkddidcmglaaGreat
open Go Go.RowKit
section
mutual
def Q8 (w : World) (φ : Nat → Prop) : d9 → List Value → Prop
 | ⟨k, n, ks⟩, cs => ∃ v xs, cs = [.int .i64 k, .int .i64 n, v] ∧ l9 w φ v ks.length 3 xs ∧ z4 w φ ks xs
def z4 (w : World) (φ : Nat → Prop) : List d9 → List Value → Prop
 | [], xs => xs = []
 | e :: r, xs => ∃ c ys, xs = c ++ ys ∧ Q8 w φ e c ∧ z4 w φ r ys
end
def G8 (w : World) (φ : Nat → Prop) (v : Value) (ks : List d9) : Prop := ∃ xs, l9 w φ v ks.length 3 xs ∧ z4 w φ ks xs
def bj0 (w : World) (φ : Nat → Prop) (v : Value) (e : d9) : Prop := ∃ kv, v = .agg #[.int .i64 e.kind, .int .i64 e.value, kv] ∧ G8 w φ kv e.kids
mutual
def P2 (w : World) (φ : Nat → Prop) : c8 → List Value → Prop
 | ⟨k, t, i, v, c, b, e⟩, cs => ∃ iv vv bv ev xb xe, cs = [.int .i64 k, .int .i64 t, .int .i64 i.kind, .int .i64 i.value, iv, .int .i64 v.kind, .int .i64 v.value, vv, .int .i64 c, bv, ev] ∧
   G8 w φ iv i.kids ∧ G8 w φ vv v.kids ∧ l9 w φ bv b.length 11 xb ∧ x7 w φ b xb ∧ l9 w φ ev e.length 11 xe ∧ x7 w φ e xe
def x7 (w : World) (φ : Nat → Prop) : List c8 → List Value → Prop
 | [], xs => xs = []
 | s :: r, xs => ∃ c ys, xs = c ++ ys ∧ P2 w φ s c ∧ x7 w φ r ys
end
def H3 (w : World) (φ : Nat → Prop) (v : Value) (ss : List c8) : Prop := ∃ xs, l9 w φ v ss.length 11 xs ∧ x7 w φ ss xs
def bi8 (w : World) (φ : Nat → Prop) (v : Value) (s : c8) : Prop :=
 ∃ iv vv bv ev, v = .agg #[.int .i64 s.kind, .int .i64 s.target, .int .i64 s.index.kind, .int .i64 s.index.value, iv, .int .i64 s.value.kind, .int .i64 s.value.value, vv, .int .i64 s.count, bv, ev] ∧
  G8 w φ iv s.index.kids ∧ G8 w φ vv s.value.kids ∧ H3 w φ bv s.body ∧ H3 w φ ev s.els
def bC2 (w : World) (φ : Nat → Prop) (v : Value) (p : j8) : Prop :=
 ∃ v1 v2 v3, v = .agg #[v1, v2, v3] ∧ l9 w φ v1 p.vars.length 1 (ints p.vars) ∧ l9 w φ v2 p.arrays.length 1 (ints p.arrays) ∧ H3 w φ v3 p.body
variable {w w' : World} {φ φ' : Nat → Prop}
mutual
theorem Q8.agr (ha : Agr φ φ' w w') : ∀ (e : d9) (cs : List Value), Q8 w φ e cs → Q8 w' φ' e cs
 | ⟨_, _, ks⟩, _, ⟨v, xs, h1, h2, h3⟩ => ⟨v, xs, h1, l9.nice _ _ _ _ _ _ _ _ ha h2, z4.agr ha ks xs h3⟩
theorem z4.agr (ha : Agr φ φ' w w') : ∀ (ks : List d9) (xs : List Value), z4 w φ ks xs → z4 w' φ' ks xs
 | [], _, h => h
 | e :: r, _, ⟨c, ys, h1, h2, h3⟩ => ⟨c, ys, h1, Q8.agr ha e c h2, z4.agr ha r ys h3⟩
end
theorem z4.nice (ks : List d9) (xs : List Value) : T4 fun w φ => z4 w φ ks xs := fun _ _ _ _ ha h => z4.agr ha ks xs h
theorem G8.nice (v : Value) (ks : List d9) : T4 fun w φ => G8 w φ v ks := fun _ _ _ _ ha ⟨xs, h1, h2⟩ => ⟨xs, l9.nice _ _ _ _ _ _ _ _ ha h1, z4.agr ha ks xs h2⟩
theorem bj0.nice (v : Value) (e : d9) : T4 fun w φ => bj0 w φ v e := fun _ _ _ _ ha ⟨kv, h1, h2⟩ => ⟨kv, h1, G8.nice _ _ _ _ _ _ ha h2⟩
mutual
theorem P2.agr (ha : Agr φ φ' w w') : ∀ (s : c8) (cs : List Value), P2 w φ s cs → P2 w' φ' s cs
 | ⟨_, _, _, _, _, b, e⟩, _, ⟨iv, vv, bv, ev, xb, xe, h1, h2, h3, h4, h5, h6, h7⟩ =>
  ⟨iv, vv, bv, ev, xb, xe, h1, G8.nice _ _ _ _ _ _ ha h2, G8.nice _ _ _ _ _ _ ha h3, l9.nice _ _ _ _ _ _ _ _ ha h4, x7.agr ha b xb h5, l9.nice _ _ _ _ _ _ _ _ ha h6, x7.agr ha e xe h7⟩
theorem x7.agr (ha : Agr φ φ' w w') : ∀ (ss : List c8) (xs : List Value), x7 w φ ss xs → x7 w' φ' ss xs
 | [], _, h => h
 | s :: r, _, ⟨c, ys, h1, h2, h3⟩ => ⟨c, ys, h1, P2.agr ha s c h2, x7.agr ha r ys h3⟩
end
theorem x7.nice (ss : List c8) (xs : List Value) : T4 fun w φ => x7 w φ ss xs := fun _ _ _ _ ha h => x7.agr ha ss xs h
theorem H3.nice (v : Value) (ss : List c8) : T4 fun w φ => H3 w φ v ss := fun _ _ _ _ ha ⟨xs, h1, h2⟩ => ⟨xs, l9.nice _ _ _ _ _ _ _ _ ha h1, x7.agr ha ss xs h2⟩
theorem bi8.nice (v : Value) (s : c8) : T4 fun w φ => bi8 w φ v s := fun _ _ _ _ ha ⟨iv, vv, bv, ev, h1, h2, h3, h4, h5⟩ =>
 ⟨iv, vv, bv, ev, h1, G8.nice _ _ _ _ _ _ ha h2, G8.nice _ _ _ _ _ _ ha h3, H3.nice _ _ _ _ _ _ ha h4, H3.nice _ _ _ _ _ _ ha h5⟩
theorem bC2.nice (v : Value) (p : j8) : T4 fun w φ => bC2 w φ v p := fun _ _ _ _ ha ⟨v1, v2, v3, h1, h2, h3, h4⟩ =>
 ⟨v1, v2, v3, h1, l9.nice _ _ _ _ _ _ _ _ ha h2, l9.nice _ _ _ _ _ _ _ _ ha h3, H3.nice _ _ _ _ _ _ ha h4⟩
theorem Q8.iff (e : d9) (cs : List Value) : Q8 w φ e cs ↔ ∃ kv, cs = [.int .i64 e.kind, .int .i64 e.value, kv] ∧ G8 w φ kv e.kids := by
 cases e with
 | mk k n ks => exact ⟨fun ⟨v, xs, h1, h2, h3⟩ => ⟨v, h1, xs, h2, h3⟩, fun ⟨v, h1, xs, h2, h3⟩ => ⟨v, xs, h1, h2, h3⟩⟩
theorem P2.iff (s : c8) (cs : List Value) : P2 w φ s cs ↔ ∃ iv vv bv ev, cs = [.int .i64 s.kind, .int .i64 s.target, .int .i64 s.index.kind, .int .i64 s.index.value, iv, .int .i64 s.value.kind, .int .i64 s.value.value, vv, .int .i64 s.count, bv, ev] ∧
  G8 w φ iv s.index.kids ∧ G8 w φ vv s.value.kids ∧ H3 w φ bv s.body ∧ H3 w φ ev s.els := by
 cases s with
 | mk k t i v c b e =>
  exact ⟨fun ⟨iv, vv, bv, ev, xb, xe, h1, h2, h3, h4, h5, h6, h7⟩ => ⟨iv, vv, bv, ev, h1, h2, h3, ⟨xb, h4, h5⟩, ⟨xe, h6, h7⟩⟩,
   fun ⟨iv, vv, bv, ev, h1, h2, h3, ⟨xb, h4, h5⟩, ⟨xe, h6, h7⟩⟩ => ⟨iv, vv, bv, ev, xb, xe, h1, h2, h3, h4, h5, h6, h7⟩⟩
theorem bj0.iff {v : Value} {e : d9} : bj0 w φ v e ↔ ∃ cs : List Value, v = .agg cs.toArray ∧ Q8 w φ e cs :=
 ⟨fun ⟨kv, h1, h2⟩ => ⟨_, h1, (Q8.iff e _).2 ⟨kv, rfl, h2⟩⟩, fun ⟨cs, h1, h2⟩ => by obtain ⟨kv, rfl, h3⟩ := (Q8.iff e cs).1 h2; exact ⟨kv, h1, h3⟩⟩
theorem bi8.iff {v : Value} {s : c8} : bi8 w φ v s ↔ ∃ cs : List Value, v = .agg cs.toArray ∧ P2 w φ s cs :=
 ⟨fun ⟨iv, vv, bv, ev, h1, h2⟩ => ⟨_, h1, (P2.iff s _).2 ⟨iv, vv, bv, ev, rfl, h2⟩⟩, fun ⟨cs, h1, h2⟩ => by obtain ⟨iv, vv, bv, ev, rfl, h3⟩ := (P2.iff s cs).1 h2; exact ⟨iv, vv, bv, ev, h1, h3⟩⟩
theorem z4.len : ∀ {ks : List d9} {xs : List Value}, z4 w φ ks xs → xs.length = ks.length * 3
 | [], _, h => by rw [show _ = [] from h]; rfl
 | e :: r, _, ⟨c, ys, h1, h2, h3⟩ => by
  obtain ⟨kv, rfl, _⟩ := (Q8.iff e c).1 h2
  rw [h1, cb2, z4.len h3, cb8]; simp; omega
theorem x7.len : ∀ {ss : List c8} {xs : List Value}, x7 w φ ss xs → xs.length = ss.length * 11
 | [], _, h => by rw [show _ = [] from h]; rfl
 | s :: r, _, ⟨c, ys, h1, h2, h3⟩ => by
  obtain ⟨iv, vv, bv, ev, rfl, _⟩ := (P2.iff s c).1 h2
  rw [h1, cb2, x7.len h3, cb8]; simp; omega
theorem z4.at : ∀ {ks : List d9} {xs : List Value}, z4 w φ ks xs → ∀ (i : Nat) (hi : i < ks.length), ∃ kv, xs[i * 3]? = some (.int .i64 ks[i].kind) ∧ xs[i * 3 + 1]? = some (.int .i64 ks[i].value) ∧ xs[i * 3 + 2]? = some kv ∧ G8 w φ kv ks[i].kids
 | [], _, _, i, hi => by simp at hi
 | e :: r, _, ⟨c, ys, h1, h2, h3⟩, i, hi => by
  obtain ⟨kv, rfl, hk⟩ := (Q8.iff e c).1 h2
  subst h1
  cases i with
  | zero => exact ⟨kv, rfl, rfl, rfl, hk⟩
  | succ i =>
   obtain ⟨kv', a, b, d, f⟩ := z4.at h3 i (by simpa using hi)
   refine ⟨kv', ?_, ?_, ?_, f⟩ <;> (rw [ce3]; simpa [Nat.add_assoc] using by assumption)
theorem x7.at : ∀ {ss : List c8} {xs : List Value}, x7 w φ ss xs → ∀ (i : Nat) (hi : i < ss.length), ∃ cs : List Value, cs.length = 11 ∧ P2 w φ ss[i] cs ∧ ∀ j, j < 11 → xs[i * 11 + j]? = cs[j]?
 | [], _, _, i, hi => by simp at hi
 | s :: r, _, ⟨c, ys, h1, h2, h3⟩, i, hi => by
  have hc : c.length = 11 := by obtain ⟨iv, vv, bv, ev, rfl, _⟩ := (P2.iff s c).1 h2; rfl
  subst h1
  cases i with
  | zero => exact ⟨c, hc, h2, fun j hj => by rw [cd5 (by omega)]; simp⟩
  | succ i =>
   obtain ⟨cs, a, b, d⟩ := x7.at h3 i (by simpa using hi)
   refine ⟨cs, a, b, fun j hj => ?_⟩
   rw [cg0 (by rw [hc, ce3]; omega), ← d j hj]
   congr 1
   rw [hc, ce3]; omega
theorem z4.append : ∀ {ks : List d9} {xs : List Value} {ls : List d9} {ys : List Value}, z4 w φ ks xs → z4 w φ ls ys → z4 w φ (ks ++ ls) (xs ++ ys)
 | [], _, _, _, h, k => by rw [show _ = [] from h]; exact k
 | e :: r, _, _, _, ⟨c, zs, h1, h2, h3⟩, k => ⟨c, zs ++ _, by rw [h1, cf7], h2, z4.append h3 k⟩
theorem z4.one {e : d9} {c : List Value} (h : Q8 w φ e c) : z4 w φ [e] c := ⟨c, [], by simp, h, rfl⟩
theorem x7.append : ∀ {ks : List c8} {xs : List Value} {ls : List c8} {ys : List Value}, x7 w φ ks xs → x7 w φ ls ys → x7 w φ (ks ++ ls) (xs ++ ys)
 | [], _, _, _, h, k => by rw [show _ = [] from h]; exact k
 | e :: r, _, _, _, ⟨c, zs, h1, h2, h3⟩, k => ⟨c, zs ++ _, by rw [h1, cf7], h2, x7.append h3 k⟩
theorem x7.one {s : c8} {c : List Value} (h : P2 w φ s c) : x7 w φ [s] c := ⟨c, [], by simp, h, rfl⟩
theorem G8.open {v : Value} {ks : List d9} (h : G8 w φ v ks) : ∃ a cap, v = .slice a ks.length cap ∧ ks.length ≤ cap ∧ ks.length ≤ 9223372036854775807 ∧ cap ≤ 9223372036854775807 ∧
  ∀ i (hi : i < ks.length), ∃ b off kv, a = some ⟨b, off, none⟩ ∧ b < w.heap.size ∧ φ b ∧ w.cell? ⟨b, off + i * 3, none⟩ = some (.int .i64 ks[i].kind) ∧ w.cell? ⟨b, off + i * 3 + 1, none⟩ = some (.int .i64 ks[i].value) ∧ w.cell? ⟨b, off + i * 3 + 2, none⟩ = some kv ∧ G8 w φ kv ks[i].kids := by
 obtain ⟨xs, ⟨hl, a, cap, rfl, h1, h2, h3⟩, hx⟩ := h
 unfold maxLen at h2
 refine ⟨a, cap, rfl, h1, by omega, by omega, fun i hi => ?_⟩
 obtain ⟨b, off, rfl, hb, hf, hc⟩ := h3 (by omega)
 obtain ⟨kv, e0, e1, e2, hk⟩ := hx.at i hi
 exact ⟨b, off, kv, rfl, hb, hf, hc _ _ e0, hc _ _ e1, hc _ _ e2, hk⟩
theorem H3.open {v : Value} {ss : List c8} (h : H3 w φ v ss) : ∃ a cap, v = .slice a ss.length cap ∧ ss.length ≤ cap ∧ ss.length ≤ 9223372036854775807 ∧ cap ≤ 9223372036854775807 ∧
  ∀ i (hi : i < ss.length), ∃ b off iv vv bv ev, a = some ⟨b, off, none⟩ ∧ b < w.heap.size ∧ φ b ∧
   (w.cell? ⟨b, off + i * 11, none⟩ = some (.int .i64 ss[i].kind) ∧ w.cell? ⟨b, off + i * 11 + 1, none⟩ = some (.int .i64 ss[i].target) ∧ w.cell? ⟨b, off + i * 11 + 2, none⟩ = some (.int .i64 ss[i].index.kind) ∧ w.cell? ⟨b, off + i * 11 + 3, none⟩ = some (.int .i64 ss[i].index.value) ∧ w.cell? ⟨b, off + i * 11 + 4, none⟩ = some iv ∧
    w.cell? ⟨b, off + i * 11 + 5, none⟩ = some (.int .i64 ss[i].value.kind) ∧ w.cell? ⟨b, off + i * 11 + 6, none⟩ = some (.int .i64 ss[i].value.value) ∧ w.cell? ⟨b, off + i * 11 + 7, none⟩ = some vv ∧ w.cell? ⟨b, off + i * 11 + 8, none⟩ = some (.int .i64 ss[i].count) ∧ w.cell? ⟨b, off + i * 11 + 9, none⟩ = some bv ∧ w.cell? ⟨b, off + i * 11 + 10, none⟩ = some ev) ∧
   G8 w φ iv ss[i].index.kids ∧ G8 w φ vv ss[i].value.kids ∧ H3 w φ bv ss[i].body ∧ H3 w φ ev ss[i].els := by
 obtain ⟨xs, ⟨hl, a, cap, rfl, h1, h2, h3⟩, hx⟩ := h
 unfold maxLen at h2
 refine ⟨a, cap, rfl, h1, by omega, by omega, fun i hi => ?_⟩
 obtain ⟨b, off, rfl, hb, hf, hc⟩ := h3 (by omega)
 obtain ⟨cs, hl2, hs, hj⟩ := hx.at i hi
 obtain ⟨iv, vv, bv, ev, rfl, k1, k2, k3, k4⟩ := (P2.iff _ _).1 hs
 refine ⟨b, off, iv, vv, bv, ev, rfl, hb, hf, ⟨?_, ?_, ?_, ?_, ?_, ?_, ?_, ?_, ?_, ?_, ?_⟩, k1, k2, k3, k4⟩
 ·have := hc (i * 11 + 0) _ ((hj 0 (by omega)).trans rfl); simpa using this
 ·exact hc (i * 11 + 1) _ ((hj 1 (by omega)).trans rfl)
 ·exact hc (i * 11 + 2) _ ((hj 2 (by omega)).trans rfl)
 ·exact hc (i * 11 + 3) _ ((hj 3 (by omega)).trans rfl)
 ·exact hc (i * 11 + 4) _ ((hj 4 (by omega)).trans rfl)
 ·exact hc (i * 11 + 5) _ ((hj 5 (by omega)).trans rfl)
 ·exact hc (i * 11 + 6) _ ((hj 6 (by omega)).trans rfl)
 ·exact hc (i * 11 + 7) _ ((hj 7 (by omega)).trans rfl)
 ·exact hc (i * 11 + 8) _ ((hj 8 (by omega)).trans rfl)
 ·exact hc (i * 11 + 9) _ ((hj 9 (by omega)).trans rfl)
 ·exact hc (i * 11 + 10) _ ((hj 10 (by omega)).trans rfl)
theorem G8.nil (w : World) (φ : Nat → Prop) : G8 w φ (.slice none 0 0) [] := ⟨[], l9.nil _ _ _, rfl⟩
theorem H3.nil (w : World) (φ : Nat → Prop) : H3 w φ (.slice none 0 0) [] := ⟨[], l9.nil _ _ _, rfl⟩
end
section
mutual
def E3 (w : World) : d9 → (Nat → Prop) → List Value → Prop
 | ⟨k, n, ks⟩, S, cs => ∃ (v : Value) (xs : List Value) (S' : Nat → Prop), cs = [.int .i64 k, .int .i64 n, v] ∧ w.ownsRow 0 109 3 v ks.length xs ∧ (∀ g, v.ownBlock = some g → S g ∧ ¬ S' g) ∧ (∀ b, S' b → S b) ∧ n8 w ks S' xs
def n8 (w : World) : List d9 → (Nat → Prop) → List Value → Prop
 | [], _, xs => xs = []
 | e :: r, S, xs => ∃ (c ys : List Value) (S1 S2 : Nat → Prop), xs = c ++ ys ∧ (∀ b, S1 b → S b ∧ ¬ S2 b) ∧ (∀ b, S2 b → S b) ∧ E3 w e S1 c ∧ n8 w r S2 ys
end
def G9 (w : World) (v : Value) (ks : List d9) (S : Nat → Prop) : Prop :=
 ∃ (xs : List Value) (S' : Nat → Prop), w.ownsRow 0 109 3 v ks.length xs ∧ (∀ g, v.ownBlock = some g → S g ∧ ¬ S' g) ∧ (∀ b, S' b → S b) ∧ n8 w ks S' xs
mutual
def F5 (w : World) : c8 → (Nat → Prop) → List Value → Prop
 | ⟨k, t, i, v, c, b, e⟩, S, cs => ∃ (iv vv bv ev : Value) (xb xe : List Value) (Si Sv Sb Se Sb' Se' : Nat → Prop), cs = [.int .i64 k, .int .i64 t, .int .i64 i.kind, .int .i64 i.value, iv, .int .i64 v.kind, .int .i64 v.value, vv, .int .i64 c, bv, ev] ∧
   ((∀ b, Si b → S b ∧ ¬ Sv b ∧ ¬ Sb b ∧ ¬ Se b) ∧ (∀ b, Sv b → S b ∧ ¬ Sb b ∧ ¬ Se b) ∧ (∀ b, Sb b → S b ∧ ¬ Se b) ∧ (∀ b, Se b → S b)) ∧ G9 w iv i.kids Si ∧ G9 w vv v.kids Sv ∧
   (w.ownsRow 0 111 11 bv b.length xb ∧ (∀ g, bv.ownBlock = some g → Sb g ∧ ¬ Sb' g) ∧ (∀ b, Sb' b → Sb b) ∧ n6 w b Sb' xb) ∧
   (w.ownsRow 0 111 11 ev e.length xe ∧ (∀ g, ev.ownBlock = some g → Se g ∧ ¬ Se' g) ∧ (∀ b, Se' b → Se b) ∧ n6 w e Se' xe)
def n6 (w : World) : List c8 → (Nat → Prop) → List Value → Prop
 | [], _, xs => xs = []
 | s :: r, S, xs => ∃ (c ys : List Value) (S1 S2 : Nat → Prop), xs = c ++ ys ∧ (∀ b, S1 b → S b ∧ ¬ S2 b) ∧ (∀ b, S2 b → S b) ∧ F5 w s S1 c ∧ n6 w r S2 ys
end
def J0 (w : World) (v : Value) (ss : List c8) (S : Nat → Prop) : Prop :=
 ∃ (xs : List Value) (S' : Nat → Prop), w.ownsRow 0 111 11 v ss.length xs ∧ (∀ g, v.ownBlock = some g → S g ∧ ¬ S' g) ∧ (∀ b, S' b → S b) ∧ n6 w ss S' xs
def av9 (w : World) (v : Value) (p : j8) (S : Nat → Prop) : Prop :=
 ∃ (v1 v2 v3 : Value) (S3 : Nat → Prop), v = .agg #[v1, v2, v3] ∧ w.ownsRow 0 3 1 v1 p.vars.length (ints p.vars) ∧ w.ownsRow 0 3 1 v2 p.arrays.length (ints p.arrays) ∧ J0 w v3 p.body S3 ∧
  (∀ g, v1.ownBlock = some g → S g ∧ ¬ S3 g ∧ v2.ownBlock ≠ some g) ∧ (∀ g, v2.ownBlock = some g → S g ∧ ¬ S3 g) ∧ (∀ b, S3 b → S b)
variable {w w' : World} {S S' φ : Nat → Prop}
theorem G0 {e : TypeId} {sz : Nat} {v : Value} {n : Nat} {xs : List Value} (h : w.ownsRow 0 e sz v n xs) (hs : ∀ g, v.ownBlock = some g → w'.heap[g]? = w.heap[g]?) : w'.ownsRow 0 e sz v n xs :=
 (y7.same (y7.mk' h) hs).1
mutual
theorem E3.same : ∀ (e : d9) (S : Nat → Prop) (cs : List Value), E3 w e S cs → (∀ b, S b → b < w.heap.size → w'.heap[b]? = w.heap[b]?) → E3 w' e S cs
 | ⟨_, _, ks⟩, S, _, ⟨v, xs, S', h1, h2, h3, h4, h5⟩, hs => ⟨v, xs, S', h1, G0 h2 fun g hg => hs g (h3 g hg).1 (World.ownsRow.lt h2 g hg).2, h3, h4, n8.same ks S' xs h5 fun b hb => hs b (h4 b hb)⟩
theorem n8.same : ∀ (ks : List d9) (S : Nat → Prop) (xs : List Value), n8 w ks S xs → (∀ b, S b → b < w.heap.size → w'.heap[b]? = w.heap[b]?) → n8 w' ks S xs
 | [], _, _, h, _ => h
 | e :: r, S, _, ⟨c, ys, S1, S2, h1, h2, h3, h4, h5⟩, hs => ⟨c, ys, S1, S2, h1, h2, h3, E3.same e S1 c h4 fun b hb => hs b (h2 b hb).1, n8.same r S2 ys h5 fun b hb => hs b (h3 b hb)⟩
end
theorem G9.same {v : Value} {ks : List d9} (h : G9 w v ks S) (hs : ∀ b, S b → b < w.heap.size → w'.heap[b]? = w.heap[b]?) : G9 w' v ks S := by
 obtain ⟨xs, S', h2, h3, h4, h5⟩ := h
 exact ⟨xs, S', G0 h2 fun g hg => hs g (h3 g hg).1 (World.ownsRow.lt h2 g hg).2, h3, h4, n8.same ks S' xs h5 fun b hb => hs b (h4 b hb)⟩
mutual
theorem F5.same : ∀ (s : c8) (S : Nat → Prop) (cs : List Value), F5 w s S cs → (∀ b, S b → b < w.heap.size → w'.heap[b]? = w.heap[b]?) → F5 w' s S cs
 | ⟨_, _, _, _, _, b, e⟩, S, _, ⟨iv, vv, bv, ev, xb, xe, Si, Sv, Sb, Se, Sb', Se', h1, ⟨d1, d2, d3, d4⟩, h2, h3, ⟨b1, b2, b3, b4⟩, ⟨e1, e2, e3, e4⟩⟩, hs =>
  ⟨iv, vv, bv, ev, xb, xe, Si, Sv, Sb, Se, Sb', Se', h1, ⟨d1, d2, d3, d4⟩, h2.same fun b hb => hs b (d1 b hb).1, h3.same fun b hb => hs b (d2 b hb).1,
   ⟨G0 b1 fun g hg => hs g (d3 g (b2 g hg).1).1 (World.ownsRow.lt b1 g hg).2, b2, b3, n6.same b Sb' xb b4 fun x hx => hs x (d3 x (b3 x hx)).1⟩,
   ⟨G0 e1 fun g hg => hs g (d4 g (e2 g hg).1) (World.ownsRow.lt e1 g hg).2, e2, e3, n6.same e Se' xe e4 fun x hx => hs x (d4 x (e3 x hx))⟩⟩
theorem n6.same : ∀ (ss : List c8) (S : Nat → Prop) (xs : List Value), n6 w ss S xs → (∀ b, S b → b < w.heap.size → w'.heap[b]? = w.heap[b]?) → n6 w' ss S xs
 | [], _, _, h, _ => h
 | s :: r, S, _, ⟨c, ys, S1, S2, h1, h2, h3, h4, h5⟩, hs => ⟨c, ys, S1, S2, h1, h2, h3, F5.same s S1 c h4 fun b hb => hs b (h2 b hb).1, n6.same r S2 ys h5 fun b hb => hs b (h3 b hb)⟩
end
theorem J0.same {v : Value} {ss : List c8} (h : J0 w v ss S) (hs : ∀ b, S b → b < w.heap.size → w'.heap[b]? = w.heap[b]?) : J0 w' v ss S := by
 obtain ⟨xs, S', h2, h3, h4, h5⟩ := h
 exact ⟨xs, S', G0 h2 fun g hg => hs g (h3 g hg).1 (World.ownsRow.lt h2 g hg).2, h3, h4, n6.same ss S' xs h5 fun b hb => hs b (h4 b hb)⟩
theorem av9.same {v : Value} {p : j8} (h : av9 w v p S) (hs : ∀ b, S b → b < w.heap.size → w'.heap[b]? = w.heap[b]?) : av9 w' v p S := by
 obtain ⟨v1, v2, v3, S3, rfl, h1, h2, h3, d1, d2, d3⟩ := h
 exact ⟨v1, v2, v3, S3, rfl, G0 h1 fun g hg => hs g (d1 g hg).1 (World.ownsRow.lt h1 g hg).2, G0 h2 fun g hg => hs g (d2 g hg).1 (World.ownsRow.lt h2 g hg).2, h3.same fun b hb => hs b (d3 b hb), d1, d2, d3⟩
theorem G9.mono {v : Value} {ks : List d9} (h : G9 w v ks S) (hs : ∀ b, S b → S' b) : G9 w v ks S' := by
 obtain ⟨xs, T, h2, h3, h4, h5⟩ := h
 exact ⟨xs, T, h2, fun g hg => ⟨hs g (h3 g hg).1, (h3 g hg).2⟩, fun b hb => hs b (h4 b hb), h5⟩
theorem J0.mono {v : Value} {ss : List c8} (h : J0 w v ss S) (hs : ∀ b, S b → S' b) : J0 w v ss S' := by
 obtain ⟨xs, T, h2, h3, h4, h5⟩ := h
 exact ⟨xs, T, h2, fun g hg => ⟨hs g (h3 g hg).1, (h3 g hg).2⟩, fun b hb => hs b (h4 b hb), h5⟩
theorem av9.mono {v : Value} {p : j8} (h : av9 w v p S) (hs : ∀ b, S b → S' b) : av9 w v p S' := by
 obtain ⟨v1, v2, v3, S3, rfl, h1, h2, h3, d1, d2, d3⟩ := h
 exact ⟨v1, v2, v3, S3, rfl, h1, h2, h3, fun g hg => ⟨hs g (d1 g hg).1, (d1 g hg).2⟩, fun g hg => ⟨hs g (d2 g hg).1, (d2 g hg).2⟩, fun b hb => hs b (d3 b hb)⟩
mutual
theorem E3.read : ∀ (e : d9) (S : Nat → Prop) (cs : List Value), E3 w e S cs → (∀ b, S b → φ b) → Q8 w φ e cs
 | ⟨_, _, ks⟩, S, _, ⟨v, xs, S', h1, h2, h3, h4, h5⟩, hs => ⟨v, xs, h1, x6 h2 fun g hg => hs g (h3 g hg).1, n8.read ks S' xs h5 fun b hb => hs b (h4 b hb)⟩
theorem n8.read : ∀ (ks : List d9) (S : Nat → Prop) (xs : List Value), n8 w ks S xs → (∀ b, S b → φ b) → z4 w φ ks xs
 | [], _, _, h, _ => h
 | e :: r, S, _, ⟨c, ys, S1, S2, h1, h2, h3, h4, h5⟩, hs => ⟨c, ys, h1, E3.read e S1 c h4 fun b hb => hs b (h2 b hb).1, n8.read r S2 ys h5 fun b hb => hs b (h3 b hb)⟩
end
theorem G9.read {v : Value} {ks : List d9} (h : G9 w v ks S) (hs : ∀ b, S b → φ b) : G8 w φ v ks := by
 obtain ⟨xs, T, h2, h3, h4, h5⟩ := h
 exact ⟨xs, x6 h2 fun g hg => hs g (h3 g hg).1, n8.read ks T xs h5 fun b hb => hs b (h4 b hb)⟩
mutual
theorem F5.read : ∀ (s : c8) (S : Nat → Prop) (cs : List Value), F5 w s S cs → (∀ b, S b → φ b) → P2 w φ s cs
 | ⟨_, _, _, _, _, b, e⟩, S, _, ⟨iv, vv, bv, ev, xb, xe, Si, Sv, Sb, Se, Sb', Se', h1, ⟨d1, d2, d3, d4⟩, h2, h3, ⟨b1, b2, b3, b4⟩, ⟨e1, e2, e3, e4⟩⟩, hs =>
  ⟨iv, vv, bv, ev, xb, xe, h1, h2.read fun b hb => hs b (d1 b hb).1, h3.read fun b hb => hs b (d2 b hb).1,
   x6 b1 fun g hg => hs g (d3 g (b2 g hg).1).1, n6.read b Sb' xb b4 fun x hx => hs x (d3 x (b3 x hx)).1,
   x6 e1 fun g hg => hs g (d4 g (e2 g hg).1), n6.read e Se' xe e4 fun x hx => hs x (d4 x (e3 x hx))⟩
theorem n6.read : ∀ (ss : List c8) (S : Nat → Prop) (xs : List Value), n6 w ss S xs → (∀ b, S b → φ b) → x7 w φ ss xs
 | [], _, _, h, _ => h
 | s :: r, S, _, ⟨c, ys, S1, S2, h1, h2, h3, h4, h5⟩, hs => ⟨c, ys, h1, F5.read s S1 c h4 fun b hb => hs b (h2 b hb).1, n6.read r S2 ys h5 fun b hb => hs b (h3 b hb)⟩
end
theorem J0.read {v : Value} {ss : List c8} (h : J0 w v ss S) (hs : ∀ b, S b → φ b) : H3 w φ v ss := by
 obtain ⟨xs, T, h2, h3, h4, h5⟩ := h
 exact ⟨xs, x6 h2 fun g hg => hs g (h3 g hg).1, n6.read ss T xs h5 fun b hb => hs b (h4 b hb)⟩
theorem av9.read {v : Value} {p : j8} (h : av9 w v p S) (hs : ∀ b, S b → φ b) : bC2 w φ v p := by
 obtain ⟨v1, v2, v3, S3, rfl, h1, h2, h3, d1, d2, d3⟩ := h
 exact ⟨v1, v2, v3, rfl, x6 h1 fun g hg => hs g (d1 g hg).1, x6 h2 fun g hg => hs g (d2 g hg).1, h3.read fun b hb => hs b (d3 b hb)⟩
def b36 (R : World → (Nat → Prop) → Prop) (S : Nat → Prop) : World → (Nat → Prop) → Prop := fun w φ => R w S ∧ ∀ b, S b → b < w.heap.size ∧ φ b
theorem b36.nice {R : World → (Nat → Prop) → Prop} (S : Nat → Prop) (hR : ∀ w w' : World, R w S → (∀ b, S b → b < w.heap.size → w'.heap[b]? = w.heap[b]?) → R w' S) : T4 (b36 R S) :=
 fun w w' _ _ ha ⟨h1, h2⟩ => ⟨hR w w' h1 fun b hb hlt => (ha.2 b hlt (h2 b hb).2).2, fun b hb => ⟨cf1 (h2 b hb).1 ha.1, (ha.2 b (h2 b hb).1 (h2 b hb).2).1⟩⟩
theorem n8.mono : ∀ {ks : List d9} {S S' : Nat → Prop} {xs : List Value}, n8 w ks S xs → (∀ b, S b → S' b) → n8 w ks S' xs
 | [], _, _, _, h, _ => h
 | _ :: _, _, _, _, ⟨c, ys, S1, S2, h1, h2, h3, h4, h5⟩, hs => ⟨c, ys, S1, S2, h1, fun b hb => ⟨hs b (h2 b hb).1, (h2 b hb).2⟩, fun b hb => hs b (h3 b hb), h4, h5⟩
theorem n6.mono : ∀ {ks : List c8} {S S' : Nat → Prop} {xs : List Value}, n6 w ks S xs → (∀ b, S b → S' b) → n6 w ks S' xs
 | [], _, _, _, h, _ => h
 | _ :: _, _, _, _, ⟨c, ys, S1, S2, h1, h2, h3, h4, h5⟩, hs => ⟨c, ys, S1, S2, h1, fun b hb => ⟨hs b (h2 b hb).1, (h2 b hb).2⟩, fun b hb => hs b (h3 b hb), h4, h5⟩
theorem n8.snoc : ∀ {ks : List d9} {S S' T : Nat → Prop} {xs c : List Value} {e : d9}, n8 w ks S xs → E3 w e T c → (∀ b, S b → S' b ∧ ¬ T b) → (∀ b, T b → S' b) → n8 w (ks ++ [e]) S' (xs ++ c)
 | [], S, S', T, xs, c, e, h, k, d, f => by
  rw [show xs = [] from h]
  exact ⟨c, [], T, fun _ => False, by simp, fun b hb => ⟨f b hb, fun h => h⟩, fun b hb => hb.elim, k, rfl⟩
 | a :: r, S, S', T, _, c, e, ⟨x, ys, S1, S2, h1, h2, h3, h4, h5⟩, k, d, f =>
  ⟨x, ys ++ c, S1, fun b => S2 b ∨ T b, by rw [h1, cf7], fun b hb => ⟨(d b (h2 b hb).1).1, fun h => h.elim (h2 b hb).2 (d b (h2 b hb).1).2⟩, fun b hb => hb.elim (fun h => (d b (h3 b h)).1) (f b), h4,
   n8.snoc h5 k (fun b hb => ⟨.inl hb, (d b (h3 b hb)).2⟩) fun b hb => .inr hb⟩
theorem n6.snoc : ∀ {ks : List c8} {S S' T : Nat → Prop} {xs c : List Value} {e : c8}, n6 w ks S xs → F5 w e T c → (∀ b, S b → S' b ∧ ¬ T b) → (∀ b, T b → S' b) → n6 w (ks ++ [e]) S' (xs ++ c)
 | [], S, S', T, xs, c, e, h, k, d, f => by
  rw [show xs = [] from h]
  exact ⟨c, [], T, fun _ => False, by simp, fun b hb => ⟨f b hb, fun h => h⟩, fun b hb => hb.elim, k, rfl⟩
 | a :: r, S, S', T, _, c, e, ⟨x, ys, S1, S2, h1, h2, h3, h4, h5⟩, k, d, f =>
  ⟨x, ys ++ c, S1, fun b => S2 b ∨ T b, by rw [h1, cf7], fun b hb => ⟨(d b (h2 b hb).1).1, fun h => h.elim (h2 b hb).2 (d b (h2 b hb).1).2⟩, fun b hb => hb.elim (fun h => (d b (h3 b h)).1) (f b), h4,
   n6.snoc h5 k (fun b hb => ⟨.inl hb, (d b (h3 b hb)).2⟩) fun b hb => .inr hb⟩
theorem E3.iff (e : d9) (S : Nat → Prop) (cs : List Value) : E3 w e S cs ↔ ∃ kv, cs = [.int .i64 e.kind, .int .i64 e.value, kv] ∧ G9 w kv e.kids S := by
 cases e with
 | mk k n ks => exact ⟨fun ⟨v, xs, T, h1, h2⟩ => ⟨v, h1, xs, T, h2⟩, fun ⟨v, h1, xs, T, h2⟩ => ⟨v, xs, T, h1, h2⟩⟩
theorem F5.iff (s : c8) (S : Nat → Prop) (cs : List Value) : F5 w s S cs ↔ ∃ (iv vv bv ev : Value) (Si Sv Sb Se : Nat → Prop), cs = [.int .i64 s.kind, .int .i64 s.target, .int .i64 s.index.kind, .int .i64 s.index.value, iv, .int .i64 s.value.kind, .int .i64 s.value.value, vv, .int .i64 s.count, bv, ev] ∧
  ((∀ b, Si b → S b ∧ ¬ Sv b ∧ ¬ Sb b ∧ ¬ Se b) ∧ (∀ b, Sv b → S b ∧ ¬ Sb b ∧ ¬ Se b) ∧ (∀ b, Sb b → S b ∧ ¬ Se b) ∧ (∀ b, Se b → S b)) ∧ G9 w iv s.index.kids Si ∧ G9 w vv s.value.kids Sv ∧ J0 w bv s.body Sb ∧ J0 w ev s.els Se := by
 cases s with
 | mk k t i v c b e =>
  exact ⟨fun ⟨iv, vv, bv, ev, xb, xe, Si, Sv, Sb, Se, Sb', Se', h1, h2, h3, h4, h5, h6⟩ => ⟨iv, vv, bv, ev, Si, Sv, Sb, Se, h1, h2, h3, h4, ⟨xb, Sb', h5⟩, ⟨xe, Se', h6⟩⟩,
   fun ⟨iv, vv, bv, ev, Si, Sv, Sb, Se, h1, h2, h3, h4, ⟨xb, Sb', h5⟩, ⟨xe, Se', h6⟩⟩ => ⟨iv, vv, bv, ev, xb, xe, Si, Sv, Sb, Se, Sb', Se', h1, h2, h3, h4, h5, h6⟩⟩
end
theorem S5 (us : List Value) : ∀ (c ys : List Value) (p : Nat), c.length ≤ p → setFrom (c ++ ys) p us = c ++ setFrom ys (p - c.length) us := by
 induction us with
 | nil => intro c ys p _; rfl
 | cons u r ih =>
  intro c ys p hp
  simp only [setFrom]
  rw [List.set_append_right _ _ hp, ih _ _ _ (by omega), show p + 1 - c.length = p - c.length + 1 by omega]
theorem U1 (us : List Value) : ∀ (c ys : List Value) (p : Nat), p + us.length ≤ c.length → setFrom (c ++ ys) p us = setFrom c p us ++ ys := by
 induction us with
 | nil => intro c ys p _; rfl
 | cons u r ih =>
  intro c ys p hp
  simp only [cb8] at hp
  simp only [setFrom]
  rw [List.set_append_left _ _ (by omega), ih _ _ _ (by simp; omega)]
theorem aj9 {c us : List Value} (h : us.length = c.length) : setFrom c 0 us = us := by
 have h1 := ao0 us c 0 (by omega)
 rw [cf2, cc6 (by rw [G6]; omega)] at h1
 simpa using h1
theorem E3.len {w : World} {e : d9} {S : Nat → Prop} {c : List Value} (h : E3 w e S c) : c.length = 3 := by
 obtain ⟨kv, rfl, _⟩ := (E3.iff e S c).1 h; rfl
theorem F5.len {w : World} {s : c8} {S : Nat → Prop} {c : List Value} (h : F5 w s S c) : c.length = 11 := by
 obtain ⟨_, _, _, _, _, _, _, _, rfl, _⟩ := (F5.iff s S c).1 h; rfl
theorem n8.focus {w : World} : ∀ {ls : List d9} {S : Nat → Prop} {xs : List Value}, n8 w ls S xs → ∀ (i : Nat) (hi : i < ls.length), ∃ (c : List Value) (Sc : Nat → Prop), E3 w ls[i] Sc c ∧ (∀ b, Sc b → S b) ∧ (∀ j, j < 3 → xs[i * 3 + j]? = c[j]?) ∧
  ∀ (w' : World) (e' : d9) (c' : List Value), (∀ b, S b → ¬ Sc b → b < w.heap.size → w'.heap[b]? = w.heap[b]?) → E3 w' e' Sc c' → n8 w' (ls.set i e') S (setFrom xs (i * 3) c')
 | [], _, _, _, i, hi => by simp at hi
 | e :: r, S, xs, ⟨c, ys, S1, S2, h1, h2, h3, h4, h5⟩, i, hi => by
  have hc := h4.len
  subst h1
  cases i with
  | zero =>
   refine ⟨c, S1, h4, fun b hb => (h2 b hb).1, fun j hj => by rw [cd5 (by omega)]; simp, fun w' e' c' hs hO => ?_⟩
   refine ⟨c', ys, S1, S2, ?_, h2, h3, hO, n8.same r S2 ys h5 fun b hb hlt => hs b (h3 b hb) (fun h => (h2 b h).2 hb) hlt⟩
   rw [Nat.zero_mul, U1 c' c ys 0 (by rw [hO.len]; omega), aj9 (by rw [hO.len, hc])]
  | succ i =>
   obtain ⟨d, Sc, k1, k2, k3, k4⟩ := n8.focus h5 i (by simpa using hi)
   refine ⟨d, Sc, k1, fun b hb => h3 b (k2 b hb), fun j hj => ?_, fun w' e' c' hs hO => ?_⟩
   ·rw [cg0 (by rw [hc, ce3]; omega), ← k3 j hj]
    congr 1
    rw [hc, ce3]; omega
   ·refine ⟨c, setFrom ys (i * 3) c', S1, S2, ?_, h2, h3, E3.same e S1 c h4 fun b hb hlt => hs b (h2 b hb).1 (fun h => (h2 b hb).2 (k2 b h)) hlt, k4 w' e' c' (fun b hb hn hlt => hs b (h3 b hb) hn hlt) hO⟩
    rw [S5 c' c ys _ (by rw [hc, ce3]; omega), hc, ce3, Nat.add_sub_cancel]
theorem n6.focus {w : World} : ∀ {ls : List c8} {S : Nat → Prop} {xs : List Value}, n6 w ls S xs → ∀ (i : Nat) (hi : i < ls.length), ∃ (c : List Value) (Sc : Nat → Prop), F5 w ls[i] Sc c ∧ (∀ b, Sc b → S b) ∧ (∀ j, j < 11 → xs[i * 11 + j]? = c[j]?) ∧
  ∀ (w' : World) (e' : c8) (c' : List Value), (∀ b, S b → ¬ Sc b → b < w.heap.size → w'.heap[b]? = w.heap[b]?) → F5 w' e' Sc c' → n6 w' (ls.set i e') S (setFrom xs (i * 11) c')
 | [], _, _, _, i, hi => by simp at hi
 | e :: r, S, xs, ⟨c, ys, S1, S2, h1, h2, h3, h4, h5⟩, i, hi => by
  have hc := h4.len
  subst h1
  cases i with
  | zero =>
   refine ⟨c, S1, h4, fun b hb => (h2 b hb).1, fun j hj => by rw [cd5 (by omega)]; simp, fun w' e' c' hs hO => ?_⟩
   refine ⟨c', ys, S1, S2, ?_, h2, h3, hO, n6.same r S2 ys h5 fun b hb hlt => hs b (h3 b hb) (fun h => (h2 b h).2 hb) hlt⟩
   rw [Nat.zero_mul, U1 c' c ys 0 (by rw [hO.len]; omega), aj9 (by rw [hO.len, hc])]
  | succ i =>
   obtain ⟨d, Sc, k1, k2, k3, k4⟩ := n6.focus h5 i (by simpa using hi)
   refine ⟨d, Sc, k1, fun b hb => h3 b (k2 b hb), fun j hj => ?_, fun w' e' c' hs hO => ?_⟩
   ·rw [cg0 (by rw [hc, ce3]; omega), ← k3 j hj]
    congr 1
    rw [hc, ce3]; omega
   ·refine ⟨c, setFrom ys (i * 11) c', S1, S2, ?_, h2, h3, F5.same e S1 c h4 fun b hb hlt => hs b (h2 b hb).1 (fun h => (h2 b hb).2 (k2 b h)) hlt, k4 w' e' c' (fun b hb hn hlt => hs b (h3 b hb) hn hlt) hO⟩
    rw [S5 c' c ys _ (by rw [hc, ce3]; omega), hc, ce3, Nat.add_sub_cancel]
section
variable {φ ψ : Nat → Prop} {w0 w w' : World} {L : List Res}
theorem n8.at : ∀ {ks : List d9} {S : Nat → Prop} {xs : List Value}, n8 w ks S xs → ∀ (i : Nat) (hi : i < ks.length), ∃ kv, xs[i * 3]? = some (.int .i64 ks[i].kind) ∧ xs[i * 3 + 1]? = some (.int .i64 ks[i].value) ∧ xs[i * 3 + 2]? = some kv ∧ G9 w kv ks[i].kids S
 | [], _, _, _, i, hi => by simp at hi
 | e :: r, S, _, ⟨c, ys, S1, S2, h1, h2, h3, h4, h5⟩, i, hi => by
  obtain ⟨kv, rfl, hk⟩ := (E3.iff e S1 c).1 h4
  subst h1
  cases i with
  | zero => exact ⟨kv, rfl, rfl, rfl, hk.mono fun b hb => (h2 b hb).1⟩
  | succ i =>
   obtain ⟨kv', a, b, d, f⟩ := n8.at h5 i (by simpa using hi)
   refine ⟨kv', ?_, ?_, ?_, f.mono h3⟩ <;> (rw [ce3]; simpa [Nat.add_assoc] using by assumption)
theorem G9.open {v : Value} {ks : List d9} {S : Nat → Prop} (h : G9 w v ks S) : ∃ a cap, v = .slice a ks.length cap ∧ ks.length ≤ cap ∧ ks.length ≤ 9223372036854775807 ∧ cap ≤ 9223372036854775807 ∧
  ∀ i (hi : i < ks.length), ∃ b off kv, a = some ⟨b, off, none⟩ ∧ b < w.heap.size ∧ S b ∧ w.cell? ⟨b, off + i * 3, none⟩ = some (.int .i64 ks[i].kind) ∧ w.cell? ⟨b, off + i * 3 + 1, none⟩ = some (.int .i64 ks[i].value) ∧ w.cell? ⟨b, off + i * 3 + 2, none⟩ = some kv ∧ G9 w kv ks[i].kids S := by
 obtain ⟨xs, S', h2, h3, h4, h5⟩ := h
 obtain ⟨hl, a, cap, hv, n1, n2, n3⟩ := x6 (φ := fun g => S g ∧ ¬ S' g) h2 h3
 unfold maxLen at n2
 refine ⟨a, cap, hv, n1, by omega, by omega, fun i hi => ?_⟩
 obtain ⟨b, off, he, hb, hf, hc⟩ := n3 (by omega)
 obtain ⟨kv, e0, e1, e2, hk⟩ := h5.at i hi
 exact ⟨b, off, kv, he, hb, hf.1, hc _ _ e0, hc _ _ e1, hc _ _ e2, hk.mono h4⟩
theorem G9.nil (w : World) (S : Nat → Prop) : G9 w (.slice none 0 0) [] S := ⟨[], fun _ => False, World.ownsRow_nil _ _ _ _, (fun g hg => by cases hg), fun _ h => h.elim, rfl⟩
end
theorem af7 (us : List Value) : ∀ (ys : List Value) (p q : Nat), p + us.length ≤ ys.length → (setFrom ys p us)[q]? = if p ≤ q ∧ q < p + us.length then us[q - p]? else ys[q]? := by
 induction us with
 | nil => intro ys p q _; simp only [setFrom, cc1]; split; omega; rfl
 | cons u r ih =>
  intro ys p q h
  simp only [cb8] at h
  simp only [setFrom, cb8]
  rw [ih _ _ _ (by simp; omega)]
  by_cases h1 : q = p
  ·subst h1
   rw [if_neg (by omega), if_pos (by omega), List.getElem?_set_self (by omega), Nat.sub_self]; rfl
  ·by_cases h2 : p + 1 ≤ q ∧ q < p + 1 + r.length
   ·rw [if_pos h2, if_pos (by omega), show q - p = q - (p + 1) + 1 by omega]; rfl
   ·rw [if_neg h2, if_neg (by omega), List.getElem?_set_ne (by omega)]
theorem ao1 {xs cs : List Value} {p : Nat} (h : p + cs.length ≤ xs.length) (hc : ∀ j, j < cs.length → xs[p + j]? = cs[j]?) : setFrom xs p cs = xs := by
 apply List.ext_getElem?
 intro q
 rw [af7 _ _ _ _ h]
 split
 ·rename_i h1
  rw [← hc _ (by omega)]; congr 1; omega
 ·rfl
theorem au8 {xs cs : List Value} {p k : Nat} (u : Value) (h : p + cs.length ≤ xs.length) (hk : k < cs.length) : (setFrom xs p cs).set (p + k) u = setFrom xs p (cs.set k u) := by
 apply List.ext_getElem?
 intro q
 rw [af7 _ _ _ _ (by simpa using h), List.getElem?_set, af7 _ _ _ _ h, G6, cd2]
 by_cases h1 : p + k = q
 ·subst h1
  rw [if_pos rfl, if_pos (by omega), if_pos (by omega), Nat.add_sub_cancel_left, List.getElem?_set_self hk]
 ·rw [if_neg h1]
  split
  ·rw [List.getElem?_set_ne (by omega)]
  ·rfl
section
variable {w : World}
mutual
theorem E3.cut : ∀ (e : d9) (S : Nat → Prop) (cs : List Value), E3 w e S cs → E3 w e (fun b => S b ∧ b < w.heap.size) cs
 | ⟨_, _, ks⟩, _, _, ⟨v, xs, S', h1, h2, h3, h4, h5⟩ => ⟨v, xs, fun b => S' b ∧ b < w.heap.size, h1, h2, fun g hg => ⟨⟨(h3 g hg).1, (World.ownsRow.lt h2 g hg).2⟩, fun h => (h3 g hg).2 h.1⟩, fun b hb => ⟨h4 b hb.1, hb.2⟩, n8.cut ks S' xs h5⟩
theorem n8.cut : ∀ (ks : List d9) (S : Nat → Prop) (xs : List Value), n8 w ks S xs → n8 w ks (fun b => S b ∧ b < w.heap.size) xs
 | [], _, _, h => h
 | e :: r, _, _, ⟨c, ys, S1, S2, h1, h2, h3, h4, h5⟩ => ⟨c, ys, fun b => S1 b ∧ b < w.heap.size, fun b => S2 b ∧ b < w.heap.size, h1, fun b hb => ⟨⟨(h2 b hb.1).1, hb.2⟩, fun h => (h2 b hb.1).2 h.1⟩, fun b hb => ⟨h3 b hb.1, hb.2⟩, E3.cut e S1 c h4, n8.cut r S2 ys h5⟩
end
theorem G9.cut {v : Value} {ks : List d9} {S : Nat → Prop} (h : G9 w v ks S) : G9 w v ks (fun b => S b ∧ b < w.heap.size) := by
 obtain ⟨xs, S', h2, h3, h4, h5⟩ := h
 exact ⟨xs, fun b => S' b ∧ b < w.heap.size, h2, fun g hg => ⟨⟨(h3 g hg).1, (World.ownsRow.lt h2 g hg).2⟩, fun h => (h3 g hg).2 h.1⟩, fun b hb => ⟨h4 b hb.1, hb.2⟩, n8.cut ks S' xs h5⟩
mutual
theorem F5.cut : ∀ (s : c8) (S : Nat → Prop) (cs : List Value), F5 w s S cs → F5 w s (fun b => S b ∧ b < w.heap.size) cs
 | ⟨_, _, _, _, _, b, e⟩, _, _, ⟨iv, vv, bv, ev, xb, xe, Si, Sv, Sb, Se, Sb', Se', h1, ⟨d1, d2, d3, d4⟩, h2, h3, ⟨b1, b2, b3, b4⟩, ⟨e1, e2, e3, e4⟩⟩ =>
  ⟨iv, vv, bv, ev, xb, xe, fun b => Si b ∧ b < w.heap.size, fun b => Sv b ∧ b < w.heap.size, fun b => Sb b ∧ b < w.heap.size, fun b => Se b ∧ b < w.heap.size, fun b => Sb' b ∧ b < w.heap.size, fun b => Se' b ∧ b < w.heap.size, h1,
   ⟨fun b hb => ⟨⟨(d1 b hb.1).1, hb.2⟩, fun h => (d1 b hb.1).2.1 h.1, fun h => (d1 b hb.1).2.2.1 h.1, fun h => (d1 b hb.1).2.2.2 h.1⟩, fun b hb => ⟨⟨(d2 b hb.1).1, hb.2⟩, fun h => (d2 b hb.1).2.1 h.1, fun h => (d2 b hb.1).2.2 h.1⟩,
    fun b hb => ⟨⟨(d3 b hb.1).1, hb.2⟩, fun h => (d3 b hb.1).2 h.1⟩, fun b hb => ⟨d4 b hb.1, hb.2⟩⟩, h2.cut, h3.cut,
   ⟨b1, fun g hg => ⟨⟨(b2 g hg).1, (World.ownsRow.lt b1 g hg).2⟩, fun h => (b2 g hg).2 h.1⟩, fun b hb => ⟨b3 b hb.1, hb.2⟩, n6.cut b Sb' xb b4⟩,
   ⟨e1, fun g hg => ⟨⟨(e2 g hg).1, (World.ownsRow.lt e1 g hg).2⟩, fun h => (e2 g hg).2 h.1⟩, fun b hb => ⟨e3 b hb.1, hb.2⟩, n6.cut e Se' xe e4⟩⟩
theorem n6.cut : ∀ (ks : List c8) (S : Nat → Prop) (xs : List Value), n6 w ks S xs → n6 w ks (fun b => S b ∧ b < w.heap.size) xs
 | [], _, _, h => h
 | e :: r, _, _, ⟨c, ys, S1, S2, h1, h2, h3, h4, h5⟩ => ⟨c, ys, fun b => S1 b ∧ b < w.heap.size, fun b => S2 b ∧ b < w.heap.size, h1, fun b hb => ⟨⟨(h2 b hb.1).1, hb.2⟩, fun h => (h2 b hb.1).2 h.1⟩, fun b hb => ⟨h3 b hb.1, hb.2⟩, F5.cut e S1 c h4, n6.cut r S2 ys h5⟩
end
theorem J0.cut {v : Value} {ks : List c8} {S : Nat → Prop} (h : J0 w v ks S) : J0 w v ks (fun b => S b ∧ b < w.heap.size) := by
 obtain ⟨xs, S', h2, h3, h4, h5⟩ := h
 exact ⟨xs, fun b => S' b ∧ b < w.heap.size, h2, fun g hg => ⟨⟨(h3 g hg).1, (World.ownsRow.lt h2 g hg).2⟩, fun h => (h3 g hg).2 h.1⟩, fun b hb => ⟨h4 b hb.1, hb.2⟩, n6.cut ks S' xs h5⟩
end
section
variable {φ ψ : Nat → Prop} {w0 w : World} {L : List Res}
end
theorem bG9 (x : Int) : ∀ u ∈ [Value.int .i64 x], u.oneCell' = true := by intro u hu; simp at hu; subst hu; rfl
section
variable {P : Program}
structure N7 (wr w : World) (S : Nat → Prop) : Prop where
 below : Below wr.heap.size wr w
 box : ∀ b, S b → wr.heap.size ≤ b ∧ b < w.heap.size
theorem N7.start (w : World) : N7 w w.drew fun _ => False := ⟨(Below.refl _ _).drew, fun _ h => h.elim⟩
theorem N7.call {wr w w' : World} {S : Nat → Prop} (h : N7 wr w S) (b : Below w.heap.size w w') : N7 wr w' S := ⟨h.below.trans (b.mono h.below.size), fun c hc => ⟨(h.box c hc).1, cf1 (h.box c hc).2 b.size⟩⟩
theorem N7.new {wr w w' : World} {S : Nat → Prop} (h : N7 wr w S) (b : Below w.heap.size w w') (hs : w.heap.size < w'.heap.size) : N7 wr w' fun c => S c ∨ c = w.heap.size :=
 ⟨h.below.trans (b.mono h.below.size), fun c hc => by
  rcases hc with hc | rfl
  ·exact ⟨(h.box c hc).1, cf1 (h.box c hc).2 b.size⟩
  ·exact ⟨h.below.size, hs⟩⟩
def RF (φ S : Nat → Prop) (b : Nat) : Prop := φ b ∧ ¬ S b
theorem N7.fresh {wr w : World} {S φ : Nat → Prop} (h : N7 wr w S) (hf : ∀ b, wr.heap.size ≤ b → φ b) : ∀ b, w.heap.size ≤ b → RF φ S b := fun b hb => ⟨hf b (cd3 h.below.size hb), fun hs => by have := (h.box b hs).2; omega⟩
theorem N7.fresh' {wr w w' : World} {S φ : Nat → Prop} (h : N7 wr w S) (_b : Below w.heap.size w w') (hf : ∀ b, wr.heap.size ≤ b → φ b) : ∀ b, b < w'.heap.size → w.heap.size ≤ b → RF φ S b := fun b _ hb => h.fresh hf b hb
theorem N7.old {wr w : World} {S φ : Nat → Prop} (h : N7 wr w S) {R : World → (Nat → Prop) → Prop} (hn : T4 R) (hr : R wr φ) : R w (RF φ S) :=
 hn _ _ _ _ ⟨h.below.size, fun b hb hf => ⟨⟨hf, fun hs => by have := (h.box b hs).1; omega⟩, h.below.block b hb⟩⟩ hr
def aa0 (p : Value → World → (Nat → Prop) → Prop) : Prop := ∀ v w w' S S', p v w S → Below w.heap.size w w' → (∀ b, b < w.heap.size → (S' b ↔ S b)) → p v w' S'
def PS (L : List (Value → World → (Nat → Prop) → Prop)) (i : Nat) (v : Value) (w : World) (S : Nat → Prop) : Prop := L.getD i (fun _ _ _ => True) v w S
def a44 : List (Value → World → (Nat → Prop) → Prop) → Prop
 | [] => True
 | p :: r => aa0 p ∧ a44 r
theorem PS.stable {L : List (Value → World → (Nat → Prop) → Prop)} (h : a44 L) : ∀ i, aa0 (PS L i) := by
 induction L with
 | nil => intro i v w w' S S' _ _ _; simp [PS]
 | cons p r ih =>
  intro i
  cases i with
  | zero => exact h.1
  | succ i => exact ih h.2 i
def IsS (u : Value) : Value → World → (Nat → Prop) → Prop := fun x _ _ => x = u
def bC3 : Value → World → (Nat → Prop) → Prop := fun x _ _ => ∃ b, x = .slice (some b) 0 0
def bK2 (φ : Nat → Prop) (R : Value → World → (Nat → Prop) → Prop) : Value → World → (Nat → Prop) → Prop := fun x w S => R x w (RF φ S)
def b37 (cs : List Value) : Value → World → (Nat → Prop) → Prop := fun x w S => ∃ g, x = .pointer (some ⟨g, 0, none⟩) ∧ v9 w g cs ∧ S g
theorem be5 (u : Value) : aa0 (IsS u) := fun _ _ _ _ _ h _ _ => h
theorem br9 : aa0 bC3 := fun _ _ _ _ _ h _ _ => h
theorem a59 (φ : Nat → Prop) {R : Value → World → (Nat → Prop) → Prop} (hn : ∀ v, T4 (R v)) : aa0 (bK2 φ R) := fun v _ _ _ _ h hb hs =>
 hn v _ _ _ _ ⟨hb.size, fun b hb' hf => ⟨⟨hf.1, fun h' => hf.2 ((hs b hb').1 h')⟩, hb.block b hb'⟩⟩ h
theorem bN8 (cs : List Value) : aa0 (b37 cs) := fun _ _ _ _ _ ⟨g, h1, h2, h3⟩ hb hs => ⟨g, h1, h2.below hb h2.lt, (hs g h2.lt).2 h3⟩
def bC1 (wr : World) (A : (Nat → Value) → Act) (R : Nat → Value → World → (Nat → Prop) → Prop) (n m : Nat) (listed : Array Bool) (a : Act) (w : World) : Prop :=
 listed.size = m ∧ ∃ f S, a = A f ∧ N7 wr w S ∧ ∀ i, i < n → listed.getD i false = true → R i (f i) w S
theorem bC1.go {wr : World} {a0 : Act} {l : List Oper} {R : Nat → Value → World → (Nat → Prop) → Prop} {n m i : Nat} {o : Oper} (hd : a18 l = true) (hR : ∀ i, aa0 (R i)) (ho : l[i]? = some o) {listed : Array Bool} {f : Nat → Value} {w w' : World} {S S' : Nat → Prop} {v : Value}
  (hsz : listed.size = m) (hv : ∀ i, i < n → listed.getD i false = true → R i (f i) w S) (hb : Below w.heap.size w w') (hs : ∀ b, b < w.heap.size → (S' b ↔ S b)) (hg : N7 wr w' S') (hr : R i v w' S') : bC1 wr (y8 a0 l 0) R n m (listed.setIfInBounds i true) ((y8 a0 l 0 f).put o.dst v) w' := by
 refine ⟨by simpa using hsz, upd f i v, S', (by have := a74 l a0 0 i f o v hd ho; rw [cf2] at this; exact this.symm), hg, fun j hj g => ?_⟩
 by_cases e : j = i
 ·subst e; simpa [upd] using hr
 ·rw [getD_set_ne false (fun h => e h.symm)] at g
  simp only [upd, if_neg e]
  exact hR _ _ _ _ _ _ (hv j hj g) hb hs
def bT5 (R : Value → World → (Nat → Prop) → Prop) (w : World) (S : Nat → Prop) (K : Value → World → Prop) : Prop :=
 (∀ v w', Below w.heap.size w w' → R v w' S → K v w') ∧ (∀ v w', Below w.heap.size w w' → w.heap.size < w'.heap.size → R v w' (fun b => S b ∨ b = w.heap.size) → K v w')
theorem an0 {id : Nat} {l : List Oper} {Q : Exit → Act → World → Prop} {a0 : Act} {wr : World} (n : Nat) (R : Nat → Value → World → (Nat → Prop) → Prop)
  (hm : P.follows .mixedOrders = true) (hB : bM1 l n = true) (hd : a18 l = true) (hR : ∀ i, aa0 (R i))
  (step : ∀ i o, i < n → l[i]? = some o → ∀ f w S, N7 wr w S → (∀ e ∈ o.after, Region.binds .any e = true → R e.on (f e.on) w S) →
   ∀ Q' : Exit → Act → World → Prop, bT5 (R i) w S (fun v w' => Q' .normal ((y8 a0 l 0 f).put o.dst v) w') → wpList P l.toArray Q' [o] (y8 a0 l 0 f) w)
  (last : ∀ o, l[n]? = some o → ∀ f w S, N7 wr w S → (∀ j, j < n → R j (f j) w S) → wpList P l.toArray Q [o] (y8 a0 l 0 f) w) : (Code.region id l.toArray true).wp P Q a0 wr := by
 unfold bM1 at hB
 cases ho : l[n]? with
 | none => rw [ho] at hB; cases hB
 | some o =>
  rw [ho] at hB
  simp only [cb0, decide_eq_true_eq] at hB
  obtain ⟨⟨⟨hn, hs⟩, hc⟩, hb⟩ := hB
  have hn' : l.toArray.size = n + 1 := by simpa using hn
  have inv0 : HeadInv .any l.toArray n (cd9 l.toArray.size false) :=
   ⟨by simp, fun j oj _ hl => (by rw [getD_replicate_false] at hl; cases hl), fun t _ ht => getD_in (by simpa using ht) (getD_replicate_false _ _)⟩
  refine wp_region_any hm (a48 (bC1 wr (y8 a0 l 0) R n l.length) hn' hs hc hb ?_ ?_ _ _ _ _ inv0 (by simp) ?_)
  ·rintro listed a w ⟨hsz, f, S, rfl, hg, hv⟩ i o' hin ho' hun hdep Q' hQ
   refine step i o' hin ho' f w S hg (fun e he hbi => ?_) Q' ⟨fun v w' hbw hr => hQ _ _ (bC1.go hd hR ho' hsz hv hbw (fun _ _ => Iff.rfl) (hg.call hbw) hr), fun v w' hbw hs hr => hQ _ _ (bC1.go hd hR ho' hsz hv hbw (fun b hb' => ⟨fun h => h.elim (fun h => h) fun e => by omega, .inl⟩) (hg.new hbw hs) hr)⟩
   have h1 := cb9.1 hb i (ce9.2 (by omega))
   rw [show l.toArray[i]? = some o' by simpa using ho'] at h1
   simp only [Option.any_some] at h1
   have h2 := Array.all_eq_true'.1 h1 e he
   simp only [decide_eq_true_eq] at h2
   exact hv _ (by omega) (hdep e he hbi)
  ·rintro listed a w ⟨hsz, f, S, rfl, hg, hv⟩ hall o' ho'
   refine last o' ho' f w S hg fun j hj => hv j hj ?_
   have := hall j hj
   have hlt : j < listed.size := by omega
   simp [hlt] at this ⊢
   exact this
  ·obtain ⟨f, hf⟩ := aX2 l a0 0
   refine ⟨by simp, f, _, hf, N7.start wr, fun i hi g => ?_⟩
   rw [getD_replicate_false] at g; cases g
theorem an1 {w : World} {ops : Array Oper} {rest : List Oper} {o : Oper} {a : Act} {Q : Exit → Act → World → Prop} {t e : TypeId} {z : Value} {size bytes : Nat} {u v : Value} {m : Nat} {news : List Value}
  (hgd : o.guard = none) (s x : Operand) (ho : o.op = .call { callee := .builtin .append, args := #[s, x], argTypes := #[t, t] })
  (ht : P.underlying t = some (.slice e)) (hi : (P.info? e).map (fun i => (i.zero, i.size, i.bytes)) = some (some z, size, bytes))
  (hzs : z.cells.size = size) (hsz : 0 < size) (hv : ∃ b, v = .slice (some b) 0 0) (hs : a.eval s = v) (hx : a.eval x = u) (hr : D3 w u m size news) (hbytes : m * bytes ≤ 140737488355328)
  (h : ∀ x w', l9 w' (fun b => w.heap.size ≤ b) x m size news → Below w.heap.size w w' → wpList P ops Q rest (a.put o.dst x) w') : wpList P ops Q (o :: rest) a w := by
 obtain ⟨b, rfl⟩ := hv
 refine wpList_plain hgd fun K hK => ?_
 have hrun : ∃ x w', (Builtin.append_ #[t, t] o.type #[.slice (some b) 0 0, u]).run P w = .ok x w' ∧ l9 w' (fun b => w.heap.size ≤ b) x m size news ∧ Below w.heap.size w w' := by
  obtain ⟨i, g1, g2, g3, g4⟩ := info_parts hi
  obtain ⟨hl, A, c, rfl, hmc, hc, hA⟩ := hr
  rcases Nat.eq_zero_or_pos m with h0 | h0
  ·subst h0
   have hn : news = [] := cc8 (by simpa using hl)
   subst hn
   refine ⟨.slice (some b) 0 0, w, ?_, ⟨by simp, some b, 0, rfl, cb1 _, by unfold maxLen; omega, fun h => absurd h (by omega)⟩, Below.refl _ _⟩
   have hz : ∀ a' : Addr, (loadCells a' 0).run P w = .ok #[] w := fun a' => by simpa using run_loadCells_list (P := P) w a' [] (by simp)
   cases A <;> simp [Builtin.append_, run_underlying ht, sizeOf, typeInfo, g1, Builtin.lenOf, Builtin.firstCells, storeCells, hz]
  ·obtain ⟨bk, off, rfl, hbk, hx⟩ := hA h0
   obtain ⟨v', w', h1, h2, h3⟩ := run_append_arg_grows (P := P) (w := w) t o.type e i z size bytes ht g1 g2 g3 g4 hzs hsz b 0 0 [] (by simp) (by simp) ⟨bk, off, none⟩ m c news hl
    (fun j u hj => by
     have hadd : (⟨bk, off, none⟩ : Addr).add j = ⟨bk, off + j, none⟩ := by unfold Addr.add; split <;> simp_all
     rw [hadd]; exact hx j u hj) (by omega) (by omega) (by simpa using hbytes)
   have h2' : w'.ownsRow w.heap.size e size v' m news := by simpa using h2
   exact ⟨v', w', h1, x6 h2' fun g hg => (h2'.lt g hg).1, ⟨h3.os, h3.tape, h3.output, h3.size, fun k hk => h3.block k hk (by simp)⟩⟩
 obtain ⟨y, w', hrun, h2, h3⟩ := hrun
 unfold Oper.wp execOp
 simp only [ho, resolve, invoke, builtin, Sem.run_bind, Sem.run_pure, Result.andThen_ok, List.map_toArray, cd7, List.map_nil, hs, hx, hrun]
 exact hK _ _ (h y w' h2 h3)
end
theorem C0.region {φ ψ : Nat → Prop} {w0 wr w : World} {L : List Res} {S : Nat → Prop} (M : C0 φ ψ w0 wr L) (hg : N7 wr w S) {g : Nat} {cs : List Value} (hb : v9 w g cs) (hs : S g) : C0 φ ψ w0 w (L ++ [.box g cs]) :=
 M.add hg.below _ hb fun g' h => by cases h; exact (hg.box _ hs).1
theorem RF.app {φ S : Nat → Prop} {L : List Res} {b : Nat} (h : RF (Fr φ L) S b) (X : List Res) (hX : ∀ r ∈ X, ∀ g, r.blk g → S g) : Fr φ (L ++ X) b :=
 ⟨h.1.1, fun r hr he => by
  rcases cc4.1 hr with hr | hr
  ·exact h.1.2 r hr he
  ·exact h.2 (hX r hr b he)⟩
theorem C0.rdat {φ ψ : Nat → Prop} {w0 w : World} {L : List Res} {S : Nat → Prop} (X : List Res) (M : C0 φ ψ w0 w (L ++ X)) (hX : ∀ r ∈ X, ∀ g, r.blk g → S g) {R : World → (Nat → Prop) → Prop} (hn : T4 R) (h : R w (RF (Fr φ L) S)) : C0 φ ψ w0 w (L ++ X ++ [.dat R]) :=
 M.dat hn (hn _ _ _ _ (Agr.mono fun _ _ hf => hf.app X hX) h)
section
variable {P : Program}
def ah1 (ops : Array Oper) : Bool := (cc5 ops.size).all fun j => (ops[j]?).any fun o => o.after.all fun e => !Region.binds .any e || decide (e.on < j)
theorem aF6 {ops : Array Oper} (hb : ah1 ops = true) {k : Nat} {o : Oper} (hk : k < ops.size) (ho : ops[k]? = some o) {e : Edge} (he : e ∈ o.after) (hbi : Region.binds .any e = true) : e.on < k := by
 have h1 := cb9.1 hb k (ce9.2 hk)
 rw [ho] at h1
 simp only [Option.any_some] at h1
 have h2 := Array.all_eq_true'.1 h1 e he
 rw [hbi] at h2
 simpa using h2
theorem aV7 {ops : Array Oper} (hb : ah1 ops = true) {listed : Array Bool} (hsz : listed.size = ops.size) : ∀ k, k < ops.size → listed.getD k true = false → Region.ready .any ops listed ≠ [] := by
 intro k
 induction k using Nat.strongRecOn with
 | _ k ih =>
  intro hk hl hn
  by_cases hall : ∃ j, j < k ∧ listed.getD j true = false
  ·obtain ⟨j, hj, hlj⟩ := hall
   exact ih j hj (by omega) hlj hn
  ·have hok : ops[k]? = some ops[k] := Array.getElem?_eq_getElem hk
   have : k ∈ Region.ready .any ops listed := by
    refine mem_ready.2 ⟨hl, ops[k], hok, fun e he hbi => ?_⟩
    have h2 := aF6 hb hk hok he hbi
    cases h3 : listed.getD e.on true
    ·exact absurd ⟨e.on, h2, h3⟩ hall
    ·have : e.on < listed.size := by omega
     simp [this] at h3 ⊢
     exact h3
   rw [hn] at this
   cases this
theorem bh7 {a : Array Bool} {j : Nat} (h : j < a.size) : a.getD j true = a.getD j false := by simp [h]
end
end Go.Proofs.YtmokkddidcmglaaGreat

namespace Go.Proofs.YtmokkddidcmglaaGreat
def t7 (k : Int) : Int := if k = 1 ∨ k = 2 then 0 else if k = 3 then 1 else if 4 ≤ k ∧ k ≤ 10 then 2 else if k = 11 then 3 else -1
def ak0 (nv na : Nat) (k : Int) : Int := if k = 1 then 256 else if k = 2 then nv else if k = 3 then na else 1
def U4 (e : d9) : Bool := decide (e.kind = 1) || decide (e.kind = 2)
def ap1 (nv na : Nat) (e : d9) : Bool := decide ((e.kids.length : Int) = t7 e.kind) && decide (0 ≤ e.value) && decide (e.value < ak0 nv na e.kind)
def bg0 (e : d9) : Bool := decide (e.kind ≠ 3) || (match e.kids with | k :: _ => U4 k | [] => false)
def m8 (nv na : Nat) : Nat → d9 → Bool
 | 0, _ => false
 | d + 1, e => ap1 nv na e && e.kids.all (m8 nv na d) && bg0 e
def af0 : Nat → d9 → Nat
 | 0, _ => 1
 | d + 1, e => 1 + (e.kids.map (af0 d)).sum
def r7 (nv na : Nat) (e : d9) : Bool := m8 nv na 5 e && decide (1 + T2 e ≤ 15)
theorem aA0 (e : d9) : T2 e = P6 e.kids := by cases e; rfl
theorem a25 (nv na : Nat) : ∀ (d : Nat) (e : d9), m8 nv na d e = true → af0 d e = 1 + T2 e := by
 intro d
 induction d with
 | zero => intro e h; simp [m8] at h
 | succ d ih =>
  intro e h
  simp only [m8, cb0, cb9] at h
  rw [af0, aA0]
  have key : ∀ ks : List d9, (∀ e ∈ ks, m8 nv na d e = true) → (ks.map (af0 d)).sum = P6 ks := by
   intro ks
   induction ks with
   | nil => intro _; rfl
   | cons a r ihr => intro hk; rw [cd7, List.sum_cons, P6, ihr fun e he => hk e (ce5 _ he), ih a (hk a ce6)]
  rw [key _ h.1.2]
theorem a68 (nv na : Nat) (e : d9) : r7 nv na e = (m8 nv na 5 e && decide (af0 5 e ≤ 15)) := by
 unfold r7
 cases h : m8 nv na 5 e
 ·rfl
 ·rw [a25 nv na 5 e h]
def noneB (e : d9) : Bool := decide (e.kind = 0) && decide (e.value = 0) && decide (e.kids.length = 0)
def n9 (s : c8) : Bool :=
 if (s.kind = 3 ∨ s.kind = 4) then
  decide (s.target = 0) && (if s.kind = 4 then decide (s.els.length = 0) && decide (1 ≤ s.count) && decide (s.count ≤ 3) && noneB s.index && noneB s.value
   else decide (s.count = 0) && noneB s.index)
 else decide (s.body.length = 0) && decide (s.els.length = 0) && decide (s.count = 0) && (decide (s.kind = 2) || noneB s.index)
def m6 (nv na : Nat) : Nat → c8 → Bool
  | 0, _ => false
  | d + 1, s => n9 s &&
    (if s.kind = 1 ∨ s.kind = 5 then decide (0 ≤ s.target) && decide (s.target < nv) && r7 nv na s.value
     else if s.kind = 2 then decide (0 ≤ s.target) && decide (s.target < na) && r7 nv na s.index && U4 s.index && r7 nv na s.value
     else if s.kind = 3 then r7 nv na s.value && s.body.all (m6 nv na d) && s.els.all (m6 nv na d)
     else if s.kind = 4 then s.body.all (m6 nv na d)
     else false)
def ah0 (nv na : Nat) (d : Nat) (ss : List c8) : Bool := ss.all (m6 nv na d)
mutual
def nS : c8 → Nat
 | ⟨_, _, _, _, _, b, e⟩ => 1 + nSs b + nSs e
def nSs : List c8 → Nat
 | [] => 0
 | s :: r => nS s + nSs r
end
def E2 (p : j8) : Bool := F0 p.vars p.arrays && ah0 p.vars.length p.arrays.length 5 p.body && decide (nSs p.body ≤ 60)
end Go.Proofs.YtmokkddidcmglaaGreat

namespace Go.Proofs.YtmokkddidcmglaaGreat
open Go Go.RowKit
theorem ae2 (l : Int) (w : World) : Calls Tryz.prog 78 #[.int .i64 l] w fun e w' => e = .returned (.bool (F4 l)) ∧ w = w' := by
 go_enter Tryz.func78, Tryz.ntmps78
 go_wp2
 all_goals go_ret
 all_goals exact ⟨i9 (by simp [F4]; try omega), rfl⟩
theorem aN8 (v1 v2 v3 : Value) (n1 n2 : Nat) (x1 x2 : List Value) (w : World) (h1 : D3 w v1 n1 1 x1) (h2 : D3 w v2 n2 1 x2) :
  Calls Tryz.prog 24 #[.agg #[v1, v2, v3]] w fun e w' => e = .returned (.agg #[v1, v2, .slice none 0 0]) ∧ Below w.heap.size w w' := by
 obtain ⟨a1, k1, rfl⟩ := h1.form
 obtain ⟨a2, k2, rfl⟩ := h2.form
 clear h1 h2
 go_enter Tryz.func24, Tryz.ntmps24
 go_wp2
 go_returns
 exact ⟨rfl, by go_grown⟩
theorem an7 (v1 v2 v3 : Value) (vars arrays : List Int) (w : World) (h1 : D3 w v1 vars.length 1 (ints vars)) (h2 : D3 w v2 arrays.length 1 (ints arrays)) :
  Calls Tryz.prog 54 #[.agg #[v1, v2, v3]] w fun e w' => e = .returned (.bool (F0 vars arrays)) ∧ Below w.heap.size w w' := by
 have B0 : Below w.heap.size w (w.alloc (.cells #[v1, v2, v3] 51)) := by go_grown
 obtain ⟨a1, c1, rfl, -, hm1, -, hc1⟩ := (h1.below B0).open1
 obtain ⟨a2, c2, rfl, -, hm2, -, hc2⟩ := (h2.below B0).open1
 have HT : Hid (F0 vars arrays = (vars.all F4 && arrays.all F4 && decide (1 ≤ vars.length) && decide (vars.length ≤ 12) && decide (arrays.length ≤ 2))) := rfl
 clear h1 h2
 go_enter Tryz.func54, Tryz.ntmps54
 go_wp2_with fail
 go_loop [3] (fun i => ∃ k : Nat, k ≤ vars.length ∧ i = .int .i64 k ∧ (vars.take k).all F4 = true) (fun i => vars.length - (intOf i).toNat)
 case atStart => exact ⟨0, cc7 _, rfl, rfl⟩
 case round =>
  obtain ⟨k, hk, rfl, ha⟩ := hrel
  have HA := show Hid _ from ha
  clear ha
  by_cases hlt : k < vars.length
  ·obtain ⟨b1, o1, rfl, hb1, hx⟩ := hc1 k hlt
   rw [O7 _ _ hlt] at hx
   have HS := show Hid _ from R8 F4 vars k hlt
   clear hc1 hc2
   cases hl : F4 vars[k]
   all_goals
    have HL := show Hid _ from hl
    clear hl
    go_wp2_with fail
    refine (ae2 _ _).mono ?_
    rintro e w1 ⟨rfl, rfl⟩
    rw [HL.out]
    go_wp2_with fail
   ·go_ret
    exact ⟨i9 (by rw [HT.out, ap0 hlt HL.out]; rfl), B0⟩
   ·go_round
    case rel => exact ⟨k + 1, by omega, by go_num, by rw [HS.out, HA.out, HL.out]; rfl⟩
    case measure => simp [intOf]; omega
  ·have HA' := show Hid (vars.all F4 = true) from by have := HA.out; rwa [cc6 (by omega)] at this
   clear HA hc1
   go_wp2_with fail
   go_loop [4] (fun i => ∃ k : Nat, k ≤ arrays.length ∧ i = .int .i64 k ∧ (arrays.take k).all F4 = true) (fun i => arrays.length - (intOf i).toNat)
   case atStart => exact ⟨0, cc7 _, rfl, rfl⟩
   case round =>
    obtain ⟨j, hj, rfl, ha⟩ := hrel
    have HB := show Hid _ from ha
    clear ha
    by_cases hlj : j < arrays.length
    ·obtain ⟨b1, o1, rfl, hb1, hx⟩ := hc2 j hlj
     rw [O7 _ _ hlj] at hx
     have HS := show Hid _ from R8 F4 arrays j hlj
     clear hc2
     cases hl : F4 arrays[j]
     all_goals
      have HL := show Hid _ from hl
      clear hl
      go_wp2_with fail
      refine (ae2 _ _).mono ?_
      rintro e w1 ⟨rfl, rfl⟩
      rw [HL.out]
      go_wp2_with fail
     ·go_ret
      exact ⟨i9 (by rw [HT.out, ap0 hlj HL.out]; simp), B0⟩
     ·go_round
      case rel => exact ⟨j + 1, by omega, by go_num, by rw [HS.out, HB.out, HL.out]; rfl⟩
      case measure => simp [intOf]; omega
    ·have HB' := show Hid (arrays.all F4 = true) from by have := HB.out; rwa [cc6 (by omega)] at this
     clear HB hc2
     go_wp2_with fail
     all_goals go_ret
     all_goals refine ⟨i9 ?_, B0⟩
     all_goals rw [HT.out, HA'.out, HB'.out]
     all_goals rw [ce0]
     all_goals simp
     all_goals omega
theorem aN5 (v1 v2 v3 : Value) (c : b6) (kd : UInt8) (n : Int) (w : World) (h1 : D3 w v1 c.vars.length 1 (ints c.vars)) (h2 : D3 w v2 c.arrays.length 1 (ints c.arrays)) (h3 : P3 w v3 c.list) :
  Calls Tryz.prog 81 #[.agg #[v1, v2, v3], .int .u8 kd.toNat, .int .i64 n] w fun e w' => e = .returned (.bool (K4 c kd n)) ∧ Below w.heap.size w w' := by
 obtain ⟨a1, k1, rfl, -, q1, -, -⟩ := h1.open1
 obtain ⟨a2, k2, rfl, -, q2, -, -⟩ := h2.open1
 obtain ⟨a3, k3, rfl, -, q3, -, -⟩ := h3.open
 have hk : kd.toNat < 256 := kd.toNat_lt
 have HK : ∀ m : UInt8, (kd = m) = ((kd.toNat : Int) = (m.toNat : Int)) := fun m => by
  rw [eq_iff_iff]
  constructor
  ·rintro rfl; rfl
  ·intro h; exact UInt8.toNat_inj.1 (by omega)
 have HK' := show Hid _ from HK
 clear HK h1 h2 h3
 obtain ⟨z, hz⟩ : ∃ z, z = kd.toNat := ⟨_, rfl⟩
 rw [← hz] at hk ⊢
 have HZ := show Hid _ from hz
 clear hz
 go_enter Tryz.func81, Tryz.ntmps81
 go_wp2_with fail
 all_goals go_ret
 all_goals refine ⟨i9 ?_, by go_grown⟩
 all_goals unfold K4
 all_goals simp only [HK'.out, ← HZ.out, show (UInt8.toNat 114) = 114 from rfl, show (UInt8.toNat 99) = 99 from rfl, show (UInt8.toNat 118) = 118 from rfl, show (UInt8.toNat 97) = 97 from rfl, show (UInt8.toNat 111) = 111 from rfl]
 all_goals clear HK' HZ hk q1 q2 q3
 all_goals simp_all
 all_goals omega
theorem aj8 (op : Int) (w : World) (h1 : 1 ≤ op) (h2 : op ≤ 13) :
  Calls Tryz.prog 79 #[.int .i64 op] w fun e w' => e = .returned (.string ⟨(l6 op).toArray⟩) ∧ Below w.heap.size w w' := by
 have h : op = 1 ∨ op = 2 ∨ op = 3 ∨ op = 4 ∨ op = 5 ∨ op = 6 ∨ op = 7 ∨ op = 8 ∨ op = 9 ∨ op = 10 ∨ op = 11 ∨ op = 12 ∨ op = 13 := by omega
 clear h1 h2
 rcases h with rfl | rfl | rfl | rfl | rfl | rfl | rfl | rfl | rfl | rfl | rfl | rfl | rfl
 all_goals
  go_enter Tryz.func79, Tryz.ntmps79
  go_wp2_with fail
  go_ret
  exact ⟨by simp [l6], by go_grown⟩
theorem aN6 (x : d8) (w : World) :
  Calls Tryz.prog 80 #[x.v] w fun e w' => ∃ u, e = .returned u ∧ y7 w' w.heap.size w'.heap.size 3 1 u 4 (ints [x.a, x.b, x.c, x.d]) ∧ Below w.heap.size w w' := by
 obtain ⟨x0, x1, x2, x3, x4⟩ := x
 go_enter Tryz.func80, Tryz.ntmps80
 go_wp2_with fail
 go_ret
 refine ⟨_, rfl, (t0 _ #[.int .i64 x1, .int .i64 x2, .int .i64 x3, .int .i64 x4] 4 1 _ (by simp) rfl (by omega)).wide (by simp) (by simp), by go_grown⟩
theorem bk6 {e : d9} (h3 : e.kind = 3) (hl : 0 < e.kids.length) : bg0 e = (decide (e.kids[0].kind = 1) || decide (e.kids[0].kind = 2)) := by
 rcases e with ⟨k, n, ks⟩
 cases ks with
 | nil => simp [d9.kids] at hl
 | cons a r =>
  have h3' : k = 3 := h3
  subst h3'
  simp only [bg0, d9.kids, List.getElem_cons_zero, U4]
  rw [decide_eq_false (by simp [d9.kind])]
  rfl
theorem am1 {nv na d : Nat} {e : d9} (h : m8 nv na (d + 1) e = true) : e.kids.length ≤ 3 ∧ ∀ x ∈ e.kids, m8 nv na d x = true := by
 simp only [m8, ap1, cb0, decide_eq_true_eq, cb9] at h
 refine ⟨?_, h.1.2⟩
 have h1 := h.1.1.1.1
 have : t7 e.kind ≤ 3 := by unfold t7; (repeat' split) <;> omega
 omega
theorem a55 {ks : List d9} {B : Nat} (h : ∀ x ∈ ks, 1 + T2 x ≤ B) : P6 ks ≤ ks.length * B := by
 induction ks with
 | nil => simp [P6]
 | cons a r ih =>
  have h1 := h a ce6
  have h2 := ih fun x hx => h x (ce5 _ hx)
  simp only [P6, cb8, ce3]; omega
theorem bs5 (nv na : Nat) : ∀ (d : Nat) (e : d9), m8 nv na d e = true → 1 + T2 e ≤ 4 ^ d := by
 intro d
 induction d with
 | zero => intro e h; simp [m8] at h
 | succ d ih =>
  intro e h
  obtain ⟨h1, h2⟩ := am1 h
  have h3 := a55 (ks := e.kids) fun x hx => ih x (h2 x hx)
  have h4 : e.kids.length * 4 ^ d ≤ 3 * 4 ^ d := ce8 _ h1
  have h5 : 0 < 4 ^ d := Nat.pos_of_ne_zero (by simp)
  rw [aA0, Nat.pow_succ]
  omega
theorem D2 (n lo hi : Int) (w : World) : Calls Tryz.prog 34 #[.int .i64 n, .int .i64 lo, .int .i64 hi] w fun e w' => e = .returned (.bool (decide (lo ≤ n) && decide (n ≤ hi))) ∧ w = w' := by
 go_enter Tryz.func34, Tryz.ntmps34
 go_wp2
 all_goals go_ret
 all_goals exact ⟨i9 (by simp; try omega), rfl⟩
theorem aw6 (l : Int) (w : World) : Calls Tryz.prog 87 #[.int .i64 l] w fun e w' => e = .returned (.bool (F4 l)) ∧ w = w' := by
 go_enter Tryz.func87, Tryz.ntmps87
 go_wp2_with fail
 refine (D2 l 0 3 _).mono ?_
 rintro e w1 ⟨rfl, rfl⟩
 go_wp2_with fail
 go_ret
 exact ⟨rfl, rfl⟩
theorem aw5 (l : Int) (w : World) : Calls Tryz.prog 86 #[.int .i64 l] w fun e w' => e = .returned (.bool (!F4 l)) ∧ w = w' := by
 go_enter Tryz.func86, Tryz.ntmps86
 go_wp2_with fail
 refine (aw6 l _).mono ?_
 rintro e w1 ⟨rfl, rfl⟩
 go_wp2_with fail
 go_ret
 exact ⟨rfl, rfl⟩
theorem aG6 (p : Int → Bool) (f : FuncId) (v : Value) (xs : List Int) (w : World) (h : D3 w v xs.length 1 (ints xs)) (he : ∀ args w, (callFunc f args).run Tryz.prog w = .ok (.enter f args) w)
  (hf : ∀ x w', Calls Tryz.prog f #[.int .i64 x] w' fun e w'' => e = .returned (.bool (p x)) ∧ w' = w'') :
  Calls Tryz.prog 101 #[v, .func (.func f) #[] #[]] w fun e w' => ∃ r : Int, e = .returned (.int .i64 r) ∧ decide (0 ≤ r) = xs.any p ∧ w = w' := by
 obtain ⟨a1, c1, rfl, -, hm1, -, hc1⟩ := h.open1
 have HF := show Hid _ from hf
 clear h hf
 go_enter Tryz.func101, Tryz.ntmps101
 go_wp2_with fail
 go_loop [5, 8] (fun _ i => ∃ k : Nat, k ≤ xs.length ∧ i = .int .i64 k ∧ (xs.take k).any p = false) (fun _ i => xs.length - (intOf i).toNat)
 case atStart => exact ⟨0, cc7 _, rfl, rfl⟩
 case round =>
  obtain ⟨k, hk, rfl, ha⟩ := hrel
  have HA := show Hid _ from ha
  clear ha
  by_cases hlt : k < xs.length
  ·obtain ⟨b1, o1, rfl, hb1, hx⟩ := hc1 k hlt
   rw [O7 _ _ hlt] at hx
   clear hc1
   cases hp : p xs[k]
   all_goals
    have HP := show Hid _ from hp
    clear hp
    go_wp2_with fail
    refine (HF.out xs[k] _).mono ?_
    rintro e w1 ⟨rfl, rfl⟩
    rw [HP.out]
    go_wp2_with fail
   ·go_round
    case rel => exact ⟨k + 1, by omega, by go_num, by rw [s4 _ _ hlt, List.any_append, HA.out]; simp [HP.out]⟩
    case measure => simp [intOf]; omega
   ·go_ret
    exact ⟨_, rfl, by rw [decide_eq_true (by omega)]; symm; rw [List.any_eq_true]; exact ⟨_, cd1 hlt, HP.out⟩, rfl⟩
  ·go_wp2_with fail
   go_ret
   refine ⟨_, rfl, ?_, rfl⟩
   have := HA.out
   rw [cc6 (by omega)] at this
   rw [this]; rfl
theorem as8 (p : Int → Bool) (f : FuncId) (v : Value) (xs : List Int) (w : World) (h : D3 w v xs.length 1 (ints xs)) (he : ∀ args w, (callFunc f args).run Tryz.prog w = .ok (.enter f args) w)
  (hf : ∀ x w', Calls Tryz.prog f #[.int .i64 x] w' fun e w'' => e = .returned (.bool (p x)) ∧ w' = w'') :
  Calls Tryz.prog 85 #[v, .func (.func f) #[] #[]] w fun e w' => e = .returned (.bool (xs.any p)) ∧ w = w' := by
 obtain ⟨a1, c1, rfl, -⟩ := h.open1
 have HF := show Hid _ from hf
 have HE := show Hid _ from he
 clear hf he
 go_enter Tryz.func85, Tryz.ntmps85
 go_wp2_with fail
 refine (aG6 p f _ xs _ h HE.out HF.out).mono ?_
 rintro e w1 ⟨r, rfl, hr, rfl⟩
 have HR := show Hid _ from hr
 clear hr
 go_wp2_with fail
 go_ret
 exact ⟨i9 HR.out, rfl⟩
theorem a39 (xs : List Int) : (!xs.any fun l => !F4 l) = xs.all F4 := by
 induction xs with
 | nil => rfl
 | cons x r ih => simp only [List.any_cons, List.all_cons, ← ih]; cases F4 x <;> simp
theorem X5 (v : Value) (xs : List Int) (w : World) (h : D3 w v xs.length 1 (ints xs)) :
  Calls Tryz.prog 63 #[v] w fun e w' => e = .returned (.bool (xs.all F4)) ∧ w = w' := by
 obtain ⟨a1, c1, rfl, -⟩ := h.open1
 go_enter Tryz.func63, Tryz.ntmps63
 go_wp2_with fail
 refine (as8 (fun l => !F4 l) 86 _ xs _ h (as4 Tryz.func86 (by kernel_rfl) rfl) (fun x w' => aw5 x w')).mono ?_
 rintro e w1 ⟨rfl, rfl⟩
 have HN := show Hid _ from a39 xs
 go_wp2_with fail
 go_ret
 exact ⟨i9 HN.out, rfl⟩
theorem aG8 (v1 v2 : Value) (vars arrays : List Int) (w : World) (h1 : D3 w v1 vars.length 1 (ints vars)) (h2 : D3 w v2 arrays.length 1 (ints arrays)) :
  Calls Tryz.prog 33 #[v1, v2] w fun e w' => e = .returned (.bool (F0 vars arrays)) ∧ w = w' := by
 obtain ⟨a1, c1, rfl, -, q1, -⟩ := h1.open1
 obtain ⟨a2, c2, rfl, -, q2, -⟩ := h2.open1
 have HT : Hid (F0 vars arrays = (vars.all F4 && arrays.all F4 && decide (1 ≤ vars.length) && decide (vars.length ≤ 12) && decide (arrays.length ≤ 2))) := rfl
 by_cases hn : (1 : Int) ≤ (vars.length : Int) ∧ (vars.length : Int) ≤ 12
 ·have hb : (decide ((1 : Int) ≤ vars.length) && decide ((vars.length : Int) ≤ 12)) = true := by simpa using hn
  have HB := show Hid _ from hb
  by_cases hm : (arrays.length : Int) ≤ 2
  ·cases hv : vars.all F4
   ·have HV := show Hid _ from hv
    clear hv hb hn
    go_enter Tryz.func33, Tryz.ntmps33
    go_wp2_with fail
    refine (D2 _ 1 12 _).mono ?_
    rintro e w1 ⟨rfl, rfl⟩
    rw [HB.out]
    go_wp2_with fail
    refine (X5 _ vars _ h1).mono ?_
    rintro e w1 ⟨rfl, rfl⟩
    rw [HV.out]
    go_wp2_with fail
    go_ret
    exact ⟨i9 (by rw [HT.out, HV.out]; rfl), rfl⟩
   ·have HV := show Hid _ from hv
    have hn' := show Hid _ from hn
    have hm' := show Hid _ from hm
    clear hv hb hn
    go_enter Tryz.func33, Tryz.ntmps33
    go_wp2_with fail
    refine (D2 _ 1 12 _).mono ?_
    rintro e w1 ⟨rfl, rfl⟩
    rw [HB.out]
    go_wp2_with fail
    refine (X5 _ vars _ h1).mono ?_
    rintro e w1 ⟨rfl, rfl⟩
    rw [HV.out]
    go_wp2_with fail
    refine (X5 _ arrays _ h2).mono ?_
    rintro e w1 ⟨rfl, rfl⟩
    go_wp2_with fail
    go_ret
    refine ⟨i9 ?_, rfl⟩
    have h3 := hn'.out
    have h4 := hm'.out
    rw [HT.out, HV.out, decide_eq_true (show 1 ≤ vars.length by omega), decide_eq_true (show vars.length ≤ 12 by omega), decide_eq_true (show arrays.length ≤ 2 by omega)]
    simp
  ·have hF : Hid (F0 vars arrays = false) := by unfold Hid; rw [HT.out, decide_eq_false (show ¬ arrays.length ≤ 2 by omega)]; simp
   clear hb hn
   go_enter Tryz.func33, Tryz.ntmps33
   go_wp2_with fail
   refine (D2 _ 1 12 _).mono ?_
   rintro e w1 ⟨rfl, rfl⟩
   rw [HB.out]
   go_wp2_with fail
   go_ret
   exact ⟨i9 hF.out.symm, rfl⟩
 ·have hb : (decide ((1 : Int) ≤ vars.length) && decide ((vars.length : Int) ≤ 12)) = false := by
   rw [Bool.eq_false_iff]; simp only [ne_eq, cb0, decide_eq_true_eq]; exact hn
  have HB := show Hid _ from hb
  have hF : Hid (F0 vars arrays = false) := by
   unfold Hid; rw [HT.out]
   rcases Classical.not_and_iff_not_or_not.1 hn with h | h
   ·rw [decide_eq_false (show ¬ 1 ≤ vars.length by omega)]; simp
   ·rw [decide_eq_false (show ¬ vars.length ≤ 12 by omega)]; simp
  clear hb hn
  go_enter Tryz.func33, Tryz.ntmps33
  go_wp2_with fail
  refine (D2 _ 1 12 _).mono ?_
  rintro e w1 ⟨rfl, rfl⟩
  rw [HB.out]
  go_wp2_with fail
  go_ret
  exact ⟨i9 hF.out.symm, rfl⟩
end Go.Proofs.YtmokkddidcmglaaGreat

