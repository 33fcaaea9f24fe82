/- Part 1: functions on the way, plain laws. Conditions: as said. -/
import Derived.WalkKit
import Derived.ProofKit
import Derived.Handy
import Derived.WalkSmall
import Derived.Deep.QuietTactic
import Derived.BigQuiet
import Derived.StillTailTactics
import Derived.Deep.Quiet
import Derived.StillTail
import Derived.Test.YtmokkddidcmglaaGreatRows
import Derived.Maps.AppendAt
import Derived.ArgAppend
import Derived.Deep.Upon
set_option maxRecDepth 100000
set_option maxHeartbeats 16000000
set_option linter.unusedVariables false
set_option linter.unusedSimpArgs false
open Bool renaming and_eq_true → bX0, eq_iff_iff → bZ7
open List renaming all_eq_true → bX9, append_assoc → b12, eq_nil_of_length_eq_zero → bZ3, getElem?_append_left → b04, getElem?_append_right → b15, getElem?_eq_getElem → bW9, getElem?_eq_none → bZ1, getElem?_eq_some_iff → bX7, getElem_mem → bZ0, length_append → bX1, length_cons → bX8, length_nil → bY2, length_set → bY9, map_cons → bZ5, mem_append → bY7, mem_cons → b02, mem_cons_of_mem → b00, mem_cons_self → b01, mem_of_getElem? → bY4, mem_range → b11, mem_singleton → bZ2, range → bY5, replicate → bW8, take_of_length_le → bY3
open Nat renaming add_zero → b07, le_refl → bX4, le_trans → bZ6, lt_of_lt_of_le → b13, lt_or_ge → bY8, lt_succ_self → bZ9, mul_le_mul_right → b05, succ_mul → bZ8, zero_add → b06, zero_le → bZ4

namespace Go.Proofs.YtmokkddidcmglaaGreat
open Go Go.RowKit
def F2 (w : World) (v : Value) (n sz : Nat) (xs : List Value) : Prop :=
 xs.length = n * sz ∧ ∃ a cap, v = .slice a n cap ∧ n ≤ cap ∧ cap ≤ maxLen ∧
  (0 < n → ∃ b off, a = some ⟨b, off, none⟩ ∧ b < w.heap.size ∧ ∀ j u, xs[j]? = some u → w.cell? ⟨b, off + j, none⟩ = some u)
theorem O9 {W w1 : World} (hb : Below W.heap.size W w1) : (∀ b o, b < W.heap.size → w1.cell? ⟨b, o, none⟩ = W.cell? ⟨b, o, none⟩) ∧ (∀ b o, b < W.heap.size → w1.frozen? ⟨b, o, none⟩ = W.frozen? ⟨b, o, none⟩) :=
 ⟨fun b o h => hb.cell (p := ⟨b, o, none⟩) h, fun b o h => hb.frozen (p := ⟨b, o, none⟩) h⟩
theorem F2.below {w w' : World} {v : Value} {n sz : Nat} {xs : List Value} (h : F2 w v n sz xs) (hb : Below w.heap.size w w') : F2 w' v n sz xs := by
 obtain ⟨hl, a, cap, rfl, h1, h2, h3⟩ := h
 refine ⟨hl, a, cap, rfl, h1, h2, fun hn => ?_⟩
 obtain ⟨b, off, rfl, hbk, hc⟩ := h3 hn
 exact ⟨b, off, rfl, b13 hbk hb.size, fun j u hj => ((O9 hb).1 b _ hbk).trans (hc j u hj)⟩
theorem F2.len {w : World} {v : Value} {n sz : Nat} {xs : List Value} (h : F2 w v n sz xs) : n ≤ 9223372036854775807 := by
 obtain ⟨_, a, cap, rfl, h1, h2, _⟩ := h; unfold maxLen at h2; omega
theorem F2.nil (w : World) (sz : Nat) : F2 w (.slice none 0 0) 0 sz [] := ⟨by simp, none, 0, rfl, bX4 _, by unfold maxLen; omega, fun h => absurd h (by omega)⟩
theorem F2.open {w : World} {v : Value} {n sz : Nat} {xs : List Value} (h : F2 w v n sz xs) : ∃ a cap, v = .slice a n cap ∧ n ≤ cap ∧ n ≤ 9223372036854775807 ∧ cap ≤ 9223372036854775807 ∧
  ∀ i, i < n → ∃ b off, a = some ⟨b, off, none⟩ ∧ b < w.heap.size ∧ ∀ j, j < sz → w.cell? ⟨b, off + i * sz + j, none⟩ = xs[i * sz + j]? := by
 obtain ⟨hl, a, cap, rfl, h1, h2, h3⟩ := h
 unfold maxLen at h2
 refine ⟨a, cap, rfl, h1, by omega, by omega, fun i hi => ?_⟩
 obtain ⟨b, off, rfl, hbk, hc⟩ := h3 (by omega)
 refine ⟨b, off, rfl, hbk, fun j hj => ?_⟩
 have hlt : i * sz + j < xs.length := by
  rw [hl]; have := b05 sz (Nat.succ_le_of_lt hi); rw [bZ8] at this; omega
 rw [bW9 hlt, Nat.add_assoc]
 exact hc _ _ (bW9 hlt)
theorem F2.form {w : World} {v : Value} {n sz : Nat} {xs : List Value} (h : F2 w v n sz xs) : ∃ a cap, v = .slice a n cap := by
 obtain ⟨_, a, cap, hv, _⟩ := h
 exact ⟨a, cap, hv⟩
theorem F2.open1 {w : World} {v : Value} {n : Nat} {xs : List Value} (h : F2 w v n 1 xs) : ∃ a cap, v = .slice a n cap ∧ n ≤ cap ∧ n ≤ 9223372036854775807 ∧ cap ≤ 9223372036854775807 ∧
  ∀ i, i < n → ∃ b off, a = some ⟨b, off, none⟩ ∧ b < w.heap.size ∧ w.cell? ⟨b, off + i, none⟩ = xs[i]? := by
 obtain ⟨a, cap, h0, h1, h2, h3, h4⟩ := h.open
 refine ⟨a, cap, h0, h1, h2, h3, fun i hi => ?_⟩
 obtain ⟨b, off, e, hb, hc⟩ := h4 i hi
 exact ⟨b, off, e, hb, by simpa using hc 0 (by omega)⟩
theorem V6 {w : World} {base : Nat} {e : TypeId} {sz : Nat} {v : Value} {n : Nat} {xs : List Value} (h : w.ownsRow base e sz v n xs) : F2 w v n sz xs := by
 refine ⟨h.1, ?_⟩
 rcases h.2 with ⟨rfl, rfl⟩ | ⟨g, cap, cur, rfl, hbg, hg, hnc, hcm, hcs, ht⟩
 ·exact ⟨none, 0, rfl, bX4 _, by unfold maxLen; omega, fun h => absurd h (by omega)⟩
 ·refine ⟨some ⟨g, 0, none⟩, cap, rfl, hnc, hcm, fun _ => ⟨g, 0, rfl, (Array.getElem?_eq_some_iff.1 hg).1, fun j u hj => ?_⟩⟩
  have hadd : (⟨g, 0, none⟩ : Addr).add j = ⟨g, 0 + j, none⟩ := by unfold Addr.add; split <;> simp_all
  rw [← hadd]
  exact h.cells (g := g) rfl j u hj
theorem X5 {w w' : World} {base B : Nat} {e : TypeId} {sz : Nat} {v : Value} {n : Nat} {xs : List Value} (h : w.ownsRow base e sz v n xs) (hb : Below B w w') (hB : w.heap.size ≤ B) : w'.ownsRow base e sz v n xs := by
 refine ⟨h.1, ?_⟩
 rcases h.2 with hn | ⟨g, cap, cur, rfl, hbg, hg, hnc, hcm, hcs, ht⟩
 ·exact .inl hn
 ·have hlt : g < w.heap.size := (Array.getElem?_eq_some_iff.1 hg).1
  exact .inr ⟨g, cap, cur, rfl, hbg, (hb.block g (by omega)).trans hg, hnc, hcm, hcs, ht⟩
theorem z4 {w : World} {base base' : Nat} {e : TypeId} {sz : Nat} {v : Value} {n : Nat} {xs : List Value} (h : w.ownsRow base e sz v n xs) (hb : base' ≤ base) : w.ownsRow base' e sz v n xs := by
 refine ⟨h.1, ?_⟩
 rcases h.2 with hn | ⟨g, cap, cur, rfl, hbg, r⟩
 ·exact .inl hn
 ·exact .inr ⟨g, cap, cur, rfl, by omega, r⟩
def D6 (w : World) (lo hi : Nat) (e : TypeId) (sz : Nat) (v : Value) (n : Nat) (xs : List Value) : Prop :=
 w.ownsRow lo e sz v n xs ∧ ∀ g, v.ownBlock = some g → g < hi
structure U4 (lo hi : Nat) (w w' : World) : Prop where
 os : w'.os = w.os
 tape : w'.tape = w.tape
 output : w'.output = w.output
 size : w.heap.size ≤ w'.heap.size
 block : ∀ k, k < w.heap.size → (k < lo ∨ hi ≤ k) → w'.heap[k]? = w.heap[k]?
theorem U4.refl (lo hi : Nat) (w : World) : U4 lo hi w w := ⟨rfl, rfl, rfl, bX4 _, fun _ _ _ => rfl⟩
theorem U4.trans {lo hi : Nat} {a b c : World} (h : U4 lo hi a b) (k : U4 lo hi b c) : U4 lo hi a c :=
 ⟨k.os.trans h.os, k.tape.trans h.tape, k.output.trans h.output, bZ6 h.size k.size, fun i hi ho => (k.block i (b13 hi h.size) ho).trans (h.block i hi ho)⟩
theorem U4.wide {lo hi lo' hi' : Nat} {a b : World} (h : U4 lo hi a b) (h1 : lo' ≤ lo) (h2 : hi ≤ hi') : U4 lo' hi' a b :=
 ⟨h.os, h.tape, h.output, h.size, fun k hk ho => h.block k hk (by omega)⟩
theorem U4.below {lo hi B : Nat} {a b : World} (h : U4 lo hi a b) (h1 : B ≤ lo) (h2 : B ≤ a.heap.size) : Below B a b :=
 ⟨h.os, h.tape, h.output, h.size, fun k hk => h.block k (by omega) (by omega)⟩
theorem U4.of_below {lo hi B : Nat} {a b : World} (h : Below B a b) (h1 : a.heap.size ≤ B) : U4 lo hi a b :=
 ⟨h.os, h.tape, h.output, h.size, fun k hk _ => h.block k (by omega)⟩
theorem U4.setCell {lo hi : Nat} {a w : World} (h : U4 lo hi a w) {p : Addr} (h1 : lo ≤ p.block) (h2 : p.block < hi) (u : Value) : U4 lo hi a (w.setCell p u) :=
 h.trans ⟨rfl, rfl, rfl, by simp [World.setCell], fun k _ ho => Below.heap_setCell _ _ _ _ (by omega)⟩
theorem D6.lt {w : World} {lo hi : Nat} {e : TypeId} {sz : Nat} {v : Value} {n : Nat} {xs : List Value} (h : D6 w lo hi e sz v n xs) : ∀ g, v.ownBlock = some g → lo ≤ g ∧ g < hi ∧ g < w.heap.size :=
 fun g hg => ⟨(h.1.lt g hg).1, h.2 g hg, (h.1.lt g hg).2⟩
theorem D6.row {w : World} {lo hi : Nat} {e : TypeId} {sz : Nat} {v : Value} {n : Nat} {xs : List Value} (h : D6 w lo hi e sz v n xs) : F2 w v n sz xs := V6 h.1
theorem D6.mk' {w : World} {lo : Nat} {e : TypeId} {sz : Nat} {v : Value} {n : Nat} {xs : List Value} (h : w.ownsRow lo e sz v n xs) : D6 w lo w.heap.size e sz v n xs :=
 ⟨h, fun g hg => (h.lt g hg).2⟩
theorem D6.wide {w : World} {lo hi lo' hi' : Nat} {e : TypeId} {sz : Nat} {v : Value} {n : Nat} {xs : List Value} (h : D6 w lo hi e sz v n xs) (h1 : lo' ≤ lo) (h2 : hi ≤ hi') : D6 w lo' hi' e sz v n xs :=
 ⟨z4 h.1 h1, fun g hg => b13 (h.2 g hg) h2⟩
theorem D6.form {w : World} {lo hi : Nat} {e : TypeId} {sz : Nat} {v : Value} {n : Nat} {xs : List Value} (h : D6 w lo hi e sz v n xs) : ∃ a cap, v = .slice a n cap := by
 obtain ⟨_, a, cap, hv, _⟩ := h.row
 exact ⟨a, cap, hv⟩
theorem D6.same {w w' : World} {lo hi : Nat} {e : TypeId} {sz : Nat} {v : Value} {n : Nat} {xs : List Value} (h : D6 w lo hi e sz v n xs)
  (hs : ∀ g, v.ownBlock = some g → w'.heap[g]? = w.heap[g]?) : D6 w' lo hi e sz v n xs := by
 refine ⟨⟨h.1.1, ?_⟩, h.2⟩
 rcases h.1.2 with hn | ⟨g, cap, cur, rfl, hbg, hg, r⟩
 ·exact .inl hn
 ·exact .inr ⟨g, cap, cur, rfl, hbg, (hs g rfl).trans hg, r⟩
theorem D6.keep {w w' : World} {lo hi B : Nat} {e : TypeId} {sz : Nat} {v : Value} {n : Nat} {xs : List Value} (h : D6 w lo hi e sz v n xs) (hb : Below B w w') (hB : hi ≤ B) : D6 w' lo hi e sz v n xs :=
 h.same fun g hg => hb.block g (by have := h.lt g hg; omega)
theorem D6.out {w w' : World} {lo hi lo' hi' : Nat} {e : TypeId} {sz : Nat} {v : Value} {n : Nat} {xs : List Value} (h : D6 w lo hi e sz v n xs) (ho : U4 lo' hi' w w') (hd : hi ≤ lo' ∨ hi' ≤ lo) : D6 w' lo hi e sz v n xs :=
 h.same fun g hg => ho.block g (h.lt g hg).2.2 (by have := h.lt g hg; omega)
theorem D6.open {w : World} {lo hi : Nat} {e : TypeId} {sz : Nat} {v : Value} {n : Nat} {xs : List Value} (h : D6 w lo hi e sz v n xs) (hn : 0 < n) :
  ∃ g cap, v = .slice (some ⟨g, 0, none⟩) n cap ∧ lo ≤ g ∧ g < hi ∧ g < w.heap.size ∧ n ≤ cap ∧ cap ≤ maxLen ∧ (∀ o, w.frozen? ⟨g, o, none⟩ = false) ∧ ∀ j u, xs[j]? = some u → w.cell? ⟨g, j, none⟩ = some u := by
 have hl := h.lt
 rcases h.1.2 with ⟨_, h0⟩ | ⟨g, cap, cur, rfl, hbg, hg, hnc, hcm, hcs, ht⟩
 ·omega
 ·obtain ⟨l1, l2, l3⟩ := hl g rfl
  refine ⟨g, cap, rfl, l1, l2, l3, hnc, hcm, fun o => ?_, fun j u hj => ?_⟩
  ·simp only [World.frozen?, hg]; simp
  ·have hadd : (⟨g, 0, none⟩ : Addr).add j = ⟨g, j, none⟩ := by unfold Addr.add; split <;> simp_all
   rw [← hadd]
   exact h.1.cells (g := g) rfl j u hj
theorem D6.at {w : World} {lo hi : Nat} {e : TypeId} {sz : Nat} {v : Value} {n : Nat} {xs : List Value} (h : D6 w lo hi e sz v n xs) {j : Nat} (hj : j < xs.length) :
  ∃ g cap, v = .slice (some ⟨g, 0, none⟩) n cap ∧ lo ≤ g ∧ g < hi ∧ g < w.heap.size ∧ w.frozen? ⟨g, j, none⟩ = false ∧ ∃ u, w.cell? ⟨g, j, none⟩ = some u := by
 have hn : 0 < n := by
  rcases Nat.eq_zero_or_pos n with h0 | h0
  ·subst h0; have := h.1.1; omega
  ·exact h0
 obtain ⟨g, cap, hv, h1, h2, h3, _, _, h4, h5⟩ := h.open hn
 exact ⟨g, cap, hv, h1, h2, h3, h4 j, _, h5 j _ (bW9 hj)⟩
theorem D6.setCell {w : World} {lo hi : Nat} {e : TypeId} {sz : Nat} {n cap g : Nat} {xs : List Value} (h : D6 w lo hi e sz (.slice (some ⟨g, 0, none⟩) n cap) n xs) {j : Nat} (_hj : j < xs.length) (u : Value) :
  D6 (w.setCell ⟨g, j, none⟩ u) lo hi e sz (.slice (some ⟨g, 0, none⟩) n cap) n (xs.set j u) := by
 refine ⟨⟨by rw [bY9]; exact h.1.1, ?_⟩, h.2⟩
 rcases h.1.2 with ⟨hv, _⟩ | ⟨g', cap', cur, hv, hbg, hg, hnc, hcm, hcs, ht⟩
 ·cases hv
 ·cases hv
  refine .inr ⟨g, cap, cur.setIfInBounds j u, rfl, hbg, ?_, hnc, hcm, by simpa using hcs, ?_⟩
  ·have hlt := (Array.getElem?_eq_some_iff.1 hg).1
   simp only [World.setCell, Array.getElem?_modify]
   simp [hg]
  ·rw [Array.toList_setIfInBounds, List.take_set, ht]
theorem j5 {a b : Bool} (h : a = b) : Ending.returned (.bool a) = .returned (.bool b) := by rw [h]
theorem D4 {k : IntKind} {a b : Int} (h : a = b) : Ending.returned (.int k a) = .returned (.int k b) := by rw [h]
theorem r8 {α : Type} (l : List α) (k : Nat) (h : k < l.length) : l.take (k + 1) = l.take k ++ [l[k]] := by
 rw [List.take_succ_eq_append_getElem h]
theorem W9 {α : Type} {xs ys : List α} {k : Nat} (h : xs.take k = ys.take k) (h1 : k < xs.length) (h2 : k < ys.length) (he : xs[k] = ys[k]) : xs.take (k + 1) = ys.take (k + 1) := by
 rw [r8 _ _ h1, r8 _ _ h2, h, he]
theorem aa0 {α : Type} {xs ys : List α} {k : Nat} (h : xs.take k = ys.take k) (h1 : xs.length ≤ k) (h2 : ys.length ≤ k) : xs = ys := by
 rw [bY3 h1, bY3 h2] at h; exact h
theorem ae2 {α : Type} (ys : List α) (k : Nat) (u : α) (h : k < ys.length) : (ys.set k u).take (k + 1) = ys.take k ++ [u] := by
 rw [r8 _ _ (by simpa using h), List.take_set_of_le (bX4 _)]; simp
def C4 (z : List Value) (n : Nat) : List Value := (bW8 n z).flatten
theorem K6 (z : List Value) (n : Nat) : (C4 z n).length = n * z.length := by simp [C4]
theorem am7 (z : Value) (n : Nat) : C4 [z] n = bW8 n z := by
 unfold C4
 induction n with
 | zero => rfl
 | succ n ih => rw [List.replicate_succ, List.flatten_cons, ih]; rfl
theorem av2 (z : Array Value) (n : Nat) (_hz : 0 < z.size) : madeCells z (n * z.size) = (C4 z.toList n).toArray := by
 apply Array.ext
 ·simp [size_madeCells, K6]
 ·intro i h1 h2
  simp only [madeCells, Array.getElem_map, Array.getElem_range, List.getElem_toArray]
  have hlt : i < (C4 z.toList n).length := by simpa using h2
  have key : ∀ (m i : Nat), i < (C4 z.toList m).length → (C4 z.toList m)[i]? = some (z[i % z.size]!) := by
   intro m
   induction m with
   | zero => intro i hi; simp [C4] at hi
   | succ m ih =>
    intro i hi
    have e : C4 z.toList (m + 1) = z.toList ++ C4 z.toList m := by simp [C4, List.replicate_succ]
    rw [e]
    by_cases hlt : i < z.size
    ·rw [b04 (by simpa using hlt), Nat.mod_eq_of_lt hlt]
     simp [hlt]
    ·rw [b15 (by simp; omega)]
     have := ih (i - z.toList.length) (by rw [e, bX1] at hi; rw [Array.length_toList] at hi ⊢; omega)
     rw [this]
     congr 2
     rw [Array.length_toList]
     exact (Nat.mod_eq_sub_mod (by omega)).symm
  have := key n i hlt
  rw [bW9 hlt] at this
  exact (Option.some.inj this).symm
theorem bj6 {P : Program} {t e : TypeId} {z : Value} {size bytes : Nat} (ht : P.underlying t = some (.slice e)) (hi : (P.info? e).map (fun i => (i.zero, i.size, i.bytes)) = some (some z, size, bytes))
  (hz : z.cells.size = size) (hs : 0 < size) (n : Nat) (hn : bytes * n ≤ 281474976710656) (hm : n ≤ 9223372036854775807) :
  ∀ w, (Instr.makeSlice t (.int .i64 n) (.int .i64 n)).run P w = .ok (.slice (some ⟨w.heap.size, 0, none⟩) n n) (w.alloc (.cells (C4 z.cells.toList n).toArray e)) := by
 intro w
 obtain ⟨i, h1, h2, h3, h4⟩ := info_parts hi
 have := run_make (P := P) w t e i z ht h1 h2 .i64 .i64 n n (by omega) (Int.le_refl _) (by rw [h4, ← Int.natCast_mul]; omega) (by omega)
 rw [this]
 simp only [Int.toNat_natCast, h3]
 subst hz
 rw [av2 _ _ hs]
theorem C3 (w : World) {g : Nat} (cs : Array Value) (n sz : Nat) (e : TypeId) (hg : g = w.heap.size) (hz : cs.size = n * sz) (hm : n ≤ 9223372036854775807) :
  D6 (w.alloc (.cells cs e)) w.heap.size (w.heap.size + 1) e sz (.slice (some ⟨g, 0, none⟩) n n) n cs.toList := by
 subst hg
 refine ⟨⟨by simpa using hz, .inr ⟨w.heap.size, n, _, rfl, bX4 _, heap_alloc_new w _, bX4 _, by unfold maxLen; omega, hz, ?_⟩⟩, fun g hg => by cases hg; exact bZ9 _⟩
 rw [← hz]
 exact bY3 (by simp)
theorem bi4 (w : World) (z : List Value) (n sz : Nat) (e : TypeId) (hz : z.length = sz) (hm : n ≤ 9223372036854775807) :
  D6 (w.alloc (.cells (C4 z n).toArray e)) w.heap.size (w.heap.size + 1) e sz (.slice (some ⟨w.heap.size, 0, none⟩) n n) n (C4 z n) := by
 refine ⟨⟨by rw [K6, hz], .inr ⟨w.heap.size, n, _, rfl, bX4 _, heap_alloc_new w _, bX4 _, by unfold maxLen; omega, by simp [K6, hz], ?_⟩⟩, fun g hg => by cases hg; exact bZ9 _⟩
 have : (C4 z n).length = n * sz := by rw [K6, hz]
 rw [← this]
 simp
def setFrom (ys : List Value) (p : Nat) : List Value → List Value
 | [] => ys
 | u :: r => setFrom (ys.set p u) (p + 1) r
def World.setFrom (w : World) (g p : Nat) : List Value → World
 | [] => w
 | u :: r => World.setFrom (w.setCell ⟨g, p, none⟩ u) g (p + 1) r
theorem E3 (us : List Value) : ∀ (ys : List Value) (p : Nat), (setFrom ys p us).length = ys.length := by
 induction us with
 | nil => intro ys p; rfl
 | cons u r ih => intro ys p; simp [setFrom, ih]
theorem ah6 (us : List Value) : ∀ (ys : List Value) (p : Nat), p + us.length ≤ ys.length → (setFrom ys p us).take (p + us.length) = ys.take p ++ us := by
 induction us with
 | nil => intro ys p h; simp [setFrom]
 | cons u r ih =>
  intro ys p h
  simp only [bX8] at h
  have := ih (ys.set p u) (p + 1) (by simp; omega)
  simp only [setFrom, bX8]
  rw [show p + (r.length + 1) = p + 1 + r.length by omega, this, ae2 _ _ _ (by omega)]
  simp
theorem D6.setFrom {lo hi : Nat} {e : TypeId} {sz n cap g : Nat} (us : List Value) : ∀ {w : World} {xs : List Value} {p : Nat}, D6 w lo hi e sz (.slice (some ⟨g, 0, none⟩) n cap) n xs → p + us.length ≤ xs.length →
  D6 (World.setFrom w g p us) lo hi e sz (.slice (some ⟨g, 0, none⟩) n cap) n (setFrom xs p us) := by
 induction us with
 | nil => intro w xs p h _; exact h
 | cons u r ih =>
  intro w xs p h hl
  simp only [bX8] at hl
  exact ih (h.setCell (by omega) u) (by simp; omega)
theorem U4.setFrom {lo hi g : Nat} {a : World} (us : List Value) : ∀ {w : World} {p : Nat}, U4 lo hi a w → lo ≤ g → g < hi → U4 lo hi a (World.setFrom w g p us) := by
 induction us with
 | nil => intro w p h _ _; exact h
 | cons u r ih => intro w p h h1 h2; exact ih (h.setCell h1 h2 u) h1 h2
theorem V2 {B g : Nat} {a : World} (us : List Value) : ∀ {w : World} {p : Nat}, Below B a w → B ≤ g → Below B a (World.setFrom w g p us) := by
 induction us with
 | nil => intro w p h _; exact h
 | cons u r ih => intro w p h h1; exact ih (h.setCell h1 u) h1
def M6 (u v : Value) : Prop := ∀ g, u.ownBlock = some g → v.ownBlock ≠ some g
theorem M6.symm {u v : Value} (h : M6 u v) : M6 v u := fun g h1 h2 => h g h2 h1
theorem ac9 {w w' : World} {lo hi lo' hi' : Nat} {e e' : TypeId} {sz sz' : Nat} {v v' : Value} {n n' : Nat} {xs xs' : List Value} (h : D6 w lo hi e sz v n xs) (h' : D6 w' lo' hi' e' sz' v' n' xs') (hd : hi ≤ lo' ∨ hi' ≤ lo) : M6 v v' := by
 intro g h1 h2
 have := h.lt g h1
 have := h'.lt g h2
 omega
theorem D6.disj {w w' : World} {lo hi lo' hi' : Nat} {e : TypeId} {sz : Nat} {v u : Value} {n : Nat} {xs : List Value} (h : D6 w lo hi e sz v n xs) (ho : U4 lo' hi' w w') (ht : ∀ g, lo' ≤ g → g < hi' → u.ownBlock = some g) (hd : M6 u v) : D6 w' lo hi e sz v n xs :=
 h.same fun g hg => ho.block g (h.lt g hg).2.2 (by
  rcases bY8 g lo' with h1 | h1
  ·exact .inl h1
  ·rcases bY8 g hi' with h2 | h2
   ·exact absurd hg (hd g (ht g h1 h2))
   ·exact .inr h2)
def y9 (w : World) (b : Nat) (cs : List Value) : Prop := ∃ T, w.heap[b]? = some (.cells cs.toArray T (0, 0))
theorem y9.lt {w : World} {b : Nat} {cs : List Value} (h : y9 w b cs) : b < w.heap.size := by
 obtain ⟨T, h⟩ := h; exact (Array.getElem?_eq_some_iff.1 h).1
theorem y9.cell {w : World} {b : Nat} {cs : List Value} (h : y9 w b cs) (j : Nat) : w.cell? ⟨b, j, none⟩ = cs[j]? := by
 obtain ⟨T, h⟩ := h; simp [World.cell?, h]
theorem y9.free {w : World} {b : Nat} {cs : List Value} (h : y9 w b cs) (j : Nat) : w.frozen? ⟨b, j, none⟩ = false := by
 obtain ⟨T, h⟩ := h; simp only [World.frozen?, h]; simp
theorem y9.below {w w' : World} {b B : Nat} {cs : List Value} (h : y9 w b cs) (hb : Below B w w') (hB : b < B) : y9 w' b cs := by
 obtain ⟨T, h⟩ := h; exact ⟨T, (hb.block b hB).trans h⟩
theorem y9.out {w w' : World} {b lo hi : Nat} {cs : List Value} (h : y9 w b cs) (hb : U4 lo hi w w') (hB : b < lo ∨ hi ≤ b) : y9 w' b cs := by
 have hlt := h.lt
 obtain ⟨T, h⟩ := h; exact ⟨T, (hb.block b hlt hB).trans h⟩
theorem y9.set {w : World} {b j : Nat} {cs : List Value} (h : y9 w b cs) (u : Value) : y9 (w.setCell ⟨b, j, none⟩ u) b (cs.set j u) := by
 obtain ⟨T, h⟩ := h
 refine ⟨T, ?_⟩
 simp only [World.setCell, Array.getElem?_modify]
 simp [h]
theorem y9.other {w : World} {b : Nat} {p : Addr} {cs : List Value} (h : y9 w b cs) (hp : b ≠ p.block) (u : Value) : y9 (w.setCell p u) b cs := by
 obtain ⟨T, h⟩ := h; exact ⟨T, (Below.heap_setCell _ _ _ _ hp).trans h⟩
theorem y9.new (w : World) (cs : List Value) (T : TypeId) : y9 (w.alloc (.cells cs.toArray T)) w.heap.size cs := ⟨T, heap_alloc_new w _⟩
theorem y9.new' (w : World) {b : Nat} (cs : List Value) (T : TypeId) (hb : b = w.heap.size) : y9 (w.alloc (.cells cs.toArray T)) b cs := by subst hb; exact y9.new w cs T
theorem y9.alloc {w : World} {b : Nat} {cs : List Value} (h : y9 w b cs) (o : Obj) : y9 (w.alloc o) b cs := by
 have hlt := h.lt
 obtain ⟨T, h⟩ := h; exact ⟨T, (Below.heap_alloc w o b hlt).trans h⟩
theorem y9.drew {w : World} {b : Nat} {cs : List Value} (h : y9 w b cs) : y9 w.drew b cs := h
theorem U4.cell (w : World) (b j : Nat) (u : Value) : U4 b (b + 1) w (w.setCell ⟨b, j, none⟩ u) :=
 U4.setCell (p := ⟨b, j, none⟩) (U4.refl b (b + 1) w) (bX4 b) (bZ9 b) u
theorem D6.other {w : World} {lo hi : Nat} {e : TypeId} {sz : Nat} {v : Value} {n : Nat} {xs : List Value} (h : D6 w lo hi e sz v n xs) {b : Nat} (hb : b < lo ∨ hi ≤ b) (j : Nat) (u : Value) : D6 (w.setCell ⟨b, j, none⟩ u) lo hi e sz v n xs :=
 h.out (U4.cell w b j u) (by omega)
def _root_.Go.World.ext (w X : World) : World := { w with heap := w.heap ++ X.heap, drawn := X.drawn }
theorem s3 (w : World) (X : World) : Below w.heap.size w (w.ext X) :=
 ⟨rfl, rfl, rfl, by simp [World.ext], fun k hk => by simp only [World.ext]; rw [Array.getElem?_append_left hk]⟩
theorem am5 {w w' : World} (h : Below w.heap.size w w') : ∃ X, w' = w.ext X := by
 refine ⟨{ w' with heap := w'.heap.extract w.heap.size w'.heap.size }, ?_⟩
 obtain ⟨h1, h2, h3, h4, h5⟩ := h
 have hh : w'.heap = w.heap ++ w'.heap.extract w.heap.size w'.heap.size := by
  apply Array.ext_getElem?
  intro i
  rcases bY8 i w.heap.size with hi | hi
  ·rw [Array.getElem?_append_left hi, h5 i hi]
  ·rw [Array.getElem?_append_right hi, Array.getElem?_extract]
   split
   ·rw [show w.heap.size + (i - w.heap.size) = i by omega]
   ·rename_i hn
    rw [Array.getElem?_eq_none]
    simp at hn
    omega
 cases w; cases w'
 simp only [World.ext] at *
 subst h1 h2 h3
 rw [← hh]
theorem i6 {w : World} {b o : Nat} {v : Value} (h : w.cell? ⟨b, o, none⟩ = some v) (X : World) : (w.ext X).cell? ⟨b, o, none⟩ = some v := by
 have hb : b < w.heap.size := World.block_lt_of_cell? w ⟨b, o, none⟩ h
 rw [(O9 (s3 w X)).1 b o hb]; exact h
theorem Calls.ext_of' {P : Program} {f : FuncId} {args : Array Value} {w : World} {X : World} {v : Value}
  (h : Calls P f args (w.ext X) fun e w' => e = .returned v ∧ Below (w.ext X).heap.size (w.ext X) w') : Calls P f args (w.ext X) fun e w'' => e = .returned v ∧ ∃ Y, w'' = w.ext Y :=
 h.mono fun _ _ ⟨he, hb⟩ => ⟨he, am5 ((s3 w X).trans (hb.mono (s3 w X).size))⟩
theorem F9 {P : Program} {id : Nat} {Q : Exit → Act → World → Prop} {a : Act} {w : World} {l : List Oper} (hm : P.follows .mixedOrders = true) (hB : Region.lexB .any l.toArray = true)
  (h : wpQuiet P l.toArray (fun w' => ∃ X, w' = w.ext X) (fun a' => ∀ w', (∃ X, w' = w.ext X) → Q .normal a' w') l a) : (Code.region id l.toArray true).wp P Q a w :=
 wp_region_quiet (C := fun w' => ∃ X, w' = w.ext X) hm hB (am5 (w' := w.drew) (Below.refl _ _).drew) (by simpa using h)
theorem al3 {P : Program} {f : FuncId} {fn : Func} {c : Code} (hf : P.funcs[f]? = some fn) (hn : (fn.name == "runtime.NumGoroutine") = false) (hb : fn.body = some c) :
  ∀ args w, (callFunc f args).run P w = .ok (.enter f args) w := by
 intro args w
 have h1 : fn.name ≠ "runtime.NumGoroutine" := by simpa using hn
 simp [callFunc, hf, h1, hb, mark]
end Go.Proofs.YtmokkddidcmglaaGreat

namespace Go.Proofs.YtmokkddidcmglaaGreat
theorem H6 {α : Type} (l : List α) (k : Nat) (h : k < l.length) : l.take (k + 1) = l.take k ++ [l[k]] := by
 rw [List.take_succ_eq_append_getElem h]
theorem O3 {α : Type} (p : α → Bool) (l : List α) (k : Nat) (h : k < l.length) : (l.take (k + 1)).all p = ((l.take k).all p && p l[k]) := by
 rw [H6 l k h, List.all_append]; simp
theorem ai4 {α : Type} {p : α → Bool} {l : List α} {k : Nat} (h : k < l.length) (hp : p l[k] = false) : l.all p = false := by
 rw [List.all_eq_false]; exact ⟨l[k], bZ0 h, by simp [hp]⟩
structure c7 where
 op : Int
 a : Int
 b : Int
 c : Int
 d : Int
def c7.l (x : c7) : List Int := [x.op, x.a, x.b, x.c, x.d]
def A8 : List c7 → List Int
 | [] => []
 | x :: r => x.op :: x.a :: x.b :: x.c :: x.d :: A8 r
theorem bk8 (l : List c7) : (A8 l).length = l.length * 5 := by
 induction l with
 | nil => rfl
 | cons x r ih => simp [A8, ih]; omega
theorem c7.ext' {x y : c7} (h : x.l = y.l) : x = y := by
 cases x; cases y; simp [c7.l] at h; simp [h]
theorem aj0 : ∀ {l m : List c7}, A8 l = A8 m → l = m
 | [], [], _ => rfl
 | [], _ :: _, h => by simp [A8] at h
 | _ :: _, [], h => by simp [A8] at h
 | x :: r, y :: s, h => by
  simp only [A8, List.cons.injEq] at h
  obtain ⟨h1, h2, h3, h4, h5, h6⟩ := h
  rw [aj0 h6, c7.ext' (x := x) (y := y) (by simp [c7.l, h1, h2, h3, h4, h5])]
theorem aP8 (l : List c7) (i : Nat) (hi : i < l.length) : (A8 l)[i * 5]? = some l[i].op ∧ (A8 l)[i * 5 + 1]? = some l[i].a ∧ (A8 l)[i * 5 + 2]? = some l[i].b ∧ (A8 l)[i * 5 + 3]? = some l[i].c ∧ (A8 l)[i * 5 + 4]? = some l[i].d := by
 induction l generalizing i with
 | nil => simp at hi
 | cons x r ih =>
  cases i with
  | zero => simp [A8]
  | succ i =>
   rw [bZ8]
   have := ih i (by simpa using hi)
   simpa [A8, Nat.add_assoc] using this
structure b6 where
 vars : List Int
 arrays : List Int
 list : List c7
def b6.size (c : b6) : Nat := c.vars.length + c.arrays.length + c.list.length
def b6.same (c d : b6) : Bool := decide (c.vars = d.vars) && decide (c.arrays = d.arrays) && decide (A8 c.list = A8 d.list)
theorem b6.same_eq {c d : b6} : c.same d = true ↔ c = d := by
 cases c; cases d
 simp only [b6.same, bX0, decide_eq_true_eq, b6.mk.injEq]
 constructor
 ·rintro ⟨⟨rfl, rfl⟩, h⟩; exact ⟨rfl, rfl, aj0 h⟩
 ·rintro ⟨rfl, rfl, rfl⟩; exact ⟨⟨rfl, rfl⟩, rfl⟩
theorem b6.same_refl (c : b6) : c.same c = true := b6.same_eq.2 rfl
def C9 (l : Int) : Bool := decide (0 ≤ l) && decide (l ≤ 3)
def C6 (vars arrays : List Int) : Bool := vars.all C9 && arrays.all C9 && decide (1 ≤ vars.length) && decide (vars.length ≤ 12) && decide (arrays.length ≤ 2)
def I3 (c : b6) (kd : UInt8) (n : Int) : Bool :=
 if kd = 114 then decide (0 ≤ n) && decide (n < 14)
 else if kd = 99 then decide (0 ≤ n) && decide (n ≤ 255)
 else if kd = 118 then decide (0 ≤ n) && decide (n < c.vars.length)
 else if kd = 97 then decide (0 ≤ n) && decide (n < c.arrays.length)
 else if kd = 111 then decide (4 ≤ n) && decide (n ≤ 10)
 else decide (0 ≤ n) && decide (n < c.list.length)
def e6 (op : Int) : List UInt8 :=
 if op = 1 then [114, 99] else if op = 2 then [114, 118] else if op = 3 then [118, 114] else if op = 4 then [114, 97, 114] else if op = 5 then [97, 114, 114]
 else if op = 6 then [114, 111, 114, 114] else if op = 7 then [114, 114, 114, 114] else if op = 8 then [116] else if op = 9 then [114, 116] else if op = 10 then [114, 116]
 else if op = 11 then [114] else []
def B6 (c : b6) (kinds : List UInt8) (k : Nat) (n : Int) : Bool :=
 match kinds[k]? with
 | some kd => I3 c kd n
 | none => decide (n = 0)
def v8 (c : b6) (x : c7) : Bool :=
 decide (1 ≤ x.op) && decide (x.op ≤ 13) && (B6 c (e6 x.op) 0 x.a && B6 c (e6 x.op) 1 x.b && B6 c (e6 x.op) 2 x.c && B6 c (e6 x.op) 3 x.d)
def V0 (c : b6) : Bool := match c.list.getLast? with | some x => decide (x.op = 13) || decide (x.op = 8) | none => false
def f8 (c : b6) : Bool := C6 c.vars c.arrays && decide (1 ≤ c.list.length) && decide (c.list.length ≤ 400) && c.list.all (v8 c) && V0 c
theorem N8 (op : Int) : (e6 op).length ≤ 4 := by
 have key : ∀ (c : Prop) [Decidable c] (a b : List UInt8), a.length ≤ 4 → b.length ≤ 4 → (if c then a else b).length ≤ 4 := fun c _ a b h1 h2 => by split <;> assumption
 unfold e6
 repeat' (apply key)
 all_goals decide
def aa7 (c : b6) (kinds : List UInt8) (parts : List Int) (k : Nat) : Bool := (bY5 k).all fun j => B6 c kinds j (parts.getD j 0)
theorem au3 (c : b6) (kinds : List UInt8) (parts : List Int) (k : Nat) : aa7 c kinds parts (k + 1) = (aa7 c kinds parts k && B6 c kinds k (parts.getD k 0)) := by
 simp [aa7, List.range_succ]
theorem aW6 (c : b6) (kinds : List UInt8) (x : c7) : aa7 c kinds [x.a, x.b, x.c, x.d] 4 = (B6 c kinds 0 x.a && B6 c kinds 1 x.b && B6 c kinds 2 x.c && B6 c kinds 3 x.d) := by
 show aa7 c kinds _ (0 + 1 + 1 + 1 + 1) = _
 simp only [au3]
 simp [aa7]
theorem au4 {c : b6} {kinds : List UInt8} {parts : List Int} {k : Nat} (n : Nat) (hk : k < n) (h : B6 c kinds k (parts.getD k 0) = false) : aa7 c kinds parts n = false := by
 unfold aa7
 rw [List.all_eq_false]
 exact ⟨k, by simpa using hk, by simpa using h⟩
def H5 (c : b6) (kd : UInt8) (n : Int) : Bool :=
 if kd = 114 then decide (0 ≤ n) && decide (n ≤ 13)
 else if kd = 118 then decide (0 ≤ n) && decide (n ≤ (c.vars.length : Int) - 1)
 else if kd = 97 then decide (0 ≤ n) && decide (n ≤ (c.arrays.length : Int) - 1)
 else if kd = 110 then decide (0 ≤ n) && decide (n ≤ 255)
 else if kd = 111 then decide (4 ≤ n) && decide (n ≤ 10)
 else if kd = 105 then decide (0 ≤ n) && decide (n ≤ (c.list.length : Int) - 1)
 else decide (n = 0)
def J8 (op : Int) : List UInt8 :=
 if op = 1 then [114, 110, 45, 45] else if op = 2 then [114, 118, 45, 45] else if op = 3 then [118, 114, 45, 45] else if op = 4 then [114, 97, 114, 45] else if op = 5 then [97, 114, 114, 45]
 else if op = 6 then [114, 111, 114, 114] else if op = 7 then [114, 114, 114, 114] else if op = 8 then [105, 45, 45, 45] else if op = 9 then [114, 105, 45, 45] else if op = 10 then [114, 105, 45, 45]
 else if op = 11 then [114, 45, 45, 45] else if op = 12 then [45, 45, 45, 45] else if op = 13 then [45, 45, 45, 45] else []
def au5 (c : b6) (kinds : List UInt8) (parts : List Int) (k : Nat) : Bool := (bY5 k).all fun j => H5 c (kinds.getD j 0) (parts.getD j 0)
theorem aC9 (c : b6) (kinds : List UInt8) (parts : List Int) (k : Nat) : au5 c kinds parts (k + 1) = (au5 c kinds parts k && H5 c (kinds.getD k 0) (parts.getD k 0)) := by
 simp [au5, List.range_succ]
theorem a87 {c : b6} {kinds : List UInt8} {parts : List Int} {k : Nat} (n : Nat) (hk : k < n) (h : H5 c (kinds.getD k 0) (parts.getD k 0) = false) : au5 c kinds parts n = false := by
 unfold au5
 rw [List.all_eq_false]
 exact ⟨k, by simpa using hk, by simpa using h⟩
theorem aC1 {op : Int} (h : ¬ (1 ≤ op ∧ op ≤ 13)) : J8 op = [] := by
 unfold J8
 repeat (rw [if_neg (by omega)])
theorem bq9 {op : Int} (h : 1 ≤ op ∧ op ≤ 13) : (J8 op).length = 4 := by
 have h' : op = 1 ∨ op = 2 ∨ op = 3 ∨ op = 4 ∨ op = 5 ∨ op = 6 ∨ op = 7 ∨ op = 8 ∨ op = 9 ∨ op = 10 ∨ op = 11 ∨ op = 12 ∨ op = 13 := by omega
 rcases h' with rfl | rfl | rfl | rfl | rfl | rfl | rfl | rfl | rfl | rfl | rfl | rfl | rfl <;> rfl
theorem aY0 (c : b6) (x : c7) (h : 1 ≤ x.op ∧ x.op ≤ 13) : v8 c x = au5 c (J8 x.op) [x.a, x.b, x.c, x.d] 4 := by
 have e : au5 c (J8 x.op) [x.a, x.b, x.c, x.d] 4 = (H5 c ((J8 x.op).getD 0 0) x.a && H5 c ((J8 x.op).getD 1 0) x.b && H5 c ((J8 x.op).getD 2 0) x.c && H5 c ((J8 x.op).getD 3 0) x.d) := by
  show au5 c _ _ (0 + 1 + 1 + 1 + 1) = _
  simp only [aC9]
  simp [au5]
 rw [e]
 unfold v8
 rw [decide_eq_true h.1, decide_eq_true h.2]
 have h' : x.op = 1 ∨ x.op = 2 ∨ x.op = 3 ∨ x.op = 4 ∨ x.op = 5 ∨ x.op = 6 ∨ x.op = 7 ∨ x.op = 8 ∨ x.op = 9 ∨ x.op = 10 ∨ x.op = 11 ∨ x.op = 12 ∨ x.op = 13 := by omega
 rcases h' with h' | h' | h' | h' | h' | h' | h' | h' | h' | h' | h' | h' | h' <;>
 ·rw [h', bZ7]
  simp [e6, J8, B6, I3, H5]
  try omega
def l8 (x : c7) : Int := if x.op = 8 then x.a else if x.op = 9 ∨ x.op = 10 then x.b else -1
def aD0 (x : c7) (i : Int) : List Int := if x.op = 13 then [] else if x.op = 8 then [x.a] else if x.op = 9 ∨ x.op = 10 then [i + 1, x.b] else [i + 1]
def nx (c : b6) (t : Int) : List Int := match c.list[t.toNat]? with | some x => aD0 x t | none => []
theorem bz4 {c : b6} {t : Int} (h : t.toNat < c.list.length) : nx c t = aD0 c.list[t.toNat] t := by simp [nx, h]
theorem o8 {c : b6} (h : f8 c = true) : C6 c.vars c.arrays = true ∧ 1 ≤ c.list.length ∧ c.list.length ≤ 400 ∧ (∀ (i : Nat) (hi : i < c.list.length), v8 c c.list[i] = true) ∧ V0 c = true := by
 unfold f8 at h
 simp only [bX0, decide_eq_true_eq, bX9] at h
 obtain ⟨⟨⟨⟨h1, h2⟩, h3⟩, h4⟩, h5⟩ := h
 exact ⟨h1, h2, h3, fun i hi => h4 _ (bZ0 hi), h5⟩
theorem aF5 {c : b6} {x : c7} (h : v8 c x = true) (ho : x.op = 8 ∨ x.op = 9 ∨ x.op = 10) : 0 ≤ l8 x ∧ l8 x < c.list.length := by
 unfold v8 at h
 simp only [bX0, decide_eq_true_eq] at h
 obtain ⟨_, ⟨⟨ha, hb⟩, _⟩, _⟩ := h
 rcases ho with ho | ho | ho
 ·rw [ho] at ha
  simp [e6, B6, I3] at ha
  simp [l8, ho]; omega
 ·rw [ho] at hb
  simp [e6, B6, I3] at hb
  simp [l8, ho]; omega
 ·rw [ho] at hb
  simp [e6, B6, I3] at hb
  simp [l8, ho]; omega
theorem bu9 {c : b6} (h : f8 c = true) (i : Nat) (hi : i < c.list.length) (h1 : c.list[i].op ≠ 13) (h2 : c.list[i].op ≠ 8) : i + 1 < c.list.length := by
 obtain ⟨_, hn, _, _, hl⟩ := o8 h
 rcases bY8 (i + 1) c.list.length with hlt | hge
 ·exact hlt
 ·exfalso
  unfold V0 at hl
  rw [List.getLast?_eq_getElem?, show c.list.length - 1 = i by omega, bW9 hi] at hl
  simp at hl
  omega
theorem bz3 {c : b6} (h : f8 c = true) {i t : Int} (hi : 0 ≤ i) (ht : t ∈ nx c i) : 0 ≤ t ∧ t < c.list.length := by
 by_cases hlt : i.toNat < c.list.length
 ·rw [bz4 hlt] at ht
  have ho := (o8 h).2.2.2.1 _ hlt
  have hl := bu9 h _ hlt
  have hk := aF5 ho
  unfold aD0 at ht
  unfold l8 at hk
  generalize c.list[i.toNat] = x at *
  by_cases h13 : x.op = 13
  ·simp [h13] at ht
  ·by_cases h8 : x.op = 8
   ·simp [h8] at ht hk
    omega
   ·have := hl h13 h8
    by_cases h9 : x.op = 9 ∨ x.op = 10
    ·simp only [if_neg h13, if_neg h8, if_pos h9, b02, List.not_mem_nil, or_false] at ht hk
     rcases ht with rfl | rfl
     ·omega
     ·exact hk (.inr h9)
    ·simp only [if_neg h13, if_neg h8, if_neg h9, b02, List.not_mem_nil, or_false] at ht
     omega
 ·unfold nx at ht
  rw [bZ1 (by omega)] at ht
  simp at ht
inductive Rc (c : b6) : Int → Prop
 | zero : Rc c 0
 | step {i t : Int} : Rc c i → t ∈ nx c i → Rc c t
noncomputable def aa6 (c : b6) : List Bool := (bY5 c.list.length).map fun (j : Nat) => @decide (Rc c (j : Int)) (Classical.propDecidable _)
theorem Rc.nonneg {c : b6} (h : f8 c = true) {t : Int} (hr : Rc c t) : 0 ≤ t := by
 induction hr with
 | zero => omega
 | step _ ht ih => exact (bz3 h ih ht).1
theorem au2 {c : b6} (hc : f8 c = true) {bs : List Bool} (hl : bs.length = c.list.length) (hs : ∀ j : Nat, bs[j]? = some true → Rc c j) (h0 : bs[0]? = some true)
  (hcl : ∀ j : Nat, bs[j]? = some true → ∀ t ∈ nx c j, bs[t.toNat]? = some true) : bs = aa6 c := by
 have key : ∀ t : Int, Rc c t → bs[t.toNat]? = some true := by
  intro t ht
  induction ht with
  | zero => exact h0
  | @step i t hi ht ih =>
   have hn := Rc.nonneg hc hi
   exact hcl i.toNat ih t (by rw [show ((i.toNat : Nat) : Int) = i by omega]; exact ht)
 apply List.ext_getElem
 ·simp [aa6, hl]
 ·intro j h1 h2
  have e : (aa6 c)[j] = @decide (Rc c (j : Int)) (Classical.propDecidable _) := by simp [aa6]
  rw [e]
  by_cases hr : Rc c (j : Int)
  ·have := key _ hr
   rw [Int.toNat_natCast, bW9 h1] at this
   simp only [Option.some.injEq] at this
   rw [this]; simp [hr]
  ·cases hb : bs[j]
   ·simp [hr]
   ·exact absurd (hs j (by rw [bW9 h1, hb])) hr
theorem al7 {bs : List Bool} {k : Nat} (h : bs[k]? = some false) : (bs.set k true).count false + 1 = bs.count false := by
 induction bs generalizing k with
 | nil => simp at h
 | cons b r ih =>
  cases k with
  | zero => simp at h; subst h; simp
  | succ k =>
   simp at h
   have := ih h
   simp only [List.set_cons_succ, List.count_cons]
   omega
theorem aG3 {bs : List Bool} {k j : Nat} (h : (bs.set k true)[j]? = some true) : j = k ∨ bs[j]? = some true := by
 rw [List.getElem?_set] at h
 split at h
 ·rename_i e; exact .inl e.symm
 ·exact .inr h
theorem aN0 {bs : List Bool} {k : Nat} (h : k < bs.length) : (bs.set k true)[k]? = some true := by simp [h]
structure bG5 (c : b6) (qs : List Int) (bs : List Bool) : Prop where
 len : bs.length = c.list.length
 cnt : qs.length + bs.count false = c.list.length
 q : ∀ t ∈ qs, 0 ≤ t ∧ t < c.list.length ∧ Rc c t
 sound : ∀ j : Nat, bs[j]? = some true → Rc c j
 inq : ∀ j : Nat, bs[j]? = some true → (j : Int) ∈ qs
 zero : bs[0]? = some true
theorem bG5.start {c : b6} (hc : f8 c = true) : bG5 c [0] ((bW8 c.list.length false).set 0 true) := by
 have hn := (o8 hc).2.1
 have hone : ∀ j : Nat, ((bW8 c.list.length false).set 0 true)[j]? = some true → j = 0 := by
  intro j h
  rcases aG3 h with h | h
  ·exact h
  ·rw [List.getElem?_replicate] at h; split at h <;> simp at h
 refine ⟨by simp, ?_, ?_, ?_, ?_, ?_⟩
 ·have := al7 (bs := bW8 c.list.length false) (k := 0) (by rw [List.getElem?_replicate, if_pos (by omega)])
  simp at this ⊢
  omega
 ·intro t ht
  simp at ht; subst ht
  exact ⟨by omega, by omega, .zero⟩
 ·intro j h; rw [hone j h]; exact .zero
 ·intro j h; rw [hone j h]; simp
 ·exact aN0 (by simp; omega)
def bp2 (c : b6) (qs : List Int) (bs : List Bool) (i : Nat) : Prop := ∀ (m : Nat) (u : Int), m < i → qs[m]? = some u → ∀ t ∈ nx c u, bs[t.toNat]? = some true
theorem bp2.done {c : b6} (hc : f8 c = true) {qs : List Int} {bs : List Bool} (h : bG5 c qs bs) (hcl : bp2 c qs bs qs.length) : bs = aa6 c := by
 refine au2 hc h.len h.sound h.zero fun j hj t ht => ?_
 obtain ⟨m, hm, he⟩ := List.getElem_of_mem (h.inq j hj)
 exact hcl m j hm (by rw [bW9 hm, he]) t ht
structure a07 (c : b6) (ls : List Int) (bs : List Bool) : Prop where
 len : bs.length = c.list.length
 cnt : ls.length + 2 * bs.count false ≤ 2 * c.list.length + 1
 l : ∀ t ∈ ls, 0 ≤ t ∧ t < c.list.length ∧ Rc c t
 sound : ∀ j : Nat, bs[j]? = some true → Rc c j
 zero : bs[0]? = some true ∨ (0 : Int) ∈ ls
 clos : ∀ j : Nat, bs[j]? = some true → ∀ t ∈ nx c j, bs[t.toNat]? = some true ∨ t ∈ ls
theorem a07.start {c : b6} (hc : f8 c = true) : a07 c [0] (bW8 c.list.length false) := by
 have hn := (o8 hc).2.1
 refine ⟨by simp, by simp; omega, ?_, ?_, .inr (by simp), ?_⟩
 ·intro t ht
  simp at ht; subst ht
  exact ⟨by omega, by omega, .zero⟩
 ·intro j h; rw [List.getElem?_replicate] at h; split at h <;> simp at h
 ·intro j h; rw [List.getElem?_replicate] at h; split at h <;> simp at h
theorem a07.skip {c : b6} {ls : List Int} {i : Int} {bs : List Bool} (h : a07 c (ls ++ [i]) bs) (hb : bs[i.toNat]? = some true) : a07 c ls bs := by
 refine ⟨h.len, by have := h.cnt; simp at this; omega, fun t ht => h.l t (List.mem_append_left _ ht), h.sound, ?_, ?_⟩
 ·rcases h.zero with h0 | h0
  ·exact .inl h0
  ·rcases bY7.1 h0 with h0 | h0
   ·exact .inr h0
   ·simp at h0; subst h0; exact .inl hb
 ·intro j hj t ht
  rcases h.clos j hj t ht with h1 | h1
  ·exact .inl h1
  ·rcases bY7.1 h1 with h1 | h1
   ·exact .inr h1
   ·simp at h1; subst h1; exact .inl hb
theorem a07.done {c : b6} (hc : f8 c = true) {bs : List Bool} (h : a07 c [] bs) : bs = aa6 c := by
 refine au2 hc h.len h.sound ?_ fun j hj t ht => ?_
 ·rcases h.zero with h0 | h0
  ·exact h0
  ·simp at h0
 ·rcases h.clos j hj t ht with h1 | h1
  ·exact h1
  ·simp at h1
end Go.Proofs.YtmokkddidcmglaaGreat

namespace Go.Proofs.YtmokkddidcmglaaGreat
open Go Go.RowKit
section
variable {P : Program} {md : Region.Mode} {C : World → Prop}
def V8 (o : Oper) : Oper := { o with op := .move (.const (.bool false)), guard := none }
theorem aV9 {ops ops' : Array Oper} (hs : ops'.size = ops.size) (h : ∀ i : Nat, (ops'[i]?).map (·.after) = (ops[i]?).map (·.after)) (listed : Array Bool) : Region.ready md ops' listed = Region.ready md ops listed := by
 unfold Region.ready
 rw [hs]
 refine List.filter_congr fun i _ => ?_
 have := h i
 cases h1 : ops'[i]? <;> cases h2 : ops[i]? <;> simp [h1, h2] at this ⊢
 rw [this]
def aS7 (ops : Array Oper) : Bool := (bY5 ops.size).all fun j => (ops[j]?).any fun o => o.after.all fun e => decide (e.on < j)
theorem at5 {ops : Array Oper} (hb : aS7 ops = true) {listed : Array Bool} (hsz : listed.size = ops.size) : ∀ k, k < ops.size → listed.getD k true = false → Region.ready md ops listed ≠ [] := by
 intro k
 induction k using Nat.strongRecOn with
 | _ k ih =>
  intro hk hl hn
  by_cases hall : ∃ j, j < k ∧ listed.getD j true = false
  ·obtain ⟨j, hj, hlj⟩ := hall
   exact ih j hj (by omega) hlj hn
  ·have hok : ops[k]? = some ops[k] := Array.getElem?_eq_getElem hk
   have : k ∈ Region.ready md ops listed := by
    refine mem_ready.2 ⟨hl, ops[k], hok, fun e he _ => ?_⟩
    have h1 := bX9.1 hb k (b11.2 hk)
    rw [hok] at h1
    simp only [Option.any_some] at h1
    have h2 := Array.all_eq_true'.1 h1 e he
    simp only [decide_eq_true_eq] at h2
    cases h3 : listed.getD e.on true
    ·exact absurd ⟨e.on, h2, h3⟩ hall
    ·have : e.on < listed.size := by omega
     simp [this] at h3 ⊢
     exact h3
   rw [hn] at this
   cases this
theorem a73 {ops ops' : Array Oper} {i : Nat} {Q : Exit → Act → World → Prop} {K : Act → World → Prop} {a : Act} {w : World} (h : ops'[i]? = ops[i]?) (hy : yielded ops' a.tmps = yielded ops a.tmps)
  (hh : wpOp P ops' Q i K a w) : wpOp P ops Q i K a w := by
 unfold wpOp at *
 rw [h, hy] at hh
 exact hh
theorem I6 {listed : Array Bool} {i : Nat} (h : listed.getD i true = false) : (listed.setIfInBounds i true).toList.count false + 1 = listed.toList.count false := by
 rw [Array.toList_setIfInBounds]
 refine al7 ?_
 rcases bY8 i listed.size with h' | h'
 ·simp [h'] at h ⊢; exact h
 ·simp [Array.getElem?_eq_none h'] at h
theorem aL7 {ops : Array Oper} {n : Nat} {o : Oper} (hn : ops.size = n + 1) (ho : ops[n]? = some o) (hdst : o.dst = none) (hs : Region.sinkB md ops n = true) (hc : Region.chainB md ops n = true) (hb : aS7 ops = true)
  {Q : Act → Prop} {Q' : Exit → Act → World → Prop} (hlast : ∀ a w, C w → Q a → wpOp P ops Q' n (Q' .normal) a w) :
  ∀ (fuel : Nat) (listed : Array Bool) (a : Act) (w : World), C w → HeadInv md ops n listed → listed.toList.count false = fuel → wpAnyQ P md (ops.setIfInBounds n (V8 o)) C Q fuel listed a → wpAny P md ops Q' fuel listed a w := by
 have hsame : ∀ i : Nat, i ≠ n → (ops.setIfInBounds n (V8 o))[i]? = ops[i]? := fun i hi => Array.getElem?_setIfInBounds_ne (fun e => hi e.symm)
 have hat : (ops.setIfInBounds n (V8 o))[n]? = some (V8 o) := by simp [hn]
 have hafter : ∀ i : Nat, ((ops.setIfInBounds n (V8 o))[i]?).map (·.after) = (ops[i]?).map (·.after) := fun i => by
  by_cases hi : i = n
  ·subst hi; rw [hat, ho]; rfl
  ·rw [hsame i hi]
 have hready : ∀ listed, Region.ready md (ops.setIfInBounds n (V8 o)) listed = Region.ready md ops listed := aV9 (by simp) hafter
 have hyield : ∀ tmps, yielded (ops.setIfInBounds n (V8 o)) tmps = yielded ops tmps := fun tmps => by
  funext j
  unfold yielded
  by_cases hj : j = n
  ·subst hj; rw [hat, ho]; rfl
  ·rw [hsame j hj]
 intro fuel
 induction fuel with
 | zero =>
  intro listed a w _ inv hcnt _
  have := I6 (inv.tail n (bX4 _) (by omega))
  omega
 | succ f ih =>
  intro listed a w hC inv hcnt h
  obtain ⟨_, h2⟩ := h
  refine ⟨fun h0 => absurd h0 (at5 hb inv.size n (by omega) (inv.tail n (bX4 _) (by omega))), fun i hi => ?_⟩
  have h3 := h2 i (by rw [hready]; exact hi)
  have hun := (mem_ready.1 hi).1
  have hcl := I6 hun
  rcases bY8 i n with hin | hin
  ·refine a73 (hsame i (by omega)) (hyield _) (wpOp_of_qOp hC (fun a' w' hC' hK => ih _ a' w' hC' (inv.set hi hin) (by omega) hK) h3)
  ·obtain ⟨_, o', ho', _⟩ := mem_ready.1 hi
   have hisz := (Array.getElem?_eq_some_iff.1 ho').1
   obtain rfl : i = n := by omega
   have hall : ∀ j, j < i → listed.getD j true = true := fun j hj => by
    cases hl : listed.getD j true
    ·exact absurd hi (tail_waits hs hc (by omega) inv _ j rfl hj hl i (bX4 _))
    ·rfl
   have hnone : Region.ready md ops (listed.setIfInBounds i true) = [] := by
    rw [List.eq_nil_iff_forall_not_mem]
    intro j hj
    obtain ⟨hj1, oj, hoj, _⟩ := mem_ready.1 hj
    have hjs := (Array.getElem?_eq_some_iff.1 hoj).1
    by_cases hji : j = i
    ·subst hji; simp [inv.size, hn] at hj1
    ·rw [getD_set_ne true (fun e => hji e.symm), hall j (by omega)] at hj1; cases hj1
   have hQ : Q a := by
    have hK : wpAnyQ P md (ops.setIfInBounds i (V8 o)) C Q f (listed.setIfInBounds i true) a := by
     unfold qOp at h3
     rw [hat] at h3
     simp only at h3
     split at h3
     ·obtain ⟨v, _, h4⟩ := h3
      rwa [show (V8 o).dst = none from hdst] at h4
     ·rwa [show (V8 o).dst = none from hdst] at h3
    cases f with
    | zero => exact hK.2
    | succ f => exact hK.1 (by rw [hready]; exact hnone)
   refine wpOp_mono (fun a' w' hq => ?_) (hlast a w hC hQ)
   cases f with
   | zero => exact ⟨hnone, hq⟩
   | succ f => exact ⟨fun _ => hq, fun j hj => by rw [hnone] at hj; cases hj⟩
def aW1 (l : List Oper) (n : Nat) : Bool :=
 match l[n]? with
 | none => false
 | some o => decide (l.length = n + 1) && o.dst.isNone && Region.sinkB .any l.toArray n && Region.chainB .any l.toArray n && aS7 l.toArray && Region.lexB .any (l.set n (V8 o)).toArray
theorem ap1 {id : Nat} {Q : Exit → Act → World → Prop} {a : Act} {w : World} {l : List Oper} (n : Nat) (o : Oper) (ho : l[n]? = some o) (hm : P.follows .mixedOrders = true) (hB : aW1 l n = true) (hC : C { w with drawn := w.drawn + 1 })
  (h : wpQuiet P (l.set n (V8 o)).toArray C (fun a' => ∀ w', C w' → wpList P l.toArray Q [o] a' w') (l.set n (V8 o)) a) : (Code.region id l.toArray true).wp P Q a w := by
 unfold aW1 at hB
 rw [ho] at hB
 simp only [bX0, decide_eq_true_eq, Option.isNone_iff_eq_none] at hB
 obtain ⟨⟨⟨⟨⟨hn, hd⟩, hs⟩, hc⟩, hb⟩, hlex⟩ := hB
 simp only [Region.lexB, bX0] at hlex
 have hn' : l.toArray.size = n + 1 := by simpa using hn
 have ho' : l.toArray[n]? = some o := by simpa using ho
 have inv0 : HeadInv .any l.toArray n (Array.replicate l.toArray.size false) :=
  ⟨by simp, fun j oj _ hl => (by rw [getD_replicate_false] at hl; cases hl), fun t _ ht => getD_in (by simpa using ht) (getD_replicate_false _ _)⟩
 have H := wpAnyQ_lex (P := P) (C := C) (md := .any) hlex.1 (l.set n (V8 o)) 0 (Array.replicate (l.set n (V8 o)).toArray.size false) a (by simp) (by simpa using hlex.2) h
 refine wp_region_any hm (aL7 hn' ho' hd hs hc hb (Q := fun a' => ∀ w', C w' → wpList P l.toArray Q [o] a' w') (fun a' w' hC' hq => ?_) _ _ _ _ hC inv0 (by simp) ?_)
 ·have := hq w' hC'
  unfold wpOp
  simp only [ho']
  exact this
 ·simpa using H
theorem R8 {id : Nat} {Q : Exit → Act → World → Prop} {a : Act} {w : World} {l : List Oper} (n : Nat) (o : Oper) (ho : l[n]? = some o) (hm : P.follows .mixedOrders = true) (hB : aW1 l n = true)
  (h : wpQuiet P (l.set n (V8 o)).toArray (fun w' => ∃ X, w' = w.ext X) (fun a' => ∀ w', (∃ X, w' = w.ext X) → wpList P l.toArray Q [o] a' w') (l.set n (V8 o)) a) : (Code.region id l.toArray true).wp P Q a w :=
 ap1 (C := fun w' => ∃ X, w' = w.ext X) n o ho hm hB (am5 (w' := w.drew) (Below.refl _ _).drew) h
theorem w6 {w : World} {b o : Nat} {v : Bool} (hb : b < w.heap.size) (h : w.frozen? ⟨b, o, none⟩ = v) (X : World) : (w.ext X).frozen? ⟨b, o, none⟩ = v := by
 rw [(O9 (s3 w X)).2 b o hb]; exact h
end
abbrev ints (l : List Int) : List Value := l.map (Value.int .i64)
theorem ab0 (l : List Int) (k : Nat) (h : k < l.length) : (ints l)[k]? = some (.int .i64 l[k]) := by simp [ints, h]
theorem a55 : (Tryz.prog.info? 3).map (fun i => (i.zero, i.size, i.bytes)) = some (some (.int .i64 0), 1, 8) := by kernel_rfl
def aX6 (K n : Nat) : List Int := (bY5 n).map fun (j : Nat) => ((K : Int) + (j : Int))
abbrev O0 (w : World) (v : Value) (l : List c7) : Prop := F2 w v l.length 5 (ints (A8 l))
theorem F2.ins {w : World} {v : Value} {l : List c7} (h : O0 w v l) : ∃ a cap, v = .slice a l.length cap ∧ l.length ≤ cap ∧ l.length ≤ 9223372036854775807 ∧ cap ≤ 9223372036854775807 ∧
  ∀ i (hi : i < l.length), ∃ b off, a = some ⟨b, off, none⟩ ∧ b < w.heap.size ∧ w.cell? ⟨b, off + i * 5, none⟩ = some (.int .i64 l[i].op) ∧ w.cell? ⟨b, off + i * 5 + 1, none⟩ = some (.int .i64 l[i].a) ∧
   w.cell? ⟨b, off + i * 5 + 2, none⟩ = some (.int .i64 l[i].b) ∧ w.cell? ⟨b, off + i * 5 + 3, none⟩ = some (.int .i64 l[i].c) ∧ w.cell? ⟨b, off + i * 5 + 4, none⟩ = some (.int .i64 l[i].d) := by
 obtain ⟨a, cap, h0, h1, h2, h3, h4⟩ := h.open
 refine ⟨a, cap, h0, h1, h2, h3, fun i hi => ?_⟩
 obtain ⟨b, off, e, hb, hc⟩ := h4 i hi
 obtain ⟨g0, g1, g2, g3, g4⟩ := aP8 l i hi
 have c0 := hc 0 (by omega)
 have c1 := hc 1 (by omega)
 have c2 := hc 2 (by omega)
 have c3 := hc 3 (by omega)
 have c4 := hc 4 (by omega)
 simp only [b07, List.getElem?_map, g0, g1, g2, g3, g4, Option.map_some] at c0 c1 c2 c3 c4
 exact ⟨b, off, e, hb, c0, c1, c2, c3, c4⟩
abbrev c7.v (x : c7) : Value := .agg #[.int .i64 x.op, .int .i64 x.a, .int .i64 x.b, .int .i64 x.c, .int .i64 x.d]
theorem bz6 : (Tryz.prog.info? 60).map (fun i => (i.zero, i.size, i.bytes)) = some (some (.agg #[.int .i64 0, .int .i64 0, .int .i64 0, .int .i64 0, .int .i64 0]), 5, 40) := by kernel_rfl
def A3 (w : World) (v : Value) (c : b6) : Prop :=
 ∃ v1 v2 v3, v = .agg #[v1, v2, v3] ∧ F2 w v1 c.vars.length 1 (ints c.vars) ∧ F2 w v2 c.arrays.length 1 (ints c.arrays) ∧ O0 w v3 c.list
def A0 (w : World) (lo hi : Nat) (v : Value) (c : b6) : Prop :=
 ∃ v1 v2 v3, v = .agg #[v1, v2, v3] ∧ D6 w lo hi 3 1 v1 c.vars.length (ints c.vars) ∧ D6 w lo hi 3 1 v2 c.arrays.length (ints c.arrays) ∧ D6 w lo hi 60 5 v3 c.list.length (ints (A8 c.list)) ∧
  M6 v1 v2 ∧ M6 v1 v3 ∧ M6 v2 v3
theorem A3.below {w w' : World} {v : Value} {c : b6} (h : A3 w v c) (hb : Below w.heap.size w w') : A3 w' v c := by
 obtain ⟨v1, v2, v3, rfl, h1, h2, h3⟩ := h
 exact ⟨v1, v2, v3, rfl, h1.below hb, h2.below hb, h3.below hb⟩
theorem A0.row {w : World} {lo hi : Nat} {v : Value} {c : b6} (h : A0 w lo hi v c) : A3 w v c := by
 obtain ⟨v1, v2, v3, rfl, h1, h2, h3, _⟩ := h
 exact ⟨v1, v2, v3, rfl, h1.row, h2.row, h3.row⟩
theorem A0.keep {w w' : World} {lo hi B : Nat} {v : Value} {c : b6} (h : A0 w lo hi v c) (hb : Below B w w') (hB : hi ≤ B) : A0 w' lo hi v c := by
 obtain ⟨v1, v2, v3, rfl, h1, h2, h3, hd⟩ := h
 exact ⟨v1, v2, v3, rfl, h1.keep hb hB, h2.keep hb hB, h3.keep hb hB, hd⟩
theorem A0.out {w w' : World} {lo hi lo' hi' : Nat} {v : Value} {c : b6} (h : A0 w lo hi v c) (hb : U4 lo' hi' w w') (hB : hi ≤ lo' ∨ hi' ≤ lo) : A0 w' lo hi v c := by
 obtain ⟨v1, v2, v3, rfl, h1, h2, h3, hd⟩ := h
 exact ⟨v1, v2, v3, rfl, h1.out hb hB, h2.out hb hB, h3.out hb hB, hd⟩
theorem A0.wide {w : World} {lo hi lo' hi' : Nat} {v : Value} {c : b6} (h : A0 w lo hi v c) (h1 : lo' ≤ lo) (h2 : hi ≤ hi') : A0 w lo' hi' v c := by
 obtain ⟨v1, v2, v3, rfl, g1, g2, g3, hd⟩ := h
 exact ⟨v1, v2, v3, rfl, g1.wide h1 h2, g2.wide h1 h2, g3.wide h1 h2, hd⟩
def am6 (w : World) (v : Value) (K nv na nl : Nat) : Prop :=
 ∃ v1 v2 v3, v = .agg #[v1, v2, v3] ∧ F2 w v1 nv 1 (ints (aX6 K nv)) ∧ F2 w v2 na 1 (ints (aX6 (K + nv) na)) ∧ F2 w v3 nl 5 (ints (aX6 (K + nv + na) (nl * 5)))
theorem am6.below {w w' : World} {v : Value} {K nv na nl : Nat} (h : am6 w v K nv na nl) (hb : Below w.heap.size w w') : am6 w' v K nv na nl := by
 obtain ⟨v1, v2, v3, rfl, h1, h2, h3⟩ := h
 exact ⟨v1, v2, v3, rfl, h1.below hb, h2.below hb, h3.below hb⟩
theorem av7 {l : List Int} : ∀ u ∈ ints l, u.oneCell' = true := by
 intro u hu
 obtain ⟨x, _, rfl⟩ := List.mem_map.1 hu
 rfl
theorem aN7 {P : Program} {w : World} {lo : Nat} {t ty e : TypeId} {i : TypeInfo} {size : Nat} (ht : P.underlying t = some (.slice e)) (hi : P.info? e = some i)
  {v : Value} {n : Nat} {xs : List Value} (hown : w.ownsRow lo e size v n xs) (c : Nat) : (Builtin.append_ #[t, t] ty #[v, .slice none 0 c]).run P w = .ok v w := by
 obtain ⟨_, h⟩ := hown
 rcases h with ⟨rfl, rfl⟩ | ⟨g, cap, cur, rfl, _, _, hnc, _⟩
 ·simp [Builtin.append_, run_underlying ht, sizeOf, typeInfo, hi, Builtin.lenOf, Builtin.firstCells]
 ·simp [Builtin.append_, run_underlying ht, sizeOf, typeInfo, hi, Builtin.lenOf, Builtin.firstCells, hnc, storeCells]
theorem E0 {w : World} {lo : Nat} {e : TypeId} {sz : Nat} {v : Value} {n : Nat} {xs : List Value} (h : w.ownsRow lo e sz v n xs) : ∃ a k, v = .slice a n k := by
 rcases h.2 with ⟨rfl, rfl⟩ | ⟨g, cap, cur, rfl, _⟩
 ·exact ⟨_, _, rfl⟩
 ·exact ⟨_, _, rfl⟩
theorem ah8 {P : Program} {w : World} {lo : Nat} {t ty e : TypeId} {z : Value} {size bytes : Nat} (ht : P.underlying t = some (.slice e)) (hi : (P.info? e).map (fun i => (i.zero, i.size, i.bytes)) = some (some z, size, bytes))
  (hzs : z.cells.size = size) (hsz : 0 < size) {v : Value} {n : Nat} {xs : List Value} (hown : w.ownsRow lo e size v n xs) {u : Value} {m : Nat} {news : List Value} (hr : F2 w u m size news) (h1 : ∀ u ∈ news, u.oneCell' = true)
  (h63 : n + m ≤ 9223372036854775807) (hbytes : (n + m) * bytes ≤ 140737488355328) (hbase : lo ≤ w.heap.size) :
  ∃ a' k' w', (Builtin.append_ #[t, t] ty #[v, u]).run P w = .ok (.slice a' (n + m) k') w' ∧ w'.ownsRow lo e size (.slice a' (n + m) k') (n + m) (xs ++ news) ∧ Below lo w w' ∧ w.grownBy w' v.ownBlock ∧ (∀ g, (Value.slice a' (n + m) k').ownBlock = some g → v.ownBlock = some g ∨ w.heap.size ≤ g) := by
 obtain ⟨i, g1, g2, g3, g4⟩ := info_parts hi
 obtain ⟨hl, A, c, rfl, hmc, hc, hA⟩ := hr
 have below_of : ∀ {w' : World}, w.grownBy w' v.ownBlock → Below lo w w' := fun {w'} hg => by
  refine ⟨hg.os, hg.tape, hg.output, hg.size, fun k hk => hg.block k (by omega) fun he => ?_⟩
  have := hown.lt k he.symm
  omega
 rcases A with _ | a
 ·have hm : m = 0 := by
   rcases Nat.eq_zero_or_pos m with h0 | h0
   ·exact h0
   ·obtain ⟨_, _, he, _⟩ := hA h0; cases he
  subst hm
  have hn : news = [] := bZ3 (by simpa using hl)
  subst hn
  obtain ⟨a', k', rfl⟩ := E0 hown
  exact ⟨a', k', w, aN7 ht g1 hown c, by simpa using hown, Below.refl _ _, ⟨rfl, rfl, rfl, bX4 _, fun _ _ _ => rfl⟩, fun g hg => .inl hg⟩
 ·have hcells : ∀ j u, news[j]? = some u → w.cell? (a.add j) = some u := by
   intro j u hu
   have h0 : 0 < m := by
    rcases Nat.eq_zero_or_pos m with h0 | h0
    ·subst h0
     have hn : news = [] := bZ3 (by simpa using hl)
     subst hn; simp at hu
    ·exact h0
   obtain ⟨b, off, he, hb, hx⟩ := hA h0
   cases he
   have hadd : (⟨b, off, none⟩ : Addr).add j = ⟨b, off + j, none⟩ := by unfold Addr.add; split <;> simp_all
   rw [hadd]
   exact hx j u hu
  obtain ⟨v', w', hrun, h2, h3, _, h5⟩ := run_append_own_at (P := P) w lo t ty e i z size bytes ht g1 g2 g3 g4 hzs hsz v n xs hown a m c news hl hcells h1 (by unfold maxLen; omega) hbytes hbase
  obtain ⟨a', k', rfl⟩ := E0 h2
  exact ⟨a', k', w', hrun, h2, below_of h3, h3, fun g hg => h5.elim (fun h => .inl (h ▸ hg)) fun h => .inr (by rw [h] at hg; cases hg; exact bX4 _)⟩
theorem W8 {P : Program} {w : World} {ops : Array Oper} {rest : List Oper} {o : Oper} {a : Act} {Q : Exit → Act → World → Prop} {lo : Nat} {t e : TypeId} {z : Value} {size bytes : Nat} {v : Value} {n : Nat} {xs : List Value} {u : Value} {m : Nat} {news : List Value}
  (hgd : o.guard = none) (s x : Operand) (ho : o.op = .call { callee := .builtin .append, args := #[s, x], argTypes := #[t, t] })
  (ht : P.underlying t = some (.slice e)) (hi : (P.info? e).map (fun i => (i.zero, i.size, i.bytes)) = some (some z, size, bytes))
  (hzs : z.cells.size = size) (hsz : 0 < size) (hs : a.eval s = v) (hown : w.ownsRow lo e size v n xs) (hx : a.eval x = u) (hr : F2 w u m size news) (h1 : ∀ u ∈ news, u.oneCell' = true)
  (h63 : n + m ≤ 9223372036854775807) (hbytes : (n + m) * bytes ≤ 140737488355328) (hbase : lo ≤ w.heap.size)
  (h : ∀ a' k' w', w'.ownsRow lo e size (.slice a' (n + m) k') (n + m) (xs ++ news) → Below lo w w' → w.grownBy w' v.ownBlock → (∀ g, (Value.slice a' (n + m) k').ownBlock = some g → v.ownBlock = some g ∨ w.heap.size ≤ g) → wpList P ops Q rest (a.put o.dst (.slice a' (n + m) k')) w') : wpList P ops Q (o :: rest) a w := by
 refine wpList_plain hgd fun K hK => ?_
 obtain ⟨a', k', w', hrun, h2, h3, h4, h5⟩ := ah8 (ty := o.type) ht hi hzs hsz hown hr h1 h63 hbytes hbase
 unfold Oper.wp execOp
 simp only [ho, resolve, invoke, builtin, Sem.run_bind, Sem.run_pure, Result.andThen_ok, List.map_toArray, bZ5, List.map_nil, hs, hx, hrun]
 exact hK _ _ (h a' k' w' h2 h3 h4 h5)
section
variable {P : Program}
theorem aB4 {x : Oper} {a : Act} {w : World} {K : Act → World → Prop} {Q Q0 : Exit → Act → World → Prop} (h0 : ∀ e a w, Q0 e a w → e = .normal) (h : x.wp P a w K Q0) : x.wp P a w K Q := by
 unfold Oper.wp at *
 generalize (execOp a.eval x).run P w = r at *
 cases r with
 | ok n w' =>
  cases n <;> simp only [Oper.upon] at h ⊢ <;>
   first
    | exact h
    | exact Calls.mono h (fun e w'' he => by
      cases e
      ·exact he
      ·exact absurd (h0 _ _ _ he) (by simp)
      ·obtain ⟨a, w, hq⟩ := he; exact absurd (h0 _ _ _ hq) (by simp))
 | halt y w' =>
  cases y <;> simp only [Oper.upon] at h ⊢ <;> first | exact h | exact absurd (h0 _ _ _ h) (by simp)
theorem a74 {l : List Oper} {Q : Exit → Act → World → Prop} (I : Array Bool → Act → World → Prop) (hb : aS7 l.toArray = true)
  (step : ∀ listed a w, I listed a w → ∀ i o, l[i]? = some o → listed.getD i true = false → (∀ e ∈ o.after, Region.binds .any e = true → listed.getD e.on false = true) →
   ∀ Q' : Exit → Act → World → Prop, (∀ a w, I (listed.setIfInBounds i true) a w → Q' .normal a w) → wpList P l.toArray Q' [o] a w)
  (done : ∀ listed a w, I listed a w → (∀ j, j < l.length → listed.getD j true = true) → Q .normal a w) :
  ∀ (fuel : Nat) (listed : Array Bool) (a : Act) (w : World), listed.size = l.toArray.size → listed.toList.count false = fuel → I listed a w → wpAny P .any l.toArray Q fuel listed a w := by
 have hfin : ∀ (listed : Array Bool) (a : Act) (w : World), listed.size = l.toArray.size → Region.ready .any l.toArray listed = [] → I listed a w → Q .normal a w := by
  intro listed a w hsz hr hI
  refine done listed a w hI fun j hj => ?_
  cases hl : listed.getD j true
  ·exact absurd hr (at5 hb hsz j (by simpa using hj) hl)
  ·rfl
 intro fuel
 induction fuel with
 | zero =>
  intro listed a w hsz hc hI
  have hr : Region.ready .any l.toArray listed = [] := by
   rw [List.eq_nil_iff_forall_not_mem]
   intro j hj
   have := I6 (mem_ready.1 hj).1
   omega
  exact ⟨hr, hfin listed a w hsz hr hI⟩
 | succ f ih =>
  intro listed a w hsz hc hI
  refine ⟨fun hr => hfin listed a w hsz hr hI, fun i hi => ?_⟩
  obtain ⟨h1, o, ho, h2⟩ := mem_ready.1 hi
  have ho' : l[i]? = some o := by simpa using ho
  have hcl := I6 h1
  have hs := step listed a w hI i o ho' h1 h2 (fun e a w => e = .normal ∧ I (listed.setIfInBounds i true) a w) fun a w h => ⟨rfl, h⟩
  unfold wpOp
  rw [ho]
  simp only
  unfold wpList at hs
  split
  ·rename_i hw
   rw [if_pos hw] at hs
   rcases hs with hs | ⟨_, a, w, he, _⟩
   ·exact .inl (aB4 (fun _ _ _ h => h.1) (Oper.wp_mono (fun a' w' h => ih _ a' w' (by simpa using hsz) (by omega) h.2) hs))
   ·cases he
  ·rename_i hw
   rw [if_neg hw] at hs
   exact ih _ _ _ (by simpa using hsz) (by omega) hs.2
theorem ay6 {id : Nat} {l : List Oper} {Q : Exit → Act → World → Prop} {a : Act} {w : World} (I : Array Bool → Act → World → Prop) (hm : P.follows .mixedOrders = true) (hb : aS7 l.toArray = true)
  (h0 : I (Array.replicate l.length false) a w.drew)
  (step : ∀ listed a w, I listed a w → ∀ i o, l[i]? = some o → listed.getD i true = false → (∀ e ∈ o.after, Region.binds .any e = true → listed.getD e.on false = true) →
   ∀ Q' : Exit → Act → World → Prop, (∀ a w, I (listed.setIfInBounds i true) a w → Q' .normal a w) → wpList P l.toArray Q' [o] a w)
  (done : ∀ listed a w, I listed a w → (∀ j, j < l.length → listed.getD j true = true) → Q .normal a w) : (Code.region id l.toArray true).wp P Q a w :=
 wp_region_any hm (a74 I hb step done _ _ _ _ (by simp) (by simp) (by simpa using h0))
end
def upd (f : Nat → Value) (i : Nat) (v : Value) : Nat → Value := fun k => if k = i then v else f k
section
variable {P : Program}
def N7 (a : Act) : List Oper → Nat → (Nat → Value) → Act
 | [], _, _ => a
 | o :: r, k, f => N7 (a.put o.dst (f k)) r (k + 1) f
def a63 : List Oper → Bool
 | [] => true
 | o :: r => (match o.dst with | none => true | some d => r.all fun q => q.dst != some d) && a63 r
theorem bs9 (a : Act) (d : Option Tmp) (v u : Value) : (a.put d v).put d u = a.put d u := by
 cases d with
 | none => rfl
 | some t => simp [Act.put]
theorem aW4 (l : List Oper) : ∀ (a : Act) (k : Nat) (f : Nat → Value) (d : Option Tmp) (v : Value), (∀ t, d = some t → l.all fun q => q.dst != some t) → (N7 a l k f).put d v = N7 (a.put d v) l k f := by
 induction l with
 | nil => intros; rfl
 | cons o r ih =>
  intro a k f d v h
  simp only [N7]
  rw [ih _ _ _ _ _ fun t ht => (by have := h t ht; simp only [List.all_cons, bX0] at this; exact this.2)]
  congr 1
  refine (Act.put_comm a v (f k) fun t ht he => ?_).symm
  have := h t ht
  simp [he] at this
theorem aW3 (l : List Oper) : ∀ (a : Act) (k i : Nat) (f : Nat → Value) (o : Oper) (v : Value), a63 l = true → l[i]? = some o → N7 a l k (upd f (k + i) v) = (N7 a l k f).put o.dst v := by
 induction l with
 | nil => intro a k i f o v _ h; simp at h
 | cons q r ih =>
  intro a k i f o v hd h
  simp only [a63, bX0] at hd
  cases i with
  | zero =>
   simp at h
   subst h
   simp only [N7, b07]
   rw [aW4 r _ _ _ _ _ fun t ht => (by have := hd.1; rw [ht] at this; exact this), bs9]
   have key : ∀ (l : List Oper) (a : Act) (m : Nat) (f g : Nat → Value), (∀ i, m ≤ i → f i = g i) → N7 a l m f = N7 a l m g := by
    intro l
    induction l with
    | nil => intros; rfl
    | cons o r ih => intro a m f g h; simp only [N7]; rw [h m (bX4 _)]; exact ih _ _ _ _ fun i hi => h i (by omega)
   rw [show upd f k v k = v by simp [upd]]
   exact key _ _ _ _ _ fun i hi => by simp only [upd]; rw [if_neg (by omega)]
  | succ i =>
   simp only [N7]
   rw [show k + (i + 1) = (k + 1) + i by omega, ih _ _ _ _ _ _ hd.2 (by simpa using h)]
   rw [show upd f (k + 1 + i) v k = f k by simp only [upd]; rw [if_neg (by omega)]]
structure bW6 (mk : (Nat → Value) → Act) (C : World → Prop) (R : Nat → Value → World → Prop) (n : Nat) (listed : Array Bool) (f : Nat → Value) (a : Act) (w : World) : Prop where
 act : a = mk f
 cls : C w
 val : ∀ i, i < n → listed.getD i false = true → R i (f i) w
end
def Agr (φ φ' : Nat → Prop) (w w' : World) : Prop := w.heap.size ≤ w'.heap.size ∧ ∀ b, b < w.heap.size → φ b → φ' b ∧ w'.heap[b]? = w.heap[b]?
def Y4 (R : World → (Nat → Prop) → Prop) : Prop := ∀ w w' φ φ', Agr φ φ' w w' → R w φ → R w' φ'
theorem Agr.below {φ : Nat → Prop} {w w' : World} (h : Below w.heap.size w w') : Agr φ φ w w' := ⟨h.size, fun b hb hf => ⟨hf, h.block b hb⟩⟩
theorem Agr.mono {φ φ' : Nat → Prop} {w : World} (h : ∀ b, b < w.heap.size → φ b → φ' b) : Agr φ φ' w w := ⟨bX4 _, fun b hb hf => ⟨h b hb hf, rfl⟩⟩
theorem Agr.cell {φ φ' : Nat → Prop} {w w' : World} (h : Agr φ φ' w w') {b o : Nat} (hb : b < w.heap.size) (hf : φ b) : w'.cell? ⟨b, o, none⟩ = w.cell? ⟨b, o, none⟩ := by
 simp only [World.cell?, (h.2 b hb hf).2]
def t4 (w : World) (φ : Nat → Prop) (v : Value) (n sz : Nat) (xs : List Value) : Prop :=
 xs.length = n * sz ∧ ∃ a cap, v = .slice a n cap ∧ n ≤ cap ∧ cap ≤ maxLen ∧
  (0 < n → ∃ b off, a = some ⟨b, off, none⟩ ∧ b < w.heap.size ∧ φ b ∧ ∀ j u, xs[j]? = some u → w.cell? ⟨b, off + j, none⟩ = some u)
theorem t4.nice (v : Value) (n sz : Nat) (xs : List Value) : Y4 fun w φ => t4 w φ v n sz xs := by
 rintro w w' φ φ' ha ⟨hl, a, cap, rfl, h1, h2, h3⟩
 refine ⟨hl, a, cap, rfl, h1, h2, fun hn => ?_⟩
 obtain ⟨b, off, rfl, hb, hf, hc⟩ := h3 hn
 exact ⟨b, off, rfl, b13 hb ha.1, (ha.2 b hb hf).1, fun j u hj => (ha.cell hb hf).trans (hc j u hj)⟩
theorem t4.row {w : World} {φ : Nat → Prop} {v : Value} {n sz : Nat} {xs : List Value} (h : t4 w φ v n sz xs) : F2 w v n sz xs := by
 obtain ⟨hl, a, cap, rfl, h1, h2, h3⟩ := h
 refine ⟨hl, a, cap, rfl, h1, h2, fun hn => ?_⟩
 obtain ⟨b, off, rfl, hb, _, hc⟩ := h3 hn
 exact ⟨b, off, rfl, hb, hc⟩
theorem F2.rowF {w : World} {v : Value} {n sz : Nat} {xs : List Value} (h : F2 w v n sz xs) {φ : Nat → Prop} (hf : ∀ b, b < w.heap.size → φ b) : t4 w φ v n sz xs := by
 obtain ⟨hl, a, cap, rfl, h1, h2, h3⟩ := h
 refine ⟨hl, a, cap, rfl, h1, h2, fun hn => ?_⟩
 obtain ⟨b, off, rfl, hb, hc⟩ := h3 hn
 exact ⟨b, off, rfl, hb, hf b hb, hc⟩
theorem t4.nil (w : World) (φ : Nat → Prop) (sz : Nat) : t4 w φ (.slice none 0 0) 0 sz [] := ⟨by simp, none, 0, rfl, bX4 _, by unfold maxLen; omega, fun h => absurd h (by omega)⟩
theorem A7 {w : World} {lo : Nat} {e : TypeId} {sz : Nat} {v : Value} {n : Nat} {xs : List Value} (h : w.ownsRow lo e sz v n xs) {φ : Nat → Prop} (hf : ∀ g, v.ownBlock = some g → φ g) : t4 w φ v n sz xs := by
 obtain ⟨hl, a, cap, hv, h1, h2, h3⟩ := V6 h
 refine ⟨hl, a, cap, hv, h1, h2, fun hn => ?_⟩
 obtain ⟨b, off, he, hb, hc⟩ := h3 hn
 refine ⟨b, off, he, hb, ?_, hc⟩
 rcases h.2 with ⟨hv', h0⟩ | ⟨g, cap', cur, hv', _⟩
 ·omega
 ·rw [hv'] at hv
  cases hv
  cases he
  exact hf _ (by rw [hv']; rfl)
inductive Z3 where
 | box (b : Nat) (cs : List Value)
 | row (e : TypeId) (sz : Nat) (v : Value) (n : Nat) (xs : List Value)
 | dat (R : World → (Nat → Prop) → Prop)
 | own (S : Nat → Prop) (R : World → Prop)
def Z3.blk : Z3 → Nat → Prop
 | .box b _ => fun g => g = b
 | .row _ _ v _ _ => fun g => v.ownBlock = some g
 | .dat _ => fun _ => False
 | .own S _ => S
def Fr (φ : Nat → Prop) (L : List Z3) (b : Nat) : Prop := φ b ∧ ∀ r ∈ L, ¬ r.blk b
def Z3.holds (w : World) (φ : Nat → Prop) : Z3 → Prop
 | .box b cs => y9 w b cs
 | .row e sz v n xs => w.ownsRow 0 e sz v n xs
 | .dat R => Y4 R ∧ R w φ
 | .own S R => (∀ w w', R w → (∀ b, S b → b < w.heap.size → w'.heap[b]? = w.heap[b]?) → R w') ∧ R w ∧ ∀ b, S b → b < w.heap.size
structure B7 (ψ : Nat → Prop) (w w' : World) : Prop where
 os : w'.os = w.os
 tape : w'.tape = w.tape
 output : w'.output = w.output
 size : w.heap.size ≤ w'.heap.size
 block : ∀ b, b < w.heap.size → ψ b → w'.heap[b]? = w.heap[b]?
theorem B7.refl (ψ : Nat → Prop) (w : World) : B7 ψ w w := ⟨rfl, rfl, rfl, bX4 _, fun _ _ _ => rfl⟩
theorem B7.trans {ψ : Nat → Prop} {a b c : World} (h : B7 ψ a b) (k : B7 ψ b c) : B7 ψ a c :=
 ⟨k.os.trans h.os, k.tape.trans h.tape, k.output.trans h.output, bZ6 h.size k.size, fun i hi hp => (k.block i (b13 hi h.size) hp).trans (h.block i hi hp)⟩
theorem B7.of_below {ψ : Nat → Prop} {w w' : World} {B : Nat} (h : Below B w w') (hB : ∀ b, b < w.heap.size → ψ b → b < B) : B7 ψ w w' := ⟨h.os, h.tape, h.output, h.size, fun b hb hp => h.block b (hB b hb hp)⟩
theorem B7.below {w w' : World} {ψ : Nat → Prop} (h : B7 ψ w w') (hp : ∀ b, b < w.heap.size → ψ b) : Below w.heap.size w w' := ⟨h.os, h.tape, h.output, h.size, fun b hb => h.block b hb (hp b hb)⟩
structure G7 (φ ψ : Nat → Prop) (w0 w : World) (L : List Z3) : Prop where
 kept : B7 ψ w0 w
 fresh : ∀ b, w0.heap.size ≤ b → φ b
 holds : ∀ (r : Z3), r ∈ L → r.holds w (Fr φ L)
 dis : ∀ (i j : Nat) (a b : Z3) (g : Nat), L[i]? = some a → L[j]? = some b → i ≠ j → a.blk g → ¬ b.blk g
 ge : ∀ (r : Z3) (b : Nat), r ∈ L → r.blk b → w0.heap.size ≤ b ∨ ¬ ψ b
section
variable {φ ψ : Nat → Prop} {w0 w w' : World} {L : List Z3}
theorem G7.start (hf : ∀ b, w0.heap.size ≤ b → φ b) : G7 φ ψ w0 w0 [] := ⟨B7.refl _ _, hf, (fun _ h => by cases h), (fun i j a b g h => by simp at h), (fun _ _ h => by cases h)⟩
theorem Z3.lt {r : Z3} (h : r.holds w φ) {b : Nat} (hb : r.blk b) : b < w.heap.size := by
 cases r with
 | box b' cs => cases hb; exact y9.lt h
 | row e sz v n xs => exact (World.ownsRow.lt h b hb).2
 | dat R => cases hb
 | own S R => exact h.2.2 b hb
theorem G7.lt (M : G7 φ ψ w0 w L) {r : Z3} (hr : r ∈ L) {b : Nat} (hb : r.blk b) : b < w.heap.size := Z3.lt (M.holds r hr) hb
theorem G7.size (M : G7 φ ψ w0 w L) : w0.heap.size ≤ w.heap.size := M.kept.size
theorem G7.below (M : G7 φ ψ w0 w L) (hp : ∀ b, b < w0.heap.size → ψ b) : Below w0.heap.size w0 w := M.kept.below hp
theorem Z3.keep {φ' : Nat → Prop} {r : Z3} (h : r.holds w φ) (ha : Agr φ φ' w w') (hb : ∀ b, r.blk b → w'.heap[b]? = w.heap[b]?) : r.holds w' φ' := by
 cases r with
 | box b cs => obtain ⟨T, h⟩ := h; exact ⟨T, (hb b rfl).trans h⟩
 | row e sz v n xs => exact (D6.same (lo := 0) (hi := w.heap.size) ⟨h, fun g hg => (World.ownsRow.lt h g hg).2⟩ hb).1
 | dat R => exact ⟨h.1, h.1 _ _ _ _ ha h.2⟩
 | own S R => exact ⟨h.1, h.1 _ _ h.2.1 fun b hs _ => hb b hs, fun b hs => b13 (h.2.2 b hs) ha.1⟩
theorem G7.call (M : G7 φ ψ w0 w L) (b : Below w.heap.size w w') : G7 φ ψ w0 w' L :=
 ⟨M.kept.trans (B7.of_below b fun _ h _ => h), M.fresh, fun r hr => Z3.keep (M.holds r hr) (Agr.below b) fun g hg => b.block g (M.lt hr hg), M.dis, M.ge⟩
theorem G7.drew (M : G7 φ ψ w0 w L) : G7 φ ψ w0 w.drew L := M.call (Below.refl _ _).drew
theorem Fr.snoc {r : Z3} {b : Nat} : Fr φ (L ++ [r]) b ↔ Fr φ L b ∧ ¬ r.blk b := by
 unfold Fr
 constructor
 ·rintro ⟨h1, h2⟩; exact ⟨⟨h1, fun x hx => h2 x (by simp [hx])⟩, h2 r (by simp)⟩
 ·rintro ⟨⟨h1, h2⟩, h3⟩
  refine ⟨h1, fun x hx => ?_⟩
  simp only [bY7, bZ2] at hx
  rcases hx with hx | rfl
  ·exact h2 x hx
  ·exact h3
theorem G7.add (M : G7 φ ψ w0 w L) (b : Below w.heap.size w w') (r : Z3) (h : r.holds w' (Fr φ (L ++ [r]))) (hg : ∀ g, r.blk g → w.heap.size ≤ g) : G7 φ ψ w0 w' (L ++ [r]) := by
 have M' := M.call b
 refine ⟨M'.kept, M.fresh, fun x hx => ?_, fun i j x y g hi hj hij hx hy => ?_, fun x g hx hxg => ?_⟩
 ·simp only [bY7, bZ2] at hx
  rcases hx with hx | rfl
  ·exact Z3.keep (M.holds x hx) ⟨b.size, fun c hc hf => ⟨Fr.snoc.2 ⟨hf, fun he => by have := hg c he; omega⟩, b.block c hc⟩⟩ fun g hgx => b.block g (M.lt hx hgx)
  ·exact h
 ·have lt : ∀ (k : Nat) (z : Z3), (L ++ [r])[k]? = some z → (k < L.length ∧ L[k]? = some z) ∨ (k = L.length ∧ z = r) := by
   intro k z hz
   rcases bY8 k L.length with hk | hk
   ·rw [b04 hk] at hz; exact .inl ⟨hk, hz⟩
   ·rw [b15 hk] at hz
    have : k - L.length = 0 := by
     rcases Nat.eq_zero_or_pos (k - L.length) with h | h
     ·exact h
     ·rw [bZ1 (by rw [List.length_singleton]; exact h)] at hz; cases hz
    rw [this] at hz; simp at hz
    exact .inr ⟨by omega, hz.symm⟩
  rcases lt i x hi with ⟨hi', h1⟩ | ⟨hi', rfl⟩ <;> rcases lt j y hj with ⟨hj', h2⟩ | ⟨hj', rfl⟩
  ·exact M.dis i j x y g h1 h2 hij hx hy
  ·have := M.lt (bY4 h1) hx; have := hg g hy; omega
  ·have := M.lt (bY4 h2) hy; have := hg g hx; omega
  ·omega
 ·simp only [bY7, bZ2] at hx
  rcases hx with hx | rfl
  ·exact M.ge x g hx hxg
  ·exact .inl (bZ6 M.size (hg g hxg))
theorem G7.box (M : G7 φ ψ w0 w L) (cs : List Value) (T : TypeId) : G7 φ ψ w0 (w.alloc (.cells cs.toArray T)) (L ++ [.box w.heap.size cs]) :=
 M.add ((Below.refl _ _).alloc (bX4 _) _) _ (y9.new w cs T) fun g hg => by cases hg; exact bX4 _
theorem G7.box' (M : G7 φ ψ w0 w L) (cs : List Value) (T : TypeId) {b : Nat} (hb : b = w.heap.size) : G7 φ ψ w0 (w.alloc (.cells cs.toArray T)) (L ++ [.box b cs]) := by subst hb; exact M.box cs T
theorem G7.dat (M : G7 φ ψ w0 w L) {R : World → (Nat → Prop) → Prop} (hn : Y4 R) (h : R w (Fr φ L)) : G7 φ ψ w0 w (L ++ [.dat R]) :=
 M.add (Below.refl _ _) _ ⟨hn, hn _ _ _ _ (Agr.mono fun b _ hf => Fr.snoc.2 ⟨hf, fun h => by cases h⟩) h⟩ fun g hg => by cases hg
theorem G7.nil (M : G7 φ ψ w0 w L) (e : TypeId) (sz : Nat) : G7 φ ψ w0 w (L ++ [.row e sz (.slice none 0 0) 0 []]) :=
 M.add (Below.refl _ _) _ (World.ownsRow_nil _ _ _ _) fun g hg => by cases hg
theorem Fr.set {r : Z3} {i : Nat} {a : Z3} (_hi : L[i]? = some a) {b : Nat} (h : Fr φ L b) (hr : ¬ r.blk b) : Fr φ (L.set i r) b :=
 ⟨h.1, fun x hx => by
  rcases List.mem_or_eq_of_mem_set hx with hx | rfl
  ·exact h.2 x hx
  ·exact hr⟩
theorem G7.put (M : G7 φ ψ w0 w L) {i : Nat} {a : Z3} (hi : L[i]? = some a) (r : Z3) (hk : B7 (fun b => ¬ a.blk b) w w') (h : r.holds w' (Fr φ (L.set i r))) (hg : ∀ g, r.blk g → a.blk g ∨ w.heap.size ≤ g) : G7 φ ψ w0 w' (L.set i r) := by
 have hil := (bX7.1 hi).1
 have ha := bY4 hi
 have get : ∀ (j : Nat) (z : Z3), (L.set i r)[j]? = some z → (j ≠ i ∧ L[j]? = some z) ∨ (j = i ∧ z = r) := by
  intro j z hz
  by_cases e : j = i
  ·subst e; rw [List.getElem?_set_self hil] at hz; exact .inr ⟨rfl, (Option.some.inj hz).symm⟩
  ·rw [List.getElem?_set_ne (fun h => e h.symm)] at hz; exact .inl ⟨e, hz⟩
 refine ⟨⟨hk.os.trans M.kept.os, hk.tape.trans M.kept.tape, hk.output.trans M.kept.output, bZ6 M.size hk.size, fun b hb hp => (hk.block b (b13 hb M.size) fun he => ?_).trans (M.kept.block b hb hp)⟩, M.fresh, fun x hx => ?_, fun j k x y g hj hk' hjk hx hy => ?_, fun x g hx hxg => ?_⟩
 ·rcases M.ge a b ha he with h' | h'
  ·omega
  ·exact h' hp
 ·obtain ⟨j, hj⟩ := List.mem_iff_getElem?.1 hx
  rcases get j x hj with ⟨hne, hj'⟩ | ⟨_, rfl⟩
  ·refine Z3.keep (M.holds x (bY4 hj')) ⟨hk.size, fun b hb hf => ⟨Fr.set hi hf fun he => ?_, hk.block b hb (hf.2 a ha)⟩⟩ fun g hgx => hk.block g (M.lt (bY4 hj') hgx) fun he => M.dis i j a x g hi hj' (fun e => hne e.symm) he hgx
   rcases hg b he with h' | h'
   ·exact hf.2 a ha h'
   ·omega
  ·exact h
 ·rcases get j x hj with ⟨hne, hj'⟩ | ⟨e1, rfl⟩ <;> rcases get k y hk' with ⟨hne', hk''⟩ | ⟨e2, rfl⟩
  ·exact M.dis j k x y g hj' hk'' hjk hx hy
  ·rcases hg g hy with h' | h'
   ·exact M.dis j i x a g hj' hi hne hx h'
   ·have := M.lt (bY4 hj') hx; omega
  ·rcases hg g hx with h' | h'
   ·exact M.dis i k a y g hi hk'' (fun e => hne' e.symm) h' hy
   ·have := M.lt (bY4 hk'') hy; omega
  ·omega
 ·obtain ⟨j, hj⟩ := List.mem_iff_getElem?.1 hx
  rcases get j x hj with ⟨hne, hj'⟩ | ⟨_, rfl⟩
  ·exact M.ge x g (bY4 hj') hxg
  ·rcases hg g hxg with h' | h'
   ·exact M.ge a g ha h'
   ·exact .inl (bZ6 M.size h')
theorem B7.mono {ψ ψ' : Nat → Prop} {w w' : World} (h : B7 ψ w w') (hp : ∀ b, ψ' b → ψ b) : B7 ψ' w w' := ⟨h.os, h.tape, h.output, h.size, fun b hb hp' => h.block b hb (hp b hp')⟩
theorem B7.setCell (w : World) (b j : Nat) (u : Value) : B7 (fun c => ¬ c = b) w (w.setCell ⟨b, j, none⟩ u) :=
 ⟨rfl, rfl, rfl, by simp [World.setCell], fun c _ hc => Below.heap_setCell _ _ _ _ hc⟩
theorem G7.set (M : G7 φ ψ w0 w L) (i : Nat) {b : Nat} {cs : List Value} (hi : L[i]? = some (.box b cs)) (j : Nat) (u : Value) : G7 φ ψ w0 (w.setCell ⟨b, j, none⟩ u) (L.set i (.box b (cs.set j u))) :=
 M.put hi _ (B7.setCell w b j u) (y9.set (M.holds _ (bY4 hi)) u) fun _ hg => .inl hg
theorem G7.setFrom (us : List Value) : ∀ {w : World} {L : List Z3} {p : Nat} {cs : List Value}, G7 φ ψ w0 w L → ∀ (i : Nat) {b : Nat}, L[i]? = some (.box b cs) → G7 φ ψ w0 (World.setFrom w b p us) (L.set i (.box b (Go.Proofs.YtmokkddidcmglaaGreat.setFrom cs p us))) := by
 induction us with
 | nil =>
  intro w L p cs M i b hi
  have : L.set i (.box b cs) = L := by
   apply List.ext_getElem?
   intro j
   rw [List.getElem?_set]
   split
   ·rename_i e; subst e; rw [if_pos (bX7.1 hi).1, hi]
   ·rfl
  show G7 φ ψ w0 w (L.set i (.box b cs))
  rw [this]; exact M
 | cons u r ih =>
  intro w L p cs M i b hi
  have h1 := M.set i hi p u
  have h2 := ih (p := p + 1) h1 i (by rw [List.getElem?_set_self (bX7.1 hi).1])
  rw [List.set_set] at h2
  exact h2
theorem aN2 {cs us : List Value} (h : us.length = cs.length) : Go.Proofs.YtmokkddidcmglaaGreat.setFrom cs 0 us = us := by
 have h1 := ah6 us cs 0 (by omega)
 rw [b06, bY3 (by rw [E3]; omega)] at h1
 simpa using h1
theorem G7.fill (M : G7 φ ψ w0 w L) (i : Nat) {b : Nat} {cs : List Value} (hi : L[i]? = some (.box b cs)) (us : List Value) (h : us.length = cs.length) : G7 φ ψ w0 (World.setFrom w b 0 us) (L.set i (.box b us)) := by
 have h1 := M.setFrom us (p := 0) i hi
 rwa [aN2 h] at h1
theorem G7.app (M : G7 φ ψ w0 w L) (i : Nat) {e : TypeId} {sz : Nat} {v v' : Value} {n n' : Nat} {xs xs' : List Value} (hi : L[i]? = some (.row e sz v n xs)) (h : w'.ownsRow 0 e sz v' n' xs') (hg : w.grownBy w' v.ownBlock) (hb : ∀ g, v'.ownBlock = some g → v.ownBlock = some g ∨ w.heap.size ≤ g) :
  G7 φ ψ w0 w' (L.set i (.row e sz v' n' xs')) :=
 M.put hi _ ⟨hg.os, hg.tape, hg.output, hg.size, fun b hb hn => hg.block b hb fun h => hn h.symm⟩ h hb
theorem G7.o (M : G7 φ ψ w0 w L) (i : Nat) {S : Nat → Prop} {R : World → Prop} (hi : L[i]? = some (.own S R)) : R w := (M.holds _ (bY4 hi)).2.1
theorem G7.take (M : G7 φ ψ w0 w L) (k : Nat) : G7 φ ψ w0 w (L.take k) :=
 ⟨M.kept, M.fresh, fun r hr => Z3.keep (M.holds r (List.mem_of_mem_take hr)) (Agr.mono fun _ _ hf => ⟨hf.1, fun x hx => hf.2 x (List.mem_of_mem_take hx)⟩) fun _ _ => rfl,
  fun i j a b g hi hj hij => M.dis i j a b g (by rw [List.getElem?_take] at hi; split at hi; exact hi; cases hi) (by rw [List.getElem?_take] at hj; split at hj; exact hj; cases hj) hij, fun r b hr => M.ge r b (List.mem_of_mem_take hr)⟩
theorem G7.sel (M : G7 φ ψ w0 w L) (is : List Nat) (L' : List Z3) (h : L'.map some = is.map fun i => L[i]?) (hn : is.Nodup) : G7 φ ψ w0 w L' := by
 have hl : L'.length = is.length := by simpa using congrArg List.length h
 have get : ∀ (j : Nat) (r : Z3), L'[j]? = some r → ∃ i, is[j]? = some i ∧ L[i]? = some r := by
  intro j r hj
  have h1 : (L'.map some)[j]? = some (some r) := by simp [hj]
  rw [h, List.getElem?_map] at h1
  cases hi : is[j]? with
  | none => rw [hi] at h1; cases h1
  | some i => rw [hi] at h1; exact ⟨i, rfl, Option.some.inj h1⟩
 have mem : ∀ r, r ∈ L' → r ∈ L := fun r hr => by
  obtain ⟨j, hj⟩ := List.mem_iff_getElem?.1 hr
  obtain ⟨i, _, hi⟩ := get j r hj
  exact bY4 hi
 refine ⟨M.kept, M.fresh, fun r hr => Z3.keep (M.holds r (mem r hr)) (Agr.mono fun _ _ hf => ⟨hf.1, fun x hx => hf.2 x (mem x hx)⟩) fun _ _ => rfl, fun j k a b g hj hk hjk ha hb => ?_, fun r b hr => M.ge r b (mem r hr)⟩
 obtain ⟨i1, e1, h1⟩ := get j a hj
 obtain ⟨i2, e2, h2⟩ := get k b hk
 refine M.dis i1 i2 a b g h1 h2 (fun e => hjk ?_) ha hb
 subst e
 have hlt := (bX7.1 e1).1
 exact (List.getElem?_inj hlt hn).1 (e1.trans e2.symm)
theorem G7.c (M : G7 φ ψ w0 w L) (i j : Nat) {b : Nat} {cs : List Value} {u : Value} (hi : L[i]? = some (.box b cs)) (hj : cs[j]? = some u) : w.cell? ⟨b, j, none⟩ = some u :=
 (y9.cell (M.holds _ (bY4 hi)) j).trans hj
theorem G7.f (M : G7 φ ψ w0 w L) (i : Nat) {b : Nat} {cs : List Value} (hi : L[i]? = some (.box b cs)) : ∀ j, w.frozen? ⟨b, j, none⟩ = false := y9.free (M.holds _ (bY4 hi))
theorem G7.blk (M : G7 φ ψ w0 w L) (i : Nat) {b : Nat} {cs : List Value} (hi : L[i]? = some (.box b cs)) : y9 w b cs := M.holds _ (bY4 hi)
theorem G7.r (M : G7 φ ψ w0 w L) (i : Nat) {e : TypeId} {sz : Nat} {v : Value} {n : Nat} {xs : List Value} (hi : L[i]? = some (.row e sz v n xs)) : w.ownsRow 0 e sz v n xs := M.holds _ (bY4 hi)
theorem G7.d (M : G7 φ ψ w0 w L) (i : Nat) {R : World → (Nat → Prop) → Prop} (hi : L[i]? = some (.dat R)) : R w (Fr φ L) := (M.holds _ (bY4 hi)).2
theorem G7.dn (M : G7 φ ψ w0 w L) (i : Nat) {R : World → (Nat → Prop) → Prop} (hi : L[i]? = some (.dat R)) : Y4 R := (M.holds _ (bY4 hi)).1
theorem G7.out (M : G7 φ ψ w0 w L) (i : Nat) {R : World → (Nat → Prop) → Prop} (hi : L[i]? = some (.dat R)) : R w φ := M.dn i hi _ _ _ _ (Agr.mono fun _ _ hf => hf.1) (M.d i hi)
theorem G7.as (M : G7 φ ψ w0 w L) (L' : List Z3) (h : L = L') : G7 φ ψ w0 w L' := h ▸ M
end
end Go.Proofs.YtmokkddidcmglaaGreat

namespace Go.Proofs.YtmokkddidcmglaaGreat
inductive c8 where
 | mk (kind value : Int) (kids : List c8)
def c8.kind : c8 → Int | ⟨k, _, _⟩ => k
def c8.value : c8 → Int | ⟨_, n, _⟩ => n
def c8.kids : c8 → List c8 | ⟨_, _, ks⟩ => ks
inductive c6 where
 | mk (kind target : Int) (index value : c8) (count : Int) (body els : List c6)
def c6.kind : c6 → Int | ⟨k, _, _, _, _, _, _⟩ => k
def c6.target : c6 → Int | ⟨_, t, _, _, _, _, _⟩ => t
def c6.index : c6 → c8 | ⟨_, _, i, _, _, _, _⟩ => i
def c6.value : c6 → c8 | ⟨_, _, _, v, _, _, _⟩ => v
def c6.count : c6 → Int | ⟨_, _, _, _, c, _, _⟩ => c
def c6.body : c6 → List c6 | ⟨_, _, _, _, _, b, _⟩ => b
def c6.els : c6 → List c6 | ⟨_, _, _, _, _, _, e⟩ => e
structure j7 where
 vars : List Int
 arrays : List Int
 body : List c6
mutual
theorem c8.ind {P : c8 → Prop} (h : ∀ k n ks, (∀ e ∈ ks, P e) → P ⟨k, n, ks⟩) : ∀ e : c8, P e
 | ⟨k, n, ks⟩ => h k n ks (c8.indL h ks)
theorem c8.indL {P : c8 → Prop} (h : ∀ k n ks, (∀ e ∈ ks, P e) → P ⟨k, n, ks⟩) : ∀ ks : List c8, ∀ e ∈ ks, P e
 | [] => fun _ hm => by cases hm
 | a :: r => fun _ hm => (b02.1 hm).elim (fun he => he ▸ c8.ind h a) fun hm => c8.indL h r _ hm
end
mutual
theorem c6.ind {P : c6 → Prop} (h : ∀ k t i v c b e, (∀ s ∈ b, P s) → (∀ s ∈ e, P s) → P ⟨k, t, i, v, c, b, e⟩) : ∀ s : c6, P s
 | ⟨k, t, i, v, c, b, e⟩ => h k t i v c b e (c6.indL h b) (c6.indL h e)
theorem c6.indL {P : c6 → Prop} (h : ∀ k t i v c b e, (∀ s ∈ b, P s) → (∀ s ∈ e, P s) → P ⟨k, t, i, v, c, b, e⟩) : ∀ ss : List c6, ∀ s ∈ ss, P s
 | [] => fun _ hm => by cases hm
 | a :: r => fun _ hm => (b02.1 hm).elim (fun he => he ▸ c6.ind h a) fun hm => c6.indL h r _ hm
end
mutual
def P4 : c8 → Nat
 | ⟨_, _, ks⟩ => M5 ks
def M5 : List c8 → Nat
 | [] => 0
 | e :: r => 1 + P4 e + M5 r
end
mutual
def szS : c6 → Nat
 | ⟨_, _, i, v, _, b, e⟩ => P4 i + P4 v + s6 b + s6 e
def s6 : List c6 → Nat
 | [] => 0
 | s :: r => 1 + szS s + s6 r
end
def j7.size (p : j7) : Nat := p.vars.length + p.arrays.length + s6 p.body
theorem aa1 (a b : List c8) : M5 (a ++ b) = M5 a + M5 b := by
 induction a with
 | nil => simp [M5]
 | cons x r ih => simp [M5, ih]; omega
theorem ao0 (a b : List c6) : s6 (a ++ b) = s6 a + s6 b := by
 induction a with
 | nil => simp [s6]
 | cons x r ih => simp [s6, ih]; omega
theorem aM5 (a : List c8) : a.length ≤ M5 a := by
 induction a with
 | nil => simp
 | cons x r ih => simp only [M5, bX8]; omega
theorem ah2 (a : List c6) : a.length ≤ s6 a := by
 induction a with
 | nil => simp
 | cons x r ih => simp only [s6, bX8]; omega
theorem bp6 {s : c6} {ss : List c6} (h : s ∈ ss) : szS s < s6 ss := by
 induction ss with
 | nil => cases h
 | cons x r ih =>
  simp only [s6]
  rcases b02.1 h with rfl | h
  ·omega
  ·have := ih h; omega
mutual
def aN3 : c8 → c8 → Bool
 | ⟨k, n, ks⟩, ⟨k', n', ks'⟩ => decide (k = k') && decide (n = n') && af3 ks ks'
def af3 : List c8 → List c8 → Bool
 | [], [] => true
 | e :: r, e' :: r' => aN3 e e' && af3 r r'
 | _, _ => false
end
mutual
def bf8 : c6 → c6 → Bool
 | ⟨k, t, i, v, c, b, e⟩, ⟨k', t', i', v', c', b', e'⟩ => decide (k = k') && decide (t = t') && aN3 i i' && aN3 v v' && decide (c = c') && X2 b b' && X2 e e'
def X2 : List c6 → List c6 → Bool
 | [], [] => true
 | s :: r, s' :: r' => bf8 s s' && X2 r r'
 | _, _ => false
end
mutual
theorem at7 : ∀ (a b : c8), aN3 a b = true ↔ a = b
 | ⟨k, n, ks⟩, ⟨k', n', ks'⟩ => by
  simp only [aN3, bX0, decide_eq_true_eq, c8.mk.injEq, aC3 ks ks', and_assoc]
theorem aC3 : ∀ (a b : List c8), af3 a b = true ↔ a = b
 | [], [] => by simp [af3]
 | [], _ :: _ => by simp [af3]
 | _ :: _, [] => by simp [af3]
 | e :: r, e' :: r' => by simp only [af3, bX0, List.cons.injEq, at7 e e', aC3 r r']
end
mutual
theorem bf7 : ∀ (a b : c6), bf8 a b = true ↔ a = b
 | ⟨k, t, i, v, c, b, e⟩, ⟨k', t', i', v', c', b', e'⟩ => by
  simp only [bf8, bX0, decide_eq_true_eq, c6.mk.injEq, at7 i i', at7 v v', ac2 b b', ac2 e e', and_assoc]
theorem ac2 : ∀ (a b : List c6), X2 a b = true ↔ a = b
 | [], [] => by simp [X2]
 | [], _ :: _ => by simp [X2]
 | _ :: _, [] => by simp [X2]
 | e :: r, e' :: r' => by simp only [X2, bX0, List.cons.injEq, bf7 e e', ac2 r r']
end
def j7.same (p q : j7) : Bool := decide (p.vars = q.vars) && decide (p.arrays = q.arrays) && X2 p.body q.body
theorem j7.same_eq {p q : j7} : p.same q = true ↔ p = q := by
 cases p; cases q
 simp only [j7.same, bX0, decide_eq_true_eq, j7.mk.injEq, ac2, and_assoc]
end Go.Proofs.YtmokkddidcmglaaGreat

namespace Go.Proofs.YtmokkddidcmglaaGreat
open Go Go.RowKit
section
mutual
def N3 (w : World) (φ : Nat → Prop) : c8 → List Value → Prop
 | ⟨k, n, ks⟩, cs => ∃ v xs, cs = [.int .i64 k, .int .i64 n, v] ∧ t4 w φ v ks.length 3 xs ∧ x6 w φ ks xs
def x6 (w : World) (φ : Nat → Prop) : List c8 → List Value → Prop
 | [], xs => xs = []
 | e :: r, xs => ∃ c ys, xs = c ++ ys ∧ N3 w φ e c ∧ x6 w φ r ys
end
def E5 (w : World) (φ : Nat → Prop) (v : Value) (ks : List c8) : Prop := ∃ xs, t4 w φ v ks.length 3 xs ∧ x6 w φ ks xs
def a71 (w : World) (φ : Nat → Prop) (v : Value) (e : c8) : Prop := ∃ kv, v = .agg #[.int .i64 e.kind, .int .i64 e.value, kv] ∧ E5 w φ kv e.kids
mutual
def L8 (w : World) (φ : Nat → Prop) : c6 → List Value → Prop
 | ⟨k, t, i, v, c, b, e⟩, cs => ∃ iv vv bv ev xb xe, cs = [.int .i64 k, .int .i64 t, .int .i64 i.kind, .int .i64 i.value, iv, .int .i64 v.kind, .int .i64 v.value, vv, .int .i64 c, bv, ev] ∧
   E5 w φ iv i.kids ∧ E5 w φ vv v.kids ∧ t4 w φ bv b.length 11 xb ∧ v6 w φ b xb ∧ t4 w φ ev e.length 11 xe ∧ v6 w φ e xe
def v6 (w : World) (φ : Nat → Prop) : List c6 → List Value → Prop
 | [], xs => xs = []
 | s :: r, xs => ∃ c ys, xs = c ++ ys ∧ L8 w φ s c ∧ v6 w φ r ys
end
def F0 (w : World) (φ : Nat → Prop) (v : Value) (ss : List c6) : Prop := ∃ xs, t4 w φ v ss.length 11 xs ∧ v6 w φ ss xs
def a70 (w : World) (φ : Nat → Prop) (v : Value) (s : c6) : Prop :=
 ∃ iv vv bv ev, v = .agg #[.int .i64 s.kind, .int .i64 s.target, .int .i64 s.index.kind, .int .i64 s.index.value, iv, .int .i64 s.value.kind, .int .i64 s.value.value, vv, .int .i64 s.count, bv, ev] ∧
  E5 w φ iv s.index.kids ∧ E5 w φ vv s.value.kids ∧ F0 w φ bv s.body ∧ F0 w φ ev s.els
def bp0 (w : World) (φ : Nat → Prop) (v : Value) (p : j7) : Prop :=
 ∃ v1 v2 v3, v = .agg #[v1, v2, v3] ∧ t4 w φ v1 p.vars.length 1 (ints p.vars) ∧ t4 w φ v2 p.arrays.length 1 (ints p.arrays) ∧ F0 w φ v3 p.body
variable {w w' : World} {φ φ' : Nat → Prop}
mutual
theorem N3.agr (ha : Agr φ φ' w w') : ∀ (e : c8) (cs : List Value), N3 w φ e cs → N3 w' φ' e cs
 | ⟨_, _, ks⟩, _, ⟨v, xs, h1, h2, h3⟩ => ⟨v, xs, h1, t4.nice _ _ _ _ _ _ _ _ ha h2, x6.agr ha ks xs h3⟩
theorem x6.agr (ha : Agr φ φ' w w') : ∀ (ks : List c8) (xs : List Value), x6 w φ ks xs → x6 w' φ' ks xs
 | [], _, h => h
 | e :: r, _, ⟨c, ys, h1, h2, h3⟩ => ⟨c, ys, h1, N3.agr ha e c h2, x6.agr ha r ys h3⟩
end
theorem x6.nice (ks : List c8) (xs : List Value) : Y4 fun w φ => x6 w φ ks xs := fun _ _ _ _ ha h => x6.agr ha ks xs h
theorem E5.nice (v : Value) (ks : List c8) : Y4 fun w φ => E5 w φ v ks := fun _ _ _ _ ha ⟨xs, h1, h2⟩ => ⟨xs, t4.nice _ _ _ _ _ _ _ _ ha h1, x6.agr ha ks xs h2⟩
theorem a71.nice (v : Value) (e : c8) : Y4 fun w φ => a71 w φ v e := fun _ _ _ _ ha ⟨kv, h1, h2⟩ => ⟨kv, h1, E5.nice _ _ _ _ _ _ ha h2⟩
mutual
theorem L8.agr (ha : Agr φ φ' w w') : ∀ (s : c6) (cs : List Value), L8 w φ s cs → L8 w' φ' s cs
 | ⟨_, _, _, _, _, b, e⟩, _, ⟨iv, vv, bv, ev, xb, xe, h1, h2, h3, h4, h5, h6, h7⟩ =>
  ⟨iv, vv, bv, ev, xb, xe, h1, E5.nice _ _ _ _ _ _ ha h2, E5.nice _ _ _ _ _ _ ha h3, t4.nice _ _ _ _ _ _ _ _ ha h4, v6.agr ha b xb h5, t4.nice _ _ _ _ _ _ _ _ ha h6, v6.agr ha e xe h7⟩
theorem v6.agr (ha : Agr φ φ' w w') : ∀ (ss : List c6) (xs : List Value), v6 w φ ss xs → v6 w' φ' ss xs
 | [], _, h => h
 | s :: r, _, ⟨c, ys, h1, h2, h3⟩ => ⟨c, ys, h1, L8.agr ha s c h2, v6.agr ha r ys h3⟩
end
theorem v6.nice (ss : List c6) (xs : List Value) : Y4 fun w φ => v6 w φ ss xs := fun _ _ _ _ ha h => v6.agr ha ss xs h
theorem F0.nice (v : Value) (ss : List c6) : Y4 fun w φ => F0 w φ v ss := fun _ _ _ _ ha ⟨xs, h1, h2⟩ => ⟨xs, t4.nice _ _ _ _ _ _ _ _ ha h1, v6.agr ha ss xs h2⟩
theorem a70.nice (v : Value) (s : c6) : Y4 fun w φ => a70 w φ v s := fun _ _ _ _ ha ⟨iv, vv, bv, ev, h1, h2, h3, h4, h5⟩ =>
 ⟨iv, vv, bv, ev, h1, E5.nice _ _ _ _ _ _ ha h2, E5.nice _ _ _ _ _ _ ha h3, F0.nice _ _ _ _ _ _ ha h4, F0.nice _ _ _ _ _ _ ha h5⟩
theorem bp0.nice (v : Value) (p : j7) : Y4 fun w φ => bp0 w φ v p := fun _ _ _ _ ha ⟨v1, v2, v3, h1, h2, h3, h4⟩ =>
 ⟨v1, v2, v3, h1, t4.nice _ _ _ _ _ _ _ _ ha h2, t4.nice _ _ _ _ _ _ _ _ ha h3, F0.nice _ _ _ _ _ _ ha h4⟩
theorem N3.iff (e : c8) (cs : List Value) : N3 w φ e cs ↔ ∃ kv, cs = [.int .i64 e.kind, .int .i64 e.value, kv] ∧ E5 w φ kv e.kids := by
 cases e with
 | mk k n ks => exact ⟨fun ⟨v, xs, h1, h2, h3⟩ => ⟨v, h1, xs, h2, h3⟩, fun ⟨v, h1, xs, h2, h3⟩ => ⟨v, xs, h1, h2, h3⟩⟩
theorem L8.iff (s : c6) (cs : List Value) : L8 w φ s cs ↔ ∃ iv vv bv ev, cs = [.int .i64 s.kind, .int .i64 s.target, .int .i64 s.index.kind, .int .i64 s.index.value, iv, .int .i64 s.value.kind, .int .i64 s.value.value, vv, .int .i64 s.count, bv, ev] ∧
  E5 w φ iv s.index.kids ∧ E5 w φ vv s.value.kids ∧ F0 w φ bv s.body ∧ F0 w φ ev s.els := by
 cases s with
 | mk k t i v c b e =>
  exact ⟨fun ⟨iv, vv, bv, ev, xb, xe, h1, h2, h3, h4, h5, h6, h7⟩ => ⟨iv, vv, bv, ev, h1, h2, h3, ⟨xb, h4, h5⟩, ⟨xe, h6, h7⟩⟩,
   fun ⟨iv, vv, bv, ev, h1, h2, h3, ⟨xb, h4, h5⟩, ⟨xe, h6, h7⟩⟩ => ⟨iv, vv, bv, ev, xb, xe, h1, h2, h3, h4, h5, h6, h7⟩⟩
theorem a71.iff {v : Value} {e : c8} : a71 w φ v e ↔ ∃ cs : List Value, v = .agg cs.toArray ∧ N3 w φ e cs :=
 ⟨fun ⟨kv, h1, h2⟩ => ⟨_, h1, (N3.iff e _).2 ⟨kv, rfl, h2⟩⟩, fun ⟨cs, h1, h2⟩ => by obtain ⟨kv, rfl, h3⟩ := (N3.iff e cs).1 h2; exact ⟨kv, h1, h3⟩⟩
theorem a70.iff {v : Value} {s : c6} : a70 w φ v s ↔ ∃ cs : List Value, v = .agg cs.toArray ∧ L8 w φ s cs :=
 ⟨fun ⟨iv, vv, bv, ev, h1, h2⟩ => ⟨_, h1, (L8.iff s _).2 ⟨iv, vv, bv, ev, rfl, h2⟩⟩, fun ⟨cs, h1, h2⟩ => by obtain ⟨iv, vv, bv, ev, rfl, h3⟩ := (L8.iff s cs).1 h2; exact ⟨iv, vv, bv, ev, h1, h3⟩⟩
theorem x6.len : ∀ {ks : List c8} {xs : List Value}, x6 w φ ks xs → xs.length = ks.length * 3
 | [], _, h => by rw [show _ = [] from h]; rfl
 | e :: r, _, ⟨c, ys, h1, h2, h3⟩ => by
  obtain ⟨kv, rfl, _⟩ := (N3.iff e c).1 h2
  rw [h1, bX1, x6.len h3, bX8]; simp; omega
theorem v6.len : ∀ {ss : List c6} {xs : List Value}, v6 w φ ss xs → xs.length = ss.length * 11
 | [], _, h => by rw [show _ = [] from h]; rfl
 | s :: r, _, ⟨c, ys, h1, h2, h3⟩ => by
  obtain ⟨iv, vv, bv, ev, rfl, _⟩ := (L8.iff s c).1 h2
  rw [h1, bX1, v6.len h3, bX8]; simp; omega
theorem x6.at : ∀ {ks : List c8} {xs : List Value}, x6 w φ ks xs → ∀ (i : Nat) (hi : i < ks.length), ∃ kv, xs[i * 3]? = some (.int .i64 ks[i].kind) ∧ xs[i * 3 + 1]? = some (.int .i64 ks[i].value) ∧ xs[i * 3 + 2]? = some kv ∧ E5 w φ kv ks[i].kids
 | [], _, _, i, hi => by simp at hi
 | e :: r, _, ⟨c, ys, h1, h2, h3⟩, i, hi => by
  obtain ⟨kv, rfl, hk⟩ := (N3.iff e c).1 h2
  subst h1
  cases i with
  | zero => exact ⟨kv, rfl, rfl, rfl, hk⟩
  | succ i =>
   obtain ⟨kv', a, b, d, f⟩ := x6.at h3 i (by simpa using hi)
   refine ⟨kv', ?_, ?_, ?_, f⟩ <;> (rw [bZ8]; simpa [Nat.add_assoc] using by assumption)
theorem v6.at : ∀ {ss : List c6} {xs : List Value}, v6 w φ ss xs → ∀ (i : Nat) (hi : i < ss.length), ∃ cs : List Value, cs.length = 11 ∧ L8 w φ ss[i] cs ∧ ∀ j, j < 11 → xs[i * 11 + j]? = cs[j]?
 | [], _, _, i, hi => by simp at hi
 | s :: r, _, ⟨c, ys, h1, h2, h3⟩, i, hi => by
  have hc : c.length = 11 := by obtain ⟨iv, vv, bv, ev, rfl, _⟩ := (L8.iff s c).1 h2; rfl
  subst h1
  cases i with
  | zero => exact ⟨c, hc, h2, fun j hj => by rw [b04 (by omega)]; simp⟩
  | succ i =>
   obtain ⟨cs, a, b, d⟩ := v6.at h3 i (by simpa using hi)
   refine ⟨cs, a, b, fun j hj => ?_⟩
   rw [b15 (by rw [hc, bZ8]; omega), ← d j hj]
   congr 1
   rw [hc, bZ8]; omega
theorem x6.append : ∀ {ks : List c8} {xs : List Value} {ls : List c8} {ys : List Value}, x6 w φ ks xs → x6 w φ ls ys → x6 w φ (ks ++ ls) (xs ++ ys)
 | [], _, _, _, h, k => by rw [show _ = [] from h]; exact k
 | e :: r, _, _, _, ⟨c, zs, h1, h2, h3⟩, k => ⟨c, zs ++ _, by rw [h1, b12], h2, x6.append h3 k⟩
theorem x6.one {e : c8} {c : List Value} (h : N3 w φ e c) : x6 w φ [e] c := ⟨c, [], by simp, h, rfl⟩
theorem v6.append : ∀ {ks : List c6} {xs : List Value} {ls : List c6} {ys : List Value}, v6 w φ ks xs → v6 w φ ls ys → v6 w φ (ks ++ ls) (xs ++ ys)
 | [], _, _, _, h, k => by rw [show _ = [] from h]; exact k
 | e :: r, _, _, _, ⟨c, zs, h1, h2, h3⟩, k => ⟨c, zs ++ _, by rw [h1, b12], h2, v6.append h3 k⟩
theorem v6.one {s : c6} {c : List Value} (h : L8 w φ s c) : v6 w φ [s] c := ⟨c, [], by simp, h, rfl⟩
theorem E5.open {v : Value} {ks : List c8} (h : E5 w φ v ks) : ∃ a cap, v = .slice a ks.length cap ∧ ks.length ≤ cap ∧ ks.length ≤ 9223372036854775807 ∧ cap ≤ 9223372036854775807 ∧
  ∀ i (hi : i < ks.length), ∃ b off kv, a = some ⟨b, off, none⟩ ∧ b < w.heap.size ∧ φ b ∧ w.cell? ⟨b, off + i * 3, none⟩ = some (.int .i64 ks[i].kind) ∧ w.cell? ⟨b, off + i * 3 + 1, none⟩ = some (.int .i64 ks[i].value) ∧ w.cell? ⟨b, off + i * 3 + 2, none⟩ = some kv ∧ E5 w φ kv ks[i].kids := by
 obtain ⟨xs, ⟨hl, a, cap, rfl, h1, h2, h3⟩, hx⟩ := h
 unfold maxLen at h2
 refine ⟨a, cap, rfl, h1, by omega, by omega, fun i hi => ?_⟩
 obtain ⟨b, off, rfl, hb, hf, hc⟩ := h3 (by omega)
 obtain ⟨kv, e0, e1, e2, hk⟩ := hx.at i hi
 exact ⟨b, off, kv, rfl, hb, hf, hc _ _ e0, hc _ _ e1, hc _ _ e2, hk⟩
theorem F0.open {v : Value} {ss : List c6} (h : F0 w φ v ss) : ∃ a cap, v = .slice a ss.length cap ∧ ss.length ≤ cap ∧ ss.length ≤ 9223372036854775807 ∧ cap ≤ 9223372036854775807 ∧
  ∀ i (hi : i < ss.length), ∃ b off iv vv bv ev, a = some ⟨b, off, none⟩ ∧ b < w.heap.size ∧ φ b ∧
   (w.cell? ⟨b, off + i * 11, none⟩ = some (.int .i64 ss[i].kind) ∧ w.cell? ⟨b, off + i * 11 + 1, none⟩ = some (.int .i64 ss[i].target) ∧ w.cell? ⟨b, off + i * 11 + 2, none⟩ = some (.int .i64 ss[i].index.kind) ∧ w.cell? ⟨b, off + i * 11 + 3, none⟩ = some (.int .i64 ss[i].index.value) ∧ w.cell? ⟨b, off + i * 11 + 4, none⟩ = some iv ∧
    w.cell? ⟨b, off + i * 11 + 5, none⟩ = some (.int .i64 ss[i].value.kind) ∧ w.cell? ⟨b, off + i * 11 + 6, none⟩ = some (.int .i64 ss[i].value.value) ∧ w.cell? ⟨b, off + i * 11 + 7, none⟩ = some vv ∧ w.cell? ⟨b, off + i * 11 + 8, none⟩ = some (.int .i64 ss[i].count) ∧ w.cell? ⟨b, off + i * 11 + 9, none⟩ = some bv ∧ w.cell? ⟨b, off + i * 11 + 10, none⟩ = some ev) ∧
   E5 w φ iv ss[i].index.kids ∧ E5 w φ vv ss[i].value.kids ∧ F0 w φ bv ss[i].body ∧ F0 w φ ev ss[i].els := by
 obtain ⟨xs, ⟨hl, a, cap, rfl, h1, h2, h3⟩, hx⟩ := h
 unfold maxLen at h2
 refine ⟨a, cap, rfl, h1, by omega, by omega, fun i hi => ?_⟩
 obtain ⟨b, off, rfl, hb, hf, hc⟩ := h3 (by omega)
 obtain ⟨cs, hl2, hs, hj⟩ := hx.at i hi
 obtain ⟨iv, vv, bv, ev, rfl, k1, k2, k3, k4⟩ := (L8.iff _ _).1 hs
 refine ⟨b, off, iv, vv, bv, ev, rfl, hb, hf, ⟨?_, ?_, ?_, ?_, ?_, ?_, ?_, ?_, ?_, ?_, ?_⟩, k1, k2, k3, k4⟩
 ·have := hc (i * 11 + 0) _ ((hj 0 (by omega)).trans rfl); simpa using this
 ·exact hc (i * 11 + 1) _ ((hj 1 (by omega)).trans rfl)
 ·exact hc (i * 11 + 2) _ ((hj 2 (by omega)).trans rfl)
 ·exact hc (i * 11 + 3) _ ((hj 3 (by omega)).trans rfl)
 ·exact hc (i * 11 + 4) _ ((hj 4 (by omega)).trans rfl)
 ·exact hc (i * 11 + 5) _ ((hj 5 (by omega)).trans rfl)
 ·exact hc (i * 11 + 6) _ ((hj 6 (by omega)).trans rfl)
 ·exact hc (i * 11 + 7) _ ((hj 7 (by omega)).trans rfl)
 ·exact hc (i * 11 + 8) _ ((hj 8 (by omega)).trans rfl)
 ·exact hc (i * 11 + 9) _ ((hj 9 (by omega)).trans rfl)
 ·exact hc (i * 11 + 10) _ ((hj 10 (by omega)).trans rfl)
theorem E5.nil (w : World) (φ : Nat → Prop) : E5 w φ (.slice none 0 0) [] := ⟨[], t4.nil _ _ _, rfl⟩
theorem F0.nil (w : World) (φ : Nat → Prop) : F0 w φ (.slice none 0 0) [] := ⟨[], t4.nil _ _ _, rfl⟩
end
section
mutual
def C1 (w : World) : c8 → (Nat → Prop) → List Value → Prop
 | ⟨k, n, ks⟩, S, cs => ∃ (v : Value) (xs : List Value) (S' : Nat → Prop), cs = [.int .i64 k, .int .i64 n, v] ∧ w.ownsRow 0 109 3 v ks.length xs ∧ (∀ g, v.ownBlock = some g → S g ∧ ¬ S' g) ∧ (∀ b, S' b → S b) ∧ n5 w ks S' xs
def n5 (w : World) : List c8 → (Nat → Prop) → List Value → Prop
 | [], _, xs => xs = []
 | e :: r, S, xs => ∃ (c ys : List Value) (S1 S2 : Nat → Prop), xs = c ++ ys ∧ (∀ b, S1 b → S b ∧ ¬ S2 b) ∧ (∀ b, S2 b → S b) ∧ C1 w e S1 c ∧ n5 w r S2 ys
end
def E6 (w : World) (v : Value) (ks : List c8) (S : Nat → Prop) : Prop :=
 ∃ (xs : List Value) (S' : Nat → Prop), w.ownsRow 0 109 3 v ks.length xs ∧ (∀ g, v.ownBlock = some g → S g ∧ ¬ S' g) ∧ (∀ b, S' b → S b) ∧ n5 w ks S' xs
mutual
def D2 (w : World) : c6 → (Nat → Prop) → List Value → Prop
 | ⟨k, t, i, v, c, b, e⟩, S, cs => ∃ (iv vv bv ev : Value) (xb xe : List Value) (Si Sv Sb Se Sb' Se' : Nat → Prop), cs = [.int .i64 k, .int .i64 t, .int .i64 i.kind, .int .i64 i.value, iv, .int .i64 v.kind, .int .i64 v.value, vv, .int .i64 c, bv, ev] ∧
   ((∀ b, Si b → S b ∧ ¬ Sv b ∧ ¬ Sb b ∧ ¬ Se b) ∧ (∀ b, Sv b → S b ∧ ¬ Sb b ∧ ¬ Se b) ∧ (∀ b, Sb b → S b ∧ ¬ Se b) ∧ (∀ b, Se b → S b)) ∧ E6 w iv i.kids Si ∧ E6 w vv v.kids Sv ∧
   (w.ownsRow 0 111 11 bv b.length xb ∧ (∀ g, bv.ownBlock = some g → Sb g ∧ ¬ Sb' g) ∧ (∀ b, Sb' b → Sb b) ∧ m9 w b Sb' xb) ∧
   (w.ownsRow 0 111 11 ev e.length xe ∧ (∀ g, ev.ownBlock = some g → Se g ∧ ¬ Se' g) ∧ (∀ b, Se' b → Se b) ∧ m9 w e Se' xe)
def m9 (w : World) : List c6 → (Nat → Prop) → List Value → Prop
 | [], _, xs => xs = []
 | s :: r, S, xs => ∃ (c ys : List Value) (S1 S2 : Nat → Prop), xs = c ++ ys ∧ (∀ b, S1 b → S b ∧ ¬ S2 b) ∧ (∀ b, S2 b → S b) ∧ D2 w s S1 c ∧ m9 w r S2 ys
end
def G8 (w : World) (v : Value) (ss : List c6) (S : Nat → Prop) : Prop :=
 ∃ (xs : List Value) (S' : Nat → Prop), w.ownsRow 0 111 11 v ss.length xs ∧ (∀ g, v.ownBlock = some g → S g ∧ ¬ S' g) ∧ (∀ b, S' b → S b) ∧ m9 w ss S' xs
def ap0 (w : World) (v : Value) (p : j7) (S : Nat → Prop) : Prop :=
 ∃ (v1 v2 v3 : Value) (S3 : Nat → Prop), v = .agg #[v1, v2, v3] ∧ w.ownsRow 0 3 1 v1 p.vars.length (ints p.vars) ∧ w.ownsRow 0 3 1 v2 p.arrays.length (ints p.arrays) ∧ G8 w v3 p.body S3 ∧
  (∀ g, v1.ownBlock = some g → S g ∧ ¬ S3 g ∧ v2.ownBlock ≠ some g) ∧ (∀ g, v2.ownBlock = some g → S g ∧ ¬ S3 g) ∧ (∀ b, S3 b → S b)
variable {w w' : World} {S S' φ : Nat → Prop}
theorem D9 {e : TypeId} {sz : Nat} {v : Value} {n : Nat} {xs : List Value} (h : w.ownsRow 0 e sz v n xs) (hs : ∀ g, v.ownBlock = some g → w'.heap[g]? = w.heap[g]?) : w'.ownsRow 0 e sz v n xs :=
 (D6.same (D6.mk' h) hs).1
mutual
theorem C1.same : ∀ (e : c8) (S : Nat → Prop) (cs : List Value), C1 w e S cs → (∀ b, S b → b < w.heap.size → w'.heap[b]? = w.heap[b]?) → C1 w' e S cs
 | ⟨_, _, ks⟩, S, _, ⟨v, xs, S', h1, h2, h3, h4, h5⟩, hs => ⟨v, xs, S', h1, D9 h2 fun g hg => hs g (h3 g hg).1 (World.ownsRow.lt h2 g hg).2, h3, h4, n5.same ks S' xs h5 fun b hb => hs b (h4 b hb)⟩
theorem n5.same : ∀ (ks : List c8) (S : Nat → Prop) (xs : List Value), n5 w ks S xs → (∀ b, S b → b < w.heap.size → w'.heap[b]? = w.heap[b]?) → n5 w' ks S xs
 | [], _, _, h, _ => h
 | e :: r, S, _, ⟨c, ys, S1, S2, h1, h2, h3, h4, h5⟩, hs => ⟨c, ys, S1, S2, h1, h2, h3, C1.same e S1 c h4 fun b hb => hs b (h2 b hb).1, n5.same r S2 ys h5 fun b hb => hs b (h3 b hb)⟩
end
theorem E6.same {v : Value} {ks : List c8} (h : E6 w v ks S) (hs : ∀ b, S b → b < w.heap.size → w'.heap[b]? = w.heap[b]?) : E6 w' v ks S := by
 obtain ⟨xs, S', h2, h3, h4, h5⟩ := h
 exact ⟨xs, S', D9 h2 fun g hg => hs g (h3 g hg).1 (World.ownsRow.lt h2 g hg).2, h3, h4, n5.same ks S' xs h5 fun b hb => hs b (h4 b hb)⟩
mutual
theorem D2.same : ∀ (s : c6) (S : Nat → Prop) (cs : List Value), D2 w s S cs → (∀ b, S b → b < w.heap.size → w'.heap[b]? = w.heap[b]?) → D2 w' s S cs
 | ⟨_, _, _, _, _, b, e⟩, S, _, ⟨iv, vv, bv, ev, xb, xe, Si, Sv, Sb, Se, Sb', Se', h1, ⟨d1, d2, d3, d4⟩, h2, h3, ⟨b1, b2, b3, b4⟩, ⟨e1, e2, e3, e4⟩⟩, hs =>
  ⟨iv, vv, bv, ev, xb, xe, Si, Sv, Sb, Se, Sb', Se', h1, ⟨d1, d2, d3, d4⟩, h2.same fun b hb => hs b (d1 b hb).1, h3.same fun b hb => hs b (d2 b hb).1,
   ⟨D9 b1 fun g hg => hs g (d3 g (b2 g hg).1).1 (World.ownsRow.lt b1 g hg).2, b2, b3, m9.same b Sb' xb b4 fun x hx => hs x (d3 x (b3 x hx)).1⟩,
   ⟨D9 e1 fun g hg => hs g (d4 g (e2 g hg).1) (World.ownsRow.lt e1 g hg).2, e2, e3, m9.same e Se' xe e4 fun x hx => hs x (d4 x (e3 x hx))⟩⟩
theorem m9.same : ∀ (ss : List c6) (S : Nat → Prop) (xs : List Value), m9 w ss S xs → (∀ b, S b → b < w.heap.size → w'.heap[b]? = w.heap[b]?) → m9 w' ss S xs
 | [], _, _, h, _ => h
 | s :: r, S, _, ⟨c, ys, S1, S2, h1, h2, h3, h4, h5⟩, hs => ⟨c, ys, S1, S2, h1, h2, h3, D2.same s S1 c h4 fun b hb => hs b (h2 b hb).1, m9.same r S2 ys h5 fun b hb => hs b (h3 b hb)⟩
end
theorem G8.same {v : Value} {ss : List c6} (h : G8 w v ss S) (hs : ∀ b, S b → b < w.heap.size → w'.heap[b]? = w.heap[b]?) : G8 w' v ss S := by
 obtain ⟨xs, S', h2, h3, h4, h5⟩ := h
 exact ⟨xs, S', D9 h2 fun g hg => hs g (h3 g hg).1 (World.ownsRow.lt h2 g hg).2, h3, h4, m9.same ss S' xs h5 fun b hb => hs b (h4 b hb)⟩
theorem ap0.same {v : Value} {p : j7} (h : ap0 w v p S) (hs : ∀ b, S b → b < w.heap.size → w'.heap[b]? = w.heap[b]?) : ap0 w' v p S := by
 obtain ⟨v1, v2, v3, S3, rfl, h1, h2, h3, d1, d2, d3⟩ := h
 exact ⟨v1, v2, v3, S3, rfl, D9 h1 fun g hg => hs g (d1 g hg).1 (World.ownsRow.lt h1 g hg).2, D9 h2 fun g hg => hs g (d2 g hg).1 (World.ownsRow.lt h2 g hg).2, h3.same fun b hb => hs b (d3 b hb), d1, d2, d3⟩
theorem E6.mono {v : Value} {ks : List c8} (h : E6 w v ks S) (hs : ∀ b, S b → S' b) : E6 w v ks S' := by
 obtain ⟨xs, T, h2, h3, h4, h5⟩ := h
 exact ⟨xs, T, h2, fun g hg => ⟨hs g (h3 g hg).1, (h3 g hg).2⟩, fun b hb => hs b (h4 b hb), h5⟩
theorem G8.mono {v : Value} {ss : List c6} (h : G8 w v ss S) (hs : ∀ b, S b → S' b) : G8 w v ss S' := by
 obtain ⟨xs, T, h2, h3, h4, h5⟩ := h
 exact ⟨xs, T, h2, fun g hg => ⟨hs g (h3 g hg).1, (h3 g hg).2⟩, fun b hb => hs b (h4 b hb), h5⟩
theorem ap0.mono {v : Value} {p : j7} (h : ap0 w v p S) (hs : ∀ b, S b → S' b) : ap0 w v p S' := by
 obtain ⟨v1, v2, v3, S3, rfl, h1, h2, h3, d1, d2, d3⟩ := h
 exact ⟨v1, v2, v3, S3, rfl, h1, h2, h3, fun g hg => ⟨hs g (d1 g hg).1, (d1 g hg).2⟩, fun g hg => ⟨hs g (d2 g hg).1, (d2 g hg).2⟩, fun b hb => hs b (d3 b hb)⟩
mutual
theorem C1.read : ∀ (e : c8) (S : Nat → Prop) (cs : List Value), C1 w e S cs → (∀ b, S b → φ b) → N3 w φ e cs
 | ⟨_, _, ks⟩, S, _, ⟨v, xs, S', h1, h2, h3, h4, h5⟩, hs => ⟨v, xs, h1, A7 h2 fun g hg => hs g (h3 g hg).1, n5.read ks S' xs h5 fun b hb => hs b (h4 b hb)⟩
theorem n5.read : ∀ (ks : List c8) (S : Nat → Prop) (xs : List Value), n5 w ks S xs → (∀ b, S b → φ b) → x6 w φ ks xs
 | [], _, _, h, _ => h
 | e :: r, S, _, ⟨c, ys, S1, S2, h1, h2, h3, h4, h5⟩, hs => ⟨c, ys, h1, C1.read e S1 c h4 fun b hb => hs b (h2 b hb).1, n5.read r S2 ys h5 fun b hb => hs b (h3 b hb)⟩
end
theorem E6.read {v : Value} {ks : List c8} (h : E6 w v ks S) (hs : ∀ b, S b → φ b) : E5 w φ v ks := by
 obtain ⟨xs, T, h2, h3, h4, h5⟩ := h
 exact ⟨xs, A7 h2 fun g hg => hs g (h3 g hg).1, n5.read ks T xs h5 fun b hb => hs b (h4 b hb)⟩
mutual
theorem D2.read : ∀ (s : c6) (S : Nat → Prop) (cs : List Value), D2 w s S cs → (∀ b, S b → φ b) → L8 w φ s cs
 | ⟨_, _, _, _, _, b, e⟩, S, _, ⟨iv, vv, bv, ev, xb, xe, Si, Sv, Sb, Se, Sb', Se', h1, ⟨d1, d2, d3, d4⟩, h2, h3, ⟨b1, b2, b3, b4⟩, ⟨e1, e2, e3, e4⟩⟩, hs =>
  ⟨iv, vv, bv, ev, xb, xe, h1, h2.read fun b hb => hs b (d1 b hb).1, h3.read fun b hb => hs b (d2 b hb).1,
   A7 b1 fun g hg => hs g (d3 g (b2 g hg).1).1, m9.read b Sb' xb b4 fun x hx => hs x (d3 x (b3 x hx)).1,
   A7 e1 fun g hg => hs g (d4 g (e2 g hg).1), m9.read e Se' xe e4 fun x hx => hs x (d4 x (e3 x hx))⟩
theorem m9.read : ∀ (ss : List c6) (S : Nat → Prop) (xs : List Value), m9 w ss S xs → (∀ b, S b → φ b) → v6 w φ ss xs
 | [], _, _, h, _ => h
 | s :: r, S, _, ⟨c, ys, S1, S2, h1, h2, h3, h4, h5⟩, hs => ⟨c, ys, h1, D2.read s S1 c h4 fun b hb => hs b (h2 b hb).1, m9.read r S2 ys h5 fun b hb => hs b (h3 b hb)⟩
end
theorem G8.read {v : Value} {ss : List c6} (h : G8 w v ss S) (hs : ∀ b, S b → φ b) : F0 w φ v ss := by
 obtain ⟨xs, T, h2, h3, h4, h5⟩ := h
 exact ⟨xs, A7 h2 fun g hg => hs g (h3 g hg).1, m9.read ss T xs h5 fun b hb => hs b (h4 b hb)⟩
theorem ap0.read {v : Value} {p : j7} (h : ap0 w v p S) (hs : ∀ b, S b → φ b) : bp0 w φ v p := by
 obtain ⟨v1, v2, v3, S3, rfl, h1, h2, h3, d1, d2, d3⟩ := h
 exact ⟨v1, v2, v3, rfl, A7 h1 fun g hg => hs g (d1 g hg).1, A7 h2 fun g hg => hs g (d2 g hg).1, h3.read fun b hb => hs b (d3 b hb)⟩
def bQ0 (R : World → (Nat → Prop) → Prop) (S : Nat → Prop) : World → (Nat → Prop) → Prop := fun w φ => R w S ∧ ∀ b, S b → b < w.heap.size ∧ φ b
theorem bQ0.nice {R : World → (Nat → Prop) → Prop} (S : Nat → Prop) (hR : ∀ w w' : World, R w S → (∀ b, S b → b < w.heap.size → w'.heap[b]? = w.heap[b]?) → R w' S) : Y4 (bQ0 R S) :=
 fun w w' _ _ ha ⟨h1, h2⟩ => ⟨hR w w' h1 fun b hb hlt => (ha.2 b hlt (h2 b hb).2).2, fun b hb => ⟨b13 (h2 b hb).1 ha.1, (ha.2 b (h2 b hb).1 (h2 b hb).2).1⟩⟩
theorem n5.mono : ∀ {ks : List c8} {S S' : Nat → Prop} {xs : List Value}, n5 w ks S xs → (∀ b, S b → S' b) → n5 w ks S' xs
 | [], _, _, _, h, _ => h
 | _ :: _, _, _, _, ⟨c, ys, S1, S2, h1, h2, h3, h4, h5⟩, hs => ⟨c, ys, S1, S2, h1, fun b hb => ⟨hs b (h2 b hb).1, (h2 b hb).2⟩, fun b hb => hs b (h3 b hb), h4, h5⟩
theorem m9.mono : ∀ {ks : List c6} {S S' : Nat → Prop} {xs : List Value}, m9 w ks S xs → (∀ b, S b → S' b) → m9 w ks S' xs
 | [], _, _, _, h, _ => h
 | _ :: _, _, _, _, ⟨c, ys, S1, S2, h1, h2, h3, h4, h5⟩, hs => ⟨c, ys, S1, S2, h1, fun b hb => ⟨hs b (h2 b hb).1, (h2 b hb).2⟩, fun b hb => hs b (h3 b hb), h4, h5⟩
theorem n5.snoc : ∀ {ks : List c8} {S S' T : Nat → Prop} {xs c : List Value} {e : c8}, n5 w ks S xs → C1 w e T c → (∀ b, S b → S' b ∧ ¬ T b) → (∀ b, T b → S' b) → n5 w (ks ++ [e]) S' (xs ++ c)
 | [], S, S', T, xs, c, e, h, k, d, f => by
  rw [show xs = [] from h]
  exact ⟨c, [], T, fun _ => False, by simp, fun b hb => ⟨f b hb, fun h => h⟩, fun b hb => hb.elim, k, rfl⟩
 | a :: r, S, S', T, _, c, e, ⟨x, ys, S1, S2, h1, h2, h3, h4, h5⟩, k, d, f =>
  ⟨x, ys ++ c, S1, fun b => S2 b ∨ T b, by rw [h1, b12], fun b hb => ⟨(d b (h2 b hb).1).1, fun h => h.elim (h2 b hb).2 (d b (h2 b hb).1).2⟩, fun b hb => hb.elim (fun h => (d b (h3 b h)).1) (f b), h4,
   n5.snoc h5 k (fun b hb => ⟨.inl hb, (d b (h3 b hb)).2⟩) fun b hb => .inr hb⟩
theorem m9.snoc : ∀ {ks : List c6} {S S' T : Nat → Prop} {xs c : List Value} {e : c6}, m9 w ks S xs → D2 w e T c → (∀ b, S b → S' b ∧ ¬ T b) → (∀ b, T b → S' b) → m9 w (ks ++ [e]) S' (xs ++ c)
 | [], S, S', T, xs, c, e, h, k, d, f => by
  rw [show xs = [] from h]
  exact ⟨c, [], T, fun _ => False, by simp, fun b hb => ⟨f b hb, fun h => h⟩, fun b hb => hb.elim, k, rfl⟩
 | a :: r, S, S', T, _, c, e, ⟨x, ys, S1, S2, h1, h2, h3, h4, h5⟩, k, d, f =>
  ⟨x, ys ++ c, S1, fun b => S2 b ∨ T b, by rw [h1, b12], fun b hb => ⟨(d b (h2 b hb).1).1, fun h => h.elim (h2 b hb).2 (d b (h2 b hb).1).2⟩, fun b hb => hb.elim (fun h => (d b (h3 b h)).1) (f b), h4,
   m9.snoc h5 k (fun b hb => ⟨.inl hb, (d b (h3 b hb)).2⟩) fun b hb => .inr hb⟩
theorem C1.iff (e : c8) (S : Nat → Prop) (cs : List Value) : C1 w e S cs ↔ ∃ kv, cs = [.int .i64 e.kind, .int .i64 e.value, kv] ∧ E6 w kv e.kids S := by
 cases e with
 | mk k n ks => exact ⟨fun ⟨v, xs, T, h1, h2⟩ => ⟨v, h1, xs, T, h2⟩, fun ⟨v, h1, xs, T, h2⟩ => ⟨v, xs, T, h1, h2⟩⟩
theorem D2.iff (s : c6) (S : Nat → Prop) (cs : List Value) : D2 w s S cs ↔ ∃ (iv vv bv ev : Value) (Si Sv Sb Se : Nat → Prop), cs = [.int .i64 s.kind, .int .i64 s.target, .int .i64 s.index.kind, .int .i64 s.index.value, iv, .int .i64 s.value.kind, .int .i64 s.value.value, vv, .int .i64 s.count, bv, ev] ∧
  ((∀ b, Si b → S b ∧ ¬ Sv b ∧ ¬ Sb b ∧ ¬ Se b) ∧ (∀ b, Sv b → S b ∧ ¬ Sb b ∧ ¬ Se b) ∧ (∀ b, Sb b → S b ∧ ¬ Se b) ∧ (∀ b, Se b → S b)) ∧ E6 w iv s.index.kids Si ∧ E6 w vv s.value.kids Sv ∧ G8 w bv s.body Sb ∧ G8 w ev s.els Se := by
 cases s with
 | mk k t i v c b e =>
  exact ⟨fun ⟨iv, vv, bv, ev, xb, xe, Si, Sv, Sb, Se, Sb', Se', h1, h2, h3, h4, h5, h6⟩ => ⟨iv, vv, bv, ev, Si, Sv, Sb, Se, h1, h2, h3, h4, ⟨xb, Sb', h5⟩, ⟨xe, Se', h6⟩⟩,
   fun ⟨iv, vv, bv, ev, Si, Sv, Sb, Se, h1, h2, h3, h4, ⟨xb, Sb', h5⟩, ⟨xe, Se', h6⟩⟩ => ⟨iv, vv, bv, ev, xb, xe, Si, Sv, Sb, Se, Sb', Se', h1, h2, h3, h4, h5, h6⟩⟩
end
theorem O7 (us : List Value) : ∀ (c ys : List Value) (p : Nat), c.length ≤ p → setFrom (c ++ ys) p us = c ++ setFrom ys (p - c.length) us := by
 induction us with
 | nil => intro c ys p _; rfl
 | cons u r ih =>
  intro c ys p hp
  simp only [setFrom]
  rw [List.set_append_right _ _ hp, ih _ _ _ (by omega), show p + 1 - c.length = p - c.length + 1 by omega]
theorem Q5 (us : List Value) : ∀ (c ys : List Value) (p : Nat), p + us.length ≤ c.length → setFrom (c ++ ys) p us = setFrom c p us ++ ys := by
 induction us with
 | nil => intro c ys p _; rfl
 | cons u r ih =>
  intro c ys p hp
  simp only [bX8] at hp
  simp only [setFrom]
  rw [List.set_append_left _ _ (by omega), ih _ _ _ (by simp; omega)]
theorem ae5 {c us : List Value} (h : us.length = c.length) : setFrom c 0 us = us := by
 have h1 := ah6 us c 0 (by omega)
 rw [b06, bY3 (by rw [E3]; omega)] at h1
 simpa using h1
theorem C1.len {w : World} {e : c8} {S : Nat → Prop} {c : List Value} (h : C1 w e S c) : c.length = 3 := by
 obtain ⟨kv, rfl, _⟩ := (C1.iff e S c).1 h; rfl
theorem D2.len {w : World} {s : c6} {S : Nat → Prop} {c : List Value} (h : D2 w s S c) : c.length = 11 := by
 obtain ⟨_, _, _, _, _, _, _, _, rfl, _⟩ := (D2.iff s S c).1 h; rfl
theorem n5.focus {w : World} : ∀ {ls : List c8} {S : Nat → Prop} {xs : List Value}, n5 w ls S xs → ∀ (i : Nat) (hi : i < ls.length), ∃ (c : List Value) (Sc : Nat → Prop), C1 w ls[i] Sc c ∧ (∀ b, Sc b → S b) ∧ (∀ j, j < 3 → xs[i * 3 + j]? = c[j]?) ∧
  ∀ (w' : World) (e' : c8) (c' : List Value), (∀ b, S b → ¬ Sc b → b < w.heap.size → w'.heap[b]? = w.heap[b]?) → C1 w' e' Sc c' → n5 w' (ls.set i e') S (setFrom xs (i * 3) c')
 | [], _, _, _, i, hi => by simp at hi
 | e :: r, S, xs, ⟨c, ys, S1, S2, h1, h2, h3, h4, h5⟩, i, hi => by
  have hc := h4.len
  subst h1
  cases i with
  | zero =>
   refine ⟨c, S1, h4, fun b hb => (h2 b hb).1, fun j hj => by rw [b04 (by omega)]; simp, fun w' e' c' hs hO => ?_⟩
   refine ⟨c', ys, S1, S2, ?_, h2, h3, hO, n5.same r S2 ys h5 fun b hb hlt => hs b (h3 b hb) (fun h => (h2 b h).2 hb) hlt⟩
   rw [Nat.zero_mul, Q5 c' c ys 0 (by rw [hO.len]; omega), ae5 (by rw [hO.len, hc])]
  | succ i =>
   obtain ⟨d, Sc, k1, k2, k3, k4⟩ := n5.focus h5 i (by simpa using hi)
   refine ⟨d, Sc, k1, fun b hb => h3 b (k2 b hb), fun j hj => ?_, fun w' e' c' hs hO => ?_⟩
   ·rw [b15 (by rw [hc, bZ8]; omega), ← k3 j hj]
    congr 1
    rw [hc, bZ8]; omega
   ·refine ⟨c, setFrom ys (i * 3) c', S1, S2, ?_, h2, h3, C1.same e S1 c h4 fun b hb hlt => hs b (h2 b hb).1 (fun h => (h2 b hb).2 (k2 b h)) hlt, k4 w' e' c' (fun b hb hn hlt => hs b (h3 b hb) hn hlt) hO⟩
    rw [O7 c' c ys _ (by rw [hc, bZ8]; omega), hc, bZ8, Nat.add_sub_cancel]
theorem m9.focus {w : World} : ∀ {ls : List c6} {S : Nat → Prop} {xs : List Value}, m9 w ls S xs → ∀ (i : Nat) (hi : i < ls.length), ∃ (c : List Value) (Sc : Nat → Prop), D2 w ls[i] Sc c ∧ (∀ b, Sc b → S b) ∧ (∀ j, j < 11 → xs[i * 11 + j]? = c[j]?) ∧
  ∀ (w' : World) (e' : c6) (c' : List Value), (∀ b, S b → ¬ Sc b → b < w.heap.size → w'.heap[b]? = w.heap[b]?) → D2 w' e' Sc c' → m9 w' (ls.set i e') S (setFrom xs (i * 11) c')
 | [], _, _, _, i, hi => by simp at hi
 | e :: r, S, xs, ⟨c, ys, S1, S2, h1, h2, h3, h4, h5⟩, i, hi => by
  have hc := h4.len
  subst h1
  cases i with
  | zero =>
   refine ⟨c, S1, h4, fun b hb => (h2 b hb).1, fun j hj => by rw [b04 (by omega)]; simp, fun w' e' c' hs hO => ?_⟩
   refine ⟨c', ys, S1, S2, ?_, h2, h3, hO, m9.same r S2 ys h5 fun b hb hlt => hs b (h3 b hb) (fun h => (h2 b h).2 hb) hlt⟩
   rw [Nat.zero_mul, Q5 c' c ys 0 (by rw [hO.len]; omega), ae5 (by rw [hO.len, hc])]
  | succ i =>
   obtain ⟨d, Sc, k1, k2, k3, k4⟩ := m9.focus h5 i (by simpa using hi)
   refine ⟨d, Sc, k1, fun b hb => h3 b (k2 b hb), fun j hj => ?_, fun w' e' c' hs hO => ?_⟩
   ·rw [b15 (by rw [hc, bZ8]; omega), ← k3 j hj]
    congr 1
    rw [hc, bZ8]; omega
   ·refine ⟨c, setFrom ys (i * 11) c', S1, S2, ?_, h2, h3, D2.same e S1 c h4 fun b hb hlt => hs b (h2 b hb).1 (fun h => (h2 b hb).2 (k2 b h)) hlt, k4 w' e' c' (fun b hb hn hlt => hs b (h3 b hb) hn hlt) hO⟩
    rw [O7 c' c ys _ (by rw [hc, bZ8]; omega), hc, bZ8, Nat.add_sub_cancel]
section
variable {φ ψ : Nat → Prop} {w0 w w' : World} {L : List Z3}
theorem n5.at : ∀ {ks : List c8} {S : Nat → Prop} {xs : List Value}, n5 w ks S xs → ∀ (i : Nat) (hi : i < ks.length), ∃ kv, xs[i * 3]? = some (.int .i64 ks[i].kind) ∧ xs[i * 3 + 1]? = some (.int .i64 ks[i].value) ∧ xs[i * 3 + 2]? = some kv ∧ E6 w kv ks[i].kids S
 | [], _, _, _, i, hi => by simp at hi
 | e :: r, S, _, ⟨c, ys, S1, S2, h1, h2, h3, h4, h5⟩, i, hi => by
  obtain ⟨kv, rfl, hk⟩ := (C1.iff e S1 c).1 h4
  subst h1
  cases i with
  | zero => exact ⟨kv, rfl, rfl, rfl, hk.mono fun b hb => (h2 b hb).1⟩
  | succ i =>
   obtain ⟨kv', a, b, d, f⟩ := n5.at h5 i (by simpa using hi)
   refine ⟨kv', ?_, ?_, ?_, f.mono h3⟩ <;> (rw [bZ8]; simpa [Nat.add_assoc] using by assumption)
theorem E6.open {v : Value} {ks : List c8} {S : Nat → Prop} (h : E6 w v ks S) : ∃ a cap, v = .slice a ks.length cap ∧ ks.length ≤ cap ∧ ks.length ≤ 9223372036854775807 ∧ cap ≤ 9223372036854775807 ∧
  ∀ i (hi : i < ks.length), ∃ b off kv, a = some ⟨b, off, none⟩ ∧ b < w.heap.size ∧ S b ∧ w.cell? ⟨b, off + i * 3, none⟩ = some (.int .i64 ks[i].kind) ∧ w.cell? ⟨b, off + i * 3 + 1, none⟩ = some (.int .i64 ks[i].value) ∧ w.cell? ⟨b, off + i * 3 + 2, none⟩ = some kv ∧ E6 w kv ks[i].kids S := by
 obtain ⟨xs, S', h2, h3, h4, h5⟩ := h
 obtain ⟨hl, a, cap, hv, n1, n2, n3⟩ := A7 (φ := fun g => S g ∧ ¬ S' g) h2 h3
 unfold maxLen at n2
 refine ⟨a, cap, hv, n1, by omega, by omega, fun i hi => ?_⟩
 obtain ⟨b, off, he, hb, hf, hc⟩ := n3 (by omega)
 obtain ⟨kv, e0, e1, e2, hk⟩ := h5.at i hi
 exact ⟨b, off, kv, he, hb, hf.1, hc _ _ e0, hc _ _ e1, hc _ _ e2, hk.mono h4⟩
theorem E6.nil (w : World) (S : Nat → Prop) : E6 w (.slice none 0 0) [] S := ⟨[], fun _ => False, World.ownsRow_nil _ _ _ _, (fun g hg => by cases hg), fun _ h => h.elim, rfl⟩
end
theorem aa3 (us : List Value) : ∀ (ys : List Value) (p q : Nat), p + us.length ≤ ys.length → (setFrom ys p us)[q]? = if p ≤ q ∧ q < p + us.length then us[q - p]? else ys[q]? := by
 induction us with
 | nil => intro ys p q _; simp only [setFrom, bY2]; split; omega; rfl
 | cons u r ih =>
  intro ys p q h
  simp only [bX8] at h
  simp only [setFrom, bX8]
  rw [ih _ _ _ (by simp; omega)]
  by_cases h1 : q = p
  ·subst h1
   rw [if_neg (by omega), if_pos (by omega), List.getElem?_set_self (by omega), Nat.sub_self]; rfl
  ·by_cases h2 : p + 1 ≤ q ∧ q < p + 1 + r.length
   ·rw [if_pos h2, if_pos (by omega), show q - p = q - (p + 1) + 1 by omega]; rfl
   ·rw [if_neg h2, if_neg (by omega), List.getElem?_set_ne (by omega)]
theorem ah7 {xs cs : List Value} {p : Nat} (h : p + cs.length ≤ xs.length) (hc : ∀ j, j < cs.length → xs[p + j]? = cs[j]?) : setFrom xs p cs = xs := by
 apply List.ext_getElem?
 intro q
 rw [aa3 _ _ _ _ h]
 split
 ·rename_i h1
  rw [← hc _ (by omega)]; congr 1; omega
 ·rfl
theorem ao1 {xs cs : List Value} {p k : Nat} (u : Value) (h : p + cs.length ≤ xs.length) (hk : k < cs.length) : (setFrom xs p cs).set (p + k) u = setFrom xs p (cs.set k u) := by
 apply List.ext_getElem?
 intro q
 rw [aa3 _ _ _ _ (by simpa using h), List.getElem?_set, aa3 _ _ _ _ h, E3, bY9]
 by_cases h1 : p + k = q
 ·subst h1
  rw [if_pos rfl, if_pos (by omega), if_pos (by omega), Nat.add_sub_cancel_left, List.getElem?_set_self hk]
 ·rw [if_neg h1]
  split
  ·rw [List.getElem?_set_ne (by omega)]
  ·rfl
section
variable {w : World}
mutual
theorem C1.cut : ∀ (e : c8) (S : Nat → Prop) (cs : List Value), C1 w e S cs → C1 w e (fun b => S b ∧ b < w.heap.size) cs
 | ⟨_, _, ks⟩, _, _, ⟨v, xs, S', h1, h2, h3, h4, h5⟩ => ⟨v, xs, fun b => S' b ∧ b < w.heap.size, h1, h2, fun g hg => ⟨⟨(h3 g hg).1, (World.ownsRow.lt h2 g hg).2⟩, fun h => (h3 g hg).2 h.1⟩, fun b hb => ⟨h4 b hb.1, hb.2⟩, n5.cut ks S' xs h5⟩
theorem n5.cut : ∀ (ks : List c8) (S : Nat → Prop) (xs : List Value), n5 w ks S xs → n5 w ks (fun b => S b ∧ b < w.heap.size) xs
 | [], _, _, h => h
 | e :: r, _, _, ⟨c, ys, S1, S2, h1, h2, h3, h4, h5⟩ => ⟨c, ys, fun b => S1 b ∧ b < w.heap.size, fun b => S2 b ∧ b < w.heap.size, h1, fun b hb => ⟨⟨(h2 b hb.1).1, hb.2⟩, fun h => (h2 b hb.1).2 h.1⟩, fun b hb => ⟨h3 b hb.1, hb.2⟩, C1.cut e S1 c h4, n5.cut r S2 ys h5⟩
end
theorem E6.cut {v : Value} {ks : List c8} {S : Nat → Prop} (h : E6 w v ks S) : E6 w v ks (fun b => S b ∧ b < w.heap.size) := by
 obtain ⟨xs, S', h2, h3, h4, h5⟩ := h
 exact ⟨xs, fun b => S' b ∧ b < w.heap.size, h2, fun g hg => ⟨⟨(h3 g hg).1, (World.ownsRow.lt h2 g hg).2⟩, fun h => (h3 g hg).2 h.1⟩, fun b hb => ⟨h4 b hb.1, hb.2⟩, n5.cut ks S' xs h5⟩
mutual
theorem D2.cut : ∀ (s : c6) (S : Nat → Prop) (cs : List Value), D2 w s S cs → D2 w s (fun b => S b ∧ b < w.heap.size) cs
 | ⟨_, _, _, _, _, b, e⟩, _, _, ⟨iv, vv, bv, ev, xb, xe, Si, Sv, Sb, Se, Sb', Se', h1, ⟨d1, d2, d3, d4⟩, h2, h3, ⟨b1, b2, b3, b4⟩, ⟨e1, e2, e3, e4⟩⟩ =>
  ⟨iv, vv, bv, ev, xb, xe, fun b => Si b ∧ b < w.heap.size, fun b => Sv b ∧ b < w.heap.size, fun b => Sb b ∧ b < w.heap.size, fun b => Se b ∧ b < w.heap.size, fun b => Sb' b ∧ b < w.heap.size, fun b => Se' b ∧ b < w.heap.size, h1,
   ⟨fun b hb => ⟨⟨(d1 b hb.1).1, hb.2⟩, fun h => (d1 b hb.1).2.1 h.1, fun h => (d1 b hb.1).2.2.1 h.1, fun h => (d1 b hb.1).2.2.2 h.1⟩, fun b hb => ⟨⟨(d2 b hb.1).1, hb.2⟩, fun h => (d2 b hb.1).2.1 h.1, fun h => (d2 b hb.1).2.2 h.1⟩,
    fun b hb => ⟨⟨(d3 b hb.1).1, hb.2⟩, fun h => (d3 b hb.1).2 h.1⟩, fun b hb => ⟨d4 b hb.1, hb.2⟩⟩, h2.cut, h3.cut,
   ⟨b1, fun g hg => ⟨⟨(b2 g hg).1, (World.ownsRow.lt b1 g hg).2⟩, fun h => (b2 g hg).2 h.1⟩, fun b hb => ⟨b3 b hb.1, hb.2⟩, m9.cut b Sb' xb b4⟩,
   ⟨e1, fun g hg => ⟨⟨(e2 g hg).1, (World.ownsRow.lt e1 g hg).2⟩, fun h => (e2 g hg).2 h.1⟩, fun b hb => ⟨e3 b hb.1, hb.2⟩, m9.cut e Se' xe e4⟩⟩
theorem m9.cut : ∀ (ks : List c6) (S : Nat → Prop) (xs : List Value), m9 w ks S xs → m9 w ks (fun b => S b ∧ b < w.heap.size) xs
 | [], _, _, h => h
 | e :: r, _, _, ⟨c, ys, S1, S2, h1, h2, h3, h4, h5⟩ => ⟨c, ys, fun b => S1 b ∧ b < w.heap.size, fun b => S2 b ∧ b < w.heap.size, h1, fun b hb => ⟨⟨(h2 b hb.1).1, hb.2⟩, fun h => (h2 b hb.1).2 h.1⟩, fun b hb => ⟨h3 b hb.1, hb.2⟩, D2.cut e S1 c h4, m9.cut r S2 ys h5⟩
end
theorem G8.cut {v : Value} {ks : List c6} {S : Nat → Prop} (h : G8 w v ks S) : G8 w v ks (fun b => S b ∧ b < w.heap.size) := by
 obtain ⟨xs, S', h2, h3, h4, h5⟩ := h
 exact ⟨xs, fun b => S' b ∧ b < w.heap.size, h2, fun g hg => ⟨⟨(h3 g hg).1, (World.ownsRow.lt h2 g hg).2⟩, fun h => (h3 g hg).2 h.1⟩, fun b hb => ⟨h4 b hb.1, hb.2⟩, m9.cut ks S' xs h5⟩
end
section
variable {φ ψ : Nat → Prop} {w0 w : World} {L : List Z3}
end
section
variable {P : Program}
structure T4 (wr w : World) (S : Nat → Prop) : Prop where
 below : Below wr.heap.size wr w
 box : ∀ b, S b → wr.heap.size ≤ b ∧ b < w.heap.size
theorem T4.start (w : World) : T4 w w.drew fun _ => False := ⟨(Below.refl _ _).drew, fun _ h => h.elim⟩
theorem T4.call {wr w w' : World} {S : Nat → Prop} (h : T4 wr w S) (b : Below w.heap.size w w') : T4 wr w' S := ⟨h.below.trans (b.mono h.below.size), fun c hc => ⟨(h.box c hc).1, b13 (h.box c hc).2 b.size⟩⟩
theorem T4.new {wr w w' : World} {S : Nat → Prop} (h : T4 wr w S) (b : Below w.heap.size w w') (hs : w.heap.size < w'.heap.size) : T4 wr w' fun c => S c ∨ c = w.heap.size :=
 ⟨h.below.trans (b.mono h.below.size), fun c hc => by
  rcases hc with hc | rfl
  ·exact ⟨(h.box c hc).1, b13 (h.box c hc).2 b.size⟩
  ·exact ⟨h.below.size, hs⟩⟩
def RF (φ S : Nat → Prop) (b : Nat) : Prop := φ b ∧ ¬ S b
theorem T4.fresh {wr w : World} {S φ : Nat → Prop} (h : T4 wr w S) (hf : ∀ b, wr.heap.size ≤ b → φ b) : ∀ b, w.heap.size ≤ b → RF φ S b := fun b hb => ⟨hf b (bZ6 h.below.size hb), fun hs => by have := (h.box b hs).2; omega⟩
theorem T4.old {wr w : World} {S φ : Nat → Prop} (h : T4 wr w S) {R : World → (Nat → Prop) → Prop} (hn : Y4 R) (hr : R wr φ) : R w (RF φ S) :=
 hn _ _ _ _ ⟨h.below.size, fun b hb hf => ⟨⟨hf, fun hs => by have := (h.box b hs).1; omega⟩, h.below.block b hb⟩⟩ hr
def bx4 (p : Value → World → (Nat → Prop) → Prop) : Prop := ∀ v w w' S S', p v w S → Below w.heap.size w w' → (∀ b, b < w.heap.size → (S' b ↔ S b)) → p v w' S'
def bP9 (wr : World) (A : (Nat → Value) → Act) (R : Nat → Value → World → (Nat → Prop) → Prop) (n m : Nat) (listed : Array Bool) (a : Act) (w : World) : Prop :=
 listed.size = m ∧ ∃ f S, a = A f ∧ T4 wr w S ∧ ∀ i, i < n → listed.getD i false = true → R i (f i) w S
theorem bP9.go {wr : World} {a0 : Act} {l : List Oper} {R : Nat → Value → World → (Nat → Prop) → Prop} {n m i : Nat} {o : Oper} (hd : a63 l = true) (hR : ∀ i, bx4 (R i)) (ho : l[i]? = some o) {listed : Array Bool} {f : Nat → Value} {w w' : World} {S S' : Nat → Prop} {v : Value}
  (hsz : listed.size = m) (hv : ∀ i, i < n → listed.getD i false = true → R i (f i) w S) (hb : Below w.heap.size w w') (hs : ∀ b, b < w.heap.size → (S' b ↔ S b)) (hg : T4 wr w' S') (hr : R i v w' S') : bP9 wr (N7 a0 l 0) R n m (listed.setIfInBounds i true) ((N7 a0 l 0 f).put o.dst v) w' := by
 refine ⟨by simpa using hsz, upd f i v, S', (by have := aW3 l a0 0 i f o v hd ho; rw [b06] at this; exact this.symm), hg, fun j hj g => ?_⟩
 by_cases e : j = i
 ·subst e; simpa [upd] using hr
 ·rw [getD_set_ne false (fun h => e h.symm)] at g
  simp only [upd, if_neg e]
  exact hR _ _ _ _ _ _ (hv j hj g) hb hs
end
theorem G7.region {φ ψ : Nat → Prop} {w0 wr w : World} {L : List Z3} {S : Nat → Prop} (M : G7 φ ψ w0 wr L) (hg : T4 wr w S) {g : Nat} {cs : List Value} (hb : y9 w g cs) (hs : S g) : G7 φ ψ w0 w (L ++ [.box g cs]) :=
 M.add hg.below _ hb fun g' h => by cases h; exact (hg.box _ hs).1
theorem RF.app {φ S : Nat → Prop} {L : List Z3} {b : Nat} (h : RF (Fr φ L) S b) (X : List Z3) (hX : ∀ r ∈ X, ∀ g, r.blk g → S g) : Fr φ (L ++ X) b :=
 ⟨h.1.1, fun r hr he => by
  rcases bY7.1 hr with hr | hr
  ·exact h.1.2 r hr he
  ·exact h.2 (hX r hr b he)⟩
section
variable {P : Program}
def ac0 (ops : Array Oper) : Bool := (bY5 ops.size).all fun j => (ops[j]?).any fun o => o.after.all fun e => !Region.binds .any e || decide (e.on < j)
theorem ay0 {ops : Array Oper} (hb : ac0 ops = true) {k : Nat} {o : Oper} (hk : k < ops.size) (ho : ops[k]? = some o) {e : Edge} (he : e ∈ o.after) (hbi : Region.binds .any e = true) : e.on < k := by
 have h1 := bX9.1 hb k (b11.2 hk)
 rw [ho] at h1
 simp only [Option.any_some] at h1
 have h2 := Array.all_eq_true'.1 h1 e he
 rw [hbi] at h2
 simpa using h2
theorem aM9 {ops : Array Oper} (hb : ac0 ops = true) {listed : Array Bool} (hsz : listed.size = ops.size) : ∀ k, k < ops.size → listed.getD k true = false → Region.ready .any ops listed ≠ [] := by
 intro k
 induction k using Nat.strongRecOn with
 | _ k ih =>
  intro hk hl hn
  by_cases hall : ∃ j, j < k ∧ listed.getD j true = false
  ·obtain ⟨j, hj, hlj⟩ := hall
   exact ih j hj (by omega) hlj hn
  ·have hok : ops[k]? = some ops[k] := Array.getElem?_eq_getElem hk
   have : k ∈ Region.ready .any ops listed := by
    refine mem_ready.2 ⟨hl, ops[k], hok, fun e he hbi => ?_⟩
    have h2 := ay0 hb hk hok he hbi
    cases h3 : listed.getD e.on true
    ·exact absurd ⟨e.on, h2, h3⟩ hall
    ·have : e.on < listed.size := by omega
     simp [this] at h3 ⊢
     exact h3
   rw [hn] at this
   cases this
theorem a58 {a : Array Bool} {j : Nat} (h : j < a.size) : a.getD j true = a.getD j false := by simp [h]
end
end Go.Proofs.YtmokkddidcmglaaGreat

namespace Go.Proofs.YtmokkddidcmglaaGreat
def s0 (k : Int) : Int := if k = 1 ∨ k = 2 then 0 else if k = 3 then 1 else if 4 ≤ k ∧ k ≤ 10 then 2 else if k = 11 then 3 else -1
def ae6 (nv na : Nat) (k : Int) : Int := if k = 1 then 256 else if k = 2 then nv else if k = 3 then na else 1
def R0 (e : c8) : Bool := decide (e.kind = 1) || decide (e.kind = 2)
def ai5 (nv na : Nat) (e : c8) : Bool := decide ((e.kids.length : Int) = s0 e.kind) && decide (0 ≤ e.value) && decide (e.value < ae6 nv na e.kind)
def a42 (e : c8) : Bool := decide (e.kind ≠ 3) || (match e.kids with | k :: _ => R0 k | [] => false)
def m6 (nv na : Nat) : Nat → c8 → Bool
 | 0, _ => false
 | d + 1, e => ai5 nv na e && e.kids.all (m6 nv na d) && a42 e
def Z5 : Nat → c8 → Nat
 | 0, _ => 1
 | d + 1, e => 1 + (e.kids.map (Z5 d)).sum
def o6 (nv na : Nat) (e : c8) : Bool := m6 nv na 5 e && decide (1 + P4 e ≤ 15)
theorem at2 (e : c8) : P4 e = M5 e.kids := by cases e; rfl
theorem aR7 (nv na : Nat) : ∀ (d : Nat) (e : c8), m6 nv na d e = true → Z5 d e = 1 + P4 e := by
 intro d
 induction d with
 | zero => intro e h; simp [m6] at h
 | succ d ih =>
  intro e h
  simp only [m6, bX0, bX9] at h
  rw [Z5, at2]
  have key : ∀ ks : List c8, (∀ e ∈ ks, m6 nv na d e = true) → (ks.map (Z5 d)).sum = M5 ks := by
   intro ks
   induction ks with
   | nil => intro _; rfl
   | cons a r ihr => intro hk; rw [bZ5, List.sum_cons, M5, ihr fun e he => hk e (b00 _ he), ih a (hk a b01)]
  rw [key _ h.1.2]
theorem aV7 (nv na : Nat) (e : c8) : o6 nv na e = (m6 nv na 5 e && decide (Z5 5 e ≤ 15)) := by
 unfold o6
 cases h : m6 nv na 5 e
 ·rfl
 ·rw [aR7 nv na 5 e h]
def noneB (e : c8) : Bool := decide (e.kind = 0) && decide (e.value = 0) && decide (e.kids.length = 0)
def n6 (s : c6) : Bool :=
 if (s.kind = 3 ∨ s.kind = 4) then
  decide (s.target = 0) && (if s.kind = 4 then decide (s.els.length = 0) && decide (1 ≤ s.count) && decide (s.count ≤ 3) && noneB s.index && noneB s.value
   else decide (s.count = 0) && noneB s.index)
 else decide (s.body.length = 0) && decide (s.els.length = 0) && decide (s.count = 0) && (decide (s.kind = 2) || noneB s.index)
def l9 (nv na : Nat) : Nat → c6 → Bool
  | 0, _ => false
  | d + 1, s => n6 s &&
    (if s.kind = 1 ∨ s.kind = 5 then decide (0 ≤ s.target) && decide (s.target < nv) && o6 nv na s.value
     else if s.kind = 2 then decide (0 ≤ s.target) && decide (s.target < na) && o6 nv na s.index && R0 s.index && o6 nv na s.value
     else if s.kind = 3 then o6 nv na s.value && s.body.all (l9 nv na d) && s.els.all (l9 nv na d)
     else if s.kind = 4 then s.body.all (l9 nv na d)
     else false)
def ab9 (nv na : Nat) (d : Nat) (ss : List c6) : Bool := ss.all (l9 nv na d)
mutual
def nS : c6 → Nat
 | ⟨_, _, _, _, _, b, e⟩ => 1 + nSs b + nSs e
def nSs : List c6 → Nat
 | [] => 0
 | s :: r => nS s + nSs r
end
def C0 (p : j7) : Bool := C6 p.vars p.arrays && ab9 p.vars.length p.arrays.length 5 p.body && decide (nSs p.body ≤ 60)
end Go.Proofs.YtmokkddidcmglaaGreat

namespace Go.Proofs.YtmokkddidcmglaaGreat
open Go Go.RowKit
theorem Y9 (l : Int) (w : World) : Calls Tryz.prog 78 #[.int .i64 l] w fun e w' => e = .returned (.bool (C9 l)) ∧ w = w' := by
 go_enter Tryz.func78, Tryz.ntmps78
 go_wp2
 all_goals go_ret
 all_goals exact ⟨j5 (by simp [C9]; try omega), rfl⟩
theorem aG2 (v1 v2 v3 : Value) (n1 n2 : Nat) (x1 x2 : List Value) (w : World) (h1 : F2 w v1 n1 1 x1) (h2 : F2 w v2 n2 1 x2) :
  Calls Tryz.prog 24 #[.agg #[v1, v2, v3]] w fun e w' => e = .returned (.agg #[v1, v2, .slice none 0 0]) ∧ Below w.heap.size w w' := by
 obtain ⟨a1, k1, rfl⟩ := h1.form
 obtain ⟨a2, k2, rfl⟩ := h2.form
 clear h1 h2
 go_enter Tryz.func24, Tryz.ntmps24
 go_wp2
 go_returns
 exact ⟨rfl, by go_grown⟩
theorem ah4 (v1 v2 v3 : Value) (vars arrays : List Int) (w : World) (h1 : F2 w v1 vars.length 1 (ints vars)) (h2 : F2 w v2 arrays.length 1 (ints arrays)) :
  Calls Tryz.prog 54 #[.agg #[v1, v2, v3]] w fun e w' => e = .returned (.bool (C6 vars arrays)) ∧ Below w.heap.size w w' := by
 have B0 : Below w.heap.size w (w.alloc (.cells #[v1, v2, v3] 51)) := by go_grown
 obtain ⟨a1, c1, rfl, -, hm1, -, hc1⟩ := (h1.below B0).open1
 obtain ⟨a2, c2, rfl, -, hm2, -, hc2⟩ := (h2.below B0).open1
 have HT : Hid (C6 vars arrays = (vars.all C9 && arrays.all C9 && decide (1 ≤ vars.length) && decide (vars.length ≤ 12) && decide (arrays.length ≤ 2))) := rfl
 clear h1 h2
 go_enter Tryz.func54, Tryz.ntmps54
 go_wp2_with fail
 go_loop [3] (fun i => ∃ k : Nat, k ≤ vars.length ∧ i = .int .i64 k ∧ (vars.take k).all C9 = true) (fun i => vars.length - (intOf i).toNat)
 case atStart => exact ⟨0, bZ4 _, rfl, rfl⟩
 case round =>
  obtain ⟨k, hk, rfl, ha⟩ := hrel
  have HA := show Hid _ from ha
  clear ha
  by_cases hlt : k < vars.length
  ·obtain ⟨b1, o1, rfl, hb1, hx⟩ := hc1 k hlt
   rw [ab0 _ _ hlt] at hx
   have HS := show Hid _ from O3 C9 vars k hlt
   clear hc1 hc2
   cases hl : C9 vars[k]
   all_goals
    have HL := show Hid _ from hl
    clear hl
    go_wp2_with fail
    refine (Y9 _ _).mono ?_
    rintro e w1 ⟨rfl, rfl⟩
    rw [HL.out]
    go_wp2_with fail
   ·go_ret
    exact ⟨j5 (by rw [HT.out, ai4 hlt HL.out]; rfl), B0⟩
   ·go_round
    case rel => exact ⟨k + 1, by omega, by go_num, by rw [HS.out, HA.out, HL.out]; rfl⟩
    case measure => simp [intOf]; omega
  ·have HA' := show Hid (vars.all C9 = true) from by have := HA.out; rwa [bY3 (by omega)] at this
   clear HA hc1
   go_wp2_with fail
   go_loop [4] (fun i => ∃ k : Nat, k ≤ arrays.length ∧ i = .int .i64 k ∧ (arrays.take k).all C9 = true) (fun i => arrays.length - (intOf i).toNat)
   case atStart => exact ⟨0, bZ4 _, rfl, rfl⟩
   case round =>
    obtain ⟨j, hj, rfl, ha⟩ := hrel
    have HB := show Hid _ from ha
    clear ha
    by_cases hlj : j < arrays.length
    ·obtain ⟨b1, o1, rfl, hb1, hx⟩ := hc2 j hlj
     rw [ab0 _ _ hlj] at hx
     have HS := show Hid _ from O3 C9 arrays j hlj
     clear hc2
     cases hl : C9 arrays[j]
     all_goals
      have HL := show Hid _ from hl
      clear hl
      go_wp2_with fail
      refine (Y9 _ _).mono ?_
      rintro e w1 ⟨rfl, rfl⟩
      rw [HL.out]
      go_wp2_with fail
     ·go_ret
      exact ⟨j5 (by rw [HT.out, ai4 hlj HL.out]; simp), B0⟩
     ·go_round
      case rel => exact ⟨j + 1, by omega, by go_num, by rw [HS.out, HB.out, HL.out]; rfl⟩
      case measure => simp [intOf]; omega
    ·have HB' := show Hid (arrays.all C9 = true) from by have := HB.out; rwa [bY3 (by omega)] at this
     clear HB hc2
     go_wp2_with fail
     all_goals go_ret
     all_goals refine ⟨j5 ?_, B0⟩
     all_goals rw [HT.out, HA'.out, HB'.out]
     all_goals rw [bZ7]
     all_goals simp
     all_goals omega
theorem aF9 (v1 v2 v3 : Value) (c : b6) (kd : UInt8) (n : Int) (w : World) (h1 : F2 w v1 c.vars.length 1 (ints c.vars)) (h2 : F2 w v2 c.arrays.length 1 (ints c.arrays)) (h3 : O0 w v3 c.list) :
  Calls Tryz.prog 81 #[.agg #[v1, v2, v3], .int .u8 kd.toNat, .int .i64 n] w fun e w' => e = .returned (.bool (I3 c kd n)) ∧ Below w.heap.size w w' := by
 obtain ⟨a1, k1, rfl, -, q1, -, -⟩ := h1.open1
 obtain ⟨a2, k2, rfl, -, q2, -, -⟩ := h2.open1
 obtain ⟨a3, k3, rfl, -, q3, -, -⟩ := h3.open
 have hk : kd.toNat < 256 := kd.toNat_lt
 have HK : ∀ m : UInt8, (kd = m) = ((kd.toNat : Int) = (m.toNat : Int)) := fun m => by
  rw [eq_iff_iff]
  constructor
  ·rintro rfl; rfl
  ·intro h; exact UInt8.toNat_inj.1 (by omega)
 have HK' := show Hid _ from HK
 clear HK h1 h2 h3
 obtain ⟨z, hz⟩ : ∃ z, z = kd.toNat := ⟨_, rfl⟩
 rw [← hz] at hk ⊢
 have HZ := show Hid _ from hz
 clear hz
 go_enter Tryz.func81, Tryz.ntmps81
 go_wp2_with fail
 all_goals go_ret
 all_goals refine ⟨j5 ?_, by go_grown⟩
 all_goals unfold I3
 all_goals simp only [HK'.out, ← HZ.out, show (UInt8.toNat 114) = 114 from rfl, show (UInt8.toNat 99) = 99 from rfl, show (UInt8.toNat 118) = 118 from rfl, show (UInt8.toNat 97) = 97 from rfl, show (UInt8.toNat 111) = 111 from rfl]
 all_goals clear HK' HZ hk q1 q2 q3
 all_goals simp_all
 all_goals omega
theorem ae4 (op : Int) (w : World) (h1 : 1 ≤ op) (h2 : op ≤ 13) :
  Calls Tryz.prog 79 #[.int .i64 op] w fun e w' => e = .returned (.string ⟨(e6 op).toArray⟩) ∧ Below w.heap.size w w' := by
 have h : op = 1 ∨ op = 2 ∨ op = 3 ∨ op = 4 ∨ op = 5 ∨ op = 6 ∨ op = 7 ∨ op = 8 ∨ op = 9 ∨ op = 10 ∨ op = 11 ∨ op = 12 ∨ op = 13 := by omega
 clear h1 h2
 rcases h with rfl | rfl | rfl | rfl | rfl | rfl | rfl | rfl | rfl | rfl | rfl | rfl | rfl
 all_goals
  go_enter Tryz.func79, Tryz.ntmps79
  go_wp2_with fail
  go_ret
  exact ⟨by simp [e6], by go_grown⟩
theorem aG0 (x : c7) (w : World) :
  Calls Tryz.prog 80 #[x.v] w fun e w' => ∃ u, e = .returned u ∧ D6 w' w.heap.size w'.heap.size 3 1 u 4 (ints [x.a, x.b, x.c, x.d]) ∧ Below w.heap.size w w' := by
 obtain ⟨x0, x1, x2, x3, x4⟩ := x
 go_enter Tryz.func80, Tryz.ntmps80
 go_wp2_with fail
 go_ret
 refine ⟨_, rfl, (C3 _ #[.int .i64 x1, .int .i64 x2, .int .i64 x3, .int .i64 x4] 4 1 _ (by simp) rfl (by omega)).wide (by simp) (by simp), by go_grown⟩
theorem a84 {e : c8} (h3 : e.kind = 3) (hl : 0 < e.kids.length) : a42 e = (decide (e.kids[0].kind = 1) || decide (e.kids[0].kind = 2)) := by
 rcases e with ⟨k, n, ks⟩
 cases ks with
 | nil => simp [c8.kids] at hl
 | cons a r =>
  have h3' : k = 3 := h3
  subst h3'
  simp only [a42, c8.kids, List.getElem_cons_zero, R0]
  rw [decide_eq_false (by simp [c8.kind])]
  rfl
theorem ag2 {nv na d : Nat} {e : c8} (h : m6 nv na (d + 1) e = true) : e.kids.length ≤ 3 ∧ ∀ x ∈ e.kids, m6 nv na d x = true := by
 simp only [m6, ai5, bX0, decide_eq_true_eq, bX9] at h
 refine ⟨?_, h.1.2⟩
 have h1 := h.1.1.1.1
 have : s0 e.kind ≤ 3 := by unfold s0; (repeat' split) <;> omega
 omega
theorem aU4 {ks : List c8} {B : Nat} (h : ∀ x ∈ ks, 1 + P4 x ≤ B) : M5 ks ≤ ks.length * B := by
 induction ks with
 | nil => simp [M5]
 | cons a r ih =>
  have h1 := h a b01
  have h2 := ih fun x hx => h x (b00 _ hx)
  simp only [M5, bX8, bZ8]; omega
theorem bf4 (nv na : Nat) : ∀ (d : Nat) (e : c8), m6 nv na d e = true → 1 + P4 e ≤ 4 ^ d := by
 intro d
 induction d with
 | zero => intro e h; simp [m6] at h
 | succ d ih =>
  intro e h
  obtain ⟨h1, h2⟩ := ag2 h
  have h3 := aU4 (ks := e.kids) fun x hx => ih x (h2 x hx)
  have h4 : e.kids.length * 4 ^ d ≤ 3 * 4 ^ d := b05 _ h1
  have h5 : 0 < 4 ^ d := Nat.pos_of_ne_zero (by simp)
  rw [at2, Nat.pow_succ]
  omega
theorem A6 (n lo hi : Int) (w : World) : Calls Tryz.prog 34 #[.int .i64 n, .int .i64 lo, .int .i64 hi] w fun e w' => e = .returned (.bool (decide (lo ≤ n) && decide (n ≤ hi))) ∧ w = w' := by
 go_enter Tryz.func34, Tryz.ntmps34
 go_wp2
 all_goals go_ret
 all_goals exact ⟨j5 (by simp; try omega), rfl⟩
theorem ap9 (l : Int) (w : World) : Calls Tryz.prog 87 #[.int .i64 l] w fun e w' => e = .returned (.bool (C9 l)) ∧ w = w' := by
 go_enter Tryz.func87, Tryz.ntmps87
 go_wp2_with fail
 refine (A6 l 0 3 _).mono ?_
 rintro e w1 ⟨rfl, rfl⟩
 go_wp2_with fail
 go_ret
 exact ⟨rfl, rfl⟩
theorem ap8 (l : Int) (w : World) : Calls Tryz.prog 86 #[.int .i64 l] w fun e w' => e = .returned (.bool (!C9 l)) ∧ w = w' := by
 go_enter Tryz.func86, Tryz.ntmps86
 go_wp2_with fail
 refine (ap9 l _).mono ?_
 rintro e w1 ⟨rfl, rfl⟩
 go_wp2_with fail
 go_ret
 exact ⟨rfl, rfl⟩
theorem az0 (p : Int → Bool) (f : FuncId) (v : Value) (xs : List Int) (w : World) (h : F2 w v xs.length 1 (ints xs)) (he : ∀ args w, (callFunc f args).run Tryz.prog w = .ok (.enter f args) w)
  (hf : ∀ x w', Calls Tryz.prog f #[.int .i64 x] w' fun e w'' => e = .returned (.bool (p x)) ∧ w' = w'') :
  Calls Tryz.prog 101 #[v, .func (.func f) #[] #[]] w fun e w' => ∃ r : Int, e = .returned (.int .i64 r) ∧ decide (0 ≤ r) = xs.any p ∧ w = w' := by
 obtain ⟨a1, c1, rfl, -, hm1, -, hc1⟩ := h.open1
 have HF := show Hid _ from hf
 clear h hf
 go_enter Tryz.func101, Tryz.ntmps101
 go_wp2_with fail
 go_loop [5, 8] (fun _ i => ∃ k : Nat, k ≤ xs.length ∧ i = .int .i64 k ∧ (xs.take k).any p = false) (fun _ i => xs.length - (intOf i).toNat)
 case atStart => exact ⟨0, bZ4 _, rfl, rfl⟩
 case round =>
  obtain ⟨k, hk, rfl, ha⟩ := hrel
  have HA := show Hid _ from ha
  clear ha
  by_cases hlt : k < xs.length
  ·obtain ⟨b1, o1, rfl, hb1, hx⟩ := hc1 k hlt
   rw [ab0 _ _ hlt] at hx
   clear hc1
   cases hp : p xs[k]
   all_goals
    have HP := show Hid _ from hp
    clear hp
    go_wp2_with fail
    refine (HF.out xs[k] _).mono ?_
    rintro e w1 ⟨rfl, rfl⟩
    rw [HP.out]
    go_wp2_with fail
   ·go_round
    case rel => exact ⟨k + 1, by omega, by go_num, by rw [r8 _ _ hlt, List.any_append, HA.out]; simp [HP.out]⟩
    case measure => simp [intOf]; omega
   ·go_ret
    exact ⟨_, rfl, by rw [decide_eq_true (by omega)]; symm; rw [List.any_eq_true]; exact ⟨_, bZ0 hlt, HP.out⟩, rfl⟩
  ·go_wp2_with fail
   go_ret
   refine ⟨_, rfl, ?_, rfl⟩
   have := HA.out
   rw [bY3 (by omega)] at this
   rw [this]; rfl
theorem al8 (p : Int → Bool) (f : FuncId) (v : Value) (xs : List Int) (w : World) (h : F2 w v xs.length 1 (ints xs)) (he : ∀ args w, (callFunc f args).run Tryz.prog w = .ok (.enter f args) w)
  (hf : ∀ x w', Calls Tryz.prog f #[.int .i64 x] w' fun e w'' => e = .returned (.bool (p x)) ∧ w' = w'') :
  Calls Tryz.prog 85 #[v, .func (.func f) #[] #[]] w fun e w' => e = .returned (.bool (xs.any p)) ∧ w = w' := by
 obtain ⟨a1, c1, rfl, -⟩ := h.open1
 have HF := show Hid _ from hf
 have HE := show Hid _ from he
 clear hf he
 go_enter Tryz.func85, Tryz.ntmps85
 go_wp2_with fail
 refine (az0 p f _ xs _ h HE.out HF.out).mono ?_
 rintro e w1 ⟨r, rfl, hr, rfl⟩
 have HR := show Hid _ from hr
 clear hr
 go_wp2_with fail
 go_ret
 exact ⟨j5 HR.out, rfl⟩
theorem aT1 (xs : List Int) : (!xs.any fun l => !C9 l) = xs.all C9 := by
 induction xs with
 | nil => rfl
 | cons x r ih => simp only [List.any_cons, List.all_cons, ← ih]; cases C9 x <;> simp
theorem T0 (v : Value) (xs : List Int) (w : World) (h : F2 w v xs.length 1 (ints xs)) :
  Calls Tryz.prog 63 #[v] w fun e w' => e = .returned (.bool (xs.all C9)) ∧ w = w' := by
 obtain ⟨a1, c1, rfl, -⟩ := h.open1
 go_enter Tryz.func63, Tryz.ntmps63
 go_wp2_with fail
 refine (al8 (fun l => !C9 l) 86 _ xs _ h (al3 Tryz.func86 (by kernel_rfl) rfl) (fun x w' => ap8 x w')).mono ?_
 rintro e w1 ⟨rfl, rfl⟩
 have HN := show Hid _ from aT1 xs
 go_wp2_with fail
 go_ret
 exact ⟨j5 HN.out, rfl⟩
theorem az2 (v1 v2 : Value) (vars arrays : List Int) (w : World) (h1 : F2 w v1 vars.length 1 (ints vars)) (h2 : F2 w v2 arrays.length 1 (ints arrays)) :
  Calls Tryz.prog 33 #[v1, v2] w fun e w' => e = .returned (.bool (C6 vars arrays)) ∧ w = w' := by
 obtain ⟨a1, c1, rfl, -, q1, -⟩ := h1.open1
 obtain ⟨a2, c2, rfl, -, q2, -⟩ := h2.open1
 have HT : Hid (C6 vars arrays = (vars.all C9 && arrays.all C9 && decide (1 ≤ vars.length) && decide (vars.length ≤ 12) && decide (arrays.length ≤ 2))) := rfl
 by_cases hn : (1 : Int) ≤ (vars.length : Int) ∧ (vars.length : Int) ≤ 12
 ·have hb : (decide ((1 : Int) ≤ vars.length) && decide ((vars.length : Int) ≤ 12)) = true := by simpa using hn
  have HB := show Hid _ from hb
  by_cases hm : (arrays.length : Int) ≤ 2
  ·cases hv : vars.all C9
   ·have HV := show Hid _ from hv
    clear hv hb hn
    go_enter Tryz.func33, Tryz.ntmps33
    go_wp2_with fail
    refine (A6 _ 1 12 _).mono ?_
    rintro e w1 ⟨rfl, rfl⟩
    rw [HB.out]
    go_wp2_with fail
    refine (T0 _ vars _ h1).mono ?_
    rintro e w1 ⟨rfl, rfl⟩
    rw [HV.out]
    go_wp2_with fail
    go_ret
    exact ⟨j5 (by rw [HT.out, HV.out]; rfl), rfl⟩
   ·have HV := show Hid _ from hv
    have hn' := show Hid _ from hn
    have hm' := show Hid _ from hm
    clear hv hb hn
    go_enter Tryz.func33, Tryz.ntmps33
    go_wp2_with fail
    refine (A6 _ 1 12 _).mono ?_
    rintro e w1 ⟨rfl, rfl⟩
    rw [HB.out]
    go_wp2_with fail
    refine (T0 _ vars _ h1).mono ?_
    rintro e w1 ⟨rfl, rfl⟩
    rw [HV.out]
    go_wp2_with fail
    refine (T0 _ arrays _ h2).mono ?_
    rintro e w1 ⟨rfl, rfl⟩
    go_wp2_with fail
    go_ret
    refine ⟨j5 ?_, rfl⟩
    have h3 := hn'.out
    have h4 := hm'.out
    rw [HT.out, HV.out, decide_eq_true (show 1 ≤ vars.length by omega), decide_eq_true (show vars.length ≤ 12 by omega), decide_eq_true (show arrays.length ≤ 2 by omega)]
    simp
  ·have hF : Hid (C6 vars arrays = false) := by unfold Hid; rw [HT.out, decide_eq_false (show ¬ arrays.length ≤ 2 by omega)]; simp
   clear hb hn
   go_enter Tryz.func33, Tryz.ntmps33
   go_wp2_with fail
   refine (A6 _ 1 12 _).mono ?_
   rintro e w1 ⟨rfl, rfl⟩
   rw [HB.out]
   go_wp2_with fail
   go_ret
   exact ⟨j5 hF.out.symm, rfl⟩
 ·have hb : (decide ((1 : Int) ≤ vars.length) && decide ((vars.length : Int) ≤ 12)) = false := by
   rw [Bool.eq_false_iff]; simp only [ne_eq, bX0, decide_eq_true_eq]; exact hn
  have HB := show Hid _ from hb
  have hF : Hid (C6 vars arrays = false) := by
   unfold Hid; rw [HT.out]
   rcases Classical.not_and_iff_not_or_not.1 hn with h | h
   ·rw [decide_eq_false (show ¬ 1 ≤ vars.length by omega)]; simp
   ·rw [decide_eq_false (show ¬ vars.length ≤ 12 by omega)]; simp
  clear hb hn
  go_enter Tryz.func33, Tryz.ntmps33
  go_wp2_with fail
  refine (A6 _ 1 12 _).mono ?_
  rintro e w1 ⟨rfl, rfl⟩
  rw [HB.out]
  go_wp2_with fail
  go_ret
  exact ⟨j5 hF.out.symm, rfl⟩
end Go.Proofs.YtmokkddidcmglaaGreat

