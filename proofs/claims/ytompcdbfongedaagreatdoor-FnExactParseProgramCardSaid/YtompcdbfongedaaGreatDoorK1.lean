/- Part 1: functions on the way, plain laws. Conditions: as said. -/
import Derived.WalkKit
import Derived.ProofKit
import Derived.Handy
import Derived.WalkSmall
import Derived.Deep.QuietTactic
import Derived.BigQuiet
import Derived.StillTailTactics
import Derived.Deep.Quiet
import Derived.StillTail
import Derived.Test.YtompcdbfongedaaGreatDoorRows
import Derived.Maps.AppendAt
import Derived.ArgAppend
import Derived.Deep.Upon
import Derived.Lib.AppendIntMem
set_option maxRecDepth 100000
set_option maxHeartbeats 16000000
set_option linter.unusedVariables false
set_option linter.unusedSimpArgs false
open Bool renaming and_eq_true → bO8, eq_iff_iff → bR9
open List renaming all_eq_true → bQ0, append_assoc → bR5, eq_nil_of_length_eq_zero → bR4, getElem?_append_left → bS6, getElem?_append_right → bT2, getElem?_cons_succ → bQ9, getElem?_eq_getElem → bO7, getElem?_eq_none → bS2, getElem?_eq_some_iff → bP8, getElem?_map → bQ8, getElem_mem → bP5, length_append → bQ7, length_cons → bO9, length_nil → bP2, map_cons → bS0, mem_append → bR0, mem_cons → bR2, mem_cons_of_mem → bR1, mem_cons_self → bQ4, mem_of_getElem? → bQ5, range → bS1, replicate → bS9, take_of_length_le → bQ3
open Nat renaming le_refl → bP9, le_trans → bO6, lt_of_lt_of_le → bS7, lt_or_ge → bR6, mul_le_mul_right → bT1, succ_mul → bS4, zero_add → bS8, zero_le → bR3
open True renaming intro → bP7

namespace Go.Proofs.YtompcdbfongedaaGreatDoor
open Go Go.RowKit
def W7 (w : World) (v : Value) (n sz : Nat) (xs : List Value) : Prop :=
 xs.length = n * sz /\ ∃ a cap, v = .slice a n cap /\ n <= cap /\ cap <= maxLen /\
  (0 < n -> ∃ b off, a = some ⟨b, off, none⟩ /\ b < w.heap.size /\ ∀ j u, xs[j]? = some u -> w.cell? ⟨b, off + j, none⟩ = some u)
theorem x7 {W w1 : World} (hb : Below W.heap.size W w1) : (∀ b o, b < W.heap.size -> w1.cell? ⟨b, o, none⟩ = W.cell? ⟨b, o, none⟩) /\ (∀ b o, b < W.heap.size -> w1.frozen? ⟨b, o, none⟩ = W.frozen? ⟨b, o, none⟩) :=
 ⟨fun b o h => hb.cell (p := ⟨b, o, none⟩) h, fun b o h => hb.frozen (p := ⟨b, o, none⟩) h⟩
theorem W7.below {w w' : World} {v : Value} {n sz : Nat} {xs : List Value} (h : W7 w v n sz xs) (hb : Below w.heap.size w w') : W7 w' v n sz xs := by
 obtain ⟨hl, a, cap, rfl, h1, h2, h3⟩ := h
 refine ⟨hl, a, cap, rfl, h1, h2, fun hn => ?_⟩
 obtain ⟨b, off, rfl, hbk, hc⟩ := h3 hn
 exact ⟨b, off, rfl, bS7 hbk hb.size, fun j u hj => ((x7 hb).1 b _ hbk).trans (hc j u hj)⟩
theorem W7.len {w : World} {v : Value} {n sz : Nat} {xs : List Value} (h : W7 w v n sz xs) : n <= 9223372036854775807 := by
 obtain ⟨_, a, cap, rfl, h1, h2, _⟩ := h; unfold maxLen at h2; omega
theorem W7.nil (w : World) (sz : Nat) : W7 w (.slice none 0 0) 0 sz [] := ⟨by simp, none, 0, rfl, bP9 _, by unfold maxLen; omega, fun h => absurd h (by omega)⟩
theorem W7.open {w : World} {v : Value} {n sz : Nat} {xs : List Value} (h : W7 w v n sz xs) : ∃ a cap, v = .slice a n cap /\ n <= cap /\ n <= 9223372036854775807 /\ cap <= 9223372036854775807 /\
  ∀ i, i < n -> ∃ b off, a = some ⟨b, off, none⟩ /\ b < w.heap.size /\ ∀ j, j < sz -> w.cell? ⟨b, off + i * sz + j, none⟩ = xs[i * sz + j]? := by
 obtain ⟨hl, a, cap, rfl, h1, h2, h3⟩ := h
 unfold maxLen at h2
 refine ⟨a, cap, rfl, h1, by omega, by omega, fun i hi => ?_⟩
 obtain ⟨b, off, rfl, hbk, hc⟩ := h3 (by omega)
 refine ⟨b, off, rfl, hbk, fun j hj => ?_⟩
 have hlt : i * sz + j < xs.length := by
  rw [hl]; have := bT1 sz (Nat.succ_le_of_lt hi); rw [bS4] at this; omega
 rw [bO7 hlt, Nat.add_assoc]
 exact hc _ _ (bO7 hlt)
theorem W7.open1 {w : World} {v : Value} {n : Nat} {xs : List Value} (h : W7 w v n 1 xs) : ∃ a cap, v = .slice a n cap /\ n <= cap /\ n <= 9223372036854775807 /\ cap <= 9223372036854775807 /\
  ∀ i, i < n -> ∃ b off, a = some ⟨b, off, none⟩ /\ b < w.heap.size /\ w.cell? ⟨b, off + i, none⟩ = xs[i]? := by
 obtain ⟨a, cap, h0, h1, h2, h3, h4⟩ := h.open
 refine ⟨a, cap, h0, h1, h2, h3, fun i hi => ?_⟩
 obtain ⟨b, off, e, hb, hc⟩ := h4 i hi
 exact ⟨b, off, e, hb, by simpa using hc 0 (by omega)⟩
theorem R0 {w : World} {base : Nat} {e : TypeId} {sz : Nat} {v : Value} {n : Nat} {xs : List Value} (h : w.ownsRow base e sz v n xs) : W7 w v n sz xs := by
 refine ⟨h.1, ?_⟩
 rcases h.2 with ⟨rfl, rfl⟩ | ⟨g, cap, cur, rfl, hbg, hg, hnc, hcm, hcs, ht⟩
 ·exact ⟨none, 0, rfl, bP9 _, by unfold maxLen; omega, fun h => absurd h (by omega)⟩
 refine ⟨some ⟨g, 0, none⟩, cap, rfl, hnc, hcm, fun _ => ⟨g, 0, rfl, (Array.getElem?_eq_some_iff.1 hg).1, fun j u hj => ?_⟩⟩
 have hadd : (⟨g, 0, none⟩ : Addr).add j = ⟨g, 0 + j, none⟩ := by unfold Addr.add; split <;> simp_all
 rw [<- hadd]
 exact h.cells (g := g) rfl j u hj
theorem U1 {w : World} {base base' : Nat} {e : TypeId} {sz : Nat} {v : Value} {n : Nat} {xs : List Value} (h : w.ownsRow base e sz v n xs) (hb : base' <= base) : w.ownsRow base' e sz v n xs := by
 refine ⟨h.1, ?_⟩
 rcases h.2 with hn | ⟨g, cap, cur, rfl, hbg, r⟩
 ·exact .inl hn
 exact .inr ⟨g, cap, cur, rfl, by omega, r⟩
def U3 (w : World) (lo hi : Nat) (e : TypeId) (sz : Nat) (v : Value) (n : Nat) (xs : List Value) : Prop :=
 w.ownsRow lo e sz v n xs /\ ∀ g, v.ownBlock = some g -> g < hi
structure Out (lo hi : Nat) (w w' : World) : Prop where
 os : w'.os = w.os
 tape : w'.tape = w.tape
 output : w'.output = w.output
 size : w.heap.size <= w'.heap.size
 block : ∀ k, k < w.heap.size -> (k < lo \/ hi <= k) -> w'.heap[k]? = w.heap[k]?
theorem Out.refl (lo hi : Nat) (w : World) : Out lo hi w w := ⟨rfl, rfl, rfl, bP9 _, fun _ _ _ => rfl⟩
theorem Out.trans {lo hi : Nat} {a b c : World} (h : Out lo hi a b) (k : Out lo hi b c) : Out lo hi a c :=
 ⟨k.os.trans h.os, k.tape.trans h.tape, k.output.trans h.output, bO6 h.size k.size, fun i hi ho => (k.block i (bS7 hi h.size) ho).trans (h.block i hi ho)⟩
theorem Out.below {lo hi B : Nat} {a b : World} (h : Out lo hi a b) (h1 : B <= lo) (h2 : B <= a.heap.size) : Below B a b :=
 ⟨h.os, h.tape, h.output, h.size, fun k hk => h.block k (by omega) (by omega)⟩
theorem Out.of_below {lo hi B : Nat} {a b : World} (h : Below B a b) (h1 : a.heap.size <= B) : Out lo hi a b :=
 ⟨h.os, h.tape, h.output, h.size, fun k hk _ => h.block k (by omega)⟩
theorem Out.setCell {lo hi : Nat} {a w : World} (h : Out lo hi a w) {p : Addr} (h1 : lo <= p.block) (h2 : p.block < hi) (u : Value) : Out lo hi a (w.setCell p u) :=
 h.trans ⟨rfl, rfl, rfl, by simp [World.setCell], fun k _ ho => Below.heap_setCell _ _ _ _ (by omega)⟩
theorem U3.lt {w : World} {lo hi : Nat} {e : TypeId} {sz : Nat} {v : Value} {n : Nat} {xs : List Value} (h : U3 w lo hi e sz v n xs) : ∀ g, v.ownBlock = some g -> lo <= g /\ g < hi /\ g < w.heap.size :=
 fun g hg => ⟨(h.1.lt g hg).1, h.2 g hg, (h.1.lt g hg).2⟩
theorem U3.row {w : World} {lo hi : Nat} {e : TypeId} {sz : Nat} {v : Value} {n : Nat} {xs : List Value} (h : U3 w lo hi e sz v n xs) : W7 w v n sz xs := R0 h.1
theorem U3.mk' {w : World} {lo : Nat} {e : TypeId} {sz : Nat} {v : Value} {n : Nat} {xs : List Value} (h : w.ownsRow lo e sz v n xs) : U3 w lo w.heap.size e sz v n xs :=
 ⟨h, fun g hg => (h.lt g hg).2⟩
theorem U3.same {w w' : World} {lo hi : Nat} {e : TypeId} {sz : Nat} {v : Value} {n : Nat} {xs : List Value} (h : U3 w lo hi e sz v n xs)
  (hs : ∀ g, v.ownBlock = some g -> w'.heap[g]? = w.heap[g]?) : U3 w' lo hi e sz v n xs := by
 refine ⟨⟨h.1.1, ?_⟩, h.2⟩
 rcases h.1.2 with hn | ⟨g, cap, cur, rfl, hbg, hg, r⟩
 ·exact .inl hn
 exact .inr ⟨g, cap, cur, rfl, hbg, (hs g rfl).trans hg, r⟩
theorem U3.keep {w w' : World} {lo hi B : Nat} {e : TypeId} {sz : Nat} {v : Value} {n : Nat} {xs : List Value} (h : U3 w lo hi e sz v n xs) (hb : Below B w w') (hB : hi <= B) : U3 w' lo hi e sz v n xs :=
 h.same fun g hg => hb.block g (by have := h.lt g hg; omega)
theorem U3.out {w w' : World} {lo hi lo' hi' : Nat} {e : TypeId} {sz : Nat} {v : Value} {n : Nat} {xs : List Value} (h : U3 w lo hi e sz v n xs) (ho : Out lo' hi' w w') (hd : hi <= lo' \/ hi' <= lo) : U3 w' lo hi e sz v n xs :=
 h.same fun g hg => ho.block g (h.lt g hg).2.2 (by have := h.lt g hg; omega)
theorem U3.open {w : World} {lo hi : Nat} {e : TypeId} {sz : Nat} {v : Value} {n : Nat} {xs : List Value} (h : U3 w lo hi e sz v n xs) (hn : 0 < n) :
  ∃ g cap, v = .slice (some ⟨g, 0, none⟩) n cap /\ lo <= g /\ g < hi /\ g < w.heap.size /\ n <= cap /\ cap <= maxLen /\ (∀ o, w.frozen? ⟨g, o, none⟩ = false) /\ ∀ j u, xs[j]? = some u -> w.cell? ⟨g, j, none⟩ = some u := by
 have hl := h.lt
 rcases h.1.2 with ⟨_, h0⟩ | ⟨g, cap, cur, rfl, hbg, hg, hnc, hcm, hcs, ht⟩
 ·omega
 obtain ⟨l1, l2, l3⟩ := hl g rfl
 refine ⟨g, cap, rfl, l1, l2, l3, hnc, hcm, fun o => ?_, fun j u hj => ?_⟩
 ·simp only [World.frozen?, hg]; simp
 have hadd : (⟨g, 0, none⟩ : Addr).add j = ⟨g, j, none⟩ := by unfold Addr.add; split <;> simp_all
 rw [<- hadd]
 exact h.1.cells (g := g) rfl j u hj
theorem U3.at {w : World} {lo hi : Nat} {e : TypeId} {sz : Nat} {v : Value} {n : Nat} {xs : List Value} (h : U3 w lo hi e sz v n xs) {j : Nat} (hj : j < xs.length) :
  ∃ g cap, v = .slice (some ⟨g, 0, none⟩) n cap /\ lo <= g /\ g < hi /\ g < w.heap.size /\ w.frozen? ⟨g, j, none⟩ = false /\ ∃ u, w.cell? ⟨g, j, none⟩ = some u := by
 have hn : 0 < n := by
  rcases Nat.eq_zero_or_pos n with h0 | h0
  ·subst h0; have := h.1.1; omega
  exact h0
 obtain ⟨g, cap, hv, h1, h2, h3, _, _, h4, h5⟩ := h.open hn
 exact ⟨g, cap, hv, h1, h2, h3, h4 j, _, h5 j _ (bO7 hj)⟩
theorem U3.setCell {w : World} {lo hi : Nat} {e : TypeId} {sz : Nat} {n cap g : Nat} {xs : List Value} (h : U3 w lo hi e sz (.slice (some ⟨g, 0, none⟩) n cap) n xs) {j : Nat} (_hj : j < xs.length) (u : Value) :
  U3 (w.setCell ⟨g, j, none⟩ u) lo hi e sz (.slice (some ⟨g, 0, none⟩) n cap) n (xs.set j u) := by
 refine ⟨⟨by rw [List.length_set]; exact h.1.1, ?_⟩, h.2⟩
 rcases h.1.2 with ⟨hv, _⟩ | ⟨g', cap', cur, hv, hbg, hg, hnc, hcm, hcs, ht⟩
 ·cases hv
 cases hv
 refine .inr ⟨g, cap, cur.setIfInBounds j u, rfl, hbg, ?_, hnc, hcm, by simpa using hcs, ?_⟩
 ·have hlt := (Array.getElem?_eq_some_iff.1 hg).1
  simp only [World.setCell, Array.getElem?_modify]
  simp [hg]
 rw [Array.toList_setIfInBounds, List.take_set, ht]
theorem m7 {a b : Bool} (h : a = b) : Ending.returned (.bool a) = .returned (.bool b) := by rw [h]
theorem L7 {k : IntKind} {a b : Int} (h : a = b) : Ending.returned (.int k a) = .returned (.int k b) := by rw [h]
theorem A1 {α : Type} (l : List α) (k : Nat) (h : k < l.length) : l.take (k + 1) = l.take k ++ [l[k]] := by
 rw [List.take_succ_eq_append_getElem h]
theorem Z2 {α : Type} {xs ys : List α} {k : Nat} (h : xs.take k = ys.take k) (h1 : k < xs.length) (h2 : k < ys.length) (he : xs[k] = ys[k]) : xs.take (k + 1) = ys.take (k + 1) := by
 rw [A1 _ _ h1, A1 _ _ h2, h, he]
theorem V6 {α : Type} {xs ys : List α} {k : Nat} (h : xs.take k = ys.take k) (h1 : xs.length <= k) (h2 : ys.length <= k) : xs = ys := by
 rw [bQ3 h1, bQ3 h2] at h; exact h
theorem X0 {α : Type} (ys : List α) (k : Nat) (u : α) (h : k < ys.length) : (ys.set k u).take (k + 1) = ys.take k ++ [u] := by
 rw [A1 _ _ (by simpa using h), List.take_set_of_le (bP9 _)]; simp
def G9 (z : List Value) (n : Nat) : List Value := (bS9 n z).flatten
theorem N0 (z : List Value) (n : Nat) : (G9 z n).length = n * z.length := by simp [G9]
theorem aq1 (z : Value) (n : Nat) : G9 [z] n = bS9 n z := by
 unfold G9
 induction n with
 | zero => rfl
 | succ n ih => rw [List.replicate_succ, List.flatten_cons, ih]; rfl
theorem ax7 (z : Array Value) (n : Nat) (_hz : 0 < z.size) : madeCells z (n * z.size) = (G9 z.toList n).toArray := by
 apply Array.ext
 ·simp [size_madeCells, N0]
 intro i h1 h2
 simp only [madeCells, Array.getElem_map, Array.getElem_range, List.getElem_toArray]
 have hlt : i < (G9 z.toList n).length := by simpa using h2
 have key : ∀ (m i : Nat), i < (G9 z.toList m).length -> (G9 z.toList m)[i]? = some (z[i % z.size]!) := by
  intro m
  induction m with
  | zero => intro i hi; simp [G9] at hi
  | succ m ih =>
   intro i hi
   have e : G9 z.toList (m + 1) = z.toList ++ G9 z.toList m := by simp [G9, List.replicate_succ]
   rw [e]
   by_cases hlt : i < z.size
   ·rw [bS6 (by simpa using hlt), Nat.mod_eq_of_lt hlt]
    simp [hlt]
   rw [bT2 (by simp; omega)]
   have := ih (i - z.toList.length) (by rw [e, bQ7] at hi; rw [Array.length_toList] at hi ⊢; omega)
   rw [this]
   congr 2
   rw [Array.length_toList]
   exact (Nat.mod_eq_sub_mod (by omega)).symm
 have := key n i hlt
 rw [bO7 hlt] at this
 exact (Option.some.inj this).symm
theorem bh5 {P : Program} {t e : TypeId} {z : Value} {size bytes : Nat} (ht : P.underlying t = some (.slice e)) (hi : (P.info? e).map (fun i => (i.zero, i.size, i.bytes)) = some (some z, size, bytes))
  (hz : z.cells.size = size) (hs : 0 < size) (n : Nat) (hn : bytes * n <= 281474976710656) (hm : n <= 9223372036854775807) :
  ∀ w, (Instr.makeSlice t (.int .i64 n) (.int .i64 n)).run P w = .ok (.slice (some ⟨w.heap.size, 0, none⟩) n n) (w.alloc (.cells (G9 z.cells.toList n).toArray e)) := by
 intro w
 obtain ⟨i, h1, h2, h3, h4⟩ := info_parts hi
 have := run_make (P := P) w t e i z ht h1 h2 .i64 .i64 n n (by omega) (Int.le_refl _) (by rw [h4, <- Int.natCast_mul]; omega) (by omega)
 rw [this]
 simp only [Int.toNat_natCast, h3]
 subst hz
 rw [ax7 _ _ hs]
theorem ao4 (w : World) {g : Nat} (cs : Array Value) (n sz : Nat) (e : TypeId) (hg : g = w.heap.size) (hz : cs.size = n * sz) (hm : n <= 9223372036854775807) :
  U3 (w.alloc (.cells cs e)) w.heap.size (w.heap.size + 1) e sz (.slice (some ⟨g, 0, none⟩) n n) n cs.toList := by
 subst hg
 refine ⟨⟨by simpa using hz, .inr ⟨w.heap.size, n, _, rfl, bP9 _, heap_alloc_new w _, bP9 _, by unfold maxLen; omega, hz, ?_⟩⟩, fun g hg => by cases hg; exact Nat.lt_succ_self _⟩
 rw [<- hz]
 exact bQ3 (by simp)
theorem bg1 (w : World) (z : List Value) (n sz : Nat) (e : TypeId) (hz : z.length = sz) (hm : n <= 9223372036854775807) :
  U3 (w.alloc (.cells (G9 z n).toArray e)) w.heap.size (w.heap.size + 1) e sz (.slice (some ⟨w.heap.size, 0, none⟩) n n) n (G9 z n) := by
 refine ⟨⟨by rw [N0, hz], .inr ⟨w.heap.size, n, _, rfl, bP9 _, heap_alloc_new w _, bP9 _, by unfold maxLen; omega, by simp [N0, hz], ?_⟩⟩, fun g hg => by cases hg; exact Nat.lt_succ_self _⟩
 have : (G9 z n).length = n * sz := by rw [N0, hz]
 rw [<- this]
 simp
def setFrom (ys : List Value) (p : Nat) : List Value -> List Value
 | [] => ys
 | u :: r => setFrom (ys.set p u) (p + 1) r
def World.setFrom (w : World) (g p : Nat) : List Value -> World
 | [] => w
 | u :: r => World.setFrom (w.setCell ⟨g, p, none⟩ u) g (p + 1) r
theorem H0 (us : List Value) : ∀ (ys : List Value) (p : Nat), (setFrom ys p us).length = ys.length := by
 induction us with
 | nil => intro ys p; rfl
 | cons u r ih => intro ys p; simp [setFrom, ih]
theorem aj7 (us : List Value) : ∀ (ys : List Value) (p : Nat), p + us.length <= ys.length -> (setFrom ys p us).take (p + us.length) = ys.take p ++ us := by
 induction us with
 | nil => intro ys p h; simp [setFrom]
 | cons u r ih =>
  intro ys p h
  simp only [bO9] at h
  have := ih (ys.set p u) (p + 1) (by simp; omega)
  simp only [setFrom, bO9]
  rw [show p + (r.length + 1) = p + 1 + r.length by omega, this, X0 _ _ _ (by omega)]
  simp
theorem U3.setFrom {lo hi : Nat} {e : TypeId} {sz n cap g : Nat} (us : List Value) : ∀ {w : World} {xs : List Value} {p : Nat}, U3 w lo hi e sz (.slice (some ⟨g, 0, none⟩) n cap) n xs -> p + us.length <= xs.length ->
  U3 (World.setFrom w g p us) lo hi e sz (.slice (some ⟨g, 0, none⟩) n cap) n (setFrom xs p us) := by
 induction us with
 | nil => intro w xs p h _; exact h
 | cons u r ih =>
  intro w xs p h hl
  simp only [bO9] at hl
  exact ih (h.setCell (by omega) u) (by simp; omega)
theorem Out.setFrom {lo hi g : Nat} {a : World} (us : List Value) : ∀ {w : World} {p : Nat}, Out lo hi a w -> lo <= g -> g < hi -> Out lo hi a (World.setFrom w g p us) := by
 induction us with
 | nil => intro w p h _ _; exact h
 | cons u r ih => intro w p h h1 h2; exact ih (h.setCell h1 h2 u) h1 h2
theorem U3.tight {w : World} {lo hi : Nat} {e : TypeId} {sz : Nat} {v : Value} {n : Nat} {xs : List Value} (h : U3 w lo hi e sz v n xs) :
  ∃ lo' hi', lo <= lo' /\ hi' <= hi /\ U3 w lo' hi' e sz v n xs /\ ∀ g, lo' <= g -> g < hi' -> v.ownBlock = some g := by
 have hl := h.lt
 cases hv : v.ownBlock with
 | none =>
  refine ⟨max lo hi, hi, by omega, bP9 _, ⟨⟨h.1.1, ?_⟩, fun g hg => by rw [hv] at hg; cases hg⟩, fun g h1 h2 => by omega⟩
  rcases h.1.2 with hn | ⟨g, cap, cur, rfl, _⟩
  ·exact .inl hn
  cases hv
 | some g =>
  obtain ⟨l1, l2, l3⟩ := hl g hv
  refine ⟨g, g + 1, l1, l2, ⟨⟨h.1.1, ?_⟩, fun g' hg => by rw [hv] at hg; cases hg; omega⟩, fun g' h1 h2 => by rw [show g' = g by omega]⟩
  rcases h.1.2 with hn | ⟨g', cap, cur, rfl, r⟩
  ·exact .inl hn
  cases hv
  exact .inr ⟨_, cap, cur, rfl, bP9 _, r.2⟩
def bD7 (u v : Value) : Prop := ∀ g, u.ownBlock = some g -> v.ownBlock ≠ some g
theorem bD7.symm {u v : Value} (h : bD7 u v) : bD7 v u := fun g h1 h2 => h g h2 h1
def V3 (w : World) (b : Nat) (cs : List Value) : Prop := ∃ T, w.heap[b]? = some (.cells cs.toArray T (0, 0))
theorem V3.lt {w : World} {b : Nat} {cs : List Value} (h : V3 w b cs) : b < w.heap.size := by
 obtain ⟨T, h⟩ := h; exact (Array.getElem?_eq_some_iff.1 h).1
theorem V3.cell {w : World} {b : Nat} {cs : List Value} (h : V3 w b cs) (j : Nat) : w.cell? ⟨b, j, none⟩ = cs[j]? := by
 obtain ⟨T, h⟩ := h; simp [World.cell?, h]
theorem V3.free {w : World} {b : Nat} {cs : List Value} (h : V3 w b cs) (j : Nat) : w.frozen? ⟨b, j, none⟩ = false := by
 obtain ⟨T, h⟩ := h; simp only [World.frozen?, h]; simp
theorem V3.below {w w' : World} {b B : Nat} {cs : List Value} (h : V3 w b cs) (hb : Below B w w') (hB : b < B) : V3 w' b cs := by
 obtain ⟨T, h⟩ := h; exact ⟨T, (hb.block b hB).trans h⟩
theorem V3.out {w w' : World} {b lo hi : Nat} {cs : List Value} (h : V3 w b cs) (hb : Out lo hi w w') (hB : b < lo \/ hi <= b) : V3 w' b cs := by
 have hlt := h.lt
 obtain ⟨T, h⟩ := h; exact ⟨T, (hb.block b hlt hB).trans h⟩
theorem V3.set {w : World} {b j : Nat} {cs : List Value} (h : V3 w b cs) (u : Value) : V3 (w.setCell ⟨b, j, none⟩ u) b (cs.set j u) := by
 obtain ⟨T, h⟩ := h
 refine ⟨T, ?_⟩
 simp only [World.setCell, Array.getElem?_modify]
 simp [h]
theorem V3.new (w : World) (cs : List Value) (T : TypeId) : V3 (w.alloc (.cells cs.toArray T)) w.heap.size cs := ⟨T, heap_alloc_new w _⟩
theorem V3.alloc {w : World} {b : Nat} {cs : List Value} (h : V3 w b cs) (o : Obj) : V3 (w.alloc o) b cs := by
 have hlt := h.lt
 obtain ⟨T, h⟩ := h; exact ⟨T, (Below.heap_alloc w o b hlt).trans h⟩
theorem V3.drew {w : World} {b : Nat} {cs : List Value} (h : V3 w b cs) : V3 w.drew b cs := h
theorem Out.cell (w : World) (b j : Nat) (u : Value) : Out b (b + 1) w (w.setCell ⟨b, j, none⟩ u) :=
 Out.setCell (p := ⟨b, j, none⟩) (Out.refl b (b + 1) w) (bP9 b) (Nat.lt_succ_self b) u
def _root_.Go.World.ext (w X : World) : World := { w with heap := w.heap ++ X.heap, drawn := X.drawn }
theorem l7 (w : World) (X : World) : Below w.heap.size w (w.ext X) :=
 ⟨rfl, rfl, rfl, by simp [World.ext], fun k hk => by simp only [World.ext]; rw [Array.getElem?_append_left hk]⟩
theorem aG3 {w w' : World} (h : Below w.heap.size w w') : ∃ X, w' = w.ext X := by
 refine ⟨{ w' with heap := w'.heap.extract w.heap.size w'.heap.size }, ?_⟩
 obtain ⟨h1, h2, h3, h4, h5⟩ := h
 have hh : w'.heap = w.heap ++ w'.heap.extract w.heap.size w'.heap.size := by
  apply Array.ext_getElem?
  intro i
  rcases bR6 i w.heap.size with hi | hi
  ·rw [Array.getElem?_append_left hi, h5 i hi]
  rw [Array.getElem?_append_right hi, Array.getElem?_extract]
  split
  ·rw [show w.heap.size + (i - w.heap.size) = i by omega]
  rename_i hn
  rw [Array.getElem?_eq_none]
  simp at hn
  omega
 cases w; cases w'
 simp only [World.ext] at *
 subst h1 h2 h3
 rw [<- hh]
theorem b6 {w : World} {b o : Nat} {v : Value} (h : w.cell? ⟨b, o, none⟩ = some v) (X : World) : (w.ext X).cell? ⟨b, o, none⟩ = some v := by
 have hb : b < w.heap.size := World.block_lt_of_cell? w ⟨b, o, none⟩ h
 rw [(x7 (l7 w X)).1 b o hb]; exact h
theorem Calls.ext_of' {P : Program} {f : FuncId} {args : Array Value} {w : World} {X : World} {v : Value}
  (h : Calls P f args (w.ext X) fun e w' => e = .returned v /\ Below (w.ext X).heap.size (w.ext X) w') : Calls P f args (w.ext X) fun e w'' => e = .returned v /\ ∃ Y, w'' = w.ext Y :=
 h.mono fun _ _ ⟨he, hb⟩ => ⟨he, aG3 ((l7 w X).trans (hb.mono (l7 w X).size))⟩
theorem n6 {P : Program} {id : Nat} {Q : Exit -> Act -> World -> Prop} {a : Act} {w : World} {l : List Oper} (hm : P.follows .mixedOrders = true) (hB : Region.lexB .any l.toArray = true)
  (h : wpQuiet P l.toArray (fun w' => ∃ X, w' = w.ext X) (fun a' => ∀ w', (∃ X, w' = w.ext X) -> Q .normal a' w') l a) : (Code.region id l.toArray true).wp P Q a w :=
 wp_region_quiet (C := fun w' => ∃ X, w' = w.ext X) hm hB (aG3 (w' := w.drew) (Below.refl _ _).drew) (by simpa using h)
theorem aF6 {P : Program} {f : FuncId} {fn : Func} {c : Code} (hf : P.funcs[f]? = some fn) (hn : (fn.name == "runtime.NumGoroutine") = false) (hb : fn.body = some c) :
  ∀ args w, (callFunc f args).run P w = .ok (.enter f args) w := by
 intro args w
 have h1 : fn.name ≠ "runtime.NumGoroutine" := by simpa using hn
 simp [callFunc, hf, h1, hb, mark]
end Go.Proofs.YtompcdbfongedaaGreatDoor

namespace Go.Proofs.YtompcdbfongedaaGreatDoor
theorem D0 {α : Type} (l : List α) (k : Nat) (h : k < l.length) : l.take (k + 1) = l.take k ++ [l[k]] := by
 rw [List.take_succ_eq_append_getElem h]
theorem X4 {α : Type} (p : α -> Bool) (l : List α) (k : Nat) (h : k < l.length) : (l.take (k + 1)).all p = ((l.take k).all p && p l[k]) := by
 rw [D0 l k h, List.all_append]; simp
theorem at3 {α : Type} {p : α -> Bool} {l : List α} {k : Nat} (h : k < l.length) (hp : p l[k] = false) : l.all p = false := by
 rw [List.all_eq_false]; exact ⟨l[k], bP5 h, by simp [hp]⟩
structure X5 where
 op : Int
 a : Int
 b : Int
 c : Int
 d : Int
def X5.l (x : X5) : List Int := [x.op, x.a, x.b, x.c, x.d]
def Y6 : List X5 -> List Int
 | [] => []
 | x :: r => x.op :: x.a :: x.b :: x.c :: x.d :: Y6 r
theorem bj0 (l : List X5) : (Y6 l).length = l.length * 5 := by
 induction l with
 | nil => rfl
 | cons x r ih => simp [Y6, ih]; omega
theorem X5.ext' {x y : X5} (h : x.l = y.l) : x = y := by
 cases x; cases y; simp [X5.l] at h; simp [h]
theorem aR1 : ∀ {l m : List X5}, Y6 l = Y6 m -> l = m
 | [], [], _ => rfl
 | [], _ :: _, h => by simp [Y6] at h
 | _ :: _, [], h => by simp [Y6] at h
 | x :: r, y :: s, h => by
  simp only [Y6, List.cons.injEq] at h
  obtain ⟨h1, h2, h3, h4, h5, h6⟩ := h
  rw [aR1 h6, X5.ext' (x := x) (y := y) (by simp [X5.l, h1, h2, h3, h4, h5])]
theorem bj1 (l : List X5) (i : Nat) (hi : i < l.length) : (Y6 l)[i * 5]? = some l[i].op /\ (Y6 l)[i * 5 + 1]? = some l[i].a /\ (Y6 l)[i * 5 + 2]? = some l[i].b /\ (Y6 l)[i * 5 + 3]? = some l[i].c /\ (Y6 l)[i * 5 + 4]? = some l[i].d := by
 induction l generalizing i with
 | nil => simp at hi
 | cons x r ih =>
  cases i with
  | zero => simp [Y6]
  | succ i =>
   rw [bS4]
   have := ih i (by simpa using hi)
   simpa [Y6, Nat.add_assoc] using this
structure J6 where
 vars : List Int
 arrays : List Int
 list : List X5
def J6.size (c : J6) : Nat := c.vars.length + c.arrays.length + c.list.length
def J6.same (c d : J6) : Bool := decide (c.vars = d.vars) && decide (c.arrays = d.arrays) && decide (Y6 c.list = Y6 d.list)
theorem J6.same_eq {c d : J6} : c.same d = true ↔ c = d := by
 cases c; cases d
 simp only [J6.same, bO8, decide_eq_true_eq, J6.mk.injEq]
 constructor
 ·rintro ⟨⟨rfl, rfl⟩, h⟩; exact ⟨rfl, rfl, aR1 h⟩
 rintro ⟨rfl, rfl, rfl⟩; exact ⟨⟨rfl, rfl⟩, rfl⟩
def w9 (l : Int) : Bool := decide (0 <= l) && decide (l <= 3)
def F7 (vars arrays : List Int) : Bool := vars.all w9 && arrays.all w9 && decide (1 <= vars.length) && decide (vars.length <= 12) && decide (arrays.length <= 2)
def bo8 (c : J6) (kd : UInt8) (n : Int) : Bool :=
 if kd = 114 then decide (0 <= n) && decide (n < 14)
 else if kd = 99 then decide (0 <= n) && decide (n <= 255)
 else if kd = 118 then decide (0 <= n) && decide (n < c.vars.length)
 else if kd = 97 then decide (0 <= n) && decide (n < c.arrays.length)
 else if kd = 111 then decide (4 <= n) && decide (n <= 10)
 else decide (0 <= n) && decide (n < c.list.length)
def aL2 (op : Int) : List UInt8 :=
 if op = 1 then [114, 99] else if op = 2 then [114, 118] else if op = 3 then [118, 114] else if op = 4 then [114, 97, 114] else if op = 5 then [97, 114, 114]
 else if op = 6 then [114, 111, 114, 114] else if op = 7 then [114, 114, 114, 114] else if op = 8 then [116] else if op = 9 then [114, 116] else if op = 10 then [114, 116]
 else if op = 11 then [114] else []
def aJ6 (c : J6) (kinds : List UInt8) (k : Nat) (n : Int) : Bool :=
 match kinds[k]? with
 | some kd => bo8 c kd n
 | none => decide (n = 0)
def bv8 (c : J6) (x : X5) : Bool :=
 decide (1 <= x.op) && decide (x.op <= 13) && (aJ6 c (aL2 x.op) 0 x.a && aJ6 c (aL2 x.op) 1 x.b && aJ6 c (aL2 x.op) 2 x.c && aJ6 c (aL2 x.op) 3 x.d)
def bh9 (c : J6) : Bool := match c.list.getLast? with | some x => decide (x.op = 13) || decide (x.op = 8) | none => false
def aL7 (c : J6) : Bool := F7 c.vars c.arrays && decide (1 <= c.list.length) && decide (c.list.length <= 400) && c.list.all (bv8 c) && bh9 c
def bG5 (x : X5) (i : Int) : List Int := if x.op = 13 then [] else if x.op = 8 then [x.a] else if x.op = 9 \/ x.op = 10 then [i + 1, x.b] else [i + 1]
def nx (c : J6) (t : Int) : List Int := match c.list[t.toNat]? with | some x => bG5 x t | none => []
theorem al7 {c : J6} (h : aL7 c = true) : F7 c.vars c.arrays = true /\ 1 <= c.list.length /\ c.list.length <= 400 /\ (∀ (i : Nat) (hi : i < c.list.length), bv8 c c.list[i] = true) /\ bh9 c = true := by
 unfold aL7 at h
 simp only [bO8, decide_eq_true_eq, bQ0] at h
 obtain ⟨⟨⟨⟨h1, h2⟩, h3⟩, h4⟩, h5⟩ := h
 exact ⟨h1, h2, h3, fun i hi => h4 _ (bP5 hi), h5⟩
inductive Rc (c : J6) : Int -> Prop
 | zero : Rc c 0
 | step {i t : Int} : Rc c i -> t ∈ nx c i -> Rc c t
noncomputable def bL0 (c : J6) : List Bool := (bS1 c.list.length).map fun (j : Nat) => @decide (Rc c (j : Int)) (Classical.propDecidable _)
theorem aG1 {bs : List Bool} {k : Nat} (h : bs[k]? = some false) : (bs.set k true).count false + 1 = bs.count false := by
 induction bs generalizing k with
 | nil => simp at h
 | cons b r ih =>
  cases k with
  | zero => simp at h; subst h; simp
  | succ k =>
   simp at h
   have := ih h
   simp only [List.set_cons_succ, List.count_cons]
   omega
theorem aI5 {bs : List Bool} {k j : Nat} (h : (bs.set k true)[j]? = some true) : j = k \/ bs[j]? = some true := by
 rw [List.getElem?_set] at h
 split at h
 ·rename_i e; exact .inl e.symm
 exact .inr h
theorem aO2 {bs : List Bool} {k : Nat} (h : k < bs.length) : (bs.set k true)[k]? = some true := by simp [h]
structure bJ8 (c : J6) (qs : List Int) (bs : List Bool) : Prop where
 len : bs.length = c.list.length
 cnt : qs.length + bs.count false = c.list.length
 q : ∀ t ∈ qs, 0 <= t /\ t < c.list.length /\ Rc c t
 sound : ∀ j : Nat, bs[j]? = some true -> Rc c j
 inq : ∀ j : Nat, bs[j]? = some true -> (j : Int) ∈ qs
 zero : bs[0]? = some true
theorem bJ8.start {c : J6} (hc : aL7 c = true) : bJ8 c [0] ((bS9 c.list.length false).set 0 true) := by
 have hn := (al7 hc).2.1
 have hone : ∀ j : Nat, ((bS9 c.list.length false).set 0 true)[j]? = some true -> j = 0 := by
  intro j h
  rcases aI5 h with h | h
  ·exact h
  rw [List.getElem?_replicate] at h; split at h <;> simp at h
 refine ⟨by simp, ?_, ?_, ?_, ?_, ?_⟩
 ·have := aG1 (bs := bS9 c.list.length false) (k := 0) (by rw [List.getElem?_replicate, if_pos (by omega)])
  simp at this ⊢
  omega
 ·intro t ht
  simp at ht; subst ht
  exact ⟨by omega, by omega, .zero⟩
 ·intro j h; rw [hone j h]; exact .zero
 ·intro j h; rw [hone j h]; simp
 exact aO2 (by simp; omega)
structure bm5 (c : J6) (ls : List Int) (bs : List Bool) : Prop where
 len : bs.length = c.list.length
 cnt : ls.length + 2 * bs.count false <= 2 * c.list.length + 1
 l : ∀ t ∈ ls, 0 <= t /\ t < c.list.length /\ Rc c t
 sound : ∀ j : Nat, bs[j]? = some true -> Rc c j
 zero : bs[0]? = some true \/ (0 : Int) ∈ ls
 clos : ∀ j : Nat, bs[j]? = some true -> ∀ t ∈ nx c j, bs[t.toNat]? = some true \/ t ∈ ls
theorem bm5.start {c : J6} (hc : aL7 c = true) : bm5 c [0] (bS9 c.list.length false) := by
 have hn := (al7 hc).2.1
 refine ⟨by simp, by simp; omega, ?_, ?_, .inr (by simp), ?_⟩
 ·intro t ht
  simp at ht; subst ht
  exact ⟨by omega, by omega, .zero⟩
 ·intro j h; rw [List.getElem?_replicate] at h; split at h <;> simp at h
 intro j h; rw [List.getElem?_replicate] at h; split at h <;> simp at h
theorem bm5.skip {c : J6} {ls : List Int} {i : Int} {bs : List Bool} (h : bm5 c (ls ++ [i]) bs) (hb : bs[i.toNat]? = some true) : bm5 c ls bs := by
 refine ⟨h.len, by have := h.cnt; simp at this; omega, fun t ht => h.l t (List.mem_append_left _ ht), h.sound, ?_, ?_⟩
 ·rcases h.zero with h0 | h0
  ·exact .inl h0
  rcases bR0.1 h0 with h0 | h0
  ·exact .inr h0
  simp at h0; subst h0; exact .inl hb
 intro j hj t ht
 rcases h.clos j hj t ht with h1 | h1
 ·exact .inl h1
 rcases bR0.1 h1 with h1 | h1
 ·exact .inr h1
 simp at h1; subst h1; exact .inl hb
end Go.Proofs.YtompcdbfongedaaGreatDoor

namespace Go.Proofs.YtompcdbfongedaaGreatDoor
open Go Go.RowKit
section
variable {P : Program} {md : Region.Mode} {C : World -> Prop}
theorem al5 {listed : Array Bool} {i : Nat} (h : listed.getD i true = false) : (listed.setIfInBounds i true).toList.count false + 1 = listed.toList.count false := by
 rw [Array.toList_setIfInBounds]
 refine aG1 ?_
 rcases bR6 i listed.size with h' | h'
 ·simp [h'] at h ⊢; exact h
 simp [Array.getElem?_eq_none h'] at h
end
abbrev ints (l : List Int) : List Value := l.map (Value.int .i64)
theorem Y5 (l : List Int) (k : Nat) (h : k < l.length) : (ints l)[k]? = some (.int .i64 l[k]) := by simp [ints, h]
theorem az3 (v1 v2 : Value) (xs ys : List Int) (w : World) (h1 : W7 w v1 xs.length 1 (ints xs)) (h2 : W7 w v2 ys.length 1 (ints ys)) :
  Calls Tryz.prog 24 #[v1, v2] w fun e w' => e = .returned (.bool (decide (xs = ys))) /\ ∃ n, w' = w.drewN n := by
 obtain ⟨a1, c1, rfl, -, hm1, -, hc1⟩ := h1.open1
 obtain ⟨a2, c2, rfl, -, hm2, -, hc2⟩ := h2.open1
 by_cases hl : xs.length = ys.length
 ·rw [<- hl] at hc2 ⊢
  clear h1 h2 hm2
  go_enter Tryz.func24, Tryz.ntmps24
  go_wp2
  go_loopw [5] (fun i wr => ∃ k : Nat, k <= xs.length /\ i = .int .i64 k /\ xs.take k = ys.take k /\ ∃ n, wr = w.drewN n) (fun i _ => xs.length - (intOf i).toNat)
  case atStart => exact ⟨0, bR3 _, rfl, rfl, 0, rfl⟩
  case round =>
   obtain ⟨k, hk, rfl, ht, nd, rfl⟩ := hrel
   have HT : Hid (xs.take k = ys.take k) := ht
   clear ht
   have HL : Hid (xs.length = ys.length) := hl
   clear hl
   by_cases hlt : k < xs.length
   ·have hlt2 : k < ys.length := by have := HL.out; omega
    obtain ⟨b1, o1, rfl, hb1, hx⟩ := hc1 k hlt
    obtain ⟨b2, o2, rfl, hb2, hy⟩ := hc2 k hlt
    rw [Y5 _ _ hlt] at hx
    rw [Y5 _ _ hlt2] at hy
    clear hc1 hc2
    go_wp2
    go_quiet (fail)
    go_wp2
    ·rename_i hd
     go_ret
     exact ⟨m7 (by symm; simp; intro h; subst h; simp at hd), _, by first | rfl | exact World.drewN_drewN _ _ _⟩
    rename_i hd
    refine ⟨⟨k + 1, by omega, by go_num, Z2 HT.out hlt hlt2 (by simpa using hd), _, by first | rfl | exact World.drewN_drewN _ _ _⟩, by simp [intOf]; omega⟩
   go_wp2
   go_ret
   exact ⟨m7 (by symm; simp; exact V6 HT.out (by omega) (by have := HL.out; omega)), _, rfl⟩
 have hne : ((xs.length : Int) == (ys.length : Int)) = false := by simp; omega
 clear hc1 hc2
 go_enter Tryz.func24, Tryz.ntmps24
 go_wp2
 go_ret
 exact ⟨m7 (by symm; simp; intro h; exact hl (by rw [h])), 0, rfl⟩
def D3 (K n : Nat) : List Int := (bS1 n).map fun (j : Nat) => ((K : Int) + (j : Int))
theorem Z8 (K n : Nat) : (D3 K n).length = n := by simp [D3]
theorem aX7 (K n j : Nat) (h : j < (D3 K n).length) : (D3 K n)[j] = (K : Int) + (j : Int) := by simp [D3]
theorem aK4 (v : Value) (xs : List Int) (K lo hi : Nat) (w : World) (h : U3 w lo hi 3 1 v xs.length (ints xs)) (hK : K + xs.length <= 9000000000000000000) :
  Calls Tryz.prog 26 #[v, .int .i64 K] w fun e w' => e = .returned (.int .i64 (K + xs.length : Nat)) /\ U3 w' lo hi 3 1 v xs.length (ints (D3 K xs.length)) /\ Out lo hi w w' := by
 obtain ⟨a1, c1, rfl, -, hm1, -, -⟩ := h.row.open1
 go_enter Tryz.func26, Tryz.ntmps26
 go_wp2
 go_loopw [1, 5] (fun q i wr => ∃ (k : Nat) (ys : List Value), k <= xs.length /\ q = .int .i64 ((K + k : Nat) : Int) /\ i = .int .i64 k /\ U3 wr lo hi 3 1 (.slice a1 xs.length c1) xs.length ys /\ ys.take k = (ints (D3 K xs.length)).take k /\ Out lo hi w wr) (fun _ i _ => xs.length - (intOf i).toNat)
 case atStart => exact ⟨0, _, bR3 _, rfl, rfl, h, rfl, Out.refl _ _ _⟩
 case round =>
  obtain ⟨k, ys, hk, rfl, rfl, ho, ht, hbw⟩ := hrel
  have HT : Hid (ys.take k = (ints (D3 K xs.length)).take k) := ht
  clear ht h
  by_cases hlt : k < xs.length
  ·have hyl : ys.length = xs.length := by rw [ho.1.1, Nat.mul_one]
   obtain ⟨g, cap, hv, hg1, hg2, hg3, hf, u0, hc⟩ := ho.at (j := k) (by omega)
   cases hv
   have HY : Hid (ys.length = xs.length) := hyl
   clear hyl
   go_wp2
   go_roundw
   case rel =>
    refine ⟨k + 1, _, by omega, by go_num, by go_num, ho.setCell (by have := HY.out; omega) _, ?_, hbw.setCell hg1 hg2 _⟩
    rw [X0 _ _ _ (by have := HY.out; omega), HT.out, A1 (ints _) k (by simpa [D3] using hlt)]
    simp [D3]
   case measure => simp [intOf]; omega
  go_wp2
  go_ret
  obtain rfl : k = xs.length := by omega
  have he : ys = ints (D3 K xs.length) := V6 HT.out (by rw [ho.1.1]; omega) (by simp [D3])
  subst he
  exact ⟨rfl, ho, hbw⟩
theorem al0 (v : Value) (n K : Nat) (w : World) (h : W7 w v n 1 (ints (D3 K n))) (hK : K + n <= 9000000000000000000) :
  Calls Tryz.prog 28 #[v, .int .i64 K] w fun e w' => e = .returned (.int .i64 (K + n : Nat)) /\ ∃ m, w' = w.drewN m := by
 obtain ⟨a1, c1, rfl, -, hm1, -, hc1⟩ := h.open1
 clear h
 go_enter Tryz.func28, Tryz.ntmps28
 go_wp2
 go_loopw [1, 5] (fun q i wr => ∃ (k : Nat), k <= n /\ q = .int .i64 ((K + k : Nat) : Int) /\ i = .int .i64 k /\ ∃ m, wr = w.drewN m) (fun _ i _ => n - (intOf i).toNat)
 case atStart => exact ⟨0, bR3 _, rfl, rfl, 0, rfl⟩
 case round =>
  obtain ⟨k, hk, rfl, rfl, nd, rfl⟩ := hrel
  by_cases hlt : k < n
  ·obtain ⟨b1, o1, rfl, hb1, hx⟩ := hc1 k hlt
   rw [Y5 _ _ (by simpa [D3] using hlt), aX7] at hx
   clear hc1
   go_wp2
   go_roundw
   case rel => exact ⟨k + 1, by omega, by go_num, by go_num, _, rfl⟩
   case measure => simp [intOf]; omega
  go_wp2
  go_ret
  obtain rfl : k = n := by omega
  exact ⟨rfl, _, rfl⟩
abbrev bD6 (w : World) (v : Value) (l : List X5) : Prop := W7 w v l.length 5 (ints (Y6 l))
abbrev X5.v (x : X5) : Value := .agg #[.int .i64 x.op, .int .i64 x.a, .int .i64 x.b, .int .i64 x.c, .int .i64 x.d]
def aM4 (w : World) (v : Value) (c : J6) : Prop :=
 ∃ v1 v2 v3, v = .agg #[v1, v2, v3] /\ W7 w v1 c.vars.length 1 (ints c.vars) /\ W7 w v2 c.arrays.length 1 (ints c.arrays) /\ bD6 w v3 c.list
theorem aM4.below {w w' : World} {v : Value} {c : J6} (h : aM4 w v c) (hb : Below w.heap.size w w') : aM4 w' v c := by
 obtain ⟨v1, v2, v3, rfl, h1, h2, h3⟩ := h
 exact ⟨v1, v2, v3, rfl, h1.below hb, h2.below hb, h3.below hb⟩
def aq0 (w : World) (v : Value) (K nv na nl : Nat) : Prop :=
 ∃ v1 v2 v3, v = .agg #[v1, v2, v3] /\ W7 w v1 nv 1 (ints (D3 K nv)) /\ W7 w v2 na 1 (ints (D3 (K + nv) na)) /\ W7 w v3 nl 5 (ints (D3 (K + nv + na) (nl * 5)))
theorem aq0.below {w w' : World} {v : Value} {K nv na nl : Nat} (h : aq0 w v K nv na nl) (hb : Below w.heap.size w w') : aq0 w' v K nv na nl := by
 obtain ⟨v1, v2, v3, rfl, h1, h2, h3⟩ := h
 exact ⟨v1, v2, v3, rfl, h1.below hb, h2.below hb, h3.below hb⟩
theorem aO7 {P : Program} {w : World} {lo : Nat} {t ty e : TypeId} {i : TypeInfo} {size : Nat} (ht : P.underlying t = some (.slice e)) (hi : P.info? e = some i)
  {v : Value} {n : Nat} {xs : List Value} (hown : w.ownsRow lo e size v n xs) (c : Nat) : (Builtin.append_ #[t, t] ty #[v, .slice none 0 c]).run P w = .ok v w := by
 obtain ⟨_, h⟩ := hown
 rcases h with ⟨rfl, rfl⟩ | ⟨g, cap, cur, rfl, _, _, hnc, _⟩
 ·simp [Builtin.append_, run_underlying ht, sizeOf, typeInfo, hi, Builtin.lenOf, Builtin.firstCells]
 simp [Builtin.append_, run_underlying ht, sizeOf, typeInfo, hi, Builtin.lenOf, Builtin.firstCells, hnc, storeCells]
theorem ae9 {w : World} {lo : Nat} {e : TypeId} {sz : Nat} {v : Value} {n : Nat} {xs : List Value} (h : w.ownsRow lo e sz v n xs) : ∃ a k, v = .slice a n k := by
 rcases h.2 with ⟨rfl, rfl⟩ | ⟨g, cap, cur, rfl, _⟩
 ·exact ⟨_, _, rfl⟩
 exact ⟨_, _, rfl⟩
theorem at2 {P : Program} {w : World} {lo : Nat} {t ty e : TypeId} {z : Value} {size bytes : Nat} (ht : P.underlying t = some (.slice e)) (hi : (P.info? e).map (fun i => (i.zero, i.size, i.bytes)) = some (some z, size, bytes))
  (hzs : z.cells.size = size) (hsz : 0 < size) {v : Value} {n : Nat} {xs : List Value} (hown : w.ownsRow lo e size v n xs) {u : Value} {m : Nat} {news : List Value} (hr : W7 w u m size news) (h1 : ∀ u ∈ news, u.oneCell' = true)
  (h63 : n + m <= 9223372036854775807) (hbytes : (n + m) * bytes <= 140737488355328) (hbase : lo <= w.heap.size) :
  ∃ a' k' w', (Builtin.append_ #[t, t] ty #[v, u]).run P w = .ok (.slice a' (n + m) k') w' /\ w'.ownsRow lo e size (.slice a' (n + m) k') (n + m) (xs ++ news) /\ Below lo w w' /\ w.grownBy w' v.ownBlock /\ (∀ g, (Value.slice a' (n + m) k').ownBlock = some g -> v.ownBlock = some g \/ w.heap.size <= g) := by
 obtain ⟨i, g1, g2, g3, g4⟩ := info_parts hi
 obtain ⟨hl, A, c, rfl, hmc, hc, hA⟩ := hr
 have below_of : ∀ {w' : World}, w.grownBy w' v.ownBlock -> Below lo w w' := fun {w'} hg => by
  refine ⟨hg.os, hg.tape, hg.output, hg.size, fun k hk => hg.block k (by omega) fun he => ?_⟩
  have := hown.lt k he.symm
  omega
 rcases A with _ | a
 ·have hm : m = 0 := by
   rcases Nat.eq_zero_or_pos m with h0 | h0
   ·exact h0
   obtain ⟨_, _, he, _⟩ := hA h0; cases he
  subst hm
  have hn : news = [] := bR4 (by simpa using hl)
  subst hn
  obtain ⟨a', k', rfl⟩ := ae9 hown
  exact ⟨a', k', w, aO7 ht g1 hown c, by simpa using hown, Below.refl _ _, ⟨rfl, rfl, rfl, bP9 _, fun _ _ _ => rfl⟩, fun g hg => .inl hg⟩
 have hcells : ∀ j u, news[j]? = some u -> w.cell? (a.add j) = some u := by
  intro j u hu
  have h0 : 0 < m := by
   rcases Nat.eq_zero_or_pos m with h0 | h0
   ·subst h0
    have hn : news = [] := bR4 (by simpa using hl)
    subst hn; simp at hu
   exact h0
  obtain ⟨b, off, he, hb, hx⟩ := hA h0
  cases he
  have hadd : (⟨b, off, none⟩ : Addr).add j = ⟨b, off + j, none⟩ := by unfold Addr.add; split <;> simp_all
  rw [hadd]
  exact hx j u hu
 obtain ⟨v', w', hrun, h2, h3, _, h5⟩ := run_append_own_at (P := P) w lo t ty e i z size bytes ht g1 g2 g3 g4 hzs hsz v n xs hown a m c news hl hcells h1 (by unfold maxLen; omega) hbytes hbase
 obtain ⟨a', k', rfl⟩ := ae9 h2
 exact ⟨a', k', w', hrun, h2, below_of h3, h3, fun g hg => h5.elim (fun h => .inl (h ▸ hg)) fun h => .inr (by rw [h] at hg; cases hg; exact bP9 _)⟩
theorem U3.grown {w w' : World} {lo hi : Nat} {e : TypeId} {sz : Nat} {v : Value} {n : Nat} {xs : List Value} {row : Option Nat} (h : U3 w lo hi e sz v n xs) (hg : w.grownBy w' row) (hne : ∀ g, v.ownBlock = some g -> row ≠ some g) : U3 w' lo hi e sz v n xs :=
 h.same fun g hv => hg.block g (h.lt g hv).2.2 fun he => hne g hv he.symm
section
variable {P : Program}
theorem a62 {x : Oper} {a : Act} {w : World} {K : Act -> World -> Prop} {Q Q0 : Exit -> Act -> World -> Prop} (h0 : ∀ e a w, Q0 e a w -> e = .normal) (h : x.wp P a w K Q0) : x.wp P a w K Q := by
 unfold Oper.wp at *
 generalize (execOp a.eval x).run P w = r at *
 cases r with
 | ok n w' =>
  cases n <;> simp only [Oper.upon] at h ⊢ <;>
   first
    | exact h
    | exact Calls.mono h (fun e w'' he => by
      cases e
      ·exact he
      ·exact absurd (h0 _ _ _ he) (by simp)
      obtain ⟨a, w, hq⟩ := he; exact absurd (h0 _ _ _ hq) (by simp))
 | halt y w' =>
  cases y <;> simp only [Oper.upon] at h ⊢ <;> first | exact h | exact absurd (h0 _ _ _ h) (by simp)
end
section
variable {P : Program}
structure bO5 (mk : (Nat -> Value) -> Act) (C : World -> Prop) (R : Nat -> Value -> World -> Prop) (n : Nat) (listed : Array Bool) (f : Nat -> Value) (a : Act) (w : World) : Prop where
 act : a = mk f
 cls : C w
 val : ∀ i, i < n -> listed.getD i false = true -> R i (f i) w
end
def G0 (φ φ' : Nat -> Prop) (w w' : World) : Prop := w.heap.size <= w'.heap.size /\ ∀ b, b < w.heap.size -> φ b -> φ' b /\ w'.heap[b]? = w.heap[b]?
def aa9 (R : World -> (Nat -> Prop) -> Prop) : Prop := ∀ w w' φ φ', G0 φ φ' w w' -> R w φ -> R w' φ'
theorem G0.below {φ : Nat -> Prop} {w w' : World} (h : Below w.heap.size w w') : G0 φ φ w w' := ⟨h.size, fun b hb hf => ⟨hf, h.block b hb⟩⟩
theorem G0.mono {φ φ' : Nat -> Prop} {w : World} (h : ∀ b, b < w.heap.size -> φ b -> φ' b) : G0 φ φ' w w := ⟨bP9 _, fun b hb hf => ⟨h b hb hf, rfl⟩⟩
theorem G0.cell {φ φ' : Nat -> Prop} {w w' : World} (h : G0 φ φ' w w') {b o : Nat} (hb : b < w.heap.size) (hf : φ b) : w'.cell? ⟨b, o, none⟩ = w.cell? ⟨b, o, none⟩ := by
 simp only [World.cell?, (h.2 b hb hf).2]
def C4 (w : World) (φ : Nat -> Prop) (v : Value) (n sz : Nat) (xs : List Value) : Prop :=
 xs.length = n * sz /\ ∃ a cap, v = .slice a n cap /\ n <= cap /\ cap <= maxLen /\
  (0 < n -> ∃ b off, a = some ⟨b, off, none⟩ /\ b < w.heap.size /\ φ b /\ ∀ j u, xs[j]? = some u -> w.cell? ⟨b, off + j, none⟩ = some u)
theorem C4.nice (v : Value) (n sz : Nat) (xs : List Value) : aa9 fun w φ => C4 w φ v n sz xs := by
 rintro w w' φ φ' ha ⟨hl, a, cap, rfl, h1, h2, h3⟩
 refine ⟨hl, a, cap, rfl, h1, h2, fun hn => ?_⟩
 obtain ⟨b, off, rfl, hb, hf, hc⟩ := h3 hn
 exact ⟨b, off, rfl, bS7 hb ha.1, (ha.2 b hb hf).1, fun j u hj => (ha.cell hb hf).trans (hc j u hj)⟩
theorem C4.row {w : World} {φ : Nat -> Prop} {v : Value} {n sz : Nat} {xs : List Value} (h : C4 w φ v n sz xs) : W7 w v n sz xs := by
 obtain ⟨hl, a, cap, rfl, h1, h2, h3⟩ := h
 refine ⟨hl, a, cap, rfl, h1, h2, fun hn => ?_⟩
 obtain ⟨b, off, rfl, hb, _, hc⟩ := h3 hn
 exact ⟨b, off, rfl, hb, hc⟩
theorem C4.nil (w : World) (φ : Nat -> Prop) (sz : Nat) : C4 w φ (.slice none 0 0) 0 sz [] := ⟨by simp, none, 0, rfl, bP9 _, by unfold maxLen; omega, fun h => absurd h (by omega)⟩
theorem D9 {w : World} {lo : Nat} {e : TypeId} {sz : Nat} {v : Value} {n : Nat} {xs : List Value} (h : w.ownsRow lo e sz v n xs) {φ : Nat -> Prop} (hf : ∀ g, v.ownBlock = some g -> φ g) : C4 w φ v n sz xs := by
 obtain ⟨hl, a, cap, hv, h1, h2, h3⟩ := R0 h
 refine ⟨hl, a, cap, hv, h1, h2, fun hn => ?_⟩
 obtain ⟨b, off, he, hb, hc⟩ := h3 hn
 refine ⟨b, off, he, hb, ?_, hc⟩
 rcases h.2 with ⟨hv', h0⟩ | ⟨g, cap', cur, hv', _⟩
 ·omega
 rw [hv'] at hv
 cases hv
 cases he
 exact hf _ (by rw [hv']; rfl)
inductive U2 where
 | box (b : Nat) (cs : List Value)
 | row (e : TypeId) (sz : Nat) (v : Value) (n : Nat) (xs : List Value)
 | dat (R : World -> (Nat -> Prop) -> Prop)
 | own (S : Nat -> Prop) (R : World -> Prop)
def U2.blk : U2 -> Nat -> Prop
 | .box b _ => fun g => g = b
 | .row _ _ v _ _ => fun g => v.ownBlock = some g
 | .dat _ => fun _ => False
 | .own S _ => S
def Fr (φ : Nat -> Prop) (L : List U2) (b : Nat) : Prop := φ b /\ ∀ r ∈ L, ¬ r.blk b
def U2.holds (w : World) (φ : Nat -> Prop) : U2 -> Prop
 | .box b cs => V3 w b cs
 | .row e sz v n xs => w.ownsRow 0 e sz v n xs
 | .dat R => aa9 R /\ R w φ
 | .own S R => (∀ w w', R w -> (∀ b, S b -> b < w.heap.size -> w'.heap[b]? = w.heap[b]?) -> R w') /\ R w /\ ∀ b, S b -> b < w.heap.size
structure z6 (ψ : Nat -> Prop) (w w' : World) : Prop where
 os : w'.os = w.os
 tape : w'.tape = w.tape
 output : w'.output = w.output
 size : w.heap.size <= w'.heap.size
 block : ∀ b, b < w.heap.size -> ψ b -> w'.heap[b]? = w.heap[b]?
theorem z6.refl (ψ : Nat -> Prop) (w : World) : z6 ψ w w := ⟨rfl, rfl, rfl, bP9 _, fun _ _ _ => rfl⟩
theorem z6.trans {ψ : Nat -> Prop} {a b c : World} (h : z6 ψ a b) (k : z6 ψ b c) : z6 ψ a c :=
 ⟨k.os.trans h.os, k.tape.trans h.tape, k.output.trans h.output, bO6 h.size k.size, fun i hi hp => (k.block i (bS7 hi h.size) hp).trans (h.block i hi hp)⟩
theorem z6.of_below {ψ : Nat -> Prop} {w w' : World} {B : Nat} (h : Below B w w') (hB : ∀ b, b < w.heap.size -> ψ b -> b < B) : z6 ψ w w' := ⟨h.os, h.tape, h.output, h.size, fun b hb hp => h.block b (hB b hb hp)⟩
theorem z6.below {w w' : World} {ψ : Nat -> Prop} (h : z6 ψ w w') (hp : ∀ b, b < w.heap.size -> ψ b) : Below w.heap.size w w' := ⟨h.os, h.tape, h.output, h.size, fun b hb => h.block b hb (hp b hb)⟩
structure B6 (φ ψ : Nat -> Prop) (w0 w : World) (L : List U2) : Prop where
 kept : z6 ψ w0 w
 fresh : ∀ b, w0.heap.size <= b -> φ b
 holds : ∀ (r : U2), r ∈ L -> r.holds w (Fr φ L)
 dis : ∀ (i j : Nat) (a b : U2) (g : Nat), L[i]? = some a -> L[j]? = some b -> i ≠ j -> a.blk g -> ¬ b.blk g
 ge : ∀ (r : U2) (b : Nat), r ∈ L -> r.blk b -> w0.heap.size <= b \/ ¬ ψ b
section
variable {φ ψ : Nat -> Prop} {w0 w w' : World} {L : List U2}
theorem B6.start (hf : ∀ b, w0.heap.size <= b -> φ b) : B6 φ ψ w0 w0 [] := ⟨z6.refl _ _, hf, (fun _ h => by cases h), (fun i j a b g h => by simp at h), (fun _ _ h => by cases h)⟩
theorem U2.lt {r : U2} (h : r.holds w φ) {b : Nat} (hb : r.blk b) : b < w.heap.size := by
 cases r with
 | box b' cs => cases hb; exact V3.lt h
 | row e sz v n xs => exact (World.ownsRow.lt h b hb).2
 | dat R => cases hb
 | own S R => exact h.2.2 b hb
theorem B6.lt (M : B6 φ ψ w0 w L) {r : U2} (hr : r ∈ L) {b : Nat} (hb : r.blk b) : b < w.heap.size := U2.lt (M.holds r hr) hb
theorem B6.frFresh (M : B6 φ ψ w0 w L) : ∀ b, w.heap.size <= b -> Fr φ L b := fun b hb => ⟨M.fresh b (bO6 M.kept.size hb), fun r hr he => by have := M.lt hr he; omega⟩
theorem B6.size (M : B6 φ ψ w0 w L) : w0.heap.size <= w.heap.size := M.kept.size
theorem B6.below (M : B6 φ ψ w0 w L) (hp : ∀ b, b < w0.heap.size -> ψ b) : Below w0.heap.size w0 w := M.kept.below hp
theorem U2.keep {φ' : Nat -> Prop} {r : U2} (h : r.holds w φ) (ha : G0 φ φ' w w') (hb : ∀ b, r.blk b -> w'.heap[b]? = w.heap[b]?) : r.holds w' φ' := by
 cases r with
 | box b cs => obtain ⟨T, h⟩ := h; exact ⟨T, (hb b rfl).trans h⟩
 | row e sz v n xs => exact (U3.same (lo := 0) (hi := w.heap.size) ⟨h, fun g hg => (World.ownsRow.lt h g hg).2⟩ hb).1
 | dat R => exact ⟨h.1, h.1 _ _ _ _ ha h.2⟩
 | own S R => exact ⟨h.1, h.1 _ _ h.2.1 fun b hs _ => hb b hs, fun b hs => bS7 (h.2.2 b hs) ha.1⟩
theorem B6.call (M : B6 φ ψ w0 w L) (b : Below w.heap.size w w') : B6 φ ψ w0 w' L :=
 ⟨M.kept.trans (z6.of_below b fun _ h _ => h), M.fresh, fun r hr => U2.keep (M.holds r hr) (G0.below b) fun g hg => b.block g (M.lt hr hg), M.dis, M.ge⟩
theorem B6.drew (M : B6 φ ψ w0 w L) : B6 φ ψ w0 w.drew L := M.call (Below.refl _ _).drew
theorem Fr.snoc {r : U2} {b : Nat} : Fr φ (L ++ [r]) b ↔ Fr φ L b /\ ¬ r.blk b := by
 unfold Fr
 constructor
 ·rintro ⟨h1, h2⟩; exact ⟨⟨h1, fun x hx => h2 x (by simp [hx])⟩, h2 r (by simp)⟩
 rintro ⟨⟨h1, h2⟩, h3⟩
 refine ⟨h1, fun x hx => ?_⟩
 simp only [bR0, List.mem_singleton] at hx
 rcases hx with hx | rfl
 ·exact h2 x hx
 exact h3
theorem B6.add (M : B6 φ ψ w0 w L) (b : Below w.heap.size w w') (r : U2) (h : r.holds w' (Fr φ (L ++ [r]))) (hg : ∀ g, r.blk g -> w.heap.size <= g) : B6 φ ψ w0 w' (L ++ [r]) := by
 have M' := M.call b
 refine ⟨M'.kept, M.fresh, fun x hx => ?_, fun i j x y g hi hj hij hx hy => ?_, fun x g hx hxg => ?_⟩
 ·simp only [bR0, List.mem_singleton] at hx
  rcases hx with hx | rfl
  ·exact U2.keep (M.holds x hx) ⟨b.size, fun c hc hf => ⟨Fr.snoc.2 ⟨hf, fun he => by have := hg c he; omega⟩, b.block c hc⟩⟩ fun g hgx => b.block g (M.lt hx hgx)
  exact h
 ·have lt : ∀ (k : Nat) (z : U2), (L ++ [r])[k]? = some z -> (k < L.length /\ L[k]? = some z) \/ (k = L.length /\ z = r) := by
   intro k z hz
   rcases bR6 k L.length with hk | hk
   ·rw [bS6 hk] at hz; exact .inl ⟨hk, hz⟩
   rw [bT2 hk] at hz
   have : k - L.length = 0 := by
    rcases Nat.eq_zero_or_pos (k - L.length) with h | h
    ·exact h
    rw [bS2 (by rw [List.length_singleton]; exact h)] at hz; cases hz
   rw [this] at hz; simp at hz
   exact .inr ⟨by omega, hz.symm⟩
  rcases lt i x hi with ⟨hi', h1⟩ | ⟨hi', rfl⟩ <;> rcases lt j y hj with ⟨hj', h2⟩ | ⟨hj', rfl⟩
  ·exact M.dis i j x y g h1 h2 hij hx hy
  ·have := M.lt (bQ5 h1) hx; have := hg g hy; omega
  ·have := M.lt (bQ5 h2) hy; have := hg g hx; omega
  omega
 simp only [bR0, List.mem_singleton] at hx
 rcases hx with hx | rfl
 ·exact M.ge x g hx hxg
 exact .inl (bO6 M.size (hg g hxg))
theorem B6.box (M : B6 φ ψ w0 w L) (cs : List Value) (T : TypeId) : B6 φ ψ w0 (w.alloc (.cells cs.toArray T)) (L ++ [.box w.heap.size cs]) :=
 M.add ((Below.refl _ _).alloc (bP9 _) _) _ (V3.new w cs T) fun g hg => by cases hg; exact bP9 _
theorem B6.box' (M : B6 φ ψ w0 w L) (cs : List Value) (T : TypeId) {b : Nat} (hb : b = w.heap.size) : B6 φ ψ w0 (w.alloc (.cells cs.toArray T)) (L ++ [.box b cs]) := by subst hb; exact M.box cs T
theorem B6.dat (M : B6 φ ψ w0 w L) {R : World -> (Nat -> Prop) -> Prop} (hn : aa9 R) (h : R w (Fr φ L)) : B6 φ ψ w0 w (L ++ [.dat R]) :=
 M.add (Below.refl _ _) _ ⟨hn, hn _ _ _ _ (G0.mono fun b _ hf => Fr.snoc.2 ⟨hf, fun h => by cases h⟩) h⟩ fun g hg => by cases hg
theorem B6.nil (M : B6 φ ψ w0 w L) (e : TypeId) (sz : Nat) : B6 φ ψ w0 w (L ++ [.row e sz (.slice none 0 0) 0 []]) :=
 M.add (Below.refl _ _) _ (World.ownsRow_nil _ _ _ _) fun g hg => by cases hg
theorem Fr.set {r : U2} {i : Nat} {a : U2} (_hi : L[i]? = some a) {b : Nat} (h : Fr φ L b) (hr : ¬ r.blk b) : Fr φ (L.set i r) b :=
 ⟨h.1, fun x hx => by
  rcases List.mem_or_eq_of_mem_set hx with hx | rfl
  ·exact h.2 x hx
  exact hr⟩
theorem B6.put (M : B6 φ ψ w0 w L) {i : Nat} {a : U2} (hi : L[i]? = some a) (r : U2) (hk : z6 (fun b => ¬ a.blk b) w w') (h : r.holds w' (Fr φ (L.set i r))) (hg : ∀ g, r.blk g -> a.blk g \/ w.heap.size <= g) : B6 φ ψ w0 w' (L.set i r) := by
 have hil := (bP8.1 hi).1
 have ha := bQ5 hi
 have get : ∀ (j : Nat) (z : U2), (L.set i r)[j]? = some z -> (j ≠ i /\ L[j]? = some z) \/ (j = i /\ z = r) := by
  intro j z hz
  by_cases e : j = i
  ·subst e; rw [List.getElem?_set_self hil] at hz; exact .inr ⟨rfl, (Option.some.inj hz).symm⟩
  rw [List.getElem?_set_ne (fun h => e h.symm)] at hz; exact .inl ⟨e, hz⟩
 refine ⟨⟨hk.os.trans M.kept.os, hk.tape.trans M.kept.tape, hk.output.trans M.kept.output, bO6 M.size hk.size, fun b hb hp => (hk.block b (bS7 hb M.size) fun he => ?_).trans (M.kept.block b hb hp)⟩, M.fresh, fun x hx => ?_, fun j k x y g hj hk' hjk hx hy => ?_, fun x g hx hxg => ?_⟩
 ·rcases M.ge a b ha he with h' | h'
  ·omega
  exact h' hp
 ·obtain ⟨j, hj⟩ := List.mem_iff_getElem?.1 hx
  rcases get j x hj with ⟨hne, hj'⟩ | ⟨_, rfl⟩
  ·refine U2.keep (M.holds x (bQ5 hj')) ⟨hk.size, fun b hb hf => ⟨Fr.set hi hf fun he => ?_, hk.block b hb (hf.2 a ha)⟩⟩ fun g hgx => hk.block g (M.lt (bQ5 hj') hgx) fun he => M.dis i j a x g hi hj' (fun e => hne e.symm) he hgx
   rcases hg b he with h' | h'
   ·exact hf.2 a ha h'
   omega
  exact h
 ·rcases get j x hj with ⟨hne, hj'⟩ | ⟨e1, rfl⟩ <;> rcases get k y hk' with ⟨hne', hk''⟩ | ⟨e2, rfl⟩
  ·exact M.dis j k x y g hj' hk'' hjk hx hy
  ·rcases hg g hy with h' | h'
   ·exact M.dis j i x a g hj' hi hne hx h'
   have := M.lt (bQ5 hj') hx; omega
  ·rcases hg g hx with h' | h'
   ·exact M.dis i k a y g hi hk'' (fun e => hne' e.symm) h' hy
   have := M.lt (bQ5 hk'') hy; omega
  omega
 obtain ⟨j, hj⟩ := List.mem_iff_getElem?.1 hx
 rcases get j x hj with ⟨hne, hj'⟩ | ⟨_, rfl⟩
 ·exact M.ge x g (bQ5 hj') hxg
 rcases hg g hxg with h' | h'
 ·exact M.ge a g ha h'
 exact .inl (bO6 M.size h')
theorem z6.mono {ψ ψ' : Nat -> Prop} {w w' : World} (h : z6 ψ w w') (hp : ∀ b, ψ' b -> ψ b) : z6 ψ' w w' := ⟨h.os, h.tape, h.output, h.size, fun b hb hp' => h.block b hb (hp b hp')⟩
theorem z6.setCell (w : World) (b j : Nat) (u : Value) : z6 (fun c => ¬ c = b) w (w.setCell ⟨b, j, none⟩ u) :=
 ⟨rfl, rfl, rfl, by simp [World.setCell], fun c _ hc => Below.heap_setCell _ _ _ _ hc⟩
theorem B6.set (M : B6 φ ψ w0 w L) (i : Nat) {b : Nat} {cs : List Value} (hi : L[i]? = some (.box b cs)) (j : Nat) (u : Value) : B6 φ ψ w0 (w.setCell ⟨b, j, none⟩ u) (L.set i (.box b (cs.set j u))) :=
 M.put hi _ (z6.setCell w b j u) (V3.set (M.holds _ (bQ5 hi)) u) fun _ hg => .inl hg
theorem B6.setFrom (us : List Value) : ∀ {w : World} {L : List U2} {p : Nat} {cs : List Value}, B6 φ ψ w0 w L -> ∀ (i : Nat) {b : Nat}, L[i]? = some (.box b cs) -> B6 φ ψ w0 (World.setFrom w b p us) (L.set i (.box b (Go.Proofs.YtompcdbfongedaaGreatDoor.setFrom cs p us))) := by
 induction us with
 | nil =>
  intro w L p cs M i b hi
  have : L.set i (.box b cs) = L := by
   apply List.ext_getElem?
   intro j
   rw [List.getElem?_set]
   split
   ·rename_i e; subst e; rw [if_pos (bP8.1 hi).1, hi]
   rfl
  show B6 φ ψ w0 w (L.set i (.box b cs))
  rw [this]; exact M
 | cons u r ih =>
  intro w L p cs M i b hi
  have h1 := M.set i hi p u
  have h2 := ih (p := p + 1) h1 i (by rw [List.getElem?_set_self (bP8.1 hi).1])
  rw [List.set_set] at h2
  exact h2
theorem aO4 {cs us : List Value} (h : us.length = cs.length) : Go.Proofs.YtompcdbfongedaaGreatDoor.setFrom cs 0 us = us := by
 have h1 := aj7 us cs 0 (by omega)
 rw [bS8, bQ3 (by rw [H0]; omega)] at h1
 simpa using h1
theorem B6.fill (M : B6 φ ψ w0 w L) (i : Nat) {b : Nat} {cs : List Value} (hi : L[i]? = some (.box b cs)) (us : List Value) (h : us.length = cs.length) : B6 φ ψ w0 (World.setFrom w b 0 us) (L.set i (.box b us)) := by
 have h1 := M.setFrom us (p := 0) i hi
 rwa [aO4 h] at h1
theorem B6.callB (M : B6 φ ψ w0 w L) (i : Nat) {b : Nat} {cs cs' : List Value} (hi : L[i]? = some (.box b cs)) (hk : z6 (fun c => ¬ c = b) w w') (h : V3 w' b cs') : B6 φ ψ w0 w' (L.set i (.box b cs')) :=
 M.put hi _ hk h fun _ hg => .inl hg
theorem B6.rowSet (M : B6 φ ψ w0 w L) (i : Nat) {e : TypeId} {sz n cap g : Nat} {xs : List Value} (hi : L[i]? = some (.row e sz (.slice (some ⟨g, 0, none⟩) n cap) n xs)) {j : Nat} (hj : j < xs.length) (u : Value) :
  B6 φ ψ w0 (w.setCell ⟨g, j, none⟩ u) (L.set i (.row e sz (.slice (some ⟨g, 0, none⟩) n cap) n (xs.set j u))) :=
 M.put hi _ ((z6.setCell w g j u).mono fun b hb e => hb (by rw [e]; rfl)) (U3.setCell (U3.mk' (M.holds _ (bQ5 hi))) hj u).1 fun _ hg => .inl hg
theorem B6.app (M : B6 φ ψ w0 w L) (i : Nat) {e : TypeId} {sz : Nat} {v v' : Value} {n n' : Nat} {xs xs' : List Value} (hi : L[i]? = some (.row e sz v n xs)) (h : w'.ownsRow 0 e sz v' n' xs') (hg : w.grownBy w' v.ownBlock) (hb : ∀ g, v'.ownBlock = some g -> v.ownBlock = some g \/ w.heap.size <= g) :
  B6 φ ψ w0 w' (L.set i (.row e sz v' n' xs')) :=
 M.put hi _ ⟨hg.os, hg.tape, hg.output, hg.size, fun b hb hn => hg.block b hb fun h => hn h.symm⟩ h hb
theorem B6.turn (M : B6 φ ψ w0 w L) (i : Nat) {S : Nat -> Prop} {R R' : World -> Prop} (hi : L[i]? = some (.own S R)) (hk : z6 (fun b => ¬ S b) w w') (hR : ∀ w w', R' w -> (∀ b, S b -> b < w.heap.size -> w'.heap[b]? = w.heap[b]?) -> R' w') (h : R' w') : B6 φ ψ w0 w' (L.set i (.own S R')) :=
 M.put hi _ hk ⟨hR, h, fun b hb => bS7 ((M.holds _ (bQ5 hi)).2.2 b hb) hk.size⟩ fun _ hg => .inl hg
theorem B6.o (M : B6 φ ψ w0 w L) (i : Nat) {S : Nat -> Prop} {R : World -> Prop} (hi : L[i]? = some (.own S R)) : R w := (M.holds _ (bQ5 hi)).2.1
theorem B6.take (M : B6 φ ψ w0 w L) (k : Nat) : B6 φ ψ w0 w (L.take k) :=
 ⟨M.kept, M.fresh, fun r hr => U2.keep (M.holds r (List.mem_of_mem_take hr)) (G0.mono fun _ _ hf => ⟨hf.1, fun x hx => hf.2 x (List.mem_of_mem_take hx)⟩) fun _ _ => rfl,
  fun i j a b g hi hj hij => M.dis i j a b g (by rw [List.getElem?_take] at hi; split at hi; exact hi; cases hi) (by rw [List.getElem?_take] at hj; split at hj; exact hj; cases hj) hij, fun r b hr => M.ge r b (List.mem_of_mem_take hr)⟩
theorem B6.sel (M : B6 φ ψ w0 w L) (is : List Nat) (L' : List U2) (h : L'.map some = is.map fun i => L[i]?) (hn : is.Nodup) : B6 φ ψ w0 w L' := by
 have hl : L'.length = is.length := by simpa using congrArg List.length h
 have get : ∀ (j : Nat) (r : U2), L'[j]? = some r -> ∃ i, is[j]? = some i /\ L[i]? = some r := by
  intro j r hj
  have h1 : (L'.map some)[j]? = some (some r) := by simp [hj]
  rw [h, bQ8] at h1
  cases hi : is[j]? with
  | none => rw [hi] at h1; cases h1
  | some i => rw [hi] at h1; exact ⟨i, rfl, Option.some.inj h1⟩
 have mem : ∀ r, r ∈ L' -> r ∈ L := fun r hr => by
  obtain ⟨j, hj⟩ := List.mem_iff_getElem?.1 hr
  obtain ⟨i, _, hi⟩ := get j r hj
  exact bQ5 hi
 refine ⟨M.kept, M.fresh, fun r hr => U2.keep (M.holds r (mem r hr)) (G0.mono fun _ _ hf => ⟨hf.1, fun x hx => hf.2 x (mem x hx)⟩) fun _ _ => rfl, fun j k a b g hj hk hjk ha hb => ?_, fun r b hr => M.ge r b (mem r hr)⟩
 obtain ⟨i1, e1, h1⟩ := get j a hj
 obtain ⟨i2, e2, h2⟩ := get k b hk
 refine M.dis i1 i2 a b g h1 h2 (fun e => hjk ?_) ha hb
 subst e
 have hlt := (bP8.1 e1).1
 exact (List.getElem?_inj hlt hn).1 (e1.trans e2.symm)
theorem B6.c (M : B6 φ ψ w0 w L) (i j : Nat) {b : Nat} {cs : List Value} {u : Value} (hi : L[i]? = some (.box b cs)) (hj : cs[j]? = some u) : w.cell? ⟨b, j, none⟩ = some u :=
 (V3.cell (M.holds _ (bQ5 hi)) j).trans hj
theorem B6.f (M : B6 φ ψ w0 w L) (i : Nat) {b : Nat} {cs : List Value} (hi : L[i]? = some (.box b cs)) : ∀ j, w.frozen? ⟨b, j, none⟩ = false := V3.free (M.holds _ (bQ5 hi))
theorem B6.blk (M : B6 φ ψ w0 w L) (i : Nat) {b : Nat} {cs : List Value} (hi : L[i]? = some (.box b cs)) : V3 w b cs := M.holds _ (bQ5 hi)
theorem B6.r (M : B6 φ ψ w0 w L) (i : Nat) {e : TypeId} {sz : Nat} {v : Value} {n : Nat} {xs : List Value} (hi : L[i]? = some (.row e sz v n xs)) : w.ownsRow 0 e sz v n xs := M.holds _ (bQ5 hi)
theorem B6.d (M : B6 φ ψ w0 w L) (i : Nat) {R : World -> (Nat -> Prop) -> Prop} (hi : L[i]? = some (.dat R)) : R w (Fr φ L) := (M.holds _ (bQ5 hi)).2
theorem B6.dn (M : B6 φ ψ w0 w L) (i : Nat) {R : World -> (Nat -> Prop) -> Prop} (hi : L[i]? = some (.dat R)) : aa9 R := (M.holds _ (bQ5 hi)).1
theorem B6.out (M : B6 φ ψ w0 w L) (i : Nat) {R : World -> (Nat -> Prop) -> Prop} (hi : L[i]? = some (.dat R)) : R w φ := M.dn i hi _ _ _ _ (G0.mono fun _ _ hf => hf.1) (M.d i hi)
theorem B6.as (M : B6 φ ψ w0 w L) (L' : List U2) (h : L = L') : B6 φ ψ w0 w L' := h ▸ M
end
end Go.Proofs.YtompcdbfongedaaGreatDoor

namespace Go.Proofs.YtompcdbfongedaaGreatDoor
inductive b9 where
 | mk (kind value : Int) (kids : List b9)
def b9.kind : b9 -> Int | ⟨k, _, _⟩ => k
def b9.value : b9 -> Int | ⟨_, n, _⟩ => n
def b9.kids : b9 -> List b9 | ⟨_, _, ks⟩ => ks
inductive b7 where
 | mk (kind target : Int) (index value : b9) (count : Int) (body els : List b7)
def b7.kind : b7 -> Int | ⟨k, _, _, _, _, _, _⟩ => k
def b7.target : b7 -> Int | ⟨_, t, _, _, _, _, _⟩ => t
def b7.index : b7 -> b9 | ⟨_, _, i, _, _, _, _⟩ => i
def b7.value : b7 -> b9 | ⟨_, _, _, v, _, _, _⟩ => v
def b7.count : b7 -> Int | ⟨_, _, _, _, c, _, _⟩ => c
def b7.body : b7 -> List b7 | ⟨_, _, _, _, _, b, _⟩ => b
def b7.els : b7 -> List b7 | ⟨_, _, _, _, _, _, e⟩ => e
structure o6 where
 vars : List Int
 arrays : List Int
 body : List b7
mutual
theorem b9.ind {P : b9 -> Prop} (h : ∀ k n ks, (∀ e ∈ ks, P e) -> P ⟨k, n, ks⟩) : ∀ e : b9, P e
 | ⟨k, n, ks⟩ => h k n ks (b9.indL h ks)
theorem b9.indL {P : b9 -> Prop} (h : ∀ k n ks, (∀ e ∈ ks, P e) -> P ⟨k, n, ks⟩) : ∀ ks : List b9, ∀ e ∈ ks, P e
 | [] => fun _ hm => by cases hm
 | a :: r => fun _ hm => (bR2.1 hm).elim (fun he => he ▸ b9.ind h a) fun hm => b9.indL h r _ hm
end
mutual
theorem b7.ind {P : b7 -> Prop} (h : ∀ k t i v c b e, (∀ s ∈ b, P s) -> (∀ s ∈ e, P s) -> P ⟨k, t, i, v, c, b, e⟩) : ∀ s : b7, P s
 | ⟨k, t, i, v, c, b, e⟩ => h k t i v c b e (b7.indL h b) (b7.indL h e)
theorem b7.indL {P : b7 -> Prop} (h : ∀ k t i v c b e, (∀ s ∈ b, P s) -> (∀ s ∈ e, P s) -> P ⟨k, t, i, v, c, b, e⟩) : ∀ ss : List b7, ∀ s ∈ ss, P s
 | [] => fun _ hm => by cases hm
 | a :: r => fun _ hm => (bR2.1 hm).elim (fun he => he ▸ b7.ind h a) fun hm => b7.indL h r _ hm
end
mutual
def O2 : b9 -> Nat
 | ⟨_, _, ks⟩ => r6 ks
def r6 : List b9 -> Nat
 | [] => 0
 | e :: r => 1 + O2 e + r6 r
end
mutual
def szS : b7 -> Nat
 | ⟨_, _, i, v, _, b, e⟩ => O2 i + O2 v + B7 b + B7 e
def B7 : List b7 -> Nat
 | [] => 0
 | s :: r => 1 + szS s + B7 r
end
def o6.size (p : o6) : Nat := p.vars.length + p.arrays.length + B7 p.body
theorem V7 (a b : List b9) : r6 (a ++ b) = r6 a + r6 b := by
 induction a with
 | nil => simp [r6]
 | cons x r ih => simp [r6, ih]; omega
theorem aN7 (a : List b7) : a.length <= B7 a := by
 induction a with
 | nil => simp
 | cons x r ih => simp only [B7, bO9]; omega
theorem bn0 {s : b7} {ss : List b7} (h : s ∈ ss) : szS s < B7 ss := by
 induction ss with
 | nil => cases h
 | cons x r ih =>
  simp only [B7]
  rcases bR2.1 h with rfl | h
  ·omega
  have := ih h; omega
mutual
def Y2 : b9 -> b9 -> Bool
 | ⟨k, n, ks⟩, ⟨k', n', ks'⟩ => decide (k = k') && decide (n = n') && N3 ks ks'
def N3 : List b9 -> List b9 -> Bool
 | [], [] => true
 | e :: r, e' :: r' => Y2 e e' && N3 r r'
 | _, _ => false
end
mutual
def aw2 : b7 -> b7 -> Bool
 | ⟨k, t, i, v, c, b, e⟩, ⟨k', t', i', v', c', b', e'⟩ => decide (k = k') && decide (t = t') && Y2 i i' && Y2 v v' && decide (c = c') && I2 b b' && I2 e e'
def I2 : List b7 -> List b7 -> Bool
 | [], [] => true
 | s :: r, s' :: r' => aw2 s s' && I2 r r'
 | _, _ => false
end
mutual
theorem ac6 : ∀ (a b : b9), Y2 a b = true ↔ a = b
 | ⟨k, n, ks⟩, ⟨k', n', ks'⟩ => by
  simp only [Y2, bO8, decide_eq_true_eq, b9.mk.injEq, Y1 ks ks', and_assoc]
theorem Y1 : ∀ (a b : List b9), N3 a b = true ↔ a = b
 | [], [] => by simp [N3]
 | [], _ :: _ => by simp [N3]
 | _ :: _, [] => by simp [N3]
 | e :: r, e' :: r' => by simp only [N3, bO8, List.cons.injEq, ac6 e e', Y1 r r']
end
mutual
theorem aw1 : ∀ (a b : b7), aw2 a b = true ↔ a = b
 | ⟨k, t, i, v, c, b, e⟩, ⟨k', t', i', v', c', b', e'⟩ => by
  simp only [aw2, bO8, decide_eq_true_eq, b7.mk.injEq, ac6 i i', ac6 v v', P7 b b', P7 e e', and_assoc]
theorem P7 : ∀ (a b : List b7), I2 a b = true ↔ a = b
 | [], [] => by simp [I2]
 | [], _ :: _ => by simp [I2]
 | _ :: _, [] => by simp [I2]
 | e :: r, e' :: r' => by simp only [I2, bO8, List.cons.injEq, aw1 e e', P7 r r']
end
def o6.same (p q : o6) : Bool := decide (p.vars = q.vars) && decide (p.arrays = q.arrays) && I2 p.body q.body
theorem o6.same_eq {p q : o6} : p.same q = true ↔ p = q := by
 cases p; cases q
 simp only [o6.same, bO8, decide_eq_true_eq, o6.mk.injEq, P7, and_assoc]
theorem aV9 {a b : List b9} (h : a.length ≠ b.length) : N3 a b = false := by
 cases hs : N3 a b
 ·rfl
 exact absurd (congrArg List.length ((Y1 a b).1 hs)) h
theorem aV8 {a b : List b7} (h : a.length ≠ b.length) : I2 a b = false := by
 cases hs : I2 a b
 ·rfl
 exact absurd (congrArg List.length ((P7 a b).1 hs)) h
mutual
def mkE : b9 -> Int -> b9
 | ⟨_, _, ks⟩, k => ⟨k, k + 1, X3 ks (k + 2)⟩
def X3 : List b9 -> Int -> List b9
 | [], _ => []
 | e :: r, k => mkE e k :: X3 r (k + 2 + 2 * O2 e)
end
mutual
def mkS : b7 -> Int -> b7
 | ⟨_, _, i, v, _, b, e⟩, k => ⟨k, k + 1, mkE i (k + 2), mkE v (k + 4 + 2 * O2 i), k + 6 + 2 * O2 i + 2 * O2 v, Y4 b (k + 7 + 2 * O2 i + 2 * O2 v), Y4 e (k + 7 + 2 * O2 i + 2 * O2 v + W4 b)⟩
def Y4 : List b7 -> Int -> List b7
 | [], _ => []
 | s :: r, k => mkS s k :: Y4 r (k + aQ1 s)
def aQ1 : b7 -> Int
 | ⟨_, _, i, v, _, b, e⟩ => 7 + 2 * O2 i + 2 * O2 v + W4 b + W4 e
def W4 : List b7 -> Int
 | [] => 0
 | s :: r => aQ1 s + W4 r
end
end Go.Proofs.YtompcdbfongedaaGreatDoor

namespace Go.Proofs.YtompcdbfongedaaGreatDoor
open Go Go.RowKit
section
mutual
def P0 (w : World) (φ : Nat -> Prop) : b9 -> List Value -> Prop
 | ⟨k, n, ks⟩, cs => ∃ v xs, cs = [.int .i64 k, .int .i64 n, v] /\ C4 w φ v ks.length 3 xs /\ A5 w φ ks xs
def A5 (w : World) (φ : Nat -> Prop) : List b9 -> List Value -> Prop
 | [], xs => xs = []
 | e :: r, xs => ∃ c ys, xs = c ++ ys /\ P0 w φ e c /\ A5 w φ r ys
end
def n5 (w : World) (φ : Nat -> Prop) (v : Value) (ks : List b9) : Prop := ∃ xs, C4 w φ v ks.length 3 xs /\ A5 w φ ks xs
def x3 (w : World) (φ : Nat -> Prop) (v : Value) (e : b9) : Prop := ∃ kv, v = .agg #[.int .i64 e.kind, .int .i64 e.value, kv] /\ n5 w φ kv e.kids
mutual
def O0 (w : World) (φ : Nat -> Prop) : b7 -> List Value -> Prop
 | ⟨k, t, i, v, c, b, e⟩, cs => ∃ iv vv bv ev xb xe, cs = [.int .i64 k, .int .i64 t, .int .i64 i.kind, .int .i64 i.value, iv, .int .i64 v.kind, .int .i64 v.value, vv, .int .i64 c, bv, ev] /\
   n5 w φ iv i.kids /\ n5 w φ vv v.kids /\ C4 w φ bv b.length 11 xb /\ z8 w φ b xb /\ C4 w φ ev e.length 11 xe /\ z8 w φ e xe
def z8 (w : World) (φ : Nat -> Prop) : List b7 -> List Value -> Prop
 | [], xs => xs = []
 | s :: r, xs => ∃ c ys, xs = c ++ ys /\ O0 w φ s c /\ z8 w φ r ys
end
def w6 (w : World) (φ : Nat -> Prop) (v : Value) (ss : List b7) : Prop := ∃ xs, C4 w φ v ss.length 11 xs /\ z8 w φ ss xs
def as0 (w : World) (φ : Nat -> Prop) (v : Value) (s : b7) : Prop :=
 ∃ iv vv bv ev, v = .agg #[.int .i64 s.kind, .int .i64 s.target, .int .i64 s.index.kind, .int .i64 s.index.value, iv, .int .i64 s.value.kind, .int .i64 s.value.value, vv, .int .i64 s.count, bv, ev] /\
  n5 w φ iv s.index.kids /\ n5 w φ vv s.value.kids /\ w6 w φ bv s.body /\ w6 w φ ev s.els
def aG5 (w : World) (φ : Nat -> Prop) (v : Value) (p : o6) : Prop :=
 ∃ v1 v2 v3, v = .agg #[v1, v2, v3] /\ C4 w φ v1 p.vars.length 1 (ints p.vars) /\ C4 w φ v2 p.arrays.length 1 (ints p.arrays) /\ w6 w φ v3 p.body
variable {w w' : World} {φ φ' : Nat -> Prop}
mutual
theorem P0.agr (ha : G0 φ φ' w w') : ∀ (e : b9) (cs : List Value), P0 w φ e cs -> P0 w' φ' e cs
 | ⟨_, _, ks⟩, _, ⟨v, xs, h1, h2, h3⟩ => ⟨v, xs, h1, C4.nice _ _ _ _ _ _ _ _ ha h2, A5.agr ha ks xs h3⟩
theorem A5.agr (ha : G0 φ φ' w w') : ∀ (ks : List b9) (xs : List Value), A5 w φ ks xs -> A5 w' φ' ks xs
 | [], _, h => h
 | e :: r, _, ⟨c, ys, h1, h2, h3⟩ => ⟨c, ys, h1, P0.agr ha e c h2, A5.agr ha r ys h3⟩
end
theorem A5.nice (ks : List b9) (xs : List Value) : aa9 fun w φ => A5 w φ ks xs := fun _ _ _ _ ha h => A5.agr ha ks xs h
theorem n5.nice (v : Value) (ks : List b9) : aa9 fun w φ => n5 w φ v ks := fun _ _ _ _ ha ⟨xs, h1, h2⟩ => ⟨xs, C4.nice _ _ _ _ _ _ _ _ ha h1, A5.agr ha ks xs h2⟩
theorem x3.nice (v : Value) (e : b9) : aa9 fun w φ => x3 w φ v e := fun _ _ _ _ ha ⟨kv, h1, h2⟩ => ⟨kv, h1, n5.nice _ _ _ _ _ _ ha h2⟩
mutual
theorem O0.agr (ha : G0 φ φ' w w') : ∀ (s : b7) (cs : List Value), O0 w φ s cs -> O0 w' φ' s cs
 | ⟨_, _, _, _, _, b, e⟩, _, ⟨iv, vv, bv, ev, xb, xe, h1, h2, h3, h4, h5, h6, h7⟩ =>
  ⟨iv, vv, bv, ev, xb, xe, h1, n5.nice _ _ _ _ _ _ ha h2, n5.nice _ _ _ _ _ _ ha h3, C4.nice _ _ _ _ _ _ _ _ ha h4, z8.agr ha b xb h5, C4.nice _ _ _ _ _ _ _ _ ha h6, z8.agr ha e xe h7⟩
theorem z8.agr (ha : G0 φ φ' w w') : ∀ (ss : List b7) (xs : List Value), z8 w φ ss xs -> z8 w' φ' ss xs
 | [], _, h => h
 | s :: r, _, ⟨c, ys, h1, h2, h3⟩ => ⟨c, ys, h1, O0.agr ha s c h2, z8.agr ha r ys h3⟩
end
theorem z8.nice (ss : List b7) (xs : List Value) : aa9 fun w φ => z8 w φ ss xs := fun _ _ _ _ ha h => z8.agr ha ss xs h
theorem w6.nice (v : Value) (ss : List b7) : aa9 fun w φ => w6 w φ v ss := fun _ _ _ _ ha ⟨xs, h1, h2⟩ => ⟨xs, C4.nice _ _ _ _ _ _ _ _ ha h1, z8.agr ha ss xs h2⟩
theorem as0.nice (v : Value) (s : b7) : aa9 fun w φ => as0 w φ v s := fun _ _ _ _ ha ⟨iv, vv, bv, ev, h1, h2, h3, h4, h5⟩ =>
 ⟨iv, vv, bv, ev, h1, n5.nice _ _ _ _ _ _ ha h2, n5.nice _ _ _ _ _ _ ha h3, w6.nice _ _ _ _ _ _ ha h4, w6.nice _ _ _ _ _ _ ha h5⟩
theorem aG5.nice (v : Value) (p : o6) : aa9 fun w φ => aG5 w φ v p := fun _ _ _ _ ha ⟨v1, v2, v3, h1, h2, h3, h4⟩ =>
 ⟨v1, v2, v3, h1, C4.nice _ _ _ _ _ _ _ _ ha h2, C4.nice _ _ _ _ _ _ _ _ ha h3, w6.nice _ _ _ _ _ _ ha h4⟩
theorem P0.iff (e : b9) (cs : List Value) : P0 w φ e cs ↔ ∃ kv, cs = [.int .i64 e.kind, .int .i64 e.value, kv] /\ n5 w φ kv e.kids := by
 cases e with
 | mk k n ks => exact ⟨fun ⟨v, xs, h1, h2, h3⟩ => ⟨v, h1, xs, h2, h3⟩, fun ⟨v, h1, xs, h2, h3⟩ => ⟨v, xs, h1, h2, h3⟩⟩
theorem O0.iff (s : b7) (cs : List Value) : O0 w φ s cs ↔ ∃ iv vv bv ev, cs = [.int .i64 s.kind, .int .i64 s.target, .int .i64 s.index.kind, .int .i64 s.index.value, iv, .int .i64 s.value.kind, .int .i64 s.value.value, vv, .int .i64 s.count, bv, ev] /\
  n5 w φ iv s.index.kids /\ n5 w φ vv s.value.kids /\ w6 w φ bv s.body /\ w6 w φ ev s.els := by
 cases s with
 | mk k t i v c b e =>
  exact ⟨fun ⟨iv, vv, bv, ev, xb, xe, h1, h2, h3, h4, h5, h6, h7⟩ => ⟨iv, vv, bv, ev, h1, h2, h3, ⟨xb, h4, h5⟩, ⟨xe, h6, h7⟩⟩,
   fun ⟨iv, vv, bv, ev, h1, h2, h3, ⟨xb, h4, h5⟩, ⟨xe, h6, h7⟩⟩ => ⟨iv, vv, bv, ev, xb, xe, h1, h2, h3, h4, h5, h6, h7⟩⟩
theorem x3.iff {v : Value} {e : b9} : x3 w φ v e ↔ ∃ cs : List Value, v = .agg cs.toArray /\ P0 w φ e cs :=
 ⟨fun ⟨kv, h1, h2⟩ => ⟨_, h1, (P0.iff e _).2 ⟨kv, rfl, h2⟩⟩, fun ⟨cs, h1, h2⟩ => by obtain ⟨kv, rfl, h3⟩ := (P0.iff e cs).1 h2; exact ⟨kv, h1, h3⟩⟩
theorem as0.iff {v : Value} {s : b7} : as0 w φ v s ↔ ∃ cs : List Value, v = .agg cs.toArray /\ O0 w φ s cs :=
 ⟨fun ⟨iv, vv, bv, ev, h1, h2⟩ => ⟨_, h1, (O0.iff s _).2 ⟨iv, vv, bv, ev, rfl, h2⟩⟩, fun ⟨cs, h1, h2⟩ => by obtain ⟨iv, vv, bv, ev, rfl, h3⟩ := (O0.iff s cs).1 h2; exact ⟨iv, vv, bv, ev, h1, h3⟩⟩
theorem A5.len : ∀ {ks : List b9} {xs : List Value}, A5 w φ ks xs -> xs.length = ks.length * 3
 | [], _, h => by rw [show _ = [] from h]; rfl
 | e :: r, _, ⟨c, ys, h1, h2, h3⟩ => by
  obtain ⟨kv, rfl, _⟩ := (P0.iff e c).1 h2
  rw [h1, bQ7, A5.len h3, bO9]; simp; omega
theorem z8.len : ∀ {ss : List b7} {xs : List Value}, z8 w φ ss xs -> xs.length = ss.length * 11
 | [], _, h => by rw [show _ = [] from h]; rfl
 | s :: r, _, ⟨c, ys, h1, h2, h3⟩ => by
  obtain ⟨iv, vv, bv, ev, rfl, _⟩ := (O0.iff s c).1 h2
  rw [h1, bQ7, z8.len h3, bO9]; simp; omega
theorem A5.at : ∀ {ks : List b9} {xs : List Value}, A5 w φ ks xs -> ∀ (i : Nat) (hi : i < ks.length), ∃ kv, xs[i * 3]? = some (.int .i64 ks[i].kind) /\ xs[i * 3 + 1]? = some (.int .i64 ks[i].value) /\ xs[i * 3 + 2]? = some kv /\ n5 w φ kv ks[i].kids
 | [], _, _, i, hi => by simp at hi
 | e :: r, _, ⟨c, ys, h1, h2, h3⟩, i, hi => by
  obtain ⟨kv, rfl, hk⟩ := (P0.iff e c).1 h2
  subst h1
  cases i with
  | zero => exact ⟨kv, rfl, rfl, rfl, hk⟩
  | succ i =>
   obtain ⟨kv', a, b, d, f⟩ := A5.at h3 i (by simpa using hi)
   refine ⟨kv', ?_, ?_, ?_, f⟩ <;> (rw [bS4]; simpa [Nat.add_assoc] using by assumption)
theorem z8.at : ∀ {ss : List b7} {xs : List Value}, z8 w φ ss xs -> ∀ (i : Nat) (hi : i < ss.length), ∃ cs : List Value, cs.length = 11 /\ O0 w φ ss[i] cs /\ ∀ j, j < 11 -> xs[i * 11 + j]? = cs[j]?
 | [], _, _, i, hi => by simp at hi
 | s :: r, _, ⟨c, ys, h1, h2, h3⟩, i, hi => by
  have hc : c.length = 11 := by obtain ⟨iv, vv, bv, ev, rfl, _⟩ := (O0.iff s c).1 h2; rfl
  subst h1
  cases i with
  | zero => exact ⟨c, hc, h2, fun j hj => by rw [bS6 (by omega)]; simp⟩
  | succ i =>
   obtain ⟨cs, a, b, d⟩ := z8.at h3 i (by simpa using hi)
   refine ⟨cs, a, b, fun j hj => ?_⟩
   rw [bT2 (by rw [hc, bS4]; omega), <- d j hj]
   congr 1
   rw [hc, bS4]; omega
theorem A5.append : ∀ {ks : List b9} {xs : List Value} {ls : List b9} {ys : List Value}, A5 w φ ks xs -> A5 w φ ls ys -> A5 w φ (ks ++ ls) (xs ++ ys)
 | [], _, _, _, h, k => by rw [show _ = [] from h]; exact k
 | e :: r, _, _, _, ⟨c, zs, h1, h2, h3⟩, k => ⟨c, zs ++ _, by rw [h1, bR5], h2, A5.append h3 k⟩
theorem A5.one {e : b9} {c : List Value} (h : P0 w φ e c) : A5 w φ [e] c := ⟨c, [], by simp, h, rfl⟩
theorem z8.append : ∀ {ks : List b7} {xs : List Value} {ls : List b7} {ys : List Value}, z8 w φ ks xs -> z8 w φ ls ys -> z8 w φ (ks ++ ls) (xs ++ ys)
 | [], _, _, _, h, k => by rw [show _ = [] from h]; exact k
 | e :: r, _, _, _, ⟨c, zs, h1, h2, h3⟩, k => ⟨c, zs ++ _, by rw [h1, bR5], h2, z8.append h3 k⟩
theorem z8.one {s : b7} {c : List Value} (h : O0 w φ s c) : z8 w φ [s] c := ⟨c, [], by simp, h, rfl⟩
theorem n5.open {v : Value} {ks : List b9} (h : n5 w φ v ks) : ∃ a cap, v = .slice a ks.length cap /\ ks.length <= cap /\ ks.length <= 9223372036854775807 /\ cap <= 9223372036854775807 /\
  ∀ i (hi : i < ks.length), ∃ b off kv, a = some ⟨b, off, none⟩ /\ b < w.heap.size /\ φ b /\ w.cell? ⟨b, off + i * 3, none⟩ = some (.int .i64 ks[i].kind) /\ w.cell? ⟨b, off + i * 3 + 1, none⟩ = some (.int .i64 ks[i].value) /\ w.cell? ⟨b, off + i * 3 + 2, none⟩ = some kv /\ n5 w φ kv ks[i].kids := by
 obtain ⟨xs, ⟨hl, a, cap, rfl, h1, h2, h3⟩, hx⟩ := h
 unfold maxLen at h2
 refine ⟨a, cap, rfl, h1, by omega, by omega, fun i hi => ?_⟩
 obtain ⟨b, off, rfl, hb, hf, hc⟩ := h3 (by omega)
 obtain ⟨kv, e0, e1, e2, hk⟩ := hx.at i hi
 exact ⟨b, off, kv, rfl, hb, hf, hc _ _ e0, hc _ _ e1, hc _ _ e2, hk⟩
theorem w6.open {v : Value} {ss : List b7} (h : w6 w φ v ss) : ∃ a cap, v = .slice a ss.length cap /\ ss.length <= cap /\ ss.length <= 9223372036854775807 /\ cap <= 9223372036854775807 /\
  ∀ i (hi : i < ss.length), ∃ b off iv vv bv ev, a = some ⟨b, off, none⟩ /\ b < w.heap.size /\ φ b /\
   (w.cell? ⟨b, off + i * 11, none⟩ = some (.int .i64 ss[i].kind) /\ w.cell? ⟨b, off + i * 11 + 1, none⟩ = some (.int .i64 ss[i].target) /\ w.cell? ⟨b, off + i * 11 + 2, none⟩ = some (.int .i64 ss[i].index.kind) /\ w.cell? ⟨b, off + i * 11 + 3, none⟩ = some (.int .i64 ss[i].index.value) /\ w.cell? ⟨b, off + i * 11 + 4, none⟩ = some iv /\
    w.cell? ⟨b, off + i * 11 + 5, none⟩ = some (.int .i64 ss[i].value.kind) /\ w.cell? ⟨b, off + i * 11 + 6, none⟩ = some (.int .i64 ss[i].value.value) /\ w.cell? ⟨b, off + i * 11 + 7, none⟩ = some vv /\ w.cell? ⟨b, off + i * 11 + 8, none⟩ = some (.int .i64 ss[i].count) /\ w.cell? ⟨b, off + i * 11 + 9, none⟩ = some bv /\ w.cell? ⟨b, off + i * 11 + 10, none⟩ = some ev) /\
   n5 w φ iv ss[i].index.kids /\ n5 w φ vv ss[i].value.kids /\ w6 w φ bv ss[i].body /\ w6 w φ ev ss[i].els := by
 obtain ⟨xs, ⟨hl, a, cap, rfl, h1, h2, h3⟩, hx⟩ := h
 unfold maxLen at h2
 refine ⟨a, cap, rfl, h1, by omega, by omega, fun i hi => ?_⟩
 obtain ⟨b, off, rfl, hb, hf, hc⟩ := h3 (by omega)
 obtain ⟨cs, hl2, hs, hj⟩ := hx.at i hi
 obtain ⟨iv, vv, bv, ev, rfl, k1, k2, k3, k4⟩ := (O0.iff _ _).1 hs
 refine ⟨b, off, iv, vv, bv, ev, rfl, hb, hf, ⟨?_, ?_, ?_, ?_, ?_, ?_, ?_, ?_, ?_, ?_, ?_⟩, k1, k2, k3, k4⟩
 ·have := hc (i * 11 + 0) _ ((hj 0 (by omega)).trans rfl); simpa using this
 ·exact hc (i * 11 + 1) _ ((hj 1 (by omega)).trans rfl)
 ·exact hc (i * 11 + 2) _ ((hj 2 (by omega)).trans rfl)
 ·exact hc (i * 11 + 3) _ ((hj 3 (by omega)).trans rfl)
 ·exact hc (i * 11 + 4) _ ((hj 4 (by omega)).trans rfl)
 ·exact hc (i * 11 + 5) _ ((hj 5 (by omega)).trans rfl)
 ·exact hc (i * 11 + 6) _ ((hj 6 (by omega)).trans rfl)
 ·exact hc (i * 11 + 7) _ ((hj 7 (by omega)).trans rfl)
 ·exact hc (i * 11 + 8) _ ((hj 8 (by omega)).trans rfl)
 ·exact hc (i * 11 + 9) _ ((hj 9 (by omega)).trans rfl)
 exact hc (i * 11 + 10) _ ((hj 10 (by omega)).trans rfl)
theorem n5.nil (w : World) (φ : Nat -> Prop) : n5 w φ (.slice none 0 0) [] := ⟨[], C4.nil _ _ _, rfl⟩
theorem w6.nil (w : World) (φ : Nat -> Prop) : w6 w φ (.slice none 0 0) [] := ⟨[], C4.nil _ _ _, rfl⟩
end
end Go.Proofs.YtompcdbfongedaaGreatDoor

namespace Go.Proofs.YtompcdbfongedaaGreatDoor
def s7 (k : Int) : Int := if k = 1 \/ k = 2 then 0 else if k = 3 then 1 else if 4 <= k /\ k <= 10 then 2 else if k = 11 then 3 else -1
def A8 (nv na : Nat) (k : Int) : Int := if k = 1 then 256 else if k = 2 then nv else if k = 3 then na else 1
def J9 (e : b9) : Bool := decide (e.kind = 1) || decide (e.kind = 2)
def D2 (nv na : Nat) (e : b9) : Bool := decide ((e.kids.length : Int) = s7 e.kind) && decide (0 <= e.value) && decide (e.value < A8 nv na e.kind)
def Y3 (e : b9) : Bool := decide (e.kind ≠ 3) || (match e.kids with | k :: _ => J9 k | [] => false)
def m9 (nv na : Nat) : Nat -> b9 -> Bool
 | 0, _ => false
 | d + 1, e => D2 nv na e && e.kids.all (m9 nv na d) && Y3 e
def ac2 : Nat -> b9 -> Nat
 | 0, _ => 1
 | d + 1, e => 1 + (e.kids.map (ac2 d)).sum
def n7 (nv na : Nat) (e : b9) : Bool := m9 nv na 5 e && decide (1 + O2 e <= 15)
theorem U5 (e : b9) : O2 e = r6 e.kids := by cases e; rfl
theorem aS7 (nv na : Nat) : ∀ (d : Nat) (e : b9), m9 nv na d e = true -> ac2 d e = 1 + O2 e := by
 intro d
 induction d with
 | zero => intro e h; simp [m9] at h
 | succ d ih =>
  intro e h
  simp only [m9, bO8, bQ0] at h
  rw [ac2, U5]
  have key : ∀ ks : List b9, (∀ e ∈ ks, m9 nv na d e = true) -> (ks.map (ac2 d)).sum = r6 ks := by
   intro ks
   induction ks with
   | nil => intro _; rfl
   | cons a r ihr => intro hk; rw [bS0, List.sum_cons, r6, ihr fun e he => hk e (bR1 _ he), ih a (hk a bQ4)]
  rw [key _ h.1.2]
theorem aW2 (nv na : Nat) (e : b9) : n7 nv na e = (m9 nv na 5 e && decide (ac2 5 e <= 15)) := by
 unfold n7
 cases h : m9 nv na 5 e
 ·rfl
 rw [aS7 nv na 5 e h]
def A0 (nv na : Nat) (d c : Nat) (e : b9) : Bool := m9 nv na d e && decide (c + 1 + O2 e <= 15)
def y8 (nv na : Nat) (d c : Nat) (ks : List b9) (k : Nat) : Bool := (ks.take k).all (m9 nv na d) && decide (c + r6 (ks.take k) <= 15)
theorem aE2 {ks : List b9} {k : Nat} (h : k < ks.length) : r6 (ks.take (k + 1)) = r6 (ks.take k) + (1 + O2 ks[k]) := by
 rw [D0 _ _ h, V7]
 simp [r6]
theorem aI0 (ks : List b9) (k : Nat) : r6 (ks.take k) <= r6 ks := by
 have := V7 (ks.take k) (ks.drop k)
 rw [List.take_append_drop] at this
 omega
theorem T4 (nv na : Nat) {d c : Nat} {ks : List b9} {k : Nat} (h : k < ks.length) : y8 nv na d c ks (k + 1) = (y8 nv na d c ks k && A0 nv na d (c + r6 (ks.take k)) ks[k]) := by
 unfold y8 A0
 rw [aE2 h, D0 _ _ h, List.all_append]
 simp only [List.all_cons, List.all_nil, Bool.and_true]
 rw [bR9]
 simp only [bO8, decide_eq_true_eq]
 constructor
 ·rintro ⟨⟨h1, h2⟩, h3⟩; exact ⟨⟨h1, by omega⟩, h2, by omega⟩
 rintro ⟨⟨h1, _⟩, h3, h4⟩; exact ⟨⟨h1, h3⟩, by omega⟩
theorem aI7 (nv na : Nat) {d c : Nat} {ks : List b9} {k : Nat} (h : k < ks.length) (hs : A0 nv na d (c + r6 (ks.take k)) ks[k] = false) : (ks.all (m9 nv na d) && decide (c + r6 ks <= 15)) = false := by
 rw [Bool.eq_false_iff]
 intro ht
 simp only [bO8, decide_eq_true_eq, bQ0] at ht
 have h1 := ht.1 _ (bP5 h)
 have h2 := aI0 ks (k + 1)
 rw [aE2 h] at h2
 unfold A0 at hs
 rw [h1] at hs
 simp at hs
 omega
def noneB (e : b9) : Bool := decide (e.kind = 0) && decide (e.value = 0) && decide (e.kids.length = 0)
def p8 (s : b7) : Bool :=
 if (s.kind = 3 \/ s.kind = 4) then
  decide (s.target = 0) && (if s.kind = 4 then decide (s.els.length = 0) && decide (1 <= s.count) && decide (s.count <= 3) && noneB s.index && noneB s.value
   else decide (s.count = 0) && noneB s.index)
 else decide (s.body.length = 0) && decide (s.els.length = 0) && decide (s.count = 0) && (decide (s.kind = 2) || noneB s.index)
def m8 (nv na : Nat) : Nat -> b7 -> Bool
  | 0, _ => false
  | d + 1, s => p8 s &&
    (if s.kind = 1 \/ s.kind = 5 then decide (0 <= s.target) && decide (s.target < nv) && n7 nv na s.value
     else if s.kind = 2 then decide (0 <= s.target) && decide (s.target < na) && n7 nv na s.index && J9 s.index && n7 nv na s.value
     else if s.kind = 3 then n7 nv na s.value && s.body.all (m8 nv na d) && s.els.all (m8 nv na d)
     else if s.kind = 4 then s.body.all (m8 nv na d)
     else false)
def ai9 (nv na : Nat) (d : Nat) (ss : List b7) : Bool := ss.all (m8 nv na d)
mutual
def nS : b7 -> Nat
 | ⟨_, _, _, _, _, b, e⟩ => 1 + T6 b + T6 e
def T6 : List b7 -> Nat
 | [] => 0
 | s :: r => nS s + T6 r
end
def A7 (p : o6) : Bool := F7 p.vars p.arrays && ai9 p.vars.length p.arrays.length 5 p.body && decide (T6 p.body <= 60)
end Go.Proofs.YtompcdbfongedaaGreatDoor

namespace Go.Proofs.YtompcdbfongedaaGreatDoor
open Go Go.RowKit
theorem R7 (l : Int) (w : World) : Calls Tryz.prog 57 #[.int .i64 l] w fun e w' => e = .returned (.bool (w9 l)) /\ w = w' := by
 go_enter Tryz.func57, Tryz.ntmps57
 go_wp2
 all_goals go_ret
 all_goals exact ⟨m7 (by simp [w9]; try omega), rfl⟩
theorem aI3 (v1 v2 v3 : Value) (vars arrays : List Int) (w : World) (h1 : W7 w v1 vars.length 1 (ints vars)) (h2 : W7 w v2 arrays.length 1 (ints arrays)) :
  Calls Tryz.prog 35 #[.agg #[v1, v2, v3]] w fun e w' => e = .returned (.bool (F7 vars arrays)) /\ Below w.heap.size w w' := by
 have B0 : Below w.heap.size w (w.alloc (.cells #[v1, v2, v3] 25)) := by go_grown
 obtain ⟨a1, c1, rfl, -, hm1, -, hc1⟩ := (h1.below B0).open1
 obtain ⟨a2, c2, rfl, -, hm2, -, hc2⟩ := (h2.below B0).open1
 have HT : Hid (F7 vars arrays = (vars.all w9 && arrays.all w9 && decide (1 <= vars.length) && decide (vars.length <= 12) && decide (arrays.length <= 2))) := rfl
 clear h1 h2
 go_enter Tryz.func35, Tryz.ntmps35
 go_wp2_with fail
 go_loop [3] (fun i => ∃ k : Nat, k <= vars.length /\ i = .int .i64 k /\ (vars.take k).all w9 = true) (fun i => vars.length - (intOf i).toNat)
 case atStart => exact ⟨0, bR3 _, rfl, rfl⟩
 case round =>
  obtain ⟨k, hk, rfl, ha⟩ := hrel
  have HA := show Hid _ from ha
  clear ha
  by_cases hlt : k < vars.length
  ·obtain ⟨b1, o1, rfl, hb1, hx⟩ := hc1 k hlt
   rw [Y5 _ _ hlt] at hx
   have HS := show Hid _ from X4 w9 vars k hlt
   clear hc1 hc2
   cases hl : w9 vars[k]
   all_goals
    have HL := show Hid _ from hl
    clear hl
    go_wp2_with fail
    refine (R7 _ _).mono ?_
    rintro e w1 ⟨rfl, rfl⟩
    rw [HL.out]
    go_wp2_with fail
   ·go_ret
    exact ⟨m7 (by rw [HT.out, at3 hlt HL.out]; rfl), B0⟩
   go_round
   case rel => exact ⟨k + 1, by omega, by go_num, by rw [HS.out, HA.out, HL.out]; rfl⟩
   case measure => simp [intOf]; omega
  have HA' := show Hid (vars.all w9 = true) from by have := HA.out; rwa [bQ3 (by omega)] at this
  clear HA hc1
  go_wp2_with fail
  go_loop [4] (fun i => ∃ k : Nat, k <= arrays.length /\ i = .int .i64 k /\ (arrays.take k).all w9 = true) (fun i => arrays.length - (intOf i).toNat)
  case atStart => exact ⟨0, bR3 _, rfl, rfl⟩
  case round =>
   obtain ⟨j, hj, rfl, ha⟩ := hrel
   have HB := show Hid _ from ha
   clear ha
   by_cases hlj : j < arrays.length
   ·obtain ⟨b1, o1, rfl, hb1, hx⟩ := hc2 j hlj
    rw [Y5 _ _ hlj] at hx
    have HS := show Hid _ from X4 w9 arrays j hlj
    clear hc2
    cases hl : w9 arrays[j]
    all_goals
     have HL := show Hid _ from hl
     clear hl
     go_wp2_with fail
     refine (R7 _ _).mono ?_
     rintro e w1 ⟨rfl, rfl⟩
     rw [HL.out]
     go_wp2_with fail
    ·go_ret
     exact ⟨m7 (by rw [HT.out, at3 hlj HL.out]; simp), B0⟩
    go_round
    case rel => exact ⟨j + 1, by omega, by go_num, by rw [HS.out, HB.out, HL.out]; rfl⟩
    case measure => simp [intOf]; omega
   have HB' := show Hid (arrays.all w9 = true) from by have := HB.out; rwa [bQ3 (by omega)] at this
   clear HB hc2
   go_wp2_with fail
   all_goals go_ret
   all_goals refine ⟨m7 ?_, B0⟩
   all_goals rw [HT.out, HA'.out, HB'.out]
   all_goals rw [bR9]
   all_goals simp
   all_goals omega
theorem aE3 (ks : List b9) (k : Nat) : r6 ks = r6 (ks.take k) + r6 (ks.drop k) := by
 have := V7 (ks.take k) (ks.drop k)
 rwa [List.take_append_drop] at this
theorem P4 {ks : List b9} {k : Nat} (h : k < ks.length) : r6 (ks.take (k + 1)) = r6 (ks.take k) + (1 + O2 ks[k]) := by
 rw [A1 _ _ h, V7]
 simp [r6]
theorem J8 {nv na : Nat} {e : b9} (h : D2 nv na e = true) : (e.kids.length : Int) = s7 e.kind /\ 0 <= e.value /\ e.value < A8 nv na e.kind := by
 unfold D2 at h; simp at h; exact ⟨h.1.1, h.1.2, h.2⟩
theorem aE9 {e : b9} (h3 : e.kind = 3) (hl : 0 < e.kids.length) : Y3 e = (decide (e.kids[0].kind = 1) || decide (e.kids[0].kind = 2)) := by
 rcases e with ⟨k, n, ks⟩
 cases ks with
 | nil => simp [b9.kids] at hl
 | cons a r =>
  have h3' : k = 3 := h3
  subst h3'
  simp only [Y3, b9.kids, List.getElem_cons_zero, J9]
  rw [decide_eq_false (by simp [b9.kind])]
  rfl
theorem K0 {nv na d : Nat} {e : b9} (h : m9 nv na (d + 1) e = true) : e.kids.length <= 3 /\ ∀ x ∈ e.kids, m9 nv na d x = true := by
 simp only [m9, D2, bO8, decide_eq_true_eq, bQ0] at h
 refine ⟨?_, h.1.2⟩
 have h1 := h.1.1.1.1
 have : s7 e.kind <= 3 := by unfold s7; (repeat' split) <;> omega
 omega
theorem aV3 {ks : List b9} {B : Nat} (h : ∀ x ∈ ks, 1 + O2 x <= B) : r6 ks <= ks.length * B := by
 induction ks with
 | nil => simp [r6]
 | cons a r ih =>
  have h1 := h a bQ4
  have h2 := ih fun x hx => h x (bR1 _ hx)
  simp only [r6, bO9, bS4]; omega
theorem be2 (nv na : Nat) : ∀ (d : Nat) (e : b9), m9 nv na d e = true -> 1 + O2 e <= 4 ^ d := by
 intro d
 induction d with
 | zero => intro e h; simp [m9] at h
 | succ d ih =>
  intro e h
  obtain ⟨h1, h2⟩ := K0 h
  have h3 := aV3 (ks := e.kids) fun x hx => ih x (h2 x hx)
  have h4 : e.kids.length * 4 ^ d <= 3 * 4 ^ d := bT1 _ h1
  have h5 : 0 < 4 ^ d := Nat.pos_of_ne_zero (by simp)
  rw [U5, Nat.pow_succ]
  omega
def bO3 (w : World) : Prop := Lib.TabIs Tryz.prog w "internal/strconv.uint64pow10" .u64 Lib.pow10Tab
def bK1 (w : World) : Prop := (∃ te pe, w.var? Tryz.prog "strconv.ErrSyntax" = some #[.iface te pe]) /\ (∃ te pe, w.var? Tryz.prog "strconv.ErrRange" = some #[.iface te pe])
def bO2 (w : World) : Prop := bO3 w /\ bK1 w
def bm6 (ψ : Nat -> Prop) (w0 : World) : Prop := ∀ w', z6 ψ w0 w' -> bO2 w'
section
mutual
def E8 (w : World) : b9 -> (Nat -> Prop) -> List Value -> Prop
 | ⟨k, n, ks⟩, S, cs => ∃ (v : Value) (xs : List Value) (S' : Nat -> Prop), cs = [.int .i64 k, .int .i64 n, v] /\ w.ownsRow 0 67 3 v ks.length xs /\ (∀ g, v.ownBlock = some g -> S g /\ ¬ S' g) /\ (∀ b, S' b -> S b) /\ s4 w ks S' xs
def s4 (w : World) : List b9 -> (Nat -> Prop) -> List Value -> Prop
 | [], _, xs => xs = []
 | e :: r, S, xs => ∃ (c ys : List Value) (S1 S2 : Nat -> Prop), xs = c ++ ys /\ (∀ b, S1 b -> S b /\ ¬ S2 b) /\ (∀ b, S2 b -> S b) /\ E8 w e S1 c /\ s4 w r S2 ys
end
def C0 (w : World) (v : Value) (ks : List b9) (S : Nat -> Prop) : Prop :=
 ∃ (xs : List Value) (S' : Nat -> Prop), w.ownsRow 0 67 3 v ks.length xs /\ (∀ g, v.ownBlock = some g -> S g /\ ¬ S' g) /\ (∀ b, S' b -> S b) /\ s4 w ks S' xs
mutual
def F9 (w : World) : b7 -> (Nat -> Prop) -> List Value -> Prop
 | ⟨k, t, i, v, c, b, e⟩, S, cs => ∃ (iv vv bv ev : Value) (xb xe : List Value) (Si Sv Sb Se Sb' Se' : Nat -> Prop), cs = [.int .i64 k, .int .i64 t, .int .i64 i.kind, .int .i64 i.value, iv, .int .i64 v.kind, .int .i64 v.value, vv, .int .i64 c, bv, ev] /\
   ((∀ b, Si b -> S b /\ ¬ Sv b /\ ¬ Sb b /\ ¬ Se b) /\ (∀ b, Sv b -> S b /\ ¬ Sb b /\ ¬ Se b) /\ (∀ b, Sb b -> S b /\ ¬ Se b) /\ (∀ b, Se b -> S b)) /\ C0 w iv i.kids Si /\ C0 w vv v.kids Sv /\
   (w.ownsRow 0 69 11 bv b.length xb /\ (∀ g, bv.ownBlock = some g -> Sb g /\ ¬ Sb' g) /\ (∀ b, Sb' b -> Sb b) /\ r9 w b Sb' xb) /\
   (w.ownsRow 0 69 11 ev e.length xe /\ (∀ g, ev.ownBlock = some g -> Se g /\ ¬ Se' g) /\ (∀ b, Se' b -> Se b) /\ r9 w e Se' xe)
def r9 (w : World) : List b7 -> (Nat -> Prop) -> List Value -> Prop
 | [], _, xs => xs = []
 | s :: r, S, xs => ∃ (c ys : List Value) (S1 S2 : Nat -> Prop), xs = c ++ ys /\ (∀ b, S1 b -> S b /\ ¬ S2 b) /\ (∀ b, S2 b -> S b) /\ F9 w s S1 c /\ r9 w r S2 ys
end
def A6 (w : World) (v : Value) (ss : List b7) (S : Nat -> Prop) : Prop :=
 ∃ (xs : List Value) (S' : Nat -> Prop), w.ownsRow 0 69 11 v ss.length xs /\ (∀ g, v.ownBlock = some g -> S g /\ ¬ S' g) /\ (∀ b, S' b -> S b) /\ r9 w ss S' xs
def ae4 (w : World) (v : Value) (p : o6) (S : Nat -> Prop) : Prop :=
 ∃ (v1 v2 v3 : Value) (S3 : Nat -> Prop), v = .agg #[v1, v2, v3] /\ w.ownsRow 0 3 1 v1 p.vars.length (ints p.vars) /\ w.ownsRow 0 3 1 v2 p.arrays.length (ints p.arrays) /\ A6 w v3 p.body S3 /\
  (∀ g, v1.ownBlock = some g -> S g /\ ¬ S3 g /\ v2.ownBlock ≠ some g) /\ (∀ g, v2.ownBlock = some g -> S g /\ ¬ S3 g) /\ (∀ b, S3 b -> S b)
variable {w w' : World} {S S' φ : Nat -> Prop}
theorem D8 {e : TypeId} {sz : Nat} {v : Value} {n : Nat} {xs : List Value} (h : w.ownsRow 0 e sz v n xs) (hs : ∀ g, v.ownBlock = some g -> w'.heap[g]? = w.heap[g]?) : w'.ownsRow 0 e sz v n xs :=
 (U3.same (U3.mk' h) hs).1
mutual
theorem E8.same : ∀ (e : b9) (S : Nat -> Prop) (cs : List Value), E8 w e S cs -> (∀ b, S b -> b < w.heap.size -> w'.heap[b]? = w.heap[b]?) -> E8 w' e S cs
 | ⟨_, _, ks⟩, S, _, ⟨v, xs, S', h1, h2, h3, h4, h5⟩, hs => ⟨v, xs, S', h1, D8 h2 fun g hg => hs g (h3 g hg).1 (World.ownsRow.lt h2 g hg).2, h3, h4, s4.same ks S' xs h5 fun b hb => hs b (h4 b hb)⟩
theorem s4.same : ∀ (ks : List b9) (S : Nat -> Prop) (xs : List Value), s4 w ks S xs -> (∀ b, S b -> b < w.heap.size -> w'.heap[b]? = w.heap[b]?) -> s4 w' ks S xs
 | [], _, _, h, _ => h
 | e :: r, S, _, ⟨c, ys, S1, S2, h1, h2, h3, h4, h5⟩, hs => ⟨c, ys, S1, S2, h1, h2, h3, E8.same e S1 c h4 fun b hb => hs b (h2 b hb).1, s4.same r S2 ys h5 fun b hb => hs b (h3 b hb)⟩
end
theorem C0.same {v : Value} {ks : List b9} (h : C0 w v ks S) (hs : ∀ b, S b -> b < w.heap.size -> w'.heap[b]? = w.heap[b]?) : C0 w' v ks S := by
 obtain ⟨xs, S', h2, h3, h4, h5⟩ := h
 exact ⟨xs, S', D8 h2 fun g hg => hs g (h3 g hg).1 (World.ownsRow.lt h2 g hg).2, h3, h4, s4.same ks S' xs h5 fun b hb => hs b (h4 b hb)⟩
mutual
theorem F9.same : ∀ (s : b7) (S : Nat -> Prop) (cs : List Value), F9 w s S cs -> (∀ b, S b -> b < w.heap.size -> w'.heap[b]? = w.heap[b]?) -> F9 w' s S cs
 | ⟨_, _, _, _, _, b, e⟩, S, _, ⟨iv, vv, bv, ev, xb, xe, Si, Sv, Sb, Se, Sb', Se', h1, ⟨d1, d2, d3, d4⟩, h2, h3, ⟨b1, b2, b3, b4⟩, ⟨e1, e2, e3, e4⟩⟩, hs =>
  ⟨iv, vv, bv, ev, xb, xe, Si, Sv, Sb, Se, Sb', Se', h1, ⟨d1, d2, d3, d4⟩, h2.same fun b hb => hs b (d1 b hb).1, h3.same fun b hb => hs b (d2 b hb).1,
   ⟨D8 b1 fun g hg => hs g (d3 g (b2 g hg).1).1 (World.ownsRow.lt b1 g hg).2, b2, b3, r9.same b Sb' xb b4 fun x hx => hs x (d3 x (b3 x hx)).1⟩,
   ⟨D8 e1 fun g hg => hs g (d4 g (e2 g hg).1) (World.ownsRow.lt e1 g hg).2, e2, e3, r9.same e Se' xe e4 fun x hx => hs x (d4 x (e3 x hx))⟩⟩
theorem r9.same : ∀ (ss : List b7) (S : Nat -> Prop) (xs : List Value), r9 w ss S xs -> (∀ b, S b -> b < w.heap.size -> w'.heap[b]? = w.heap[b]?) -> r9 w' ss S xs
 | [], _, _, h, _ => h
 | s :: r, S, _, ⟨c, ys, S1, S2, h1, h2, h3, h4, h5⟩, hs => ⟨c, ys, S1, S2, h1, h2, h3, F9.same s S1 c h4 fun b hb => hs b (h2 b hb).1, r9.same r S2 ys h5 fun b hb => hs b (h3 b hb)⟩
end
theorem A6.same {v : Value} {ss : List b7} (h : A6 w v ss S) (hs : ∀ b, S b -> b < w.heap.size -> w'.heap[b]? = w.heap[b]?) : A6 w' v ss S := by
 obtain ⟨xs, S', h2, h3, h4, h5⟩ := h
 exact ⟨xs, S', D8 h2 fun g hg => hs g (h3 g hg).1 (World.ownsRow.lt h2 g hg).2, h3, h4, r9.same ss S' xs h5 fun b hb => hs b (h4 b hb)⟩
theorem ae4.same {v : Value} {p : o6} (h : ae4 w v p S) (hs : ∀ b, S b -> b < w.heap.size -> w'.heap[b]? = w.heap[b]?) : ae4 w' v p S := by
 obtain ⟨v1, v2, v3, S3, rfl, h1, h2, h3, d1, d2, d3⟩ := h
 exact ⟨v1, v2, v3, S3, rfl, D8 h1 fun g hg => hs g (d1 g hg).1 (World.ownsRow.lt h1 g hg).2, D8 h2 fun g hg => hs g (d2 g hg).1 (World.ownsRow.lt h2 g hg).2, h3.same fun b hb => hs b (d3 b hb), d1, d2, d3⟩
theorem C0.mono {v : Value} {ks : List b9} (h : C0 w v ks S) (hs : ∀ b, S b -> S' b) : C0 w v ks S' := by
 obtain ⟨xs, T, h2, h3, h4, h5⟩ := h
 exact ⟨xs, T, h2, fun g hg => ⟨hs g (h3 g hg).1, (h3 g hg).2⟩, fun b hb => hs b (h4 b hb), h5⟩
theorem A6.mono {v : Value} {ss : List b7} (h : A6 w v ss S) (hs : ∀ b, S b -> S' b) : A6 w v ss S' := by
 obtain ⟨xs, T, h2, h3, h4, h5⟩ := h
 exact ⟨xs, T, h2, fun g hg => ⟨hs g (h3 g hg).1, (h3 g hg).2⟩, fun b hb => hs b (h4 b hb), h5⟩
theorem ae4.mono {v : Value} {p : o6} (h : ae4 w v p S) (hs : ∀ b, S b -> S' b) : ae4 w v p S' := by
 obtain ⟨v1, v2, v3, S3, rfl, h1, h2, h3, d1, d2, d3⟩ := h
 exact ⟨v1, v2, v3, S3, rfl, h1, h2, h3, fun g hg => ⟨hs g (d1 g hg).1, (d1 g hg).2⟩, fun g hg => ⟨hs g (d2 g hg).1, (d2 g hg).2⟩, fun b hb => hs b (d3 b hb)⟩
mutual
theorem E8.read : ∀ (e : b9) (S : Nat -> Prop) (cs : List Value), E8 w e S cs -> (∀ b, S b -> φ b) -> P0 w φ e cs
 | ⟨_, _, ks⟩, S, _, ⟨v, xs, S', h1, h2, h3, h4, h5⟩, hs => ⟨v, xs, h1, D9 h2 fun g hg => hs g (h3 g hg).1, s4.read ks S' xs h5 fun b hb => hs b (h4 b hb)⟩
theorem s4.read : ∀ (ks : List b9) (S : Nat -> Prop) (xs : List Value), s4 w ks S xs -> (∀ b, S b -> φ b) -> A5 w φ ks xs
 | [], _, _, h, _ => h
 | e :: r, S, _, ⟨c, ys, S1, S2, h1, h2, h3, h4, h5⟩, hs => ⟨c, ys, h1, E8.read e S1 c h4 fun b hb => hs b (h2 b hb).1, s4.read r S2 ys h5 fun b hb => hs b (h3 b hb)⟩
end
theorem C0.read {v : Value} {ks : List b9} (h : C0 w v ks S) (hs : ∀ b, S b -> φ b) : n5 w φ v ks := by
 obtain ⟨xs, T, h2, h3, h4, h5⟩ := h
 exact ⟨xs, D9 h2 fun g hg => hs g (h3 g hg).1, s4.read ks T xs h5 fun b hb => hs b (h4 b hb)⟩
mutual
theorem F9.read : ∀ (s : b7) (S : Nat -> Prop) (cs : List Value), F9 w s S cs -> (∀ b, S b -> φ b) -> O0 w φ s cs
 | ⟨_, _, _, _, _, b, e⟩, S, _, ⟨iv, vv, bv, ev, xb, xe, Si, Sv, Sb, Se, Sb', Se', h1, ⟨d1, d2, d3, d4⟩, h2, h3, ⟨b1, b2, b3, b4⟩, ⟨e1, e2, e3, e4⟩⟩, hs =>
  ⟨iv, vv, bv, ev, xb, xe, h1, h2.read fun b hb => hs b (d1 b hb).1, h3.read fun b hb => hs b (d2 b hb).1,
   D9 b1 fun g hg => hs g (d3 g (b2 g hg).1).1, r9.read b Sb' xb b4 fun x hx => hs x (d3 x (b3 x hx)).1,
   D9 e1 fun g hg => hs g (d4 g (e2 g hg).1), r9.read e Se' xe e4 fun x hx => hs x (d4 x (e3 x hx))⟩
theorem r9.read : ∀ (ss : List b7) (S : Nat -> Prop) (xs : List Value), r9 w ss S xs -> (∀ b, S b -> φ b) -> z8 w φ ss xs
 | [], _, _, h, _ => h
 | s :: r, S, _, ⟨c, ys, S1, S2, h1, h2, h3, h4, h5⟩, hs => ⟨c, ys, h1, F9.read s S1 c h4 fun b hb => hs b (h2 b hb).1, r9.read r S2 ys h5 fun b hb => hs b (h3 b hb)⟩
end
theorem A6.read {v : Value} {ss : List b7} (h : A6 w v ss S) (hs : ∀ b, S b -> φ b) : w6 w φ v ss := by
 obtain ⟨xs, T, h2, h3, h4, h5⟩ := h
 exact ⟨xs, D9 h2 fun g hg => hs g (h3 g hg).1, r9.read ss T xs h5 fun b hb => hs b (h4 b hb)⟩
theorem ae4.read {v : Value} {p : o6} (h : ae4 w v p S) (hs : ∀ b, S b -> φ b) : aG5 w φ v p := by
 obtain ⟨v1, v2, v3, S3, rfl, h1, h2, h3, d1, d2, d3⟩ := h
 exact ⟨v1, v2, v3, rfl, D9 h1 fun g hg => hs g (d1 g hg).1, D9 h2 fun g hg => hs g (d2 g hg).1, h3.read fun b hb => hs b (d3 b hb)⟩
def bJ9 (R : World -> (Nat -> Prop) -> Prop) (S : Nat -> Prop) : World -> (Nat -> Prop) -> Prop := fun w φ => R w S /\ ∀ b, S b -> b < w.heap.size /\ φ b
theorem bJ9.nice {R : World -> (Nat -> Prop) -> Prop} (S : Nat -> Prop) (hR : ∀ w w' : World, R w S -> (∀ b, S b -> b < w.heap.size -> w'.heap[b]? = w.heap[b]?) -> R w' S) : aa9 (bJ9 R S) :=
 fun w w' _ _ ha ⟨h1, h2⟩ => ⟨hR w w' h1 fun b hb hlt => (ha.2 b hlt (h2 b hb).2).2, fun b hb => ⟨bS7 (h2 b hb).1 ha.1, (ha.2 b (h2 b hb).1 (h2 b hb).2).1⟩⟩
theorem s4.mono : ∀ {ks : List b9} {S S' : Nat -> Prop} {xs : List Value}, s4 w ks S xs -> (∀ b, S b -> S' b) -> s4 w ks S' xs
 | [], _, _, _, h, _ => h
 | _ :: _, _, _, _, ⟨c, ys, S1, S2, h1, h2, h3, h4, h5⟩, hs => ⟨c, ys, S1, S2, h1, fun b hb => ⟨hs b (h2 b hb).1, (h2 b hb).2⟩, fun b hb => hs b (h3 b hb), h4, h5⟩
theorem r9.mono : ∀ {ks : List b7} {S S' : Nat -> Prop} {xs : List Value}, r9 w ks S xs -> (∀ b, S b -> S' b) -> r9 w ks S' xs
 | [], _, _, _, h, _ => h
 | _ :: _, _, _, _, ⟨c, ys, S1, S2, h1, h2, h3, h4, h5⟩, hs => ⟨c, ys, S1, S2, h1, fun b hb => ⟨hs b (h2 b hb).1, (h2 b hb).2⟩, fun b hb => hs b (h3 b hb), h4, h5⟩
theorem s4.snoc : ∀ {ks : List b9} {S S' T : Nat -> Prop} {xs c : List Value} {e : b9}, s4 w ks S xs -> E8 w e T c -> (∀ b, S b -> S' b /\ ¬ T b) -> (∀ b, T b -> S' b) -> s4 w (ks ++ [e]) S' (xs ++ c)
 | [], S, S', T, xs, c, e, h, k, d, f => by
  rw [show xs = [] from h]
  exact ⟨c, [], T, fun _ => False, by simp, fun b hb => ⟨f b hb, fun h => h⟩, fun b hb => hb.elim, k, rfl⟩
 | a :: r, S, S', T, _, c, e, ⟨x, ys, S1, S2, h1, h2, h3, h4, h5⟩, k, d, f =>
  ⟨x, ys ++ c, S1, fun b => S2 b \/ T b, by rw [h1, bR5], fun b hb => ⟨(d b (h2 b hb).1).1, fun h => h.elim (h2 b hb).2 (d b (h2 b hb).1).2⟩, fun b hb => hb.elim (fun h => (d b (h3 b h)).1) (f b), h4,
   s4.snoc h5 k (fun b hb => ⟨.inl hb, (d b (h3 b hb)).2⟩) fun b hb => .inr hb⟩
theorem r9.snoc : ∀ {ks : List b7} {S S' T : Nat -> Prop} {xs c : List Value} {e : b7}, r9 w ks S xs -> F9 w e T c -> (∀ b, S b -> S' b /\ ¬ T b) -> (∀ b, T b -> S' b) -> r9 w (ks ++ [e]) S' (xs ++ c)
 | [], S, S', T, xs, c, e, h, k, d, f => by
  rw [show xs = [] from h]
  exact ⟨c, [], T, fun _ => False, by simp, fun b hb => ⟨f b hb, fun h => h⟩, fun b hb => hb.elim, k, rfl⟩
 | a :: r, S, S', T, _, c, e, ⟨x, ys, S1, S2, h1, h2, h3, h4, h5⟩, k, d, f =>
  ⟨x, ys ++ c, S1, fun b => S2 b \/ T b, by rw [h1, bR5], fun b hb => ⟨(d b (h2 b hb).1).1, fun h => h.elim (h2 b hb).2 (d b (h2 b hb).1).2⟩, fun b hb => hb.elim (fun h => (d b (h3 b h)).1) (f b), h4,
   r9.snoc h5 k (fun b hb => ⟨.inl hb, (d b (h3 b hb)).2⟩) fun b hb => .inr hb⟩
theorem E8.iff (e : b9) (S : Nat -> Prop) (cs : List Value) : E8 w e S cs ↔ ∃ kv, cs = [.int .i64 e.kind, .int .i64 e.value, kv] /\ C0 w kv e.kids S := by
 cases e with
 | mk k n ks => exact ⟨fun ⟨v, xs, T, h1, h2⟩ => ⟨v, h1, xs, T, h2⟩, fun ⟨v, h1, xs, T, h2⟩ => ⟨v, xs, T, h1, h2⟩⟩
theorem F9.iff (s : b7) (S : Nat -> Prop) (cs : List Value) : F9 w s S cs ↔ ∃ (iv vv bv ev : Value) (Si Sv Sb Se : Nat -> Prop), cs = [.int .i64 s.kind, .int .i64 s.target, .int .i64 s.index.kind, .int .i64 s.index.value, iv, .int .i64 s.value.kind, .int .i64 s.value.value, vv, .int .i64 s.count, bv, ev] /\
  ((∀ b, Si b -> S b /\ ¬ Sv b /\ ¬ Sb b /\ ¬ Se b) /\ (∀ b, Sv b -> S b /\ ¬ Sb b /\ ¬ Se b) /\ (∀ b, Sb b -> S b /\ ¬ Se b) /\ (∀ b, Se b -> S b)) /\ C0 w iv s.index.kids Si /\ C0 w vv s.value.kids Sv /\ A6 w bv s.body Sb /\ A6 w ev s.els Se := by
 cases s with
 | mk k t i v c b e =>
  exact ⟨fun ⟨iv, vv, bv, ev, xb, xe, Si, Sv, Sb, Se, Sb', Se', h1, h2, h3, h4, h5, h6⟩ => ⟨iv, vv, bv, ev, Si, Sv, Sb, Se, h1, h2, h3, h4, ⟨xb, Sb', h5⟩, ⟨xe, Se', h6⟩⟩,
   fun ⟨iv, vv, bv, ev, Si, Sv, Sb, Se, h1, h2, h3, h4, ⟨xb, Sb', h5⟩, ⟨xe, Se', h6⟩⟩ => ⟨iv, vv, bv, ev, xb, xe, Si, Sv, Sb, Se, Sb', Se', h1, h2, h3, h4, h5, h6⟩⟩
end
theorem Q8 (us : List Value) : ∀ (c ys : List Value) (p : Nat), c.length <= p -> setFrom (c ++ ys) p us = c ++ setFrom ys (p - c.length) us := by
 induction us with
 | nil => intro c ys p _; rfl
 | cons u r ih =>
  intro c ys p hp
  simp only [setFrom]
  rw [List.set_append_right _ _ hp, ih _ _ _ (by omega), show p + 1 - c.length = p - c.length + 1 by omega]
theorem S8 (us : List Value) : ∀ (c ys : List Value) (p : Nat), p + us.length <= c.length -> setFrom (c ++ ys) p us = setFrom c p us ++ ys := by
 induction us with
 | nil => intro c ys p _; rfl
 | cons u r ih =>
  intro c ys p hp
  simp only [bO9] at hp
  simp only [setFrom]
  rw [List.set_append_left _ _ (by omega), ih _ _ _ (by simp; omega)]
theorem ag6 {c us : List Value} (h : us.length = c.length) : setFrom c 0 us = us := by
 have h1 := aj7 us c 0 (by omega)
 rw [bS8, bQ3 (by rw [H0]; omega)] at h1
 simpa using h1
theorem E8.len {w : World} {e : b9} {S : Nat -> Prop} {c : List Value} (h : E8 w e S c) : c.length = 3 := by
 obtain ⟨kv, rfl, _⟩ := (E8.iff e S c).1 h; rfl
theorem F9.len {w : World} {s : b7} {S : Nat -> Prop} {c : List Value} (h : F9 w s S c) : c.length = 11 := by
 obtain ⟨_, _, _, _, _, _, _, _, rfl, _⟩ := (F9.iff s S c).1 h; rfl
theorem s4.focus {w : World} : ∀ {ls : List b9} {S : Nat -> Prop} {xs : List Value}, s4 w ls S xs -> ∀ (i : Nat) (hi : i < ls.length), ∃ (c : List Value) (Sc : Nat -> Prop), E8 w ls[i] Sc c /\ (∀ b, Sc b -> S b) /\ (∀ j, j < 3 -> xs[i * 3 + j]? = c[j]?) /\
  ∀ (w' : World) (e' : b9) (c' : List Value), (∀ b, S b -> ¬ Sc b -> b < w.heap.size -> w'.heap[b]? = w.heap[b]?) -> E8 w' e' Sc c' -> s4 w' (ls.set i e') S (setFrom xs (i * 3) c')
 | [], _, _, _, i, hi => by simp at hi
 | e :: r, S, xs, ⟨c, ys, S1, S2, h1, h2, h3, h4, h5⟩, i, hi => by
  have hc := h4.len
  subst h1
  cases i with
  | zero =>
   refine ⟨c, S1, h4, fun b hb => (h2 b hb).1, fun j hj => by rw [bS6 (by omega)]; simp, fun w' e' c' hs hO => ?_⟩
   refine ⟨c', ys, S1, S2, ?_, h2, h3, hO, s4.same r S2 ys h5 fun b hb hlt => hs b (h3 b hb) (fun h => (h2 b h).2 hb) hlt⟩
   rw [Nat.zero_mul, S8 c' c ys 0 (by rw [hO.len]; omega), ag6 (by rw [hO.len, hc])]
  | succ i =>
   obtain ⟨d, Sc, k1, k2, k3, k4⟩ := s4.focus h5 i (by simpa using hi)
   refine ⟨d, Sc, k1, fun b hb => h3 b (k2 b hb), fun j hj => ?_, fun w' e' c' hs hO => ?_⟩
   ·rw [bT2 (by rw [hc, bS4]; omega), <- k3 j hj]
    congr 1
    rw [hc, bS4]; omega
   refine ⟨c, setFrom ys (i * 3) c', S1, S2, ?_, h2, h3, E8.same e S1 c h4 fun b hb hlt => hs b (h2 b hb).1 (fun h => (h2 b hb).2 (k2 b h)) hlt, k4 w' e' c' (fun b hb hn hlt => hs b (h3 b hb) hn hlt) hO⟩
   rw [Q8 c' c ys _ (by rw [hc, bS4]; omega), hc, bS4, Nat.add_sub_cancel]
theorem r9.focus {w : World} : ∀ {ls : List b7} {S : Nat -> Prop} {xs : List Value}, r9 w ls S xs -> ∀ (i : Nat) (hi : i < ls.length), ∃ (c : List Value) (Sc : Nat -> Prop), F9 w ls[i] Sc c /\ (∀ b, Sc b -> S b) /\ (∀ j, j < 11 -> xs[i * 11 + j]? = c[j]?) /\
  ∀ (w' : World) (e' : b7) (c' : List Value), (∀ b, S b -> ¬ Sc b -> b < w.heap.size -> w'.heap[b]? = w.heap[b]?) -> F9 w' e' Sc c' -> r9 w' (ls.set i e') S (setFrom xs (i * 11) c')
 | [], _, _, _, i, hi => by simp at hi
 | e :: r, S, xs, ⟨c, ys, S1, S2, h1, h2, h3, h4, h5⟩, i, hi => by
  have hc := h4.len
  subst h1
  cases i with
  | zero =>
   refine ⟨c, S1, h4, fun b hb => (h2 b hb).1, fun j hj => by rw [bS6 (by omega)]; simp, fun w' e' c' hs hO => ?_⟩
   refine ⟨c', ys, S1, S2, ?_, h2, h3, hO, r9.same r S2 ys h5 fun b hb hlt => hs b (h3 b hb) (fun h => (h2 b h).2 hb) hlt⟩
   rw [Nat.zero_mul, S8 c' c ys 0 (by rw [hO.len]; omega), ag6 (by rw [hO.len, hc])]
  | succ i =>
   obtain ⟨d, Sc, k1, k2, k3, k4⟩ := r9.focus h5 i (by simpa using hi)
   refine ⟨d, Sc, k1, fun b hb => h3 b (k2 b hb), fun j hj => ?_, fun w' e' c' hs hO => ?_⟩
   ·rw [bT2 (by rw [hc, bS4]; omega), <- k3 j hj]
    congr 1
    rw [hc, bS4]; omega
   refine ⟨c, setFrom ys (i * 11) c', S1, S2, ?_, h2, h3, F9.same e S1 c h4 fun b hb hlt => hs b (h2 b hb).1 (fun h => (h2 b hb).2 (k2 b h)) hlt, k4 w' e' c' (fun b hb hn hlt => hs b (h3 b hb) hn hlt) hO⟩
   rw [Q8 c' c ys _ (by rw [hc, bS4]; omega), hc, bS4, Nat.add_sub_cancel]
def mxE (ks : List b9) (k : Int) (i : Nat) : List b9 := (X3 ks k).take i ++ ks.drop i
theorem L3 : ∀ (ks : List b9) (k : Int), (X3 ks k).length = ks.length
 | [], _ => rfl
 | _ :: r, k => by simp [X3, L3 r]
theorem ax5 : ∀ (ks : List b9) (k : Int) (i : Nat) (h : i < ks.length), (X3 ks k)[i]? = some (mkE ks[i] (k + 2 * r6 (ks.take i)))
 | [], _, i, h => by simp at h
 | e :: r, k, 0, _ => by simp [X3, r6]
 | e :: r, k, i + 1, h => by
  simp only [X3, bQ9, List.getElem_cons_succ, List.take_succ_cons, r6]
  rw [ax5 r _ i (by simpa using h)]
  congr 2
  simp only [Int.natCast_add, Int.natCast_one]
  omega
theorem bq0 (ks : List b9) (k : Int) {i : Nat} (h : i <= ks.length) : (mxE ks k i).length = ks.length := by simp [mxE, L3]; omega
theorem bh2 (ks : List b9) (k : Int) : mxE ks k 0 = ks := by simp [mxE]
theorem bq1 (ks : List b9) (k : Int) : mxE ks k ks.length = X3 ks k := by
 unfold mxE; rw [List.drop_length, List.append_nil, bQ3 (by rw [L3]; exact bP9 _)]
theorem bB1 (ks : List b9) (k : Int) {i : Nat} (h : i < ks.length) : (mxE ks k i)[i]? = some ks[i] := by
 unfold mxE
 rw [bT2 (by rw [List.length_take]; omega), List.length_take, L3, Nat.min_eq_left (by omega), Nat.sub_self, List.getElem?_drop, Nat.add_zero, bO7 h]
theorem bh3 (ks : List b9) (k : Int) {i : Nat} (h : i < ks.length) : mxE ks k (i + 1) = (mxE ks k i).set i (mkE ks[i] (k + 2 * r6 (ks.take i))) := by
 have hl : ((X3 ks k).take i).length = i := by rw [List.length_take, L3]; omega
 have hg := ax5 ks k i h
 have hi : i < (X3 ks k).length := by rw [L3]; exact h
 rw [bO7 hi] at hg
 have hg' := Option.some.inj hg
 unfold mxE
 rw [List.set_append_right _ _ (by omega), hl, Nat.sub_self, List.drop_eq_getElem_cons h, List.set_cons_zero, A1 _ _ hi, hg']
 simp
def bK0 (e : b9) : Prop := ∀ (v : Value) (k : Int) (w : World) (S : Nat -> Prop), C0 w v e.kids S -> 0 <= k -> k + 2 * r6 e.kids <= 9000000000000000000 ->
 Calls Tryz.prog 54 #[v, .int .i64 k] w fun x w' => x = .returned (.int .i64 (k + 2 * r6 e.kids)) /\ C0 w' v (X3 e.kids k) S /\ z6 (fun b => ¬ S b) w w'
theorem ak3 (ks : List b9) (ih : ∀ e ∈ ks, bK0 e) (v : Value) (k0 : Int) (w : World) (S : Nat -> Prop) (h : C0 w v ks S) (hk0 : 0 <= k0) (hkb : k0 + 2 * r6 ks <= 9000000000000000000) :
  Calls Tryz.prog 54 #[v, .int .i64 k0] w fun x w' => x = .returned (.int .i64 (k0 + 2 * r6 ks)) /\ C0 w' v (X3 ks k0) S /\ z6 (fun b => ¬ S b) w w' := by
 obtain ⟨xs, S', ho, hg, hs, hx⟩ := h
 obtain ⟨a, cap, rfl⟩ := ae9 ho
 have hm : ks.length <= 9223372036854775807 := (R0 ho).len
 have HG := show Hid _ from hg
 have HS := show Hid _ from hs
 have HX := show Hid _ from hx
 have HO := show Hid _ from ho
 clear hg hs hx ho
 go_enter Tryz.func54, Tryz.ntmps54
 go_wp2_with fail
 go_loopw [1, 5] (fun q i wr => ∃ (j : Nat) (y : Int) (xs : List Value), j <= ks.length /\ i = .int .i64 j /\ q = .int .i64 y /\ y = k0 + 2 * r6 (ks.take j) /\ wr.ownsRow 0 67 3 (.slice a ks.length cap) ks.length xs /\ s4 wr (mxE ks k0 j) S' xs /\ z6 (fun b => ¬ S b) w wr) (fun _ i _ => ks.length - (intOf i).toNat)
 case atStart => exact ⟨0, k0, xs, bR3 _, rfl, rfl, by simp [r6], HO.out, by rw [bh2]; exact HX.out, z6.refl _ _⟩
 case round =>
  obtain ⟨j, y, xs, hj, rfl, rfl, hy, ho, hx, hkp⟩ := hrel
  have HY := show Hid _ from hy
  have HKP := show Hid _ from hkp
  have HX1 := show Hid _ from hx
  have HO1 := show Hid _ from ho
  clear hy hkp hx ho
  by_cases hlt : j < ks.length
  ·have h1 := P4 hlt
   have h2 := aE3 ks (j + 1)
   have hy0 : 0 <= y := by have := HY.out; omega
   have hy1 : y + 2 + 2 * O2 ks[j] <= 9000000000000000000 := by have := HY.out; omega
   have hlen := bq0 ks k0 hj
   obtain ⟨c, Sc, f1, f2, f3, f4⟩ := HX1.out.focus j (by omega)
   have hge := bB1 ks k0 hlt
   rw [bO7 (by omega)] at hge
   rw [Option.some.inj hge] at f1
   obtain ⟨kv, rfl, hkv⟩ := (E8.iff _ _ _).1 f1
   have F3 := show Hid _ from f3
   have F4 := show Hid _ from f4
   have F2 := show Hid _ from f2
   obtain ⟨g, cap', hv, -, hg2, hg3, -, -, hfr, hcell⟩ := (U3.mk' HO1.out).open (by omega)
   cases hv
   have hxl : xs.length = ks.length * 3 := HO1.out.1
   have e0 := hcell (j * 3) (.int .i64 ks[j].kind) (by simpa using f3 0 (by omega))
   have e1 := hcell (j * 3 + 1) (.int .i64 ks[j].value) ((f3 1 (by omega)).trans rfl)
   have e2 := hcell (j * 3 + 2) kv ((f3 2 (by omega)).trans rfl)
   have hSg : ¬ S' g := (HG.out g rfl).2
   have HSG := show Hid _ from hSg
   have HK := show Hid _ from hkv
   have HXL := show Hid _ from hxl
   have HH := show Hid _ from And.intro h1 h2
   clear hcell f1 f2 f3 f4 hkv hge hlen hSg hxl h1 h2
   go_wp2_with fail
   refine (ih _ (bP5 hlt) kv (y + 1 + 1) _ Sc (C0.same HK.out fun b hb hl => ?_) (by omega) ?_).mono ?_
   ·have hbg : b ≠ g := fun e => HSG.out (by rw [<- e]; exact F2.out b hb)
    rw [Below.heap_setCell _ _ _ _ hbg, Below.heap_setCell _ _ _ _ hbg]
   ·have : r6 ks[j].kids = O2 ks[j] := (by cases ks[j]; rfl)
    omega
   rintro x w2 ⟨rfl, hk2, kp2⟩
   have hkids : r6 ks[j].kids = O2 ks[j] := (by cases ks[j]; rfl)
   rw [hkids]
   have r1 := ((U3.mk' HO1.out).setCell (j := j * 3) (by rw [HXL.out]; omega) (.int .i64 y)).setCell (j := j * 3 + 1) (by rw [List.length_set, HXL.out]; omega) (.int .i64 (y + 1))
   have hxs : (xs.set (j * 3) (.int .i64 y)).set (j * 3 + 1) (.int .i64 (y + 1)) = setFrom xs (j * 3) [.int .i64 y, .int .i64 (y + 1), kv] := by
    simp only [setFrom]
    have h3 : xs[j * 3 + 1 + 1]? = some kv := (F3.out 2 (by omega)).trans rfl
    apply List.ext_getElem?
    intro q
    rw [List.getElem?_set (i := j * 3 + 1 + 1)]
    split
    ·rename_i e
     subst e
     rw [List.getElem?_set_ne (by omega), List.getElem?_set_ne (by omega), h3]
     have := (bP8.1 h3).1
     simp [this]
    rfl
   rw [hxs] at r1
   have hne : ¬ Sc g := fun h => HSG.out (F2.out g h)
   have r2 := D8 (U1 r1.1 (bR3 _)) (w' := w2) fun g' hg' => by
    cases hg'
    exact kp2.block g (by simp; exact hg3) hne
   have hx2 := F4.out w2 (mkE ks[j] y) [.int .i64 y, .int .i64 (y + 1), kv] (fun b hb hn hl => by
    have hbg : b ≠ g := fun e => HSG.out (by rw [<- e]; exact hb)
    rw [kp2.block b (by simp; exact hl) hn, Below.heap_setCell _ _ _ _ hbg, Below.heap_setCell _ _ _ _ hbg]) ((E8.iff _ _ _).2 ⟨kv, by cases ks[j]; rfl, by
     have hy2 : y + 1 + 1 = y + 2 := by omega
     rw [hy2] at hk2
     cases hkj : ks[j] with
     | mk a1 b1 c1 => rw [hkj] at hk2; exact hk2⟩)
   have hmx := bh3 ks k0 hlt
   rw [<- HY.out] at hmx
   rw [<- hmx] at hx2
   have hkept : z6 (fun b => ¬ S b) w w2 := HKP.out.trans (((z6.setCell wr g (j * 3) (.int .i64 y)).trans (z6.setCell _ g (j * 3 + 1) (.int .i64 (y + 1)))).mono (fun b hb e => hb (by rw [e]; exact (HG.out g rfl).1)) |>.trans (kp2.mono fun b hb h => hb (HS.out b (F2.out b h))))
   have HF := show Hid _ from And.intro r2 (And.intro hx2 hkept)
   have hsz0 : (0 : Int) <= O2 ks[j] := by omega
   clear r1 r2 hx2 hkept hmx hxs hkids hk2 kp2
   obtain ⟨z, hz⟩ : ∃ z : Nat, z = O2 ks[j] := ⟨_, rfl⟩
   have HZ := show Hid _ from hz
   rw [<- hz] at hy1 hsz0 ⊢
   clear hz
   go_wp2_with fail
   exact ⟨⟨j + 1, _, _, by omega, by go_num, rfl, by rw [HH.out.1, HY.out, <- HZ.out]; omega, HF.out.1, HF.out.2.1, HF.out.2.2⟩, by simp [intOf]; omega⟩
  have hjn : j = ks.length := by omega
  subst hjn
  go_wp2_with fail
  go_ret
  exact ⟨L7 (by have := HY.out; rw [bQ3 (bP9 _)] at this; exact this), ⟨xs, S', by rw [L3]; exact HO1.out, HG.out, HS.out, by rw [<- bq1]; exact HX1.out⟩, HKP.out⟩
section
variable {φ ψ : Nat -> Prop} {w0 w w' : World} {L : List U2}
theorem s4.at : ∀ {ks : List b9} {S : Nat -> Prop} {xs : List Value}, s4 w ks S xs -> ∀ (i : Nat) (hi : i < ks.length), ∃ kv, xs[i * 3]? = some (.int .i64 ks[i].kind) /\ xs[i * 3 + 1]? = some (.int .i64 ks[i].value) /\ xs[i * 3 + 2]? = some kv /\ C0 w kv ks[i].kids S
 | [], _, _, _, i, hi => by simp at hi
 | e :: r, S, _, ⟨c, ys, S1, S2, h1, h2, h3, h4, h5⟩, i, hi => by
  obtain ⟨kv, rfl, hk⟩ := (E8.iff e S1 c).1 h4
  subst h1
  cases i with
  | zero => exact ⟨kv, rfl, rfl, rfl, hk.mono fun b hb => (h2 b hb).1⟩
  | succ i =>
   obtain ⟨kv', a, b, d, f⟩ := s4.at h5 i (by simpa using hi)
   refine ⟨kv', ?_, ?_, ?_, f.mono h3⟩ <;> (rw [bS4]; simpa [Nat.add_assoc] using by assumption)
theorem C0.open {v : Value} {ks : List b9} {S : Nat -> Prop} (h : C0 w v ks S) : ∃ a cap, v = .slice a ks.length cap /\ ks.length <= cap /\ ks.length <= 9223372036854775807 /\ cap <= 9223372036854775807 /\
  ∀ i (hi : i < ks.length), ∃ b off kv, a = some ⟨b, off, none⟩ /\ b < w.heap.size /\ S b /\ w.cell? ⟨b, off + i * 3, none⟩ = some (.int .i64 ks[i].kind) /\ w.cell? ⟨b, off + i * 3 + 1, none⟩ = some (.int .i64 ks[i].value) /\ w.cell? ⟨b, off + i * 3 + 2, none⟩ = some kv /\ C0 w kv ks[i].kids S := by
 obtain ⟨xs, S', h2, h3, h4, h5⟩ := h
 obtain ⟨hl, a, cap, hv, n1, n2, n3⟩ := D9 (φ := fun g => S g /\ ¬ S' g) h2 h3
 unfold maxLen at n2
 refine ⟨a, cap, hv, n1, by omega, by omega, fun i hi => ?_⟩
 obtain ⟨b, off, he, hb, hf, hc⟩ := n3 (by omega)
 obtain ⟨kv, e0, e1, e2, hk⟩ := h5.at i hi
 exact ⟨b, off, kv, he, hb, hf.1, hc _ _ e0, hc _ _ e1, hc _ _ e2, hk.mono h4⟩
theorem C0.nil (w : World) (S : Nat -> Prop) : C0 w (.slice none 0 0) [] S := ⟨[], fun _ => False, World.ownsRow_nil _ _ _ _, (fun g hg => by cases hg), fun _ h => h.elim, rfl⟩
end
theorem ag7 (ks : List b9) (v : Value) (k0 : Int) (w : World) (S : Nat -> Prop) (h : C0 w v ks S) (hk0 : 0 <= k0) (hkb : k0 + 2 * r6 ks <= 9000000000000000000) :
  Calls Tryz.prog 54 #[v, .int .i64 k0] w fun x w' => x = .returned (.int .i64 (k0 + 2 * r6 ks)) /\ C0 w' v (X3 ks k0) S /\ z6 (fun b => ¬ S b) w w' :=
 ak3 ks (fun e _ => b9.ind (P := bK0) (fun _ _ ks ih v k w S h h0 hb => ak3 ks ih v k w S h h0 hb) e) v k0 w S h hk0 hkb
def bx2 (e : b9) : Prop := ∀ (φ : Nat -> Prop) (v : Value) (k : Int) (w : World), n5 w φ v (X3 e.kids k) -> 0 <= k -> k + 2 * r6 e.kids <= 9000000000000000000 ->
 Calls Tryz.prog 55 #[v, .int .i64 k] w fun x w' => x = .returned (.int .i64 (k + 2 * r6 e.kids)) /\ Below w.heap.size w w'
theorem al1 (ks : List b9) (ih : ∀ e ∈ ks, bx2 e) (φ : Nat -> Prop) (v : Value) (k0 : Int) (w : World) (h : n5 w φ v (X3 ks k0)) (hk0 : 0 <= k0) (hkb : k0 + 2 * r6 ks <= 9000000000000000000) :
  Calls Tryz.prog 55 #[v, .int .i64 k0] w fun x w' => x = .returned (.int .i64 (k0 + 2 * r6 ks)) /\ Below w.heap.size w w' := by
 obtain ⟨a, cap, rfl, -, hn, -, hc⟩ := h.open
 rw [L3] at hn ⊢
 have HC := show Hid _ from hc
 clear hc h
 go_enter Tryz.func55, Tryz.ntmps55
 go_wp2_with fail
 go_loopw [1, 5] (fun q i wr => ∃ (j : Nat) (y : Int), j <= ks.length /\ i = .int .i64 j /\ q = .int .i64 y /\ y = k0 + 2 * r6 (ks.take j) /\ Below w.heap.size w wr) (fun _ i _ => ks.length - (intOf i).toNat)
 case atStart => exact ⟨0, k0, bR3 _, rfl, rfl, by simp [r6], Below.refl _ _⟩
 case round =>
  obtain ⟨j, y, hj, rfl, rfl, hy, hb⟩ := hrel
  have HY := show Hid _ from hy
  have HB := show Hid _ from hb
  clear hy hb
  by_cases hlt : j < ks.length
  ·have h1 := P4 hlt
   have h2 := aE3 ks (j + 1)
   have hy0 : 0 <= y := by have := HY.out; omega
   have hy1 : y + 2 + 2 * O2 ks[j] <= 9000000000000000000 := by have := HY.out; omega
   have hge := ax5 ks k0 j hlt
   rw [<- HY.out, bO7 (by rw [L3]; exact hlt)] at hge
   have hge' := Option.some.inj hge
   obtain ⟨b, off, kv, rfl, hbk, hf, c0, c1, c2, hkv⟩ := HC.out j (by rw [L3]; exact hlt)
   rw [hge'] at c0 c1 hkv
   rw [<- (x7 HB.out).1 _ _ hbk] at c0 c1 c2
   have hkids : r6 ks[j].kids = O2 ks[j] := (by cases ks[j]; rfl)
   have d0 : (mkE ks[j] y).kind = y := by cases ks[j]; rfl
   have d1 : (mkE ks[j] y).value = y + 1 := by cases ks[j]; rfl
   have d2 : (mkE ks[j] y).kids = X3 ks[j].kids (y + 2) := by cases ks[j]; rfl
   rw [d0] at c0
   rw [d1] at c1
   rw [d2] at hkv
   have HK := show Hid (n5 wr φ kv (X3 ks[j].kids (y + 1 + 1))) from by rw [show y + 1 + 1 = y + 2 by omega]; exact n5.nice _ _ _ _ _ _ (G0.below HB.out) hkv
   have HH := show Hid _ from And.intro h1 h2
   have HKS := show Hid _ from hkids
   clear hkv hge hge' d0 d1 d2 h1 h2 hkids
   go_wp2_with fail
   refine (ih _ (bP5 hlt) φ kv (y + 1 + 1) _ HK.out (by omega) (by rw [HKS.out]; omega)).mono ?_
   rintro x w2 ⟨rfl, b2⟩
   rw [HKS.out]
   have B2 := show Hid _ from HB.out.trans (b2.mono HB.out.size)
   obtain ⟨z, hz⟩ : ∃ z : Nat, z = O2 ks[j] := ⟨_, rfl⟩
   have HZ := show Hid _ from hz
   have hsz0 : (0 : Int) <= (z : Int) := by omega
   rw [<- hz] at hy1 ⊢
   clear hz b2
   go_wp2_with fail
   exact ⟨⟨j + 1, _, by omega, by go_num, rfl, by rw [HH.out.1, HY.out, <- HZ.out]; omega, B2.out⟩, by simp [intOf]; omega⟩
  have hjn : j = ks.length := by omega
  subst hjn
  go_wp2_with fail
  go_ret
  exact ⟨L7 (by have := HY.out; rw [bQ3 (bP9 _)] at this; exact this), HB.out⟩
theorem ag8 (ks : List b9) (φ : Nat -> Prop) (v : Value) (k0 : Int) (w : World) (h : n5 w φ v (X3 ks k0)) (hk0 : 0 <= k0) (hkb : k0 + 2 * r6 ks <= 9000000000000000000) :
  Calls Tryz.prog 55 #[v, .int .i64 k0] w fun x w' => x = .returned (.int .i64 (k0 + 2 * r6 ks)) /\ Below w.heap.size w w' :=
 al1 ks (fun e _ => b9.ind (P := bx2) (fun _ _ ks ih φ v k w h h0 hb => al1 ks ih φ v k w h h0 hb) e) φ v k0 w h hk0 hkb
theorem V8 (us : List Value) : ∀ (ys : List Value) (p q : Nat), p + us.length <= ys.length -> (setFrom ys p us)[q]? = if p <= q /\ q < p + us.length then us[q - p]? else ys[q]? := by
 induction us with
 | nil => intro ys p q _; simp only [setFrom, bP2]; split; omega; rfl
 | cons u r ih =>
  intro ys p q h
  simp only [bO9] at h
  simp only [setFrom, bO9]
  rw [ih _ _ _ (by simp; omega)]
  by_cases h1 : q = p
  ·subst h1
   rw [if_neg (by omega), if_pos (by omega), List.getElem?_set_self (by omega), Nat.sub_self]; rfl
  by_cases h2 : p + 1 <= q /\ q < p + 1 + r.length
  ·rw [if_pos h2, if_pos (by omega), show q - p = q - (p + 1) + 1 by omega]; rfl
  rw [if_neg h2, if_neg (by omega), List.getElem?_set_ne (by omega)]
theorem Z3 {xs cs : List Value} {p : Nat} (h : p + cs.length <= xs.length) (hc : ∀ j, j < cs.length -> xs[p + j]? = cs[j]?) : setFrom xs p cs = xs := by
 apply List.ext_getElem?
 intro q
 rw [V8 _ _ _ _ h]
 split
 ·rename_i h1
  rw [<- hc _ (by omega)]; congr 1; omega
 rfl
theorem ac4 {xs cs : List Value} {p k : Nat} (u : Value) (h : p + cs.length <= xs.length) (hk : k < cs.length) : (setFrom xs p cs).set (p + k) u = setFrom xs p (cs.set k u) := by
 apply List.ext_getElem?
 intro q
 rw [V8 _ _ _ _ (by simpa using h), List.getElem?_set, V8 _ _ _ _ h, H0, List.length_set]
 by_cases h1 : p + k = q
 ·subst h1
  rw [if_pos rfl, if_pos (by omega), if_pos (by omega), Nat.add_sub_cancel_left, List.getElem?_set_self hk]
 rw [if_neg h1]
 split
 ·rw [List.getElem?_set_ne (by omega)]
 rfl
def U2.plain : U2 -> Prop
 | .dat _ => False
 | _ => True
theorem U2.holds_plain {w : World} {φ φ' : Nat -> Prop} {r : U2} (hp : r.plain) (h : r.holds w φ) : r.holds w φ' := by
 cases r with
 | dat R => exact hp.elim
 | box b cs => exact h
 | row e sz v n xs => exact h
 | own S R => exact h
theorem B6.adopt {φ ψ : Nat -> Prop} {w0 w : World} {L : List U2} (M : B6 φ ψ w0 w L) (r : U2) (hL : ∀ a ∈ L, a.plain) (hp : r.plain) (h : r.holds w (fun _ => True)) (hd : ∀ a ∈ L, ∀ g, r.blk g -> ¬ a.blk g) (hg : ∀ g, r.blk g -> ¬ ψ g) : B6 φ ψ w0 w (L ++ [r]) := by
 have get : ∀ (i : Nat) (x : U2), (L ++ [r])[i]? = some x -> (i < L.length /\ x ∈ L /\ L[i]? = some x) \/ (i = L.length /\ x = r) := by
  intro k z hz
  rcases bR6 k L.length with hk | hk
  ·rw [bS6 hk] at hz; exact .inl ⟨hk, bQ5 hz, hz⟩
  rw [bT2 hk] at hz
  have : k - L.length = 0 := by
   rcases Nat.eq_zero_or_pos (k - L.length) with h | h
   ·exact h
   rw [bS2 (by rw [List.length_singleton]; exact h)] at hz; cases hz
  rw [this] at hz; simp at hz
  exact .inr ⟨by omega, hz.symm⟩
 refine ⟨M.kept, M.fresh, fun x hx => ?_, fun i j x y g hi hj hij hx hy => ?_, fun x g hx hxg => ?_⟩
 ·rcases bR0.1 hx with hx | hx
  ·exact U2.holds_plain (hL x hx) (M.holds x hx)
  rw [List.mem_singleton] at hx; subst hx; exact U2.holds_plain hp h
 ·rcases get i x hi with ⟨hi1, hi2, hi3⟩ | ⟨hi1, rfl⟩ <;> rcases get j y hj with ⟨hj1, hj2, hj3⟩ | ⟨hj1, rfl⟩
  ·exact M.dis i j x y g hi3 hj3 hij hx hy
  ·exact hd x hi2 g hy hx
  ·exact hd y hj2 g hx hy
  omega
 rcases bR0.1 hx with hx | hx
 ·exact M.ge x g hx hxg
 rw [List.mem_singleton] at hx; subst hx; exact .inr (hg g hxg)
def mxS (ks : List b7) (k : Int) (i : Nat) : List b7 := (Y4 ks k).take i ++ ks.drop i
theorem L2 : ∀ (ks : List b7) (k : Int), (Y4 ks k).length = ks.length
 | [], _ => rfl
 | _ :: r, k => by simp [Y4, L2 r]
theorem ax4 (a b : List b7) : W4 (a ++ b) = W4 a + W4 b := by
 induction a with
 | nil => simp [W4]
 | cons x r ih => simp only [List.cons_append, W4, ih]; omega
theorem ax3 : ∀ (ks : List b7) (k : Int) (i : Nat) (h : i < ks.length), (Y4 ks k)[i]? = some (mkS ks[i] (k + W4 (ks.take i)))
 | [], _, i, h => by simp at h
 | e :: r, k, 0, _ => by simp [Y4, W4]
 | e :: r, k, i + 1, h => by
  simp only [Y4, bQ9, List.getElem_cons_succ, List.take_succ_cons, W4]
  rw [ax3 r _ i (by simpa using h)]
  congr 2
  omega
theorem bp8 (ks : List b7) (k : Int) {i : Nat} (h : i <= ks.length) : (mxS ks k i).length = ks.length := by simp [mxS, L2]; omega
theorem bh0 (ks : List b7) (k : Int) : mxS ks k 0 = ks := by simp [mxS]
theorem bp9 (ks : List b7) (k : Int) : mxS ks k ks.length = Y4 ks k := by
 unfold mxS; rw [List.drop_length, List.append_nil, bQ3 (by rw [L2]; exact bP9 _)]
theorem bB0 (ks : List b7) (k : Int) {i : Nat} (h : i < ks.length) : (mxS ks k i)[i]? = some ks[i] := by
 unfold mxS
 rw [bT2 (by rw [List.length_take]; omega), List.length_take, L2, Nat.min_eq_left (by omega), Nat.sub_self, List.getElem?_drop, Nat.add_zero, bO7 h]
theorem bh1 (ks : List b7) (k : Int) {i : Nat} (h : i < ks.length) : mxS ks k (i + 1) = (mxS ks k i).set i (mkS ks[i] (k + W4 (ks.take i))) := by
 have hl : ((Y4 ks k).take i).length = i := by rw [List.length_take, L2]; omega
 have hg := ax3 ks k i h
 have hi : i < (Y4 ks k).length := by rw [L2]; exact h
 rw [bO7 hi] at hg
 have hg' := Option.some.inj hg
 unfold mxS
 rw [List.set_append_right _ _ (by omega), hl, Nat.sub_self, List.drop_eq_getElem_cons h, List.set_cons_zero, A1 _ _ hi, hg']
 simp
mutual
theorem aP9 : ∀ s : b7, 0 <= aQ1 s /\ aQ1 s <= 7 * (1 + szS s)
 | ⟨_, _, i, v, _, b, e⟩ => by
  have h1 := A4 b
  have h2 := A4 e
  simp only [aQ1, szS]
  omega
theorem A4 : ∀ ss : List b7, 0 <= W4 ss /\ W4 ss <= 7 * B7 ss
 | [] => by simp [W4, B7]
 | s :: r => by
  have h1 := aP9 s
  have h2 := A4 r
  simp only [W4, B7]
  omega
end
theorem aF2 {ks : List b7} {k : Nat} (h : k < ks.length) : W4 (ks.take (k + 1)) = W4 (ks.take k) + aQ1 ks[k] := by
 rw [A1 _ _ h, ax4]; simp [W4]
theorem aP8 (ks : List b7) (k : Nat) : W4 ks = W4 (ks.take k) + W4 (ks.drop k) := by
 have := ax4 (ks.take k) (ks.drop k)
 rwa [List.take_append_drop] at this
theorem aQ0 (s : b7) : aQ1 s = 7 + 2 * r6 s.index.kids + 2 * r6 s.value.kids + W4 s.body + W4 s.els := by
 rcases s with ⟨_, _, ⟨_, _, _⟩, ⟨_, _, _⟩, _, _, _⟩; simp only [aQ1, O2]; rfl
theorem a34 (s : b7) (y A B : Int) (hA : A = 2 * r6 s.index.kids) (hB : B = 2 * r6 s.value.kids) :
  mkS s y = ⟨y, y + 1, ⟨y + 1 + 1, y + 1 + 1 + 1, X3 s.index.kids (y + 1 + 1 + 1 + 1)⟩, ⟨y + 1 + 1 + 1 + 1 + A, y + 1 + 1 + 1 + 1 + A + 1, X3 s.value.kids (y + 1 + 1 + 1 + 1 + A + 1 + 1)⟩,
   y + 1 + 1 + 1 + 1 + A + 1 + 1 + B, Y4 s.body (y + 1 + 1 + 1 + 1 + A + 1 + 1 + B + 1), Y4 s.els (y + 1 + 1 + 1 + 1 + A + 1 + 1 + B + 1 + W4 s.body)⟩ := by
 rcases s with ⟨_, _, ⟨_, _, _⟩, ⟨_, _, _⟩, _, _, _⟩
 simp only [b7.index, b7.value, b7.body, b7.els, b9.kids] at hA hB ⊢
 subst hA hB
 simp only [mkS, mkE, O2, b7.mk.injEq, b9.mk.injEq, true_and]
 refine ⟨⟨by omega, by omega, by congr 1; omega⟩, ⟨by omega, by omega, by congr 1; omega⟩, by omega, by congr 1; omega, by congr 1; omega⟩
section
variable {w : World}
mutual
theorem E8.cut : ∀ (e : b9) (S : Nat -> Prop) (cs : List Value), E8 w e S cs -> E8 w e (fun b => S b /\ b < w.heap.size) cs
 | ⟨_, _, ks⟩, _, _, ⟨v, xs, S', h1, h2, h3, h4, h5⟩ => ⟨v, xs, fun b => S' b /\ b < w.heap.size, h1, h2, fun g hg => ⟨⟨(h3 g hg).1, (World.ownsRow.lt h2 g hg).2⟩, fun h => (h3 g hg).2 h.1⟩, fun b hb => ⟨h4 b hb.1, hb.2⟩, s4.cut ks S' xs h5⟩
theorem s4.cut : ∀ (ks : List b9) (S : Nat -> Prop) (xs : List Value), s4 w ks S xs -> s4 w ks (fun b => S b /\ b < w.heap.size) xs
 | [], _, _, h => h
 | e :: r, _, _, ⟨c, ys, S1, S2, h1, h2, h3, h4, h5⟩ => ⟨c, ys, fun b => S1 b /\ b < w.heap.size, fun b => S2 b /\ b < w.heap.size, h1, fun b hb => ⟨⟨(h2 b hb.1).1, hb.2⟩, fun h => (h2 b hb.1).2 h.1⟩, fun b hb => ⟨h3 b hb.1, hb.2⟩, E8.cut e S1 c h4, s4.cut r S2 ys h5⟩
end
theorem C0.cut {v : Value} {ks : List b9} {S : Nat -> Prop} (h : C0 w v ks S) : C0 w v ks (fun b => S b /\ b < w.heap.size) := by
 obtain ⟨xs, S', h2, h3, h4, h5⟩ := h
 exact ⟨xs, fun b => S' b /\ b < w.heap.size, h2, fun g hg => ⟨⟨(h3 g hg).1, (World.ownsRow.lt h2 g hg).2⟩, fun h => (h3 g hg).2 h.1⟩, fun b hb => ⟨h4 b hb.1, hb.2⟩, s4.cut ks S' xs h5⟩
mutual
theorem F9.cut : ∀ (s : b7) (S : Nat -> Prop) (cs : List Value), F9 w s S cs -> F9 w s (fun b => S b /\ b < w.heap.size) cs
 | ⟨_, _, _, _, _, b, e⟩, _, _, ⟨iv, vv, bv, ev, xb, xe, Si, Sv, Sb, Se, Sb', Se', h1, ⟨d1, d2, d3, d4⟩, h2, h3, ⟨b1, b2, b3, b4⟩, ⟨e1, e2, e3, e4⟩⟩ =>
  ⟨iv, vv, bv, ev, xb, xe, fun b => Si b /\ b < w.heap.size, fun b => Sv b /\ b < w.heap.size, fun b => Sb b /\ b < w.heap.size, fun b => Se b /\ b < w.heap.size, fun b => Sb' b /\ b < w.heap.size, fun b => Se' b /\ b < w.heap.size, h1,
   ⟨fun b hb => ⟨⟨(d1 b hb.1).1, hb.2⟩, fun h => (d1 b hb.1).2.1 h.1, fun h => (d1 b hb.1).2.2.1 h.1, fun h => (d1 b hb.1).2.2.2 h.1⟩, fun b hb => ⟨⟨(d2 b hb.1).1, hb.2⟩, fun h => (d2 b hb.1).2.1 h.1, fun h => (d2 b hb.1).2.2 h.1⟩,
    fun b hb => ⟨⟨(d3 b hb.1).1, hb.2⟩, fun h => (d3 b hb.1).2 h.1⟩, fun b hb => ⟨d4 b hb.1, hb.2⟩⟩, h2.cut, h3.cut,
   ⟨b1, fun g hg => ⟨⟨(b2 g hg).1, (World.ownsRow.lt b1 g hg).2⟩, fun h => (b2 g hg).2 h.1⟩, fun b hb => ⟨b3 b hb.1, hb.2⟩, r9.cut b Sb' xb b4⟩,
   ⟨e1, fun g hg => ⟨⟨(e2 g hg).1, (World.ownsRow.lt e1 g hg).2⟩, fun h => (e2 g hg).2 h.1⟩, fun b hb => ⟨e3 b hb.1, hb.2⟩, r9.cut e Se' xe e4⟩⟩
theorem r9.cut : ∀ (ks : List b7) (S : Nat -> Prop) (xs : List Value), r9 w ks S xs -> r9 w ks (fun b => S b /\ b < w.heap.size) xs
 | [], _, _, h => h
 | e :: r, _, _, ⟨c, ys, S1, S2, h1, h2, h3, h4, h5⟩ => ⟨c, ys, fun b => S1 b /\ b < w.heap.size, fun b => S2 b /\ b < w.heap.size, h1, fun b hb => ⟨⟨(h2 b hb.1).1, hb.2⟩, fun h => (h2 b hb.1).2 h.1⟩, fun b hb => ⟨h3 b hb.1, hb.2⟩, F9.cut e S1 c h4, r9.cut r S2 ys h5⟩
end
theorem A6.cut {v : Value} {ks : List b7} {S : Nat -> Prop} (h : A6 w v ks S) : A6 w v ks (fun b => S b /\ b < w.heap.size) := by
 obtain ⟨xs, S', h2, h3, h4, h5⟩ := h
 exact ⟨xs, fun b => S' b /\ b < w.heap.size, h2, fun g hg => ⟨⟨(h3 g hg).1, (World.ownsRow.lt h2 g hg).2⟩, fun h => (h3 g hg).2 h.1⟩, fun b hb => ⟨h4 b hb.1, hb.2⟩, r9.cut ks S' xs h5⟩
end
section
variable {φ ψ : Nat -> Prop} {w0 w : World} {L : List U2}
theorem B6.elemSet (M : B6 φ ψ w0 w L) (i : Nat) {e : TypeId} {sz n cap g p : Nat} {xs cs : List Value} (hi : L[i]? = some (.row e sz (.slice (some ⟨g, 0, none⟩) n cap) n (Go.Proofs.YtompcdbfongedaaGreatDoor.setFrom xs p cs))) (hp : p + cs.length <= xs.length) (k : Nat) (hk : k < cs.length) (u : Value) {o : Nat} (ho : o = p + k) :
  B6 φ ψ w0 (w.setCell ⟨g, o, none⟩ u) (L.set i (.row e sz (.slice (some ⟨g, 0, none⟩) n cap) n (Go.Proofs.YtompcdbfongedaaGreatDoor.setFrom xs p (cs.set k u)))) := by
 subst ho
 rw [<- ac4 u hp hk]
 exact M.rowSet i hi (by rw [H0]; omega) u
theorem B6.elemCell (M : B6 φ ψ w0 w L) (i : Nat) {e : TypeId} {sz n cap g p : Nat} {xs cs : List Value} (hi : L[i]? = some (.row e sz (.slice (some ⟨g, 0, none⟩) n cap) n (Go.Proofs.YtompcdbfongedaaGreatDoor.setFrom xs p cs))) (hn : 0 < n) (hp : p + cs.length <= xs.length) (k : Nat) {u : Value} (hk : cs[k]? = some u) {o : Nat} (ho : o = p + k) :
  w.cell? ⟨g, o, none⟩ = some u := by
 subst ho
 obtain ⟨g', cap', hv, -, -, -, -, -, -, hc⟩ := (U3.mk' (M.r i hi)).open hn
 cases hv
 refine hc (p + k) u ?_
 have := (bP8.1 hk).1
 rw [V8 _ _ _ _ hp, if_pos (by omega), Nat.add_sub_cancel_left, hk]
theorem B6.rowFree (M : B6 φ ψ w0 w L) (i : Nat) {e : TypeId} {sz n cap g : Nat} {xs : List Value} (hi : L[i]? = some (.row e sz (.slice (some ⟨g, 0, none⟩) n cap) n xs)) (hn : 0 < n) : ∀ o, w.frozen? ⟨g, o, none⟩ = false := by
 obtain ⟨g', cap', hv, -, -, -, -, -, hf, -⟩ := (U3.mk' (M.r i hi)).open hn
 cases hv
 exact hf
end
def aU4 (ss : List b7) : Prop := ∀ (v : Value) (k : Int) (w : World) (S : Nat -> Prop), A6 w v ss S -> 0 <= k -> k + W4 ss <= 9000000000000000000 ->
 Calls Tryz.prog 27 #[v, .int .i64 k] w fun x w' => x = .returned (.int .i64 (k + W4 ss)) /\ A6 w' v (Y4 ss k) S /\ z6 (fun b => ¬ S b) w w'
theorem Z9 (ks : List b7) (ih : ∀ s ∈ ks, aU4 s.body /\ aU4 s.els) : aU4 ks := by
 intro v k0 w S h hk0 hkb
 obtain ⟨xs, S', ho, hg, hs, hx⟩ := h
 obtain ⟨a, cap, rfl⟩ := ae9 ho
 have hm : ks.length <= 9223372036854775807 := (R0 ho).len
 have HG := show Hid _ from hg
 have HS := show Hid _ from hs
 have HX := show Hid _ from hx
 have HO := show Hid _ from ho
 have HKB := show Hid _ from hkb
 clear hg hs hx ho hkb
 go_enter Tryz.func27, Tryz.ntmps27
 go_wp2_with fail
 go_loopw [1, 5] (fun q i wr => ∃ (j : Nat) (y : Int) (xs : List Value), j <= ks.length /\ i = .int .i64 j /\ q = .int .i64 y /\ y = k0 + W4 (ks.take j) /\ wr.ownsRow 0 69 11 (.slice a ks.length cap) ks.length xs /\ r9 wr (mxS ks k0 j) S' xs /\ z6 (fun b => ¬ S b) w wr) (fun _ i _ => ks.length - (intOf i).toNat)
 case atStart => exact ⟨0, k0, xs, bR3 _, rfl, rfl, by simp [W4], HO.out, by rw [bh0]; exact HX.out, z6.refl _ _⟩
 case round =>
  obtain ⟨j, y, xs, hj, rfl, rfl, hy, ho, hx, hkp⟩ := hrel
  have HY := show Hid _ from hy
  have HKP := show Hid _ from hkp
  have HX1 := show Hid _ from hx
  have HO1 := show Hid _ from ho
  clear hy hkp hx ho
  by_cases hlt : j < ks.length
  ·have hlen := bp8 ks k0 hj
   obtain ⟨c, Sc, f1, f2, f3, f4⟩ := HX1.out.focus j (by omega)
   have hge := bB0 ks k0 hlt
   rw [bO7 (by omega)] at hge
   rw [Option.some.inj hge] at f1
   obtain ⟨iv, vv, bv, ev, Si, Sv, Sb, Se, rfl, ⟨d1, d2, d3, d4⟩, o1, o2, o3, o4⟩ := (F9.iff _ _ _).1 f1
   obtain ⟨g, cap', hv, -, hg2, hg3, -, -, -, -⟩ := (U3.mk' HO1.out).open (by omega)
   cases hv
   have hxl : xs.length = ks.length * 11 := HO1.out.1
   have hmx := bh1 ks k0 hlt
   rw [<- HY.out] at hmx
   have hih := ih _ (bP5 hlt)
   have ht1 := aF2 hlt
   have hdr := aP8 ks (j + 1)
   obtain ⟨s, hsj⟩ : ∃ s, s = ks[j] := ⟨_, rfl⟩
   rw [<- hsj] at f1 f3 o1 o2 o3 o4 hih hmx ht1
   have hdef := aQ0 s
   have hnb := (A4 s.body).1
   have hne := (A4 s.els).1
   have hnt := (A4 (ks.take j)).1
   have hnd := (A4 (ks.drop (j + 1))).1
   obtain ⟨A, hA⟩ : ∃ A : Int, A = 2 * r6 s.index.kids := ⟨_, rfl⟩
   obtain ⟨B, hB⟩ : ∃ B : Int, B = 2 * r6 s.value.kids := ⟨_, rfl⟩
   obtain ⟨C, hC⟩ : ∃ C : Int, C = W4 s.body := ⟨_, rfl⟩
   obtain ⟨D, hD⟩ : ∃ D : Int, D = W4 s.els := ⟨_, rfl⟩
   have hA0 : 0 <= A := by omega
   have hB0 : 0 <= B := by omega
   have hC0 : 0 <= C := by omega
   have hD0 : 0 <= D := by omega
   have hy0 : 0 <= y := by have := HY.out; omega
   have hy1 : y + 7 + A + B + C + D <= 9000000000000000000 := by have := HY.out; have := HKB.out; omega
   have hyn : y + 7 + A + B + C + D = k0 + W4 (ks.take (j + 1)) := by have := HY.out; omega
   have hmk := a34 s y A B hA hB
   rw [<- hC] at hmk
   have hp : j * 11 + 11 <= xs.length := by omega
   have hxs : setFrom xs (j * 11) [.int .i64 s.kind, .int .i64 s.target, .int .i64 s.index.kind, .int .i64 s.index.value, iv, .int .i64 s.value.kind, .int .i64 s.value.value, vv, .int .i64 s.count, bv, ev] = xs := Z3 hp f3
   have hgS' : ¬ S' g := (HG.out g rfl).2
   have hgc : ¬ Sc g := fun h => hgS' (f2 g h)
   have M : B6 (fun _ => True) (fun b => ¬ (b = g \/ Sc b)) wr wr [.row 69 11 (.slice (some ⟨g, 0, none⟩) ks.length cap) ks.length (setFrom xs (j * 11) [.int .i64 s.kind, .int .i64 s.target, .int .i64 s.index.kind, .int .i64 s.index.value, iv, .int .i64 s.value.kind, .int .i64 s.value.value, vv, .int .i64 s.count, bv, ev]),
     .own (fun b => Si b /\ b < wr.heap.size) (fun w => C0 w iv s.index.kids (fun b => Si b /\ b < wr.heap.size)), .own (fun b => Sv b /\ b < wr.heap.size) (fun w => C0 w vv s.value.kids (fun b => Sv b /\ b < wr.heap.size)),
     .own (fun b => Sb b /\ b < wr.heap.size) (fun w => A6 w bv s.body (fun b => Sb b /\ b < wr.heap.size)), .own (fun b => Se b /\ b < wr.heap.size) (fun w => A6 w ev s.els (fun b => Se b /\ b < wr.heap.size))] := by
    rw [hxs]
    refine (((((B6.start fun _ _ => trivial).adopt (.row 69 11 (.slice (some ⟨g, 0, none⟩) ks.length cap) ks.length xs) ?_ bP7 HO1.out ?_ ?_).adopt (.own (fun b => Si b /\ b < wr.heap.size) _) ?_ bP7 ⟨fun _ _ h hs => C0.same h hs, o1.cut, fun _ h => h.2⟩ ?_ ?_).adopt (.own (fun b => Sv b /\ b < wr.heap.size) _) ?_ bP7 ⟨fun _ _ h hs => C0.same h hs, o2.cut, fun _ h => h.2⟩ ?_ ?_).adopt (.own (fun b => Sb b /\ b < wr.heap.size) _) ?_ bP7 ⟨fun _ _ h hs => A6.same h hs, o3.cut, fun _ h => h.2⟩ ?_ ?_).adopt (.own (fun b => Se b /\ b < wr.heap.size) _) ?_ bP7 ⟨fun _ _ h hs => A6.same h hs, o4.cut, fun _ h => h.2⟩ ?_ ?_
    ·intro a ha; cases ha
    ·intro a ha; cases ha
    ·intro g' hg' hn; cases hg'; exact hn (.inl rfl)
    ·intro a ha; simp at ha; subst ha; trivial
    ·intro a ha g' hg' h; simp at ha; subst ha; cases h; exact hgc (d1 _ hg'.1).1
    ·intro g' hg' hn; exact hn (.inr (d1 _ hg'.1).1)
    ·intro a ha; simp at ha; rcases ha with rfl | rfl <;> trivial
    ·intro a ha g' hg' h; simp at ha; rcases ha with rfl | rfl
     ·cases h; exact hgc (d2 _ hg'.1).1
     exact (d1 _ h.1).2.1 hg'.1
    ·intro g' hg' hn; exact hn (.inr (d2 _ hg'.1).1)
    ·intro a ha; simp at ha; rcases ha with rfl | rfl | rfl <;> trivial
    ·intro a ha g' hg' h; simp at ha; rcases ha with rfl | rfl | rfl
     ·cases h; exact hgc (d3 _ hg'.1).1
     ·exact (d1 _ h.1).2.2.1 hg'.1
     exact (d2 _ h.1).2.1 hg'.1
    ·intro g' hg' hn; exact hn (.inr (d3 _ hg'.1).1)
    ·intro a ha; simp at ha; rcases ha with rfl | rfl | rfl | rfl <;> trivial
    ·intro a ha g' hg' h; simp at ha; rcases ha with rfl | rfl | rfl | rfl
     ·cases h; exact hgc (d4 _ hg'.1)
     ·exact (d1 _ h.1).2.2.2 hg'.1
     ·exact (d2 _ h.1).2.2 hg'.1
     exact (d3 _ h.1).2 hg'.1
    intro g' hg' hn; exact hn (.inr (d4 _ hg'.1))
   have hn0 : 0 < ks.length := by omega
   have HIH := show Hid _ from hih
   have HF := show Hid _ from And.intro f2 (And.intro f4 (And.intro hmx (And.intro hmk hyn)))
   have HD := show Hid _ from And.intro d1 (And.intro d2 (And.intro d3 d4))
   have HE := show Hid _ from And.intro hA (And.intro hB (And.intro hC hD))
   have HGS := show Hid _ from hgS'
   have HP := show Hid _ from hp
   clear hih f1 f2 f3 f4 hmx hmk hyn d1 d2 d3 d4 o1 o2 o3 o4 hA hB hC hD hgS' hgc hxs hxl hlen hge ht1 hdr hdef hnb hne hnt hnd hsj hp
   have fz := M.rowFree 0 rfl hn0
   have e0 := M.elemCell 0 rfl hn0 HP.out 0 rfl (o := j * 11) rfl
   have e1 := M.elemCell 0 rfl hn0 HP.out 1 rfl rfl
   have e2 := M.elemCell 0 rfl hn0 HP.out 2 rfl rfl
   have e3 := M.elemCell 0 rfl hn0 HP.out 3 rfl rfl
   have e4 := M.elemCell 0 rfl hn0 HP.out 4 rfl rfl
   have M1 := (((M.elemSet 0 rfl HP.out 0 (by simp) (.int .i64 y) (o := j * 11) rfl).elemSet 0 rfl HP.out 1 (by simp) (.int .i64 (y + 1)) rfl).elemSet 0 rfl HP.out 2 (by simp) (.int .i64 (y + 1 + 1)) rfl).elemSet 0 rfl HP.out 3 (by simp) (.int .i64 (y + 1 + 1 + 1)) rfl
   have HM := show Hid _ from M1
   clear M M1
   go_wp2_with fail
   have M := HM.out
   clear HM fz e0 e1 e2 e3 e4
   refine (ag7 s.index.kids iv (y + 1 + 1 + 1 + 1) _ _ (M.o 1 rfl) (by omega) (by have := HE.out.1; omega)).mono ?_
   rintro x w1 ⟨rfl, k1, kp1⟩
   rw [<- HE.out.1]
   replace M := M.turn 1 rfl kp1 (fun _ _ h hs => C0.same h hs) k1
   clear k1 kp1
   have fz := M.rowFree 0 rfl hn0
   have e5 := M.elemCell 0 rfl hn0 HP.out 5 rfl rfl
   have e6 := M.elemCell 0 rfl hn0 HP.out 6 rfl rfl
   have e7 := M.elemCell 0 rfl hn0 HP.out 7 rfl rfl
   have M1 := (M.elemSet 0 rfl HP.out 5 (by simp) (.int .i64 (y + 1 + 1 + 1 + 1 + A)) rfl).elemSet 0 rfl HP.out 6 (by simp) (.int .i64 (y + 1 + 1 + 1 + 1 + A + 1)) rfl
   have HM := show Hid _ from M1
   clear M M1
   go_wp2_with fail
   have M := HM.out
   clear HM fz e5 e6 e7
   refine (ag7 s.value.kids vv (y + 1 + 1 + 1 + 1 + A + 1 + 1) _ _ (M.o 2 rfl) (by omega) (by have := HE.out.2.1; omega)).mono ?_
   rintro x w2 ⟨rfl, k1, kp1⟩
   rw [<- HE.out.2.1]
   replace M := M.turn 2 rfl kp1 (fun _ _ h hs => C0.same h hs) k1
   clear k1 kp1
   have fz := M.rowFree 0 rfl hn0
   have e8 := M.elemCell 0 rfl hn0 HP.out 8 rfl rfl
   have e9 := M.elemCell 0 rfl hn0 HP.out 9 rfl rfl
   have M1 := M.elemSet 0 rfl HP.out 8 (by simp) (.int .i64 (y + 1 + 1 + 1 + 1 + A + 1 + 1 + B)) rfl
   have HM := show Hid _ from M1
   clear M M1
   go_wp2_with fail
   have M := HM.out
   clear HM fz e8 e9
   refine (HIH.out.1 bv (y + 1 + 1 + 1 + 1 + A + 1 + 1 + B + 1) _ _ (M.o 3 rfl) (by omega) (by have := HE.out.2.2.1; omega)).mono ?_
   rintro x w3 ⟨rfl, k1, kp1⟩
   rw [<- HE.out.2.2.1]
   replace M := M.turn 3 rfl kp1 (fun _ _ h hs => A6.same h hs) k1
   clear k1 kp1
   have e10 := M.elemCell 0 rfl hn0 HP.out 10 rfl rfl
   have HM := show Hid _ from M
   clear M
   go_wp2_with fail
   have M := HM.out
   clear HM e10
   refine (HIH.out.2 ev (y + 1 + 1 + 1 + 1 + A + 1 + 1 + B + 1 + C) _ _ (M.o 4 rfl) (by omega) (by have := HE.out.2.2.2; omega)).mono ?_
   rintro x w4 ⟨rfl, k1, kp1⟩
   rw [<- HE.out.2.2.2]
   replace M := M.turn 4 rfl kp1 (fun _ _ h hs => A6.same h hs) k1
   clear k1 kp1
   have HM := show Hid _ from M
   clear M
   obtain ⟨z, hz⟩ : ∃ z : Int, z = y + 1 + 1 + 1 + 1 + A + 1 + 1 + B + 1 + C + D := ⟨_, rfl⟩
   have HZ := show Hid _ from hz
   rw [<- hz]
   have hz0 : 0 <= z := by omega
   have hz1 : z <= 9000000000000000000 := by omega
   have HY1 := show Hid _ from hy1
   clear hz hy1
   go_wp2_with fail
   have M := HM.out
   obtain ⟨f2, f4, hmx, hmk, hyn⟩ := HF.out
   obtain ⟨d1, d2, d3, d4⟩ := HD.out
   have hO : F9 w4 (mkS s y) Sc [.int .i64 y, .int .i64 (y + 1), .int .i64 (y + 1 + 1), .int .i64 (y + 1 + 1 + 1), iv, .int .i64 (y + 1 + 1 + 1 + 1 + A), .int .i64 (y + 1 + 1 + 1 + 1 + A + 1), vv, .int .i64 (y + 1 + 1 + 1 + 1 + A + 1 + 1 + B), bv, ev] := by
    rw [hmk]
    exact (F9.iff _ _ _).2 ⟨iv, vv, bv, ev, Si, Sv, Sb, Se, rfl, ⟨d1, d2, d3, d4⟩, (M.o 1 rfl).mono fun _ h => h.1, (M.o 2 rfl).mono fun _ h => h.1, (M.o 3 rfl).mono fun _ h => h.1, (M.o 4 rfl).mono fun _ h => h.1⟩
   have hX := f4 w4 (mkS s y) _ (fun b hb hn hl => M.kept.block b hl fun h => h.elim (fun h => HGS.out (h ▸ hb)) hn) hO
   rw [<- hmx] at hX
   refine ⟨⟨j + 1, _, _, by omega, by go_num, rfl, by have := HZ.out; omega, M.r 0 rfl, hX, HKP.out.trans (M.kept.mono fun b hb h => hb (h.elim (fun h => h ▸ (HG.out g rfl).1) fun h => HS.out b (f2 b h)))⟩, by simp [intOf]; omega⟩
  have hjn : j = ks.length := by omega
  subst hjn
  go_wp2_with fail
  go_ret
  exact ⟨L7 (by have := HY.out; rw [bQ3 (bP9 _)] at this; exact this), ⟨xs, S', by rw [L2]; exact HO1.out, HG.out, HS.out, by rw [<- bp9]; exact HX1.out⟩, HKP.out⟩
theorem aB3 (s : b7) : aU4 s.body /\ aU4 s.els :=
 b7.ind (P := fun s => aU4 s.body /\ aU4 s.els) (fun _ _ _ _ _ b e ihb ihe => ⟨Z9 b ihb, Z9 e ihe⟩) s
theorem aB2 (ks : List b7) : aU4 ks := Z9 ks fun s _ => aB3 s
section
variable {P : Program}
structure Y9 (wr w : World) (S : Nat -> Prop) : Prop where
 below : Below wr.heap.size wr w
 box : ∀ b, S b -> wr.heap.size <= b /\ b < w.heap.size
theorem Y9.start (w : World) : Y9 w w.drew fun _ => False := ⟨(Below.refl _ _).drew, fun _ h => h.elim⟩
theorem Y9.call {wr w w' : World} {S : Nat -> Prop} (h : Y9 wr w S) (b : Below w.heap.size w w') : Y9 wr w' S := ⟨h.below.trans (b.mono h.below.size), fun c hc => ⟨(h.box c hc).1, bS7 (h.box c hc).2 b.size⟩⟩
theorem Y9.new {wr w w' : World} {S : Nat -> Prop} (h : Y9 wr w S) (b : Below w.heap.size w w') (hs : w.heap.size < w'.heap.size) : Y9 wr w' fun c => S c \/ c = w.heap.size :=
 ⟨h.below.trans (b.mono h.below.size), fun c hc => by
  rcases hc with hc | rfl
  ·exact ⟨(h.box c hc).1, bS7 (h.box c hc).2 b.size⟩
  exact ⟨h.below.size, hs⟩⟩
def RF (φ S : Nat -> Prop) (b : Nat) : Prop := φ b /\ ¬ S b
theorem Y9.fresh {wr w : World} {S φ : Nat -> Prop} (h : Y9 wr w S) (hf : ∀ b, wr.heap.size <= b -> φ b) : ∀ b, w.heap.size <= b -> RF φ S b := fun b hb => ⟨hf b (bO6 h.below.size hb), fun hs => by have := (h.box b hs).2; omega⟩
theorem Y9.old {wr w : World} {S φ : Nat -> Prop} (h : Y9 wr w S) {R : World -> (Nat -> Prop) -> Prop} (hn : aa9 R) (hr : R wr φ) : R w (RF φ S) :=
 hn _ _ _ _ ⟨h.below.size, fun b hb hf => ⟨⟨hf, fun hs => by have := (h.box b hs).1; omega⟩, h.below.block b hb⟩⟩ hr
end
theorem B6.region {φ ψ : Nat -> Prop} {w0 wr w : World} {L : List U2} {S : Nat -> Prop} (M : B6 φ ψ w0 wr L) (hg : Y9 wr w S) {g : Nat} {cs : List Value} (hb : V3 w g cs) (hs : S g) : B6 φ ψ w0 w (L ++ [.box g cs]) :=
 M.add hg.below _ hb fun g' h => by cases h; exact (hg.box _ hs).1
theorem RF.app {φ S : Nat -> Prop} {L : List U2} {b : Nat} (h : RF (Fr φ L) S b) (X : List U2) (hX : ∀ r ∈ X, ∀ g, r.blk g -> S g) : Fr φ (L ++ X) b :=
 ⟨h.1.1, fun r hr he => by
  rcases bR0.1 hr with hr | hr
  ·exact h.1.2 r hr he
  exact h.2 (hX r hr b he)⟩
section
variable {P : Program}
def ae3 (ops : Array Oper) : Bool := (bS1 ops.size).all fun j => (ops[j]?).any fun o => o.after.all fun e => !Region.binds .any e || decide (e.on < j)
theorem aA8 {ops : Array Oper} (hb : ae3 ops = true) {k : Nat} {o : Oper} (hk : k < ops.size) (ho : ops[k]? = some o) {e : Edge} (he : e ∈ o.after) (hbi : Region.binds .any e = true) : e.on < k := by
 have h1 := bQ0.1 hb k (List.mem_range.2 hk)
 rw [ho] at h1
 simp only [Option.any_some] at h1
 have h2 := Array.all_eq_true'.1 h1 e he
 rw [hbi] at h2
 simpa using h2
theorem aO1 {ops : Array Oper} (hb : ae3 ops = true) {listed : Array Bool} (hsz : listed.size = ops.size) : ∀ k, k < ops.size -> listed.getD k true = false -> Region.ready .any ops listed ≠ [] := by
 intro k
 induction k using Nat.strongRecOn with
 | _ k ih =>
  intro hk hl hn
  by_cases hall : ∃ j, j < k /\ listed.getD j true = false
  ·obtain ⟨j, hj, hlj⟩ := hall
   exact ih j hj (by omega) hlj hn
  have hok : ops[k]? = some ops[k] := Array.getElem?_eq_getElem hk
  have : k ∈ Region.ready .any ops listed := by
   refine mem_ready.2 ⟨hl, ops[k], hok, fun e he hbi => ?_⟩
   have h2 := aA8 hb hk hok he hbi
   cases h3 : listed.getD e.on true
   ·exact absurd ⟨e.on, h2, h3⟩ hall
   have : e.on < listed.size := by omega
   simp [this] at h3 ⊢
   exact h3
  rw [hn] at this
  cases this
theorem a43 {a : Array Bool} {j : Nat} (h : j < a.size) : a.getD j true = a.getD j false := by simp [h]
end
theorem D4 (n lo hi : Int) (w : World) : Calls Tryz.prog 61 #[.int .i64 n, .int .i64 lo, .int .i64 hi] w fun e w' => e = .returned (.bool (decide (lo <= n) && decide (n <= hi))) /\ w = w' := by
 go_enter Tryz.func61, Tryz.ntmps61
 go_wp2
 all_goals go_ret
 all_goals exact ⟨m7 (by simp; try omega), rfl⟩
theorem as6 (l : Int) (w : World) : Calls Tryz.prog 97 #[.int .i64 l] w fun e w' => e = .returned (.bool (w9 l)) /\ w = w' := by
 go_enter Tryz.func97, Tryz.ntmps97
 go_wp2_with fail
 refine (D4 l 0 3 _).mono ?_
 rintro e w1 ⟨rfl, rfl⟩
 go_wp2_with fail
 go_ret
 exact ⟨rfl, rfl⟩
theorem as5 (l : Int) (w : World) : Calls Tryz.prog 96 #[.int .i64 l] w fun e w' => e = .returned (.bool (!w9 l)) /\ w = w' := by
 go_enter Tryz.func96, Tryz.ntmps96
 go_wp2_with fail
 refine (as6 l _).mono ?_
 rintro e w1 ⟨rfl, rfl⟩
 go_wp2_with fail
 go_ret
 exact ⟨rfl, rfl⟩
theorem aB4 (p : Int -> Bool) (f : FuncId) (v : Value) (xs : List Int) (w : World) (h : W7 w v xs.length 1 (ints xs)) (he : ∀ args w, (callFunc f args).run Tryz.prog w = .ok (.enter f args) w)
  (hf : ∀ x w', Calls Tryz.prog f #[.int .i64 x] w' fun e w'' => e = .returned (.bool (p x)) /\ w' = w'') :
  Calls Tryz.prog 118 #[v, .func (.func f) #[] #[]] w fun e w' => ∃ r : Int, e = .returned (.int .i64 r) /\ decide (0 <= r) = xs.any p /\ w = w' := by
 obtain ⟨a1, c1, rfl, -, hm1, -, hc1⟩ := h.open1
 have HF := show Hid _ from hf
 clear h hf
 go_enter Tryz.func118, Tryz.ntmps118
 go_wp2_with fail
 go_loop [5, 8] (fun _ i => ∃ k : Nat, k <= xs.length /\ i = .int .i64 k /\ (xs.take k).any p = false) (fun _ i => xs.length - (intOf i).toNat)
 case atStart => exact ⟨0, bR3 _, rfl, rfl⟩
 case round =>
  obtain ⟨k, hk, rfl, ha⟩ := hrel
  have HA := show Hid _ from ha
  clear ha
  by_cases hlt : k < xs.length
  ·obtain ⟨b1, o1, rfl, hb1, hx⟩ := hc1 k hlt
   rw [Y5 _ _ hlt] at hx
   clear hc1
   cases hp : p xs[k]
   all_goals
    have HP := show Hid _ from hp
    clear hp
    go_wp2_with fail
    refine (HF.out xs[k] _).mono ?_
    rintro e w1 ⟨rfl, rfl⟩
    rw [HP.out]
    go_wp2_with fail
   ·go_round
    case rel => exact ⟨k + 1, by omega, by go_num, by rw [A1 _ _ hlt, List.any_append, HA.out]; simp [HP.out]⟩
    case measure => simp [intOf]; omega
   go_ret
   exact ⟨_, rfl, by rw [decide_eq_true (by omega)]; symm; rw [List.any_eq_true]; exact ⟨_, bP5 hlt, HP.out⟩, rfl⟩
  go_wp2_with fail
  go_ret
  refine ⟨_, rfl, ?_, rfl⟩
  have := HA.out
  rw [bQ3 (by omega)] at this
  rw [this]; rfl
theorem ap3 (p : Int -> Bool) (f : FuncId) (v : Value) (xs : List Int) (w : World) (h : W7 w v xs.length 1 (ints xs)) (he : ∀ args w, (callFunc f args).run Tryz.prog w = .ok (.enter f args) w)
  (hf : ∀ x w', Calls Tryz.prog f #[.int .i64 x] w' fun e w'' => e = .returned (.bool (p x)) /\ w' = w'') :
  Calls Tryz.prog 95 #[v, .func (.func f) #[] #[]] w fun e w' => e = .returned (.bool (xs.any p)) /\ w = w' := by
 obtain ⟨a1, c1, rfl, -⟩ := h.open1
 have HF := show Hid _ from hf
 have HE := show Hid _ from he
 clear hf he
 go_enter Tryz.func95, Tryz.ntmps95
 go_wp2_with fail
 refine (aB4 p f _ xs _ h HE.out HF.out).mono ?_
 rintro e w1 ⟨r, rfl, hr, rfl⟩
 have HR := show Hid _ from hr
 clear hr
 go_wp2_with fail
 go_ret
 exact ⟨m7 HR.out, rfl⟩
theorem aU1 (xs : List Int) : (!xs.any fun l => !w9 l) = xs.all w9 := by
 induction xs with
 | nil => rfl
 | cons x r ih => simp only [List.any_cons, List.all_cons, <- ih]; cases w9 x <;> simp
theorem N6 (v : Value) (xs : List Int) (w : World) (h : W7 w v xs.length 1 (ints xs)) :
  Calls Tryz.prog 62 #[v] w fun e w' => e = .returned (.bool (xs.all w9)) /\ w = w' := by
 obtain ⟨a1, c1, rfl, -⟩ := h.open1
 go_enter Tryz.func62, Tryz.ntmps62
 go_wp2_with fail
 refine (ap3 (fun l => !w9 l) 96 _ xs _ h (aF6 Tryz.func96 (by kernel_rfl) rfl) (fun x w' => as5 x w')).mono ?_
 rintro e w1 ⟨rfl, rfl⟩
 have HN := show Hid _ from aU1 xs
 go_wp2_with fail
 go_ret
 exact ⟨m7 HN.out, rfl⟩
theorem aB7 (v1 v2 : Value) (vars arrays : List Int) (w : World) (h1 : W7 w v1 vars.length 1 (ints vars)) (h2 : W7 w v2 arrays.length 1 (ints arrays)) :
  Calls Tryz.prog 33 #[v1, v2] w fun e w' => e = .returned (.bool (F7 vars arrays)) /\ w = w' := by
 obtain ⟨a1, c1, rfl, -, q1, -⟩ := h1.open1
 obtain ⟨a2, c2, rfl, -, q2, -⟩ := h2.open1
 have HT : Hid (F7 vars arrays = (vars.all w9 && arrays.all w9 && decide (1 <= vars.length) && decide (vars.length <= 12) && decide (arrays.length <= 2))) := rfl
 by_cases hn : (1 : Int) <= (vars.length : Int) /\ (vars.length : Int) <= 12
 ·have hb : (decide ((1 : Int) <= vars.length) && decide ((vars.length : Int) <= 12)) = true := by simpa using hn
  have HB := show Hid _ from hb
  by_cases hm : (arrays.length : Int) <= 2
  ·cases hv : vars.all w9
   ·have HV := show Hid _ from hv
    clear hv hb hn
    go_enter Tryz.func33, Tryz.ntmps33
    go_wp2_with fail
    refine (D4 _ 1 12 _).mono ?_
    rintro e w1 ⟨rfl, rfl⟩
    rw [HB.out]
    go_wp2_with fail
    refine (N6 _ vars _ h1).mono ?_
    rintro e w1 ⟨rfl, rfl⟩
    rw [HV.out]
    go_wp2_with fail
    go_ret
    exact ⟨m7 (by rw [HT.out, HV.out]; rfl), rfl⟩
   have HV := show Hid _ from hv
   have hn' := show Hid _ from hn
   have hm' := show Hid _ from hm
   clear hv hb hn
   go_enter Tryz.func33, Tryz.ntmps33
   go_wp2_with fail
   refine (D4 _ 1 12 _).mono ?_
   rintro e w1 ⟨rfl, rfl⟩
   rw [HB.out]
   go_wp2_with fail
   refine (N6 _ vars _ h1).mono ?_
   rintro e w1 ⟨rfl, rfl⟩
   rw [HV.out]
   go_wp2_with fail
   refine (N6 _ arrays _ h2).mono ?_
   rintro e w1 ⟨rfl, rfl⟩
   go_wp2_with fail
   go_ret
   refine ⟨m7 ?_, rfl⟩
   have h3 := hn'.out
   have h4 := hm'.out
   rw [HT.out, HV.out, decide_eq_true (show 1 <= vars.length by omega), decide_eq_true (show vars.length <= 12 by omega), decide_eq_true (show arrays.length <= 2 by omega)]
   simp
  have hF : Hid (F7 vars arrays = false) := by unfold Hid; rw [HT.out, decide_eq_false (show ¬ arrays.length <= 2 by omega)]; simp
  clear hb hn
  go_enter Tryz.func33, Tryz.ntmps33
  go_wp2_with fail
  refine (D4 _ 1 12 _).mono ?_
  rintro e w1 ⟨rfl, rfl⟩
  rw [HB.out]
  go_wp2_with fail
  go_ret
  exact ⟨m7 hF.out.symm, rfl⟩
 have hb : (decide ((1 : Int) <= vars.length) && decide ((vars.length : Int) <= 12)) = false := by
  rw [Bool.eq_false_iff]; simp only [ne_eq, bO8, decide_eq_true_eq]; exact hn
 have HB := show Hid _ from hb
 have hF : Hid (F7 vars arrays = false) := by
  unfold Hid; rw [HT.out]
  rcases Classical.not_and_iff_not_or_not.1 hn with h | h
  ·rw [decide_eq_false (show ¬ 1 <= vars.length by omega)]; simp
  rw [decide_eq_false (show ¬ vars.length <= 12 by omega)]; simp
 clear hb hn
 go_enter Tryz.func33, Tryz.ntmps33
 go_wp2_with fail
 refine (D4 _ 1 12 _).mono ?_
 rintro e w1 ⟨rfl, rfl⟩
 rw [HB.out]
 go_wp2_with fail
 go_ret
 exact ⟨m7 hF.out.symm, rfl⟩
theorem ak8 (k n : Int) (kv : Value) (w : World) : Calls Tryz.prog 99 #[.agg #[.int .i64 k, .int .i64 n, kv]] w fun e w' => e = .returned (.bool (decide (k = 1) || decide (k = 2))) /\ Below w.heap.size w w' := by
 by_cases h1 : k = 1
 ·have p1 : (k == 1) = true := by simp [h1]
  have Q := show Hid _ from h1
  clear h1
  go_enter Tryz.func99, Tryz.ntmps99
  go_wp2
  go_ret
  exact ⟨m7 (by simp [Q.out]), by go_grown⟩
 have p1 : (k == 1) = false := by simp [h1]
 have Q := show Hid _ from h1
 clear h1
 by_cases h2 : k = 2
 ·have p2 : (k == 2) = true := by simp [h2]
  have Q2 := show Hid _ from h2
  clear h2
  go_enter Tryz.func99, Tryz.ntmps99
  go_wp2
  go_ret
  exact ⟨m7 (by simp [Q2.out]), by go_grown⟩
 have p2 : (k == 2) = false := by simp [h2]
 have Q2 := show Hid _ from h2
 clear h2
 go_enter Tryz.func99, Tryz.ntmps99
 go_wp2
 go_ret
 exact ⟨m7 (by rw [decide_eq_false Q.out, decide_eq_false Q2.out]; rfl), by go_grown⟩
theorem aB5 (k : Int) (w : World) : Calls Tryz.prog 135 #[.int .i64 k] w fun e w' => e = .returned (.int .i64 (s7 k)) /\ w = w' := by
 by_cases h1 : k = 1
 ·subst h1
  go_enter Tryz.func135, Tryz.ntmps135
  go_wp2_with fail
  go_ret
  exact ⟨L7 (by simp [s7]), rfl⟩
 by_cases h2 : k = 2
 ·subst h2
  go_enter Tryz.func135, Tryz.ntmps135
  go_wp2_with fail
  go_ret
  exact ⟨L7 (by simp [s7]), rfl⟩
 by_cases h3 : k = 3
 ·subst h3
  go_enter Tryz.func135, Tryz.ntmps135
  go_wp2_with fail
  go_ret
  exact ⟨L7 (by simp [s7]), rfl⟩
 have p1 : (k == 1) = false := by simp [h1]
 have p2 : (k == 2) = false := by simp [h2]
 have p3 : (k == 3) = false := by simp [h3]
 have H := show Hid _ from And.intro h1 (And.intro h2 h3)
 clear h1 h2 h3
 go_enter Tryz.func135, Tryz.ntmps135
 go_wp2_with fail
 refine (D4 k 4 10 _).mono ?_
 rintro x w1 ⟨rfl, rfl⟩
 by_cases h4 : 4 <= k /\ k <= 10
 ·have p4 : (decide (4 <= k) && decide (k <= 10)) = true := by simp [h4]
  rw [p4]
  have H4 := show Hid _ from h4
  clear h4 p4
  go_wp2_with fail
  go_ret
  exact ⟨L7 (by have := H.out; have := H4.out; unfold s7; rw [if_neg (by omega), if_neg (by omega), if_pos (by omega)]), rfl⟩
 have p4 : (decide (4 <= k) && decide (k <= 10)) = false := by simp; omega
 rw [p4]
 have H4 := show Hid _ from h4
 clear h4 p4
 by_cases h5 : k = 11
 ·subst h5
  go_wp2_with fail
  go_ret
  exact ⟨L7 (by simp [s7]), rfl⟩
 have p5 : (k == 11) = false := by simp [h5]
 have H5 := show Hid _ from h5
 clear h5
 go_wp2_with fail
 go_ret
 exact ⟨L7 (by have := H.out; have := H4.out; have := H5.out; unfold s7; rw [if_neg (by omega), if_neg (by omega), if_neg (by omega), if_neg (by omega)]), rfl⟩
theorem Z4 {nv na d c : Nat} {e : b9} (h1 : D2 nv na e = true) (h2 : Y3 e = true) : A0 nv na (d + 1) c e = y8 nv na d (c + 1) e.kids e.kids.length := by
 unfold A0 y8
 rw [bQ3 (bP9 _), m9, h1, h2, U5]
 simp
theorem W0 {nv na d c k : Nat} {ks : List b9} (hk : k < ks.length) (hs : A0 nv na d (c + r6 (ks.take k)) ks[k] = false) : y8 nv na d c ks ks.length = false := by
 unfold y8
 rw [bQ3 (bP9 _)]
 exact aI7 nv na hk hs
theorem N2 {nv na d c : Nat} {e : b9} (h1 : D2 nv na e = false) : A0 nv na (d + 1) c e = false := by
 unfold A0; rw [m9, h1]; rfl
theorem aI8 {nv na d c : Nat} {e : b9} (h1 : Y3 e = false) : A0 nv na (d + 1) c e = false := by
 unfold A0; rw [m9, h1]; simp
theorem aa0 {nv na : Nat} {k n h : Int} (hh : h = A8 nv na k - 1) : (decide (0 <= n) && decide (n <= h)) = (decide (0 <= n) && decide (n < A8 nv na k)) := by
 congr 1; exact decide_eq_decide.2 (by omega)
theorem a83 (a1 a2 : Option Addr) (nv c1 na c2 : Nat) (v3 : Value) (h1 : nv <= 9223372036854775807) (h2 : na <= 9223372036854775807) : ∀ (d : Nat) (deep : Int), deep + d = 6 -> 1 <= deep -> ∀ (e : b9) (φ : Nat -> Prop) (v : Value) (c cb : Nat) (w : World), x3 w φ v e -> ¬ φ cb -> V3 w cb [.int .i64 c] -> c <= 15 ->
  Calls Tryz.prog 119 #[.agg #[.slice a1 nv c1, .slice a2 na c2, v3], v, .int .i64 deep, .pointer (some ⟨cb, 0, none⟩)] w fun x w' =>
   x = .returned (.bool (A0 nv na d c e)) /\ (A0 nv na d c e = true -> V3 w' cb [.int .i64 (c + 1 + O2 e : Nat)]) /\ (∃ u, V3 w' cb [u]) /\ z6 (fun b => ¬ b = cb) w w' := by
 intro d
 induction d with
 | zero =>
  intro deep hdp hd1 e φ v c cb w h hcb hblk hc
  obtain ⟨kv, rfl, hk⟩ := h
  have HF : Hid (A0 nv na 0 c e = false) := rfl
  obtain rfl : deep = 6 := by omega
  have hl := hblk.lt
  have x0 : w.cell? ⟨cb, 0, none⟩ = some (.int .i64 c) := (hblk.cell 0).trans rfl
  have f0 := hblk.free
  obtain ⟨W, hW, M⟩ : ∃ W, W = (((w.setCell ⟨cb, 0, none⟩ (.int .i64 ((c : Int) + 1))).alloc (.cells #[.slice a1 nv c1, .slice a2 na c2, v3] 25)).alloc (.cells #[.int .i64 e.kind, .int .i64 e.value, kv] 67)) /\ B6 (fun _ => True) (fun b => ¬ b = cb) w W [.box cb [.int .i64 ((c : Int) + 1)]] :=
   ⟨_, rfl, (((B6.start fun _ _ => trivial).adopt (.box cb [.int .i64 c]) (fun _ ha => by cases ha) bP7 hblk (fun _ ha => by cases ha) (fun g hg hn => by cases hg; exact hn rfl)).set 0 rfl 0 (.int .i64 ((c : Int) + 1))).call (by go_grown)⟩
  have y0 := M.c 0 0 rfl rfl
  have z0 := fun X => b6 y0 X
  clear hk y0 hblk
  by_cases q : (15 : Int) < (c : Int) + 1
  ·have p : decide ((15 : Int) < (c : Int) + 1) = true := by simp; omega
   clear q
   go_enter Tryz.func119, Tryz.ntmps119
   go_wp2_with fail
   rw [<- hW]
   clear hW
   refine n6 (by kernel_rfl) (by kernel_rfl) ?_
   repeat (any_goals (first | go_big_quiet_step (((fail))) | quiet_step (((fail)))))
   refine wpQuiet_nil ?_
   rintro _ ⟨X, rfl⟩
   replace M := M.call (l7 W X)
   go_wp2_with fail
   go_ret
   exact ⟨m7 (by rw [HF.out]), fun h => absurd (h.symm.trans HF.out) (by simp), ⟨_, M.blk 0 rfl⟩, M.kept⟩
  have p : decide ((15 : Int) < (c : Int) + 1) = false := by simp; omega
  clear q
  go_enter Tryz.func119, Tryz.ntmps119
  go_wp2_with fail
  rw [<- hW]
  clear hW
  refine n6 (by kernel_rfl) (by kernel_rfl) ?_
  repeat (any_goals (first | go_big_quiet_step (((fail))) | quiet_step (((fail)))))
  refine wpQuiet_nil ?_
  rintro _ ⟨X, rfl⟩
  replace M := M.call (l7 W X)
  go_wp2_with fail
  go_ret
  exact ⟨m7 (by rw [HF.out]), fun h => absurd (h.symm.trans HF.out) (by simp), ⟨_, M.blk 0 rfl⟩, M.kept⟩
 | succ d ih =>
  intro deep hdp hd1 e φ v c cb w h hcb hblk hc
  obtain ⟨kv, rfl, hk⟩ := h
  obtain ⟨ak, ck, rfl, -, hn, -, -⟩ := hk.open
  have hl := hblk.lt
  have hd5 : deep <= 5 := by omega
  obtain ⟨φ', hφ'⟩ : ∃ φ' : Nat -> Prop, φ' = fun b => φ b \/ w.heap.size <= b := ⟨_, rfl⟩
  have x0 : w.cell? ⟨cb, 0, none⟩ = some (.int .i64 c) := (hblk.cell 0).trans rfl
  have f0 := hblk.free
  obtain ⟨W, hW, M⟩ : ∃ W, W = (((w.setCell ⟨cb, 0, none⟩ (.int .i64 ((c : Int) + 1))).alloc (.cells #[.slice a1 nv c1, .slice a2 na c2, v3] 25)).alloc (.cells #[.int .i64 e.kind, .int .i64 e.value, .slice ak e.kids.length ck] 67)) /\
    B6 φ' (fun b => ¬ b = cb) w W [.box cb [.int .i64 ((c : Int) + 1)], .box w.heap.size [.slice a1 nv c1, .slice a2 na c2, v3], .box (w.heap.size + 1) [.int .i64 e.kind, .int .i64 e.value, .slice ak e.kids.length ck], .dat (fun w φ => n5 w φ (.slice ak e.kids.length ck) e.kids)] := by
   refine ⟨_, rfl, (((((B6.start (by rw [hφ']; exact fun _ h => .inr h)).adopt (.box cb [.int .i64 c]) (fun _ ha => by cases ha) bP7 hblk (fun _ ha => by cases ha) (fun g hg hn => by cases hg; exact hn rfl)).set 0 rfl 0 (.int .i64 ((c : Int) + 1))).box' _ _ (by simp)).box' _ _ (by simp)).dat (n5.nice _ _) (n5.nice _ _ _ _ _ _ ⟨by simp; omega, fun b hb hf => ⟨⟨by rw [hφ']; exact .inl hf, fun r hr he => ?_⟩, ?_⟩⟩ hk)⟩
   ·simp at hr
    rcases hr with rfl | rfl | rfl
    ·cases he; exact hcb hf
    ·cases he; omega
    cases he; omega
   have hbc : b ≠ cb := fun he => hcb (he ▸ hf)
   exact (((Below.refl w.heap.size (w.setCell ⟨cb, 0, none⟩ (.int .i64 ((c : Int) + 1)))).alloc (by simp) _ |>.alloc (by simp) _).block b (by simpa using hb)).trans (Below.heap_setCell _ _ _ _ hbc)
  clear hk hblk hφ'
  have y0 := M.c 0 0 rfl rfl
  have y1 := M.c 2 0 rfl rfl
  have y2 := M.c 2 2 rfl rfl
  have z0 := fun X => b6 y0 X
  have z1 := fun X => b6 y1 X
  have z2 := fun X => b6 y2 X
  have HA : Hid (∀ X, Calls Tryz.prog 135 #[.int .i64 e.kind] (W.ext X) fun x w'' => x = .returned (.int .i64 (s7 e.kind)) /\ ∃ Y, w'' = W.ext Y) := fun X =>
   Calls.ext_of' ((aB5 e.kind _).mono fun x w' h => ⟨h.1, h.2 ▸ Below.refl _ _⟩)
  clear y0 y1 y2
  have p2 : decide ((5 : Int) < deep) = false := decide_eq_false (by omega)
  by_cases q1 : (15 : Int) < (c : Int) + 1
  ·have p1 : decide ((15 : Int) < (c : Int) + 1) = true := decide_eq_true q1
   have HF : Hid (A0 nv na (d + 1) c e = false) := by unfold Hid A0; rw [decide_eq_false (by omega), Bool.and_false]
   clear q1
   go_enter Tryz.func119, Tryz.ntmps119
   go_wp2_with fail
   rw [<- hW]
   clear hW
   refine n6 (by kernel_rfl) (by kernel_rfl) ?_
   repeat (any_goals (first | go_big_quiet_step (((go_at_call 135; exact HA.out _))) | quiet_step (((go_at_call 135; exact HA.out _)))))
   refine wpQuiet_nil ?_
   rintro _ ⟨X, rfl⟩
   replace M := M.call (l7 W X)
   go_wp2_with fail
   go_ret
   exact ⟨m7 (by rw [HF.out]), fun h => absurd (h.symm.trans HF.out) (by simp), ⟨_, M.blk 0 rfl⟩, M.kept⟩
  have p1 : decide ((15 : Int) < (c : Int) + 1) = false := decide_eq_false q1
  by_cases q3 : (e.kids.length : Int) = s7 e.kind
  case neg =>
   have p3 : (s7 e.kind != (e.kids.length : Int)) = true := by simp; omega
   have HF : Hid (A0 nv na (d + 1) c e = false) := N2 (by unfold D2; rw [decide_eq_false q3]; rfl)
   clear q1 q3
   go_enter Tryz.func119, Tryz.ntmps119
   go_wp2_with fail
   rw [<- hW]
   clear hW
   refine n6 (by kernel_rfl) (by kernel_rfl) ?_
   repeat (any_goals (first | go_big_quiet_step (((go_at_call 135; exact HA.out _))) | quiet_step (((go_at_call 135; exact HA.out _)))))
   refine wpQuiet_nil ?_
   rintro _ ⟨X, rfl⟩
   replace M := M.call (l7 W X)
   go_wp2_with fail
   go_ret
   exact ⟨m7 (by rw [HF.out]), fun h => absurd (h.symm.trans HF.out) (by simp), ⟨_, M.blk 0 rfl⟩, M.kept⟩
  have p3 : (s7 e.kind != (e.kids.length : Int)) = false := by simp; omega
  have HQ := show Hid _ from And.intro q1 q3
  clear q1 q3
  go_enter Tryz.func119, Tryz.ntmps119
  go_wp2_with fail
  rw [<- hW]
  clear hW
  refine n6 (by kernel_rfl) (by kernel_rfl) ?_
  repeat (any_goals (first | go_big_quiet_step (((go_at_call 135; exact HA.out _))) | quiet_step (((go_at_call 135; exact HA.out _)))))
  refine wpQuiet_nil ?_
  rintro _ ⟨X, rfl⟩
  replace M := M.call (l7 W X)
  generalize W.ext X = W1 at *
  clear z0 z1 z2 HA p1 p2 p3 f0 x0
  have y0 := M.c 1 0 rfl rfl
  have y1 := M.c 1 1 rfl rfl
  have y2 := M.c 2 0 rfl rfl
  have y3 := M.c 2 1 rfl rfl
  have y4 := M.c 2 2 rfl rfl
  have HM := show Hid _ from M
  clear M
  by_cases k1 : e.kind = 1
  ·have qq1 : (e.kind == 1) = true := by simp [k1]
   have qq2 : (e.kind == 3) = false := by simp [k1]
   have HRD : Hid (Y3 e = true) := by unfold Hid Y3; simp [k1]
   have hhi : (255 : Int) = A8 nv na e.kind - 1 := by rw [k1]; simp [A8]
   clear k1
   have HNB := show Hid (D2 nv na e = (decide (0 <= e.value) && decide (e.value <= 255))) from by
    unfold Hid D2; rw [decide_eq_true HQ.out.2, aa0 hhi]; rfl
   clear hhi
   go_wp2_with fail
   refine (D4 e.value 0 _ _).mono ?_
   rintro x w1 ⟨rfl, rfl⟩
   have HNB2 := show Hid (D2 nv na e = (decide (0 <= e.value) && decide (e.value <= 255))) from HNB.out
   clear HNB
   obtain ⟨qn, hqn⟩ : ∃ qn, qn = (decide (0 <= e.value) && decide (e.value <= 255)) := ⟨_, rfl⟩
   rw [<- hqn]
   have HN := show Hid (D2 nv na e = qn) from HNB2.out.trans hqn.symm
   clear hqn HNB2
   cases qn
   ·have HF : Hid (A0 nv na (d + 1) c e = false) := N2 HN.out
    have M := HM.out
    clear HM
    go_wp2_with fail
    go_ret
    exact ⟨m7 (by rw [HF.out]), fun h => absurd (h.symm.trans HF.out) (by simp), ⟨_, M.blk 0 rfl⟩, M.kept⟩
   have HSC : Hid (A0 nv na (d + 1) c e = y8 nv na d (c + 1) e.kids e.kids.length) := Z4 HN.out HRD.out
   go_wp2_with fail
   clear y0 y1 y2 y3 y4
   have HST : Hid (y8 nv na d (c + 1) e.kids 0 = true /\ B6 φ' (fun b => ¬ b = cb) w W1 [.box cb [.int .i64 (c + 1 + r6 (e.kids.take 0) : Nat)], .box w.heap.size [.slice a1 nv c1, .slice a2 na c2, v3], .box (w.heap.size + 1) [.int .i64 e.kind, .int .i64 e.value, .slice ak e.kids.length ck], .dat (fun w φ => n5 w φ (.slice ak e.kids.length ck) e.kids)]) := by
    refine ⟨?_, ?_⟩
    ·have := HQ.out.1
     simp [y8, r6]; omega
    rw [show ((c + 1 + r6 (e.kids.take 0) : Nat) : Int) = (c : Int) + 1 by simp [r6]]
    exact HM.out
   go_loopw [71] (fun i wr => ∃ k : Nat, k <= e.kids.length /\ i = .int .i64 k /\ y8 nv na d (c + 1) e.kids k = true /\ B6 φ' (fun b => ¬ b = cb) w wr [.box cb [.int .i64 (c + 1 + r6 (e.kids.take k) : Nat)], .box w.heap.size [.slice a1 nv c1, .slice a2 na c2, v3], .box (w.heap.size + 1) [.int .i64 e.kind, .int .i64 e.value, .slice ak e.kids.length ck], .dat (fun w φ => n5 w φ (.slice ak e.kids.length ck) e.kids)]) (fun i _ => e.kids.length - (intOf i).toNat)
   case atStart => exact ⟨0, bR3 _, rfl, HST.out.1, HST.out.2⟩
   case round =>
    clear HM
    obtain ⟨k, hk, rfl, hpre, M⟩ := hrel
    have HPRE := show Hid _ from hpre
    have hle : c + 1 + r6 (e.kids.take k) <= 15 := by unfold y8 at hpre; simp at hpre; exact hpre.2
    clear hpre
    by_cases hlt : k < e.kids.length
    ·have hncb : ¬ Fr φ' [.box cb [.int .i64 (c + 1 + r6 (e.kids.take k) : Nat)], .box w.heap.size [.slice a1 nv c1, .slice a2 na c2, v3], .box (w.heap.size + 1) [.int .i64 e.kind, .int .i64 e.value, .slice ak e.kids.length ck], .dat (fun w φ => n5 w φ (.slice ak e.kids.length ck) e.kids)] cb := fun h => h.2 _ bQ4 rfl
     obtain ⟨a', c', he, -, -, -, hcell⟩ := (M.d 3 rfl).open
     cases he
     obtain ⟨b, off, kv, hbo, hbk, hf, g0, g1, g2, hkk⟩ := hcell k hlt
     cases hbo
     obtain ⟨ka, kc, rfl, -, -, -, -⟩ := hkk.open
     have bz : Below wr.heap.size wr (wr.alloc (.cells #[.int .i64 e.kids[k].kind, .int .i64 e.kids[k].value, .slice ka e.kids[k].kids.length kc] 67)) := by go_grown
     have HE := show Hid _ from n5.nice _ _ _ _ _ _ (G0.below bz) hkk
     have HNCB := show Hid _ from hncb
     have x0 := M.c 1 0 rfl rfl
     have x1 := M.c 1 1 rfl rfl
     have x2 := M.c 1 2 rfl rfl
     have s1 : w.heap.size < wr.heap.size := M.lt (r := .box w.heap.size [.slice a1 nv c1, .slice a2 na c2, v3]) (bR1 _ bQ4) rfl
     have HM := show Hid _ from M.box [.int .i64 e.kids[k].kind, .int .i64 e.kids[k].value, .slice ka e.kids[k].kids.length kc] 67
     have HP := show Hid _ from T4 nv na (d := d) (c := c + 1) hlt
     have HX := show Hid (A0 nv na d (c + 1 + r6 (e.kids.take k)) e.kids[k] = false -> A0 nv na (d + 1) c e = false) from fun h => HSC.out.trans (W0 hlt h)
     have HT := show Hid _ from P4 hlt
     clear hcell hncb bz hkk M
     go_wp2_with fail
     refine (ih (deep + 1) (by omega) (by omega) e.kids[k] _ _ (c + 1 + r6 (e.kids.take k)) cb _ ⟨_, rfl, HE.out⟩ HNCB.out (HM.out.blk 0 rfl) hle).mono ?_
     rintro x w2 ⟨rfl, r1, ⟨u, r2⟩, kp⟩
     obtain ⟨q, hq⟩ : ∃ q, q = A0 nv na d (c + 1 + r6 (e.kids.take k)) e.kids[k] := ⟨_, rfl⟩
     rw [<- hq] at r1 ⊢
     have HQ2 := show Hid _ from hq
     clear hq x0 x1 x2 g0 g1 g2
     cases q
     ·have M2 := HM.out.callB 0 rfl kp r2
      have HF := show Hid _ from HX.out HQ2.out.symm
      clear r1 r2 kp
      go_wp2_with fail
      go_ret
      exact ⟨m7 (by rw [HF.out]), fun h => absurd (h.symm.trans HF.out) (by simp), ⟨_, M2.blk 0 rfl⟩, M2.kept⟩
     have M2 := (HM.out.callB 0 rfl kp (r1 rfl)).take 4
     have HM2 := show Hid _ from M2
     clear r1 r2 kp M2
     go_wp2_with fail
     refine ⟨⟨k + 1, by omega, by go_num, by rw [HP.out, HPRE.out, <- HQ2.out]; rfl, ?_⟩, by simp [intOf]; omega⟩
     rw [HT.out, show c + 1 + (r6 (e.kids.take k) + (1 + O2 e.kids[k])) = c + 1 + r6 (e.kids.take k) + 1 + O2 e.kids[k] by omega]
     exact HM2.out
    have hkn : k = e.kids.length := by omega
    subst hkn
    have HM := show Hid _ from M
    have HS : Hid (A0 nv na (d + 1) c e = true) := HSC.out.trans HPRE.out
    clear M
    go_wp2_with fail
    go_ret
    refine ⟨m7 (by rw [HS.out]), fun _ => ?_, ⟨_, HM.out.blk 0 rfl⟩, HM.out.kept⟩
    have := HM.out.blk 0 rfl
    rw [bQ3 (bP9 _)] at this
    rw [U5]
    exact this
  have k1' : (e.kind == 1) = false := by simp [k1]
  by_cases k2 : e.kind = 2
  ·have qq1 : (e.kind == 2) = true := by simp [k2]
   have qq2 : (e.kind == 3) = false := by simp [k2]
   have HRD : Hid (Y3 e = true) := by unfold Hid Y3; simp [k2]
   have hhi : (nv : Int) - 1 = A8 nv na e.kind - 1 := by rw [k2]; simp [A8]
   clear k1 k2
   have HNB := show Hid (D2 nv na e = (decide (0 <= e.value) && decide (e.value <= (nv : Int) - 1))) from by
    unfold Hid D2; rw [decide_eq_true HQ.out.2, aa0 hhi]; rfl
   clear hhi
   go_wp2_with fail
   refine (D4 e.value 0 _ _).mono ?_
   rintro x w1 ⟨rfl, rfl⟩
   have HNB2 := show Hid (D2 nv na e = (decide (0 <= e.value) && decide (e.value <= (nv : Int) - 1))) from HNB.out
   clear HNB
   obtain ⟨qn, hqn⟩ : ∃ qn, qn = (decide (0 <= e.value) && decide (e.value <= (nv : Int) - 1)) := ⟨_, rfl⟩
   rw [<- hqn]
   have HN := show Hid (D2 nv na e = qn) from HNB2.out.trans hqn.symm
   clear hqn HNB2
   cases qn
   ·have HF : Hid (A0 nv na (d + 1) c e = false) := N2 HN.out
    have M := HM.out
    clear HM
    go_wp2_with fail
    go_ret
    exact ⟨m7 (by rw [HF.out]), fun h => absurd (h.symm.trans HF.out) (by simp), ⟨_, M.blk 0 rfl⟩, M.kept⟩
   have HSC : Hid (A0 nv na (d + 1) c e = y8 nv na d (c + 1) e.kids e.kids.length) := Z4 HN.out HRD.out
   go_wp2_with fail
   clear y0 y1 y2 y3 y4
   have HST : Hid (y8 nv na d (c + 1) e.kids 0 = true /\ B6 φ' (fun b => ¬ b = cb) w W1 [.box cb [.int .i64 (c + 1 + r6 (e.kids.take 0) : Nat)], .box w.heap.size [.slice a1 nv c1, .slice a2 na c2, v3], .box (w.heap.size + 1) [.int .i64 e.kind, .int .i64 e.value, .slice ak e.kids.length ck], .dat (fun w φ => n5 w φ (.slice ak e.kids.length ck) e.kids)]) := by
    refine ⟨?_, ?_⟩
    ·have := HQ.out.1
     simp [y8, r6]; omega
    rw [show ((c + 1 + r6 (e.kids.take 0) : Nat) : Int) = (c : Int) + 1 by simp [r6]]
    exact HM.out
   go_loopw [71] (fun i wr => ∃ k : Nat, k <= e.kids.length /\ i = .int .i64 k /\ y8 nv na d (c + 1) e.kids k = true /\ B6 φ' (fun b => ¬ b = cb) w wr [.box cb [.int .i64 (c + 1 + r6 (e.kids.take k) : Nat)], .box w.heap.size [.slice a1 nv c1, .slice a2 na c2, v3], .box (w.heap.size + 1) [.int .i64 e.kind, .int .i64 e.value, .slice ak e.kids.length ck], .dat (fun w φ => n5 w φ (.slice ak e.kids.length ck) e.kids)]) (fun i _ => e.kids.length - (intOf i).toNat)
   case atStart => exact ⟨0, bR3 _, rfl, HST.out.1, HST.out.2⟩
   case round =>
    clear HM
    obtain ⟨k, hk, rfl, hpre, M⟩ := hrel
    have HPRE := show Hid _ from hpre
    have hle : c + 1 + r6 (e.kids.take k) <= 15 := by unfold y8 at hpre; simp at hpre; exact hpre.2
    clear hpre
    by_cases hlt : k < e.kids.length
    ·have hncb : ¬ Fr φ' [.box cb [.int .i64 (c + 1 + r6 (e.kids.take k) : Nat)], .box w.heap.size [.slice a1 nv c1, .slice a2 na c2, v3], .box (w.heap.size + 1) [.int .i64 e.kind, .int .i64 e.value, .slice ak e.kids.length ck], .dat (fun w φ => n5 w φ (.slice ak e.kids.length ck) e.kids)] cb := fun h => h.2 _ bQ4 rfl
     obtain ⟨a', c', he, -, -, -, hcell⟩ := (M.d 3 rfl).open
     cases he
     obtain ⟨b, off, kv, hbo, hbk, hf, g0, g1, g2, hkk⟩ := hcell k hlt
     cases hbo
     obtain ⟨ka, kc, rfl, -, -, -, -⟩ := hkk.open
     have bz : Below wr.heap.size wr (wr.alloc (.cells #[.int .i64 e.kids[k].kind, .int .i64 e.kids[k].value, .slice ka e.kids[k].kids.length kc] 67)) := by go_grown
     have HE := show Hid _ from n5.nice _ _ _ _ _ _ (G0.below bz) hkk
     have HNCB := show Hid _ from hncb
     have x0 := M.c 1 0 rfl rfl
     have x1 := M.c 1 1 rfl rfl
     have x2 := M.c 1 2 rfl rfl
     have s1 : w.heap.size < wr.heap.size := M.lt (r := .box w.heap.size [.slice a1 nv c1, .slice a2 na c2, v3]) (bR1 _ bQ4) rfl
     have HM := show Hid _ from M.box [.int .i64 e.kids[k].kind, .int .i64 e.kids[k].value, .slice ka e.kids[k].kids.length kc] 67
     have HP := show Hid _ from T4 nv na (d := d) (c := c + 1) hlt
     have HX := show Hid (A0 nv na d (c + 1 + r6 (e.kids.take k)) e.kids[k] = false -> A0 nv na (d + 1) c e = false) from fun h => HSC.out.trans (W0 hlt h)
     have HT := show Hid _ from P4 hlt
     clear hcell hncb bz hkk M
     go_wp2_with fail
     refine (ih (deep + 1) (by omega) (by omega) e.kids[k] _ _ (c + 1 + r6 (e.kids.take k)) cb _ ⟨_, rfl, HE.out⟩ HNCB.out (HM.out.blk 0 rfl) hle).mono ?_
     rintro x w2 ⟨rfl, r1, ⟨u, r2⟩, kp⟩
     obtain ⟨q, hq⟩ : ∃ q, q = A0 nv na d (c + 1 + r6 (e.kids.take k)) e.kids[k] := ⟨_, rfl⟩
     rw [<- hq] at r1 ⊢
     have HQ2 := show Hid _ from hq
     clear hq x0 x1 x2 g0 g1 g2
     cases q
     ·have M2 := HM.out.callB 0 rfl kp r2
      have HF := show Hid _ from HX.out HQ2.out.symm
      clear r1 r2 kp
      go_wp2_with fail
      go_ret
      exact ⟨m7 (by rw [HF.out]), fun h => absurd (h.symm.trans HF.out) (by simp), ⟨_, M2.blk 0 rfl⟩, M2.kept⟩
     have M2 := (HM.out.callB 0 rfl kp (r1 rfl)).take 4
     have HM2 := show Hid _ from M2
     clear r1 r2 kp M2
     go_wp2_with fail
     refine ⟨⟨k + 1, by omega, by go_num, by rw [HP.out, HPRE.out, <- HQ2.out]; rfl, ?_⟩, by simp [intOf]; omega⟩
     rw [HT.out, show c + 1 + (r6 (e.kids.take k) + (1 + O2 e.kids[k])) = c + 1 + r6 (e.kids.take k) + 1 + O2 e.kids[k] by omega]
     exact HM2.out
    have hkn : k = e.kids.length := by omega
    subst hkn
    have HM := show Hid _ from M
    have HS : Hid (A0 nv na (d + 1) c e = true) := HSC.out.trans HPRE.out
    clear M
    go_wp2_with fail
    go_ret
    refine ⟨m7 (by rw [HS.out]), fun _ => ?_, ⟨_, HM.out.blk 0 rfl⟩, HM.out.kept⟩
    have := HM.out.blk 0 rfl
    rw [bQ3 (bP9 _)] at this
    rw [U5]
    exact this
  have k2' : (e.kind == 2) = false := by simp [k2]
  by_cases k3 : e.kind = 3
  ·have qq1 : (e.kind == 3) = true := by simp [k3]
   have qq2 := k2'
   have HRD : Hid (e.kind = 3) := k3
   have hhi : (na : Int) - 1 = A8 nv na e.kind - 1 := by rw [k3]; simp [A8]
   clear k1 k2 k3
   have HNB := show Hid (D2 nv na e = (decide (0 <= e.value) && decide (e.value <= (na : Int) - 1))) from by
    unfold Hid D2; rw [decide_eq_true HQ.out.2, aa0 hhi]; rfl
   clear hhi
   go_wp2_with fail
   refine (D4 e.value 0 _ _).mono ?_
   rintro x w1 ⟨rfl, rfl⟩
   have HNB2 := show Hid (D2 nv na e = (decide (0 <= e.value) && decide (e.value <= (na : Int) - 1))) from HNB.out
   clear HNB
   obtain ⟨qn, hqn⟩ : ∃ qn, qn = (decide (0 <= e.value) && decide (e.value <= (na : Int) - 1)) := ⟨_, rfl⟩
   rw [<- hqn]
   have HN := show Hid (D2 nv na e = qn) from HNB2.out.trans hqn.symm
   clear hqn HNB2
   cases qn
   ·have HF : Hid (A0 nv na (d + 1) c e = false) := N2 HN.out
    have M := HM.out
    clear HM
    go_wp2_with fail
    go_ret
    exact ⟨m7 (by rw [HF.out]), fun h => absurd (h.symm.trans HF.out) (by simp), ⟨_, M.blk 0 rfl⟩, M.kept⟩
   have hl1 : e.kids.length = 1 := by have := HQ.out.2; rw [HRD.out] at this; simp [s7] at this; omega
   have hpos : 0 < (e.kids.length : Int) := by omega
   obtain ⟨a', c', he, -, -, -, hcell⟩ := (HM.out.d 3 rfl).open
   have e1 : ak = a' := by cases he; rfl
   have e2 : ck = c' := by cases he; rfl
   subst e1 e2
   obtain ⟨b, off, kv, rfl, hbk, hf, g0, g1, g2, hkk⟩ := hcell 0 (by omega)
   simp only [Nat.zero_mul, Nat.add_zero] at g0 g1 g2
   have HR := show Hid _ from aE9 HRD.out (by omega)
   clear hcell hkk
   go_wp2_with fail
   refine (ak8 _ _ _ _).mono ?_
   rintro x w2 ⟨rfl, b2⟩
   replace HM := show Hid _ from HM.out.call b2
   obtain ⟨qr, hqr⟩ : ∃ qr, qr = (decide ((e.kids[0]'(by omega)).kind = 1) || decide ((e.kids[0]'(by omega)).kind = 2)) := ⟨_, rfl⟩
   rw [<- hqr]
   have HRR := show Hid (Y3 e = qr) from HR.out.trans hqr.symm
   clear hqr b2 HR g0 g1 g2
   cases qr
   ·have HF : Hid (A0 nv na (d + 1) c e = false) := aI8 HRR.out
    have M := HM.out
    clear HM
    go_wp2_with fail
    go_ret
    exact ⟨m7 (by rw [HF.out]), fun h => absurd (h.symm.trans HF.out) (by simp), ⟨_, M.blk 0 rfl⟩, M.kept⟩
   clear y0 y1 y2 y3 y4
   have y4 := HM.out.c 2 2 rfl rfl
   have HSC : Hid (A0 nv na (d + 1) c e = y8 nv na d (c + 1) e.kids e.kids.length) := Z4 HN.out HRR.out
   go_wp2_with fail
   clear y4
   have HST : Hid (y8 nv na d (c + 1) e.kids 0 = true /\ B6 φ' (fun b => ¬ b = cb) w w2 [.box cb [.int .i64 (c + 1 + r6 (e.kids.take 0) : Nat)], .box w.heap.size [.slice a1 nv c1, .slice a2 na c2, v3], .box (w.heap.size + 1) [.int .i64 e.kind, .int .i64 e.value, .slice (some ⟨b, off, none⟩) e.kids.length ck], .dat (fun w φ => n5 w φ (.slice (some ⟨b, off, none⟩) e.kids.length ck) e.kids)]) := by
    refine ⟨?_, ?_⟩
    ·have := HQ.out.1
     simp [y8, r6]; omega
    rw [show ((c + 1 + r6 (e.kids.take 0) : Nat) : Int) = (c : Int) + 1 by simp [r6]]
    exact HM.out
   go_loopw [71] (fun i wr => ∃ k : Nat, k <= e.kids.length /\ i = .int .i64 k /\ y8 nv na d (c + 1) e.kids k = true /\ B6 φ' (fun b => ¬ b = cb) w wr [.box cb [.int .i64 (c + 1 + r6 (e.kids.take k) : Nat)], .box w.heap.size [.slice a1 nv c1, .slice a2 na c2, v3], .box (w.heap.size + 1) [.int .i64 e.kind, .int .i64 e.value, .slice (some ⟨b, off, none⟩) e.kids.length ck], .dat (fun w φ => n5 w φ (.slice (some ⟨b, off, none⟩) e.kids.length ck) e.kids)]) (fun i _ => e.kids.length - (intOf i).toNat)
   case atStart => exact ⟨0, bR3 _, rfl, HST.out.1, HST.out.2⟩
   case round =>
    clear HM
    obtain ⟨k, hk, rfl, hpre, M⟩ := hrel
    have HPRE := show Hid _ from hpre
    have hle : c + 1 + r6 (e.kids.take k) <= 15 := by unfold y8 at hpre; simp at hpre; exact hpre.2
    clear hpre
    by_cases hlt : k < e.kids.length
    ·have hncb : ¬ Fr φ' [.box cb [.int .i64 (c + 1 + r6 (e.kids.take k) : Nat)], .box w.heap.size [.slice a1 nv c1, .slice a2 na c2, v3], .box (w.heap.size + 1) [.int .i64 e.kind, .int .i64 e.value, .slice (some ⟨b, off, none⟩) e.kids.length ck], .dat (fun w φ => n5 w φ (.slice (some ⟨b, off, none⟩) e.kids.length ck) e.kids)] cb := fun h => h.2 _ bQ4 rfl
     obtain ⟨a', c', he, -, -, -, hcell⟩ := (M.d 3 rfl).open
     cases he
     obtain ⟨b, off, kv, hbo, hbk, hf, g0, g1, g2, hkk⟩ := hcell k hlt
     cases hbo
     obtain ⟨ka, kc, rfl, -, -, -, -⟩ := hkk.open
     have bz : Below wr.heap.size wr (wr.alloc (.cells #[.int .i64 e.kids[k].kind, .int .i64 e.kids[k].value, .slice ka e.kids[k].kids.length kc] 67)) := by go_grown
     have HE := show Hid _ from n5.nice _ _ _ _ _ _ (G0.below bz) hkk
     have HNCB := show Hid _ from hncb
     have x0 := M.c 1 0 rfl rfl
     have x1 := M.c 1 1 rfl rfl
     have x2 := M.c 1 2 rfl rfl
     have s1 : w.heap.size < wr.heap.size := M.lt (r := .box w.heap.size [.slice a1 nv c1, .slice a2 na c2, v3]) (bR1 _ bQ4) rfl
     have HM := show Hid _ from M.box [.int .i64 e.kids[k].kind, .int .i64 e.kids[k].value, .slice ka e.kids[k].kids.length kc] 67
     have HP := show Hid _ from T4 nv na (d := d) (c := c + 1) hlt
     have HX := show Hid (A0 nv na d (c + 1 + r6 (e.kids.take k)) e.kids[k] = false -> A0 nv na (d + 1) c e = false) from fun h => HSC.out.trans (W0 hlt h)
     have HT := show Hid _ from P4 hlt
     clear hcell hncb bz hkk M
     go_wp2_with fail
     refine (ih (deep + 1) (by omega) (by omega) e.kids[k] _ _ (c + 1 + r6 (e.kids.take k)) cb _ ⟨_, rfl, HE.out⟩ HNCB.out (HM.out.blk 0 rfl) hle).mono ?_
     rintro x w2 ⟨rfl, r1, ⟨u, r2⟩, kp⟩
     obtain ⟨q, hq⟩ : ∃ q, q = A0 nv na d (c + 1 + r6 (e.kids.take k)) e.kids[k] := ⟨_, rfl⟩
     rw [<- hq] at r1 ⊢
     have HQ2 := show Hid _ from hq
     clear hq x0 x1 x2 g0 g1 g2
     cases q
     ·have M2 := HM.out.callB 0 rfl kp r2
      have HF := show Hid _ from HX.out HQ2.out.symm
      clear r1 r2 kp
      go_wp2_with fail
      go_ret
      exact ⟨m7 (by rw [HF.out]), fun h => absurd (h.symm.trans HF.out) (by simp), ⟨_, M2.blk 0 rfl⟩, M2.kept⟩
     have M2 := (HM.out.callB 0 rfl kp (r1 rfl)).take 4
     have HM2 := show Hid _ from M2
     clear r1 r2 kp M2
     go_wp2_with fail
     refine ⟨⟨k + 1, by omega, by go_num, by rw [HP.out, HPRE.out, <- HQ2.out]; rfl, ?_⟩, by simp [intOf]; omega⟩
     rw [HT.out, show c + 1 + (r6 (e.kids.take k) + (1 + O2 e.kids[k])) = c + 1 + r6 (e.kids.take k) + 1 + O2 e.kids[k] by omega]
     exact HM2.out
    have hkn : k = e.kids.length := by omega
    subst hkn
    have HM := show Hid _ from M
    have HS : Hid (A0 nv na (d + 1) c e = true) := HSC.out.trans HPRE.out
    clear M
    go_wp2_with fail
    go_ret
    refine ⟨m7 (by rw [HS.out]), fun _ => ?_, ⟨_, HM.out.blk 0 rfl⟩, HM.out.kept⟩
    have := HM.out.blk 0 rfl
    rw [bQ3 (bP9 _)] at this
    rw [U5]
    exact this
  have qq1 : (e.kind == 3) = false := by simp [k3]
  have qq2 := qq1
  have HRD : Hid (Y3 e = true) := by unfold Hid Y3; simp [k3]
  have hhi : (0 : Int) = A8 nv na e.kind - 1 := by unfold A8; rw [if_neg k1, if_neg k2, if_neg k3]; rfl
  clear k1 k2 k3
  have HNB := show Hid (D2 nv na e = (decide (0 <= e.value) && decide (e.value <= 0))) from by
   unfold Hid D2; rw [decide_eq_true HQ.out.2, aa0 hhi]; rfl
  clear hhi
  go_wp2_with fail
  refine (D4 e.value 0 _ _).mono ?_
  rintro x w1 ⟨rfl, rfl⟩
  have HNB2 := show Hid (D2 nv na e = (decide (0 <= e.value) && decide (e.value <= 0))) from HNB.out
  clear HNB
  obtain ⟨qn, hqn⟩ : ∃ qn, qn = (decide (0 <= e.value) && decide (e.value <= 0)) := ⟨_, rfl⟩
  rw [<- hqn]
  have HN := show Hid (D2 nv na e = qn) from HNB2.out.trans hqn.symm
  clear hqn HNB2
  cases qn
  ·have HF : Hid (A0 nv na (d + 1) c e = false) := N2 HN.out
   have M := HM.out
   clear HM
   go_wp2_with fail
   go_ret
   exact ⟨m7 (by rw [HF.out]), fun h => absurd (h.symm.trans HF.out) (by simp), ⟨_, M.blk 0 rfl⟩, M.kept⟩
  have HSC : Hid (A0 nv na (d + 1) c e = y8 nv na d (c + 1) e.kids e.kids.length) := Z4 HN.out HRD.out
  go_wp2_with fail
  clear y0 y1 y2 y3 y4
  have HST : Hid (y8 nv na d (c + 1) e.kids 0 = true /\ B6 φ' (fun b => ¬ b = cb) w W1 [.box cb [.int .i64 (c + 1 + r6 (e.kids.take 0) : Nat)], .box w.heap.size [.slice a1 nv c1, .slice a2 na c2, v3], .box (w.heap.size + 1) [.int .i64 e.kind, .int .i64 e.value, .slice ak e.kids.length ck], .dat (fun w φ => n5 w φ (.slice ak e.kids.length ck) e.kids)]) := by
   refine ⟨?_, ?_⟩
   ·have := HQ.out.1
    simp [y8, r6]; omega
   rw [show ((c + 1 + r6 (e.kids.take 0) : Nat) : Int) = (c : Int) + 1 by simp [r6]]
   exact HM.out
  go_loopw [71] (fun i wr => ∃ k : Nat, k <= e.kids.length /\ i = .int .i64 k /\ y8 nv na d (c + 1) e.kids k = true /\ B6 φ' (fun b => ¬ b = cb) w wr [.box cb [.int .i64 (c + 1 + r6 (e.kids.take k) : Nat)], .box w.heap.size [.slice a1 nv c1, .slice a2 na c2, v3], .box (w.heap.size + 1) [.int .i64 e.kind, .int .i64 e.value, .slice ak e.kids.length ck], .dat (fun w φ => n5 w φ (.slice ak e.kids.length ck) e.kids)]) (fun i _ => e.kids.length - (intOf i).toNat)
  case atStart => exact ⟨0, bR3 _, rfl, HST.out.1, HST.out.2⟩
  case round =>
   clear HM
   obtain ⟨k, hk, rfl, hpre, M⟩ := hrel
   have HPRE := show Hid _ from hpre
   have hle : c + 1 + r6 (e.kids.take k) <= 15 := by unfold y8 at hpre; simp at hpre; exact hpre.2
   clear hpre
   by_cases hlt : k < e.kids.length
   ·have hncb : ¬ Fr φ' [.box cb [.int .i64 (c + 1 + r6 (e.kids.take k) : Nat)], .box w.heap.size [.slice a1 nv c1, .slice a2 na c2, v3], .box (w.heap.size + 1) [.int .i64 e.kind, .int .i64 e.value, .slice ak e.kids.length ck], .dat (fun w φ => n5 w φ (.slice ak e.kids.length ck) e.kids)] cb := fun h => h.2 _ bQ4 rfl
    obtain ⟨a', c', he, -, -, -, hcell⟩ := (M.d 3 rfl).open
    cases he
    obtain ⟨b, off, kv, hbo, hbk, hf, g0, g1, g2, hkk⟩ := hcell k hlt
    cases hbo
    obtain ⟨ka, kc, rfl, -, -, -, -⟩ := hkk.open
    have bz : Below wr.heap.size wr (wr.alloc (.cells #[.int .i64 e.kids[k].kind, .int .i64 e.kids[k].value, .slice ka e.kids[k].kids.length kc] 67)) := by go_grown
    have HE := show Hid _ from n5.nice _ _ _ _ _ _ (G0.below bz) hkk
    have HNCB := show Hid _ from hncb
    have x0 := M.c 1 0 rfl rfl
    have x1 := M.c 1 1 rfl rfl
    have x2 := M.c 1 2 rfl rfl
    have s1 : w.heap.size < wr.heap.size := M.lt (r := .box w.heap.size [.slice a1 nv c1, .slice a2 na c2, v3]) (bR1 _ bQ4) rfl
    have HM := show Hid _ from M.box [.int .i64 e.kids[k].kind, .int .i64 e.kids[k].value, .slice ka e.kids[k].kids.length kc] 67
    have HP := show Hid _ from T4 nv na (d := d) (c := c + 1) hlt
    have HX := show Hid (A0 nv na d (c + 1 + r6 (e.kids.take k)) e.kids[k] = false -> A0 nv na (d + 1) c e = false) from fun h => HSC.out.trans (W0 hlt h)
    have HT := show Hid _ from P4 hlt
    clear hcell hncb bz hkk M
    go_wp2_with fail
    refine (ih (deep + 1) (by omega) (by omega) e.kids[k] _ _ (c + 1 + r6 (e.kids.take k)) cb _ ⟨_, rfl, HE.out⟩ HNCB.out (HM.out.blk 0 rfl) hle).mono ?_
    rintro x w2 ⟨rfl, r1, ⟨u, r2⟩, kp⟩
    obtain ⟨q, hq⟩ : ∃ q, q = A0 nv na d (c + 1 + r6 (e.kids.take k)) e.kids[k] := ⟨_, rfl⟩
    rw [<- hq] at r1 ⊢
    have HQ2 := show Hid _ from hq
    clear hq x0 x1 x2 g0 g1 g2
    cases q
    ·have M2 := HM.out.callB 0 rfl kp r2
     have HF := show Hid _ from HX.out HQ2.out.symm
     clear r1 r2 kp
     go_wp2_with fail
     go_ret
     exact ⟨m7 (by rw [HF.out]), fun h => absurd (h.symm.trans HF.out) (by simp), ⟨_, M2.blk 0 rfl⟩, M2.kept⟩
    have M2 := (HM.out.callB 0 rfl kp (r1 rfl)).take 4
    have HM2 := show Hid _ from M2
    clear r1 r2 kp M2
    go_wp2_with fail
    refine ⟨⟨k + 1, by omega, by go_num, by rw [HP.out, HPRE.out, <- HQ2.out]; rfl, ?_⟩, by simp [intOf]; omega⟩
    rw [HT.out, show c + 1 + (r6 (e.kids.take k) + (1 + O2 e.kids[k])) = c + 1 + r6 (e.kids.take k) + 1 + O2 e.kids[k] by omega]
    exact HM2.out
   have hkn : k = e.kids.length := by omega
   subst hkn
   have HM := show Hid _ from M
   have HS : Hid (A0 nv na (d + 1) c e = true) := HSC.out.trans HPRE.out
   clear M
   go_wp2_with fail
   go_ret
   refine ⟨m7 (by rw [HS.out]), fun _ => ?_, ⟨_, HM.out.blk 0 rfl⟩, HM.out.kept⟩
   have := HM.out.blk 0 rfl
   rw [bQ3 (bP9 _)] at this
   rw [U5]
   exact this
theorem aV7 (nv na : Nat) (e : b9) : A0 nv na 5 0 e = n7 nv na e := by
 have h : (0 + 1 + O2 e <= 15) = (1 + O2 e <= 15) := by rw [bS8]
 unfold A0 n7
 simp only [h]
theorem a84 (a1 a2 : Option Addr) (nv c1 na c2 : Nat) (v3 : Value) (h1 : nv <= 9223372036854775807) (h2 : na <= 9223372036854775807) (e : b9) (φ : Nat -> Prop) (v : Value) (w : World) (h : x3 w φ v e) :
  Calls Tryz.prog 98 #[.agg #[.slice a1 nv c1, .slice a2 na c2, v3], v] w fun x w' => x = .returned (.bool (n7 nv na e)) /\ Below w.heap.size w w' := by
 obtain ⟨kv, rfl, hk⟩ := h
 obtain ⟨W, hW, M⟩ : ∃ W, W = ((w.alloc (.cells #[.slice a1 nv c1, .slice a2 na c2, v3] 25)).alloc (.cells #[.int .i64 e.kind, .int .i64 e.value, kv] 67)).alloc (.cells #[.int .i64 0] 3) /\ B6 (fun _ => True) (fun _ => True) w W [.box w.heap.size [.slice a1 nv c1, .slice a2 na c2, v3], .box (w.heap.size + 1) [.int .i64 e.kind, .int .i64 e.value, kv], .box (w.heap.size + 1 + 1) [.int .i64 0]] :=
  ⟨_, rfl, (((B6.start fun _ _ => trivial).box _ _).box' _ _ (by simp)).box' _ _ (by simp)⟩
 have hb := M.below fun _ _ => trivial
 have HK := show Hid _ from n5.nice _ _ _ _ φ (fun b => φ b /\ b < w.heap.size) ⟨hb.size, fun b hl hf => ⟨⟨hf, hl⟩, hb.block b hl⟩⟩ hk
 clear hb hk
 have x0 := M.c 0 0 rfl rfl
 have x1 := M.c 0 1 rfl rfl
 have x2 := M.c 0 2 rfl rfl
 have y0 := M.c 1 0 rfl rfl
 have y1 := M.c 1 1 rfl rfl
 have y2 := M.c 1 2 rfl rfl
 have HM := show Hid _ from M
 rw [hW] at x0 x1 x2 y0 y1 y2
 clear M
 go_enter Tryz.func98, Tryz.ntmps98
 go_wp2_with fail
 rw [<- hW]
 clear hW x0 x1 x2 y0 y1 y2
 refine (a83 a1 a2 nv c1 na c2 v3 h1 h2 5 1 (by omega) (by omega) e _ _ 0 _ _ ⟨kv, rfl, HK.out⟩ (fun h => by have := h.2; omega) (HM.out.blk 2 rfl) (by omega)).mono ?_
 rintro x w1 ⟨rfl, -, ⟨u, r2⟩, kp⟩
 rw [aV7]
 have M := HM.out.callB 2 rfl kp r2
 have HB := show Hid _ from M.below fun _ _ => trivial
 clear kp r2 M
 go_wp2_with fail
 go_ret
 exact ⟨rfl, HB.out⟩
theorem a66 {ks ls : List b9} {k : Nat} (h1 : k < ks.length) (h2 : k < ls.length) (h : Y2 ks[k] ls[k] = false) : N3 ks ls = false := by
 cases hs : N3 ks ls
 ·rfl
 have := (Y1 ks ls).1 hs
 subst this
 rw [(ac6 _ _).2 rfl] at h; cases h
theorem a65 {ks ls : List b7} {k : Nat} (h1 : k < ks.length) (h2 : k < ls.length) (h : aw2 ks[k] ls[k] = false) : I2 ks ls = false := by
 cases hs : I2 ks ls
 ·rfl
 have := (P7 ks ls).1 hs
 subst this
 rw [(aw1 _ _).2 rfl] at h; cases h
def EqE (e : b9) : Prop := ∀ (φ φ' : Nat -> Prop) (v u : Value) (e' : b9) (w : World), x3 w φ v e -> x3 w φ' u e' ->
 Calls Tryz.prog 92 #[v, u] w fun x w' => x = .returned (.bool (Y2 e e')) /\ Below w.heap.size w w'
theorem aY9 (ks : List b9) (ih : ∀ e ∈ ks, EqE e) (φ φ' : Nat -> Prop) (v u : Value) (ls : List b9) (w : World) (h : n5 w φ v ks) (h' : n5 w φ' u ls) :
  Calls Tryz.prog 116 #[v, u] w fun x w' => x = .returned (.bool (N3 ks ls)) /\ Below w.heap.size w w' := by
 obtain ⟨a, cap, rfl, -, hn, -, hc⟩ := h.open
 obtain ⟨a', cap', rfl, -, hn', -, hc'⟩ := h'.open
 have HC := show Hid _ from hc
 have HC' := show Hid _ from hc'
 clear hc hc' h h'
 by_cases hl : ks.length = ls.length
 ·have heq : ((ks.length : Int) == (ls.length : Int)) = true := by simp; omega
  have HL := show Hid _ from hl
  clear hl
  go_enter Tryz.func116, Tryz.ntmps116
  go_wp2
  go_loopw [5] (fun i wr => ∃ k : Nat, k <= ks.length /\ i = .int .i64 k /\ ks.take k = ls.take k /\ Below w.heap.size w wr) (fun i _ => ks.length - (intOf i).toNat)
  case atStart => exact ⟨0, bR3 _, rfl, rfl, Below.refl _ _⟩
  case round =>
   obtain ⟨k, hk, rfl, ht, hb⟩ := hrel
   have HT := show Hid _ from ht
   have HB := show Hid _ from hb
   clear ht hb
   by_cases hlt : k < ks.length
   ·have hlt2 : k < ls.length := by have := HL.out; omega
    obtain ⟨b, off, kv, rfl, hbk, hf, c0, c1, c2, hkv⟩ := HC.out k hlt
    obtain ⟨b', off', kv', rfl, hbk', hf', d0, d1, d2, hkv'⟩ := HC'.out k hlt2
    rw [<- (x7 HB.out).1 _ _ hbk] at c0 c1 c2
    rw [<- (x7 HB.out).1 _ _ hbk'] at d0 d1 d2
    obtain ⟨q, hq⟩ : ∃ q, q = Y2 ks[k] ls[k] := ⟨_, rfl⟩
    have HC3 : Hid (∀ X, Calls Tryz.prog 92 #[.agg #[.int .i64 ks[k].kind, .int .i64 ks[k].value, kv], .agg #[.int .i64 ls[k].kind, .int .i64 ls[k].value, kv']] (wr.ext X) fun e w'' => e = .returned (.bool q) /\ ∃ Y, w'' = wr.ext Y) := fun X => by
     have bb := HB.out.trans ((l7 wr X).mono HB.out.size)
     rw [hq]
     exact Calls.ext_of' (ih _ (bP5 hlt) φ φ' _ _ _ _ ⟨kv, rfl, n5.nice _ _ _ _ _ _ (G0.below bb) hkv⟩ ⟨kv', rfl, n5.nice _ _ _ _ _ _ (G0.below bb) hkv'⟩)
    have HQ := show Hid _ from hq
    have j0 := fun X => b6 c0 X
    have j1 := fun X => b6 c1 X
    have j2 := fun X => b6 c2 X
    have i0 := fun X => b6 d0 X
    have i1 := fun X => b6 d1 X
    have i2 := fun X => b6 d2 X
    clear hkv hkv' hq c0 c1 c2 d0 d1 d2
    cases q
    ·go_wp2_with fail
     refine n6 (by kernel_rfl) (by kernel_rfl) ?_
     repeat (any_goals (first | go_big_quiet_step (((go_at_call 92; exact HC3.out _))) | quiet_step (((go_at_call 92; exact HC3.out _)))))
     refine wpQuiet_nil ?_
     rintro _ ⟨X, rfl⟩
     go_wp2_with fail
     go_ret
     exact ⟨m7 (a66 hlt hlt2 HQ.out.symm).symm, HB.out.trans ((l7 wr X).mono HB.out.size)⟩
    go_wp2_with fail
    refine n6 (by kernel_rfl) (by kernel_rfl) ?_
    repeat (any_goals (first | go_big_quiet_step (((go_at_call 92; exact HC3.out _))) | quiet_step (((go_at_call 92; exact HC3.out _)))))
    refine wpQuiet_nil ?_
    rintro _ ⟨X, rfl⟩
    go_wp2_with fail
    exact ⟨⟨k + 1, by omega, by go_num, Z2 HT.out hlt hlt2 ((ac6 _ _).1 HQ.out.symm), HB.out.trans ((l7 wr X).mono HB.out.size)⟩, by simp [intOf]; omega⟩
   have hge : ¬ ((k : Int) < (ks.length : Int)) := by omega
   go_wp2_with fail
   go_ret
   exact ⟨m7 (by rw [V6 HT.out (by omega) (by have := HL.out; omega)]; exact ((Y1 _ _).2 rfl).symm), HB.out⟩
 have hne : ((ks.length : Int) == (ls.length : Int)) = false := by simp; omega
 have HL := show Hid _ from hl
 clear hl
 go_enter Tryz.func116, Tryz.ntmps116
 go_wp2
 go_ret
 exact ⟨m7 (aV9 HL.out).symm, Below.refl _ _⟩
theorem az4 (e : b9) : EqE e := by
 refine b9.ind (P := EqE) (fun k n ks ih => ?_) e
 intro φ φ' v u e' w h h'
 obtain ⟨kv, rfl, hk⟩ := h
 obtain ⟨ku, rfl, hk'⟩ := h'
 simp only [b9.kind, b9.value, b9.kids] at hk ⊢
 cases e' with
 | mk k' n' ks' =>
 have HS : Hid (Y2 ⟨k, n, ks⟩ ⟨k', n', ks'⟩ = (decide (k = k') && decide (n = n') && N3 ks ks')) := rfl
 simp only [b9.kind, b9.value, b9.kids] at hk' ⊢
 obtain ⟨W, hW, M⟩ : ∃ W, W = (w.alloc (.cells #[.int .i64 k, .int .i64 n, kv] 67)).alloc (.cells #[.int .i64 k', .int .i64 n', ku] 67) /\ B6 (fun _ => True) (fun _ => True) w W [.box w.heap.size [.int .i64 k, .int .i64 n, kv], .box (w.heap.size + 1) [.int .i64 k', .int .i64 n', ku]] :=
  ⟨_, rfl, ((B6.start fun _ _ => trivial).box _ _).box' _ _ (by simp)⟩
 have HK := show Hid (n5 W φ kv ks /\ n5 W φ' ku ks') from ⟨n5.nice _ _ _ _ _ _ (G0.below (M.below fun _ _ => trivial)) hk, n5.nice _ _ _ _ _ _ (G0.below (M.below fun _ _ => trivial)) hk'⟩
 have HB := show Hid _ from M.below fun _ _ => trivial
 have c0 := M.c 0 0 rfl rfl
 have c1 := M.c 0 1 rfl rfl
 have c2 := M.c 0 2 rfl rfl
 have d0 := M.c 1 0 rfl rfl
 have d1 := M.c 1 1 rfl rfl
 have d2 := M.c 1 2 rfl rfl
 rw [hW] at c0 c1 c2 d0 d1 d2
 clear hk hk' M
 by_cases q0 : k = k'
 ·have p0 : (k == k') = true := by simp [q0]
  by_cases q1 : n = n'
  ·have p1 : (n == n') = true := by simp [q1]
   have Q := show Hid _ from And.intro q0 q1
   clear q0 q1
   go_enter Tryz.func92, Tryz.ntmps92
   go_wp2_with fail
   rw [<- hW]
   clear hW c0 c1 c2 d0 d1 d2
   refine (aY9 ks ih φ φ' kv ku ks' _ HK.out.1 HK.out.2).mono ?_
   rintro x w1 ⟨rfl, b1⟩
   have B1 := show Hid _ from HB.out.trans (b1.mono HB.out.size)
   obtain ⟨q, hq⟩ : ∃ q, q = N3 ks ks' := ⟨_, rfl⟩
   rw [<- hq]
   have HQ := show Hid _ from hq
   clear hq
   cases q
   ·go_wp2_with fail
    go_ret
    exact ⟨m7 (by rw [HS.out, <- HQ.out]; simp), B1.out⟩
   go_wp2_with fail
   go_ret
   exact ⟨m7 (by rw [HS.out, <- HQ.out]; simp [Q.out.1, Q.out.2]), B1.out⟩
  have p1 : (n == n') = false := by simp [q1]
  have Q := show Hid _ from q1
  clear q0 q1
  go_enter Tryz.func92, Tryz.ntmps92
  go_wp2_with fail
  go_ret
  exact ⟨m7 (by rw [HS.out, show decide (n = n') = false from decide_eq_false Q.out]; simp), by rw [<- hW]; exact HB.out⟩
 have p0 : (k == k') = false := by simp [q0]
 have Q := show Hid _ from q0
 clear q0
 go_enter Tryz.func92, Tryz.ntmps92
 go_wp2_with fail
 go_ret
 exact ⟨m7 (by rw [HS.out, show decide (k = k') = false from decide_eq_false Q.out]; simp), by rw [<- hW]; exact HB.out⟩
def EqS (e : b7) : Prop := ∀ (φ φ' : Nat -> Prop) (v u : Value) (e' : b7) (w : World), as0 w φ v e -> as0 w φ' u e' ->
 Calls Tryz.prog 53 #[v, u] w fun x w' => x = .returned (.bool (aw2 e e')) /\ Below w.heap.size w w'
theorem ai8 (ks : List b7) (ih : ∀ e ∈ ks, EqS e) (φ φ' : Nat -> Prop) (v u : Value) (ls : List b7) (w : World) (h : w6 w φ v ks) (h' : w6 w φ' u ls) :
  Calls Tryz.prog 25 #[v, u] w fun x w' => x = .returned (.bool (I2 ks ls)) /\ Below w.heap.size w w' := by
 obtain ⟨a, cap, rfl, -, hn, -, hc⟩ := h.open
 obtain ⟨a', cap', rfl, -, hn', -, hc'⟩ := h'.open
 have HC := show Hid _ from hc
 have HC' := show Hid _ from hc'
 clear hc hc' h h'
 by_cases hl : ks.length = ls.length
 ·have heq : ((ks.length : Int) == (ls.length : Int)) = true := by simp; omega
  have HL := show Hid _ from hl
  clear hl
  go_enter Tryz.func25, Tryz.ntmps25
  go_wp2
  go_loopw [5] (fun i wr => ∃ k : Nat, k <= ks.length /\ i = .int .i64 k /\ ks.take k = ls.take k /\ Below w.heap.size w wr) (fun i _ => ks.length - (intOf i).toNat)
  case atStart => exact ⟨0, bR3 _, rfl, rfl, Below.refl _ _⟩
  case round =>
   obtain ⟨k, hk, rfl, ht, hb⟩ := hrel
   have HT := show Hid _ from ht
   have HB := show Hid _ from hb
   clear ht hb
   by_cases hlt : k < ks.length
   ·have hlt2 : k < ls.length := by have := HL.out; omega
    obtain ⟨b, off, iv, vv, bv, ev, rfl, hbk, hf, ⟨c0, c1, c2, c3, c4, c5, c6, c7, c8, c9, c10⟩, g1, g2, g3, g4⟩ := HC.out k hlt
    obtain ⟨b', off', iv', vv', bv', ev', rfl, hbk', hf', ⟨d0, d1, d2, d3, d4, d5, d6, d7, d8, d9, d10⟩, g1', g2', g3', g4'⟩ := HC'.out k hlt2
    rw [<- (x7 HB.out).1 _ _ hbk] at c0 c1 c2 c3 c4 c5 c6 c7 c8 c9 c10
    rw [<- (x7 HB.out).1 _ _ hbk'] at d0 d1 d2 d3 d4 d5 d6 d7 d8 d9 d10
    obtain ⟨q, hq⟩ : ∃ q, q = aw2 ks[k] ls[k] := ⟨_, rfl⟩
    have HC3 : Hid (∀ X, Calls Tryz.prog 53 #[.agg #[.int .i64 ks[k].kind, .int .i64 ks[k].target, .int .i64 ks[k].index.kind, .int .i64 ks[k].index.value, iv, .int .i64 ks[k].value.kind, .int .i64 ks[k].value.value, vv, .int .i64 ks[k].count, bv, ev], .agg #[.int .i64 ls[k].kind, .int .i64 ls[k].target, .int .i64 ls[k].index.kind, .int .i64 ls[k].index.value, iv', .int .i64 ls[k].value.kind, .int .i64 ls[k].value.value, vv', .int .i64 ls[k].count, bv', ev']] (wr.ext X) fun e w'' => e = .returned (.bool q) /\ ∃ Y, w'' = wr.ext Y) := fun X => by
     have bb := HB.out.trans ((l7 wr X).mono HB.out.size)
     rw [hq]
     exact Calls.ext_of' (ih _ (bP5 hlt) φ φ' _ _ _ _ (as0.nice _ _ _ _ _ _ (G0.below bb) ⟨iv, vv, bv, ev, rfl, g1, g2, g3, g4⟩) (as0.nice _ _ _ _ _ _ (G0.below bb) ⟨iv', vv', bv', ev', rfl, g1', g2', g3', g4'⟩))
    have HQ := show Hid _ from hq
    have j0 := fun X => b6 c0 X
    have j1 := fun X => b6 c1 X
    have j2 := fun X => b6 c2 X
    have j3 := fun X => b6 c3 X
    have j4 := fun X => b6 c4 X
    have j5 := fun X => b6 c5 X
    have j6 := fun X => b6 c6 X
    have j7 := fun X => b6 c7 X
    have j8 := fun X => b6 c8 X
    have j9 := fun X => b6 c9 X
    have j10 := fun X => b6 c10 X
    have i0 := fun X => b6 d0 X
    have i1 := fun X => b6 d1 X
    have i2 := fun X => b6 d2 X
    have i3 := fun X => b6 d3 X
    have i4 := fun X => b6 d4 X
    have i5 := fun X => b6 d5 X
    have i6 := fun X => b6 d6 X
    have i7 := fun X => b6 d7 X
    have i8 := fun X => b6 d8 X
    have i9 := fun X => b6 d9 X
    have i10 := fun X => b6 d10 X
    clear g1 g2 g3 g4 g1' g2' g3' g4' hq c0 d0 c1 d1 c2 d2 c3 d3 c4 d4 c5 d5 c6 d6 c7 d7 c8 d8 c9 d9 c10 d10
    cases q
    ·go_wp2_with fail
     refine n6 (by kernel_rfl) (by kernel_rfl) ?_
     repeat (any_goals (first | go_big_quiet_step (((go_at_call 53; exact HC3.out _))) | quiet_step (((go_at_call 53; exact HC3.out _)))))
     refine wpQuiet_nil ?_
     rintro _ ⟨X, rfl⟩
     go_wp2_with fail
     go_ret
     exact ⟨m7 (a65 hlt hlt2 HQ.out.symm).symm, HB.out.trans ((l7 wr X).mono HB.out.size)⟩
    go_wp2_with fail
    refine n6 (by kernel_rfl) (by kernel_rfl) ?_
    repeat (any_goals (first | go_big_quiet_step (((go_at_call 53; exact HC3.out _))) | quiet_step (((go_at_call 53; exact HC3.out _)))))
    refine wpQuiet_nil ?_
    rintro _ ⟨X, rfl⟩
    go_wp2_with fail
    exact ⟨⟨k + 1, by omega, by go_num, Z2 HT.out hlt hlt2 ((aw1 _ _).1 HQ.out.symm), HB.out.trans ((l7 wr X).mono HB.out.size)⟩, by simp [intOf]; omega⟩
   have hge : ¬ ((k : Int) < (ks.length : Int)) := by omega
   go_wp2_with fail
   go_ret
   exact ⟨m7 (by rw [V6 HT.out (by omega) (by have := HL.out; omega)]; exact ((P7 _ _).2 rfl).symm), HB.out⟩
 have hne : ((ks.length : Int) == (ls.length : Int)) = false := by simp; omega
 have HL := show Hid _ from hl
 clear hl
 go_enter Tryz.func25, Tryz.ntmps25
 go_wp2
 go_ret
 exact ⟨m7 (aV8 HL.out).symm, Below.refl _ _⟩
theorem aY8 (s : b7) : EqS s := by
 refine b7.ind (P := EqS) (fun k t i v c b e ihb ihe => ?_) s
 intro φ φ' x u s' w h h'
 obtain ⟨iv, vv, bv, ev, rfl, g1, g2, g3, g4⟩ := h
 obtain ⟨iv', vv', bv', ev', rfl, g1', g2', g3', g4'⟩ := h'
 cases s' with
 | mk k' t' i' v' c' b' e' =>
 have HS : Hid (aw2 ⟨k, t, i, v, c, b, e⟩ ⟨k', t', i', v', c', b', e'⟩ = (decide (k = k') && decide (t = t') && Y2 i i' && Y2 v v' && decide (c = c') && I2 b b' && I2 e e')) := rfl
 simp only [b7.index, b7.value, b7.body, b7.els, b7.kind, b7.target, b7.count] at g1 g2 g3 g4 g1' g2' g3' g4' ⊢
 obtain ⟨W, hW, M⟩ : ∃ W, W = (w.alloc (.cells #[.int .i64 k, .int .i64 t, .int .i64 i.kind, .int .i64 i.value, iv, .int .i64 v.kind, .int .i64 v.value, vv, .int .i64 c, bv, ev] 69)).alloc (.cells #[.int .i64 k', .int .i64 t', .int .i64 i'.kind, .int .i64 i'.value, iv', .int .i64 v'.kind, .int .i64 v'.value, vv', .int .i64 c', bv', ev'] 69) /\ B6 (fun _ => True) (fun _ => True) w W [.box w.heap.size [.int .i64 k, .int .i64 t, .int .i64 i.kind, .int .i64 i.value, iv, .int .i64 v.kind, .int .i64 v.value, vv, .int .i64 c, bv, ev], .box (w.heap.size + 1) [.int .i64 k', .int .i64 t', .int .i64 i'.kind, .int .i64 i'.value, iv', .int .i64 v'.kind, .int .i64 v'.value, vv', .int .i64 c', bv', ev']] :=
  ⟨_, rfl, ((B6.start fun _ _ => trivial).box _ _).box' _ _ (by simp)⟩
 have HG := show Hid (∀ W', Below w.heap.size w W' -> x3 W' φ (.agg #[.int .i64 i.kind, .int .i64 i.value, iv]) i /\ x3 W' φ (.agg #[.int .i64 v.kind, .int .i64 v.value, vv]) v /\ w6 W' φ bv b /\ w6 W' φ ev e) from fun W' k =>
  ⟨⟨iv, rfl, n5.nice _ _ _ _ _ _ (G0.below k) g1⟩, ⟨vv, rfl, n5.nice _ _ _ _ _ _ (G0.below k) g2⟩, w6.nice _ _ _ _ _ _ (G0.below k) g3, w6.nice _ _ _ _ _ _ (G0.below k) g4⟩
 have HG' := show Hid (∀ W', Below w.heap.size w W' -> x3 W' φ' (.agg #[.int .i64 i'.kind, .int .i64 i'.value, iv']) i' /\ x3 W' φ' (.agg #[.int .i64 v'.kind, .int .i64 v'.value, vv']) v' /\ w6 W' φ' bv' b' /\ w6 W' φ' ev' e') from fun W' k =>
  ⟨⟨iv', rfl, n5.nice _ _ _ _ _ _ (G0.below k) g1'⟩, ⟨vv', rfl, n5.nice _ _ _ _ _ _ (G0.below k) g2'⟩, w6.nice _ _ _ _ _ _ (G0.below k) g3', w6.nice _ _ _ _ _ _ (G0.below k) g4'⟩
 clear g1 g2 g3 g4 g1' g2' g3' g4'
 have c0 := M.c 0 0 rfl rfl
 have d0 := M.c 1 0 rfl rfl
 have c1 := M.c 0 1 rfl rfl
 have d1 := M.c 1 1 rfl rfl
 have c2 := M.c 0 2 rfl rfl
 have d2 := M.c 1 2 rfl rfl
 have c3 := M.c 0 3 rfl rfl
 have d3 := M.c 1 3 rfl rfl
 have c4 := M.c 0 4 rfl rfl
 have d4 := M.c 1 4 rfl rfl
 rw [hW] at c0 d0 c1 d1 c2 d2 c3 d3 c4 d4
 have HB0 := show Hid _ from M.below fun _ _ => trivial
 have HM := show Hid _ from M
 clear M
 by_cases q0 : k = k'
 rotate_left
 ·have p0 : (k == k') = false := by simp [q0]
  have Q := show Hid _ from q0
  clear q0
  go_enter Tryz.func53, Tryz.ntmps53
  go_wp2_with fail
  go_ret
  exact ⟨m7 (by rw [HS.out, show decide (k = k') = false from decide_eq_false Q.out]; simp), by rw [<- hW]; exact HB0.out⟩
 have p0 : (k == k') = true := by simp [q0]
 by_cases q1 : t = t'
 rotate_left
 ·have p1 : (t == t') = false := by simp [q1]
  have Q := show Hid _ from q1
  clear q0 q1
  go_enter Tryz.func53, Tryz.ntmps53
  go_wp2_with fail
  go_ret
  exact ⟨m7 (by rw [HS.out, show decide (t = t') = false from decide_eq_false Q.out]; simp), by rw [<- hW]; exact HB0.out⟩
 have p1 : (t == t') = true := by simp [q1]
 have Q0 := show Hid _ from And.intro q0 q1
 clear q0 q1
 go_enter Tryz.func53, Tryz.ntmps53
 go_wp2_with fail
 rw [<- hW]
 have M := HM.out
 clear hW HM p0 p1 c0 d0 c1 d1 c2 d2 c3 d3 c4 d4
 refine (az4 i φ φ' _ _ i' _ (HG.out _ (M.below fun _ _ => trivial)).1 (HG'.out _ (M.below fun _ _ => trivial)).1).mono ?_
 rintro x w1 ⟨rfl, b1⟩
 replace M := M.call b1
 clear b1
 obtain ⟨r1, hq⟩ : ∃ q, q = Y2 i i' := ⟨_, rfl⟩
 rw [<- hq]
 have Hr1 := show Hid _ from hq
 clear hq
 have HB := show Hid _ from M.below fun _ _ => trivial
 have c5 := M.c 0 5 rfl rfl
 have d5 := M.c 1 5 rfl rfl
 have c6 := M.c 0 6 rfl rfl
 have d6 := M.c 1 6 rfl rfl
 have c7 := M.c 0 7 rfl rfl
 have d7 := M.c 1 7 rfl rfl
 have HM := show Hid _ from M
 clear M
 cases r1
 ·go_wp2_with fail
  go_ret
  exact ⟨m7 (by rw [HS.out, <- Hr1.out]; simp), HB.out⟩
 go_wp2_with fail
 have M := HM.out
 clear HM HB c5 d5 c6 d6 c7 d7
 refine (az4 v φ φ' _ _ v' _ (HG.out _ (M.below fun _ _ => trivial)).2.1 (HG'.out _ (M.below fun _ _ => trivial)).2.1).mono ?_
 rintro x w1 ⟨rfl, b1⟩
 replace M := M.call b1
 clear b1
 obtain ⟨r2, hq⟩ : ∃ q, q = Y2 v v' := ⟨_, rfl⟩
 rw [<- hq]
 have Hr2 := show Hid _ from hq
 clear hq
 have HB := show Hid _ from M.below fun _ _ => trivial
 have c8 := M.c 0 8 rfl rfl
 have d8 := M.c 1 8 rfl rfl
 have c9 := M.c 0 9 rfl rfl
 have d9 := M.c 1 9 rfl rfl
 have HM := show Hid _ from M
 clear M
 cases r2
 ·go_wp2_with fail
  go_ret
  exact ⟨m7 (by rw [HS.out, <- Hr2.out]; simp), HB.out⟩
 by_cases q4 : c = c'
 rotate_left
 ·have p4 : (c == c') = false := by simp [q4]
  have Q := show Hid _ from q4
  clear q4
  go_wp2_with fail
  go_ret
  exact ⟨m7 (by rw [HS.out, show decide (c = c') = false from decide_eq_false Q.out]; simp), HB.out⟩
 have p4 : (c == c') = true := by simp [q4]
 have Q4 := show Hid _ from q4
 clear q4
 go_wp2_with fail
 have M := HM.out
 clear HM HB p4 c8 d8 c9 d9
 refine (ai8 b ihb φ φ' bv bv' b' _ (HG.out _ (M.below fun _ _ => trivial)).2.2.1 (HG'.out _ (M.below fun _ _ => trivial)).2.2.1).mono ?_
 rintro x w1 ⟨rfl, b1⟩
 replace M := M.call b1
 clear b1
 obtain ⟨r3, hq⟩ : ∃ q, q = I2 b b' := ⟨_, rfl⟩
 rw [<- hq]
 have Hr3 := show Hid _ from hq
 clear hq
 have HB := show Hid _ from M.below fun _ _ => trivial
 have c10 := M.c 0 10 rfl rfl
 have d10 := M.c 1 10 rfl rfl
 have HM := show Hid _ from M
 clear M
 cases r3
 ·go_wp2_with fail
  go_ret
  exact ⟨m7 (by rw [HS.out, <- Hr3.out]; simp), HB.out⟩
 go_wp2_with fail
 have M := HM.out
 clear HM HB c10 d10
 refine (ai8 e ihe φ φ' ev ev' e' _ (HG.out _ (M.below fun _ _ => trivial)).2.2.2 (HG'.out _ (M.below fun _ _ => trivial)).2.2.2).mono ?_
 rintro x w1 ⟨rfl, b1⟩
 replace M := M.call b1
 clear b1
 obtain ⟨r4, hq⟩ : ∃ q, q = I2 e e' := ⟨_, rfl⟩
 rw [<- hq]
 have Hr4 := show Hid _ from hq
 clear hq
 have HB := show Hid _ from M.below fun _ _ => trivial
 have HM := show Hid _ from M
 clear M
 cases r4
 ·go_wp2_with fail
  go_ret
  exact ⟨m7 (by rw [HS.out, <- Hr4.out]; simp), HB.out⟩
 go_wp2_with fail
 go_ret
 exact ⟨m7 (by rw [HS.out, <- Hr1.out, <- Hr2.out, <- Hr3.out, <- Hr4.out, decide_eq_true Q0.out.1, decide_eq_true Q0.out.2, decide_eq_true Q4.out]; rfl), HB.out⟩
theorem aC2 (φ φ' : Nat -> Prop) (x u : Value) (p q : o6) (w : World) (h : aG5 w φ x p) (h' : aG5 w φ' u q) :
  Calls Tryz.prog 7 #[x, u] w fun e w' => e = .returned (.bool (p.same q)) /\ Below w.heap.size w w' := by
 obtain ⟨v1, v2, v3, rfl, h1, h2, h3⟩ := h
 obtain ⟨u1, u2, u3, rfl, k1, k2, k3⟩ := h'
 have HS : Hid (p.same q = (decide (p.vars = q.vars) && decide (p.arrays = q.arrays) && I2 p.body q.body)) := rfl
 obtain ⟨W, hW, M⟩ : ∃ W, W = (w.alloc (.cells #[v1, v2, v3] 25)).alloc (.cells #[u1, u2, u3] 25) /\ B6 (fun _ => True) (fun _ => True) w W [.box w.heap.size [v1, v2, v3], .box (w.heap.size + 1) [u1, u2, u3]] :=
  ⟨_, rfl, ((B6.start fun _ _ => trivial).box _ _).box' _ _ (by simp)⟩
 have HG := show Hid (∀ W', Below w.heap.size w W' -> (W7 W' v1 p.vars.length 1 (ints p.vars) /\ W7 W' v2 p.arrays.length 1 (ints p.arrays) /\ w6 W' φ v3 p.body) /\ (W7 W' u1 q.vars.length 1 (ints q.vars) /\ W7 W' u2 q.arrays.length 1 (ints q.arrays) /\ w6 W' φ' u3 q.body)) from fun W' k =>
  ⟨⟨h1.row.below k, h2.row.below k, w6.nice _ _ _ _ _ _ (G0.below k) h3⟩, k1.row.below k, k2.row.below k, w6.nice _ _ _ _ _ _ (G0.below k) k3⟩
 clear h1 h2 h3 k1 k2 k3
 have c0 := M.c 0 0 rfl rfl
 have d0 := M.c 1 0 rfl rfl
 rw [hW] at c0 d0
 have HM := show Hid _ from M
 clear M
 go_enter Tryz.func7, Tryz.ntmps7
 go_wp2_with fail
 rw [<- hW]
 have M := HM.out
 clear hW HM c0 d0
 refine (az3 _ _ p.vars q.vars _ (HG.out _ (M.below fun _ _ => trivial)).1.1 (HG.out _ (M.below fun _ _ => trivial)).2.1).mono ?_
 rintro x w1 ⟨rfl, n1, rfl⟩
 replace M := M.call (below_drewN (Below.refl _ _) n1)
 obtain ⟨r1, hq⟩ : ∃ r, r = decide (p.vars = q.vars) := ⟨_, rfl⟩
 rw [<- hq]
 have Hr1 := show Hid _ from hq
 clear hq
 have HB := show Hid _ from M.below fun _ _ => trivial
 have c1 := M.c 0 1 rfl rfl
 have d1 := M.c 1 1 rfl rfl
 have HM := show Hid _ from M
 clear M
 cases r1
 ·go_wp2_with fail
  go_ret
  exact ⟨m7 (by rw [HS.out, <- Hr1.out]; simp), HB.out⟩
 go_wp2_with fail
 have M := HM.out
 clear HM HB c1 d1
 refine (az3 _ _ p.arrays q.arrays _ (HG.out _ (M.below fun _ _ => trivial)).1.2.1 (HG.out _ (M.below fun _ _ => trivial)).2.2.1).mono ?_
 rintro x w1 ⟨rfl, n2, rfl⟩
 replace M := M.call (below_drewN (Below.refl _ _) n2)
 rw [World.drewN_drewN] at M
 obtain ⟨r2, hq⟩ : ∃ r, r = decide (p.arrays = q.arrays) := ⟨_, rfl⟩
 rw [<- hq]
 have Hr2 := show Hid _ from hq
 clear hq
 have HB := show Hid _ from M.below fun _ _ => trivial
 have c2 := M.c 0 2 rfl rfl
 have d2 := M.c 1 2 rfl rfl
 have HM := show Hid _ from M
 clear M
 cases r2
 ·go_wp2_with fail
  go_ret
  exact ⟨m7 (by rw [HS.out, <- Hr2.out]; simp), HB.out⟩
 go_wp2_with fail
 have M := HM.out
 clear HM HB c2 d2
 refine (ai8 p.body (fun s _ => aY8 s) φ φ' v3 u3 q.body _ (HG.out _ (M.below fun _ _ => trivial)).1.2.2 (HG.out _ (M.below fun _ _ => trivial)).2.2.2).mono ?_
 rintro x w1 ⟨rfl, b1⟩
 replace M := M.call b1
 clear b1
 obtain ⟨r3, hq⟩ : ∃ r, r = I2 p.body q.body := ⟨_, rfl⟩
 rw [<- hq]
 have Hr3 := show Hid _ from hq
 clear hq
 have HB := show Hid _ from M.below fun _ _ => trivial
 clear M
 cases r3
 ·go_wp2_with fail
  go_ret
  exact ⟨m7 (by rw [HS.out, <- Hr3.out]; simp), HB.out⟩
 go_wp2_with fail
 go_ret
 exact ⟨m7 (by rw [HS.out, <- Hr1.out, <- Hr2.out, <- Hr3.out]; rfl), HB.out⟩
def ae5 (ss : List b7) : Prop := ∀ (φ : Nat -> Prop) (v : Value) (k : Int) (w : World), w6 w φ v (Y4 ss k) -> 0 <= k -> k + W4 ss <= 9000000000000000000 ->
 Calls Tryz.prog 29 #[v, .int .i64 k] w fun x w' => x = .returned (.int .i64 (k + W4 ss)) /\ Below w.heap.size w w'
theorem aa1 /- 29 -/ (ks : List b7) (ih : ∀ s ∈ ks, ae5 s.body /\ ae5 s.els) : ae5 ks := by
 intro φ v k0 w h hk0 hkb
 obtain ⟨a, cap, rfl, -, hn, -, hc⟩ := h.open
 rw [L2] at hn ⊢
 have HC := show Hid _ from hc
 have HKB := show Hid _ from hkb
 clear hc h hkb
 go_enter Tryz.func29, Tryz.ntmps29
 go_wp2_with fail
 go_loopw [1, 5] (fun q i wr => ∃ (j : Nat) (y : Int), j <= ks.length /\ i = .int .i64 j /\ q = .int .i64 y /\ y = k0 + W4 (ks.take j) /\ Below w.heap.size w wr) (fun _ i _ => ks.length - (intOf i).toNat)
 case atStart => exact ⟨0, k0, bR3 _, rfl, rfl, by simp [W4], Below.refl _ _⟩
 case round =>
  obtain ⟨j, y, hj, rfl, rfl, hy, hb⟩ := hrel
  have HY := show Hid _ from hy
  have HB := show Hid _ from hb
  clear hy hb
  by_cases hlt : j < ks.length
  ·obtain ⟨b, off, iv, vv, bv, ev, rfl, hbk, hf, hcell, g1, g2, g3, g4⟩ := HC.out j (by rw [L2]; exact hlt)
   have hge := ax3 ks k0 j hlt
   rw [<- HY.out, bO7 (by rw [L2]; exact hlt)] at hge
   rw [Option.some.inj hge] at hcell g1 g2 g3 g4
   have hih := ih _ (bP5 hlt)
   have ht1 := aF2 hlt
   have hdr := aP8 ks (j + 1)
   obtain ⟨s, hsj⟩ : ∃ s, s = ks[j] := ⟨_, rfl⟩
   rw [<- hsj] at hcell g1 g2 g3 g4 hih ht1
   have hdef := aQ0 s
   have hnb := (A4 s.body).1
   have hne := (A4 s.els).1
   have hnt := (A4 (ks.take j)).1
   have hnd := (A4 (ks.drop (j + 1))).1
   obtain ⟨A, hA⟩ : ∃ A : Int, A = 2 * r6 s.index.kids := ⟨_, rfl⟩
   obtain ⟨B, hB⟩ : ∃ B : Int, B = 2 * r6 s.value.kids := ⟨_, rfl⟩
   obtain ⟨C, hC⟩ : ∃ C : Int, C = W4 s.body := ⟨_, rfl⟩
   obtain ⟨D, hD⟩ : ∃ D : Int, D = W4 s.els := ⟨_, rfl⟩
   have hA0 : 0 <= A := by omega
   have hB0 : 0 <= B := by omega
   have hC0 : 0 <= C := by omega
   have hD0 : 0 <= D := by omega
   have hy0 : 0 <= y := by have := HY.out; omega
   have hy1 : y + 7 + A + B + C + D <= 9000000000000000000 := by have := HY.out; have := HKB.out; omega
   have hyn : y + 7 + A + B + C + D = k0 + W4 (ks.take (j + 1)) := by have := HY.out; omega
   rw [a34 s y A B hA hB, <- hC] at hcell g1 g2 g3 g4
   simp only [b7.kind, b7.target, b7.index, b7.value, b7.count, b7.body, b7.els, b9.kind, b9.value, b9.kids] at hcell g1 g2 g3 g4
   have HCC := show Hid (∀ W, Below w.heap.size w W -> ∀ o, W.cell? ⟨b, o, none⟩ = w.cell? ⟨b, o, none⟩) from fun W hW o => (x7 hW).1 _ _ hbk
   have HG := show Hid _ from And.intro g1 (And.intro g2 (And.intro g3 g4))
   have HE := show Hid _ from And.intro hA (And.intro hB (And.intro hC hD))
   have HIH := show Hid _ from hih
   have HYN := show Hid _ from hyn
   have HCE := show Hid _ from hcell
   clear hih hA hB hC hD hcell g1 g2 g3 g4 hge ht1 hdr hdef hnb hne hnt hnd hsj hyn
   obtain ⟨c0, c1, c2, c3, c4, c5, c6, c7, c8, c9, c10⟩ := HCE.out
   rw [<- HCC.out _ HB.out] at c0 c1 c2 c3 c4
   clear c5 c6 c7 c8 c9 c10
   go_wp2_with fail
   clear c0 c1 c2 c3 c4
   refine (ag8 s.index.kids φ iv (y + 1 + 1 + 1 + 1) _ (n5.nice _ _ _ _ _ _ (G0.below HB.out) HG.out.1) (by omega) (by have := HE.out.1; omega)).mono ?_
   rintro x w1 ⟨rfl, b1⟩
   rw [<- HE.out.1]
   have B1 := show Hid _ from HB.out.trans (b1.mono HB.out.size)
   clear b1
   obtain ⟨c0, c1, c2, c3, c4, c5, c6, c7, c8, c9, c10⟩ := HCE.out
   rw [<- HCC.out _ B1.out] at c5 c6 c7
   clear c0 c1 c2 c3 c4 c8 c9 c10
   go_wp2_with fail
   clear c5 c6 c7
   refine (ag8 s.value.kids φ vv (y + 1 + 1 + 1 + 1 + A + 1 + 1) _ (n5.nice _ _ _ _ _ _ (G0.below B1.out) HG.out.2.1) (by omega) (by have := HE.out.2.1; omega)).mono ?_
   rintro x w2 ⟨rfl, b1⟩
   rw [<- HE.out.2.1]
   have B2 := show Hid _ from B1.out.trans (b1.mono B1.out.size)
   clear b1
   obtain ⟨c0, c1, c2, c3, c4, c5, c6, c7, c8, c9, c10⟩ := HCE.out
   rw [<- HCC.out _ B2.out] at c8 c9
   clear c0 c1 c2 c3 c4 c5 c6 c7 c10
   go_wp2_with fail
   clear c8 c9
   refine (HIH.out.1 φ bv (y + 1 + 1 + 1 + 1 + A + 1 + 1 + B + 1) _ (w6.nice _ _ _ _ _ _ (G0.below B2.out) HG.out.2.2.1) (by omega) (by have := HE.out.2.2.1; omega)).mono ?_
   rintro x w3 ⟨rfl, b1⟩
   rw [<- HE.out.2.2.1]
   have B3 := show Hid _ from B2.out.trans (b1.mono B2.out.size)
   clear b1
   obtain ⟨c0, c1, c2, c3, c4, c5, c6, c7, c8, c9, c10⟩ := HCE.out
   rw [<- HCC.out _ B3.out] at c10
   clear c0 c1 c2 c3 c4 c5 c6 c7 c8 c9
   go_wp2_with fail
   clear c10
   refine (HIH.out.2 φ ev (y + 1 + 1 + 1 + 1 + A + 1 + 1 + B + 1 + C) _ (w6.nice _ _ _ _ _ _ (G0.below B3.out) HG.out.2.2.2) (by omega) (by have := HE.out.2.2.2; omega)).mono ?_
   rintro x w4 ⟨rfl, b1⟩
   rw [<- HE.out.2.2.2]
   have B4 := show Hid _ from B3.out.trans (b1.mono B3.out.size)
   clear b1
   obtain ⟨z, hz⟩ : ∃ z : Int, z = y + 1 + 1 + 1 + 1 + A + 1 + 1 + B + 1 + C + D := ⟨_, rfl⟩
   have HZ := show Hid _ from hz
   rw [<- hz]
   have hz0 : 0 <= z := by omega
   have hz1 : z <= 9000000000000000000 := by omega
   clear hz hy1
   go_wp2_with fail
   exact ⟨⟨j + 1, _, by omega, by go_num, rfl, by have := HZ.out; have := HYN.out; omega, B4.out⟩, by simp [intOf]; omega⟩
  have hjn : j = ks.length := by omega
  subst hjn
  go_wp2_with fail
  go_ret
  exact ⟨L7 (by have := HY.out; rw [bQ3 (bP9 _)] at this; exact this), HB.out⟩
theorem aC1 /- 29 -/ (s : b7) : ae5 s.body /\ ae5 s.els :=
 b7.ind (P := fun s => ae5 s.body /\ ae5 s.els) (fun _ _ _ _ _ b e ihb ihe => ⟨aa1 b ihb, aa1 e ihe⟩) s
theorem aC0 /- 29 -/ (ks : List b7) : ae5 ks := aa1 ks fun s _ => aC1 s
theorem ak2 (v : Value) (xs : List Int) (K : Nat) (w : World) (h : w.ownsRow 0 3 1 v xs.length (ints xs)) (hK : K + xs.length <= 9000000000000000000) :
  Calls Tryz.prog 26 #[v, .int .i64 K] w fun e w' => e = .returned (.int .i64 (K + xs.length : Nat)) /\ w'.ownsRow 0 3 1 v xs.length (ints (D3 K xs.length)) /\ z6 (fun b => ¬ v.ownBlock = some b) w w' := by
 obtain ⟨lo, hi, _, _, ho, hb⟩ := (U3.mk' h).tight
 refine (aK4 v xs K lo hi w ho hK).mono ?_
 rintro e w1 ⟨rfl, h1, h2⟩
 refine ⟨rfl, U1 h1.1 (bR3 _), h2.os, h2.tape, h2.output, h2.size, fun b hb1 hb2 => h2.block b hb1 ?_⟩
 rcases bR6 b lo with h3 | h3
 ·exact .inl h3
 rcases bR6 b hi with h4 | h4
 ·exact absurd (hb b h3 h4) hb2
 exact .inr h4
theorem B6.turnRow {φ ψ : Nat -> Prop} {w0 w w' : World} {L : List U2} (M : B6 φ ψ w0 w L) (i : Nat) {e : TypeId} {sz : Nat} {v : Value} {n : Nat} {xs xs' : List Value} (hi : L[i]? = some (.row e sz v n xs)) (hk : z6 (fun b => ¬ v.ownBlock = some b) w w') (h : w'.ownsRow 0 e sz v n xs') : B6 φ ψ w0 w' (L.set i (.row e sz v n xs')) :=
 M.put hi _ hk h fun _ hg => .inl hg
def mkP (p : o6) (k : Nat) : o6 := ⟨D3 k p.vars.length, D3 (k + p.vars.length) p.arrays.length, Y4 p.body ((k + p.vars.length + p.arrays.length : Nat) : Int)⟩
def J3 (p : o6) : Int := p.vars.length + p.arrays.length + W4 p.body
theorem as4 (v : Value) (p : o6) (k : Nat) (w : World) (S : Nat -> Prop) (h : ae4 w v p S) (hb : k + J3 p <= 9000000000000000000) :
  Calls Tryz.prog 8 #[v, .int .i64 k] w fun x w' => x = .returned (.int .i64 (k + J3 p)) /\ ae4 w' v (mkP p k) S /\ z6 (fun b => ¬ S b) w w' := by
 obtain ⟨v1, v2, v3, S3, rfl, h1, h2, h3, d1, d2, d3⟩ := h
 have hnn := (A4 p.body).1
 have hbb : (k : Int) + p.vars.length + p.arrays.length + W4 p.body <= 9000000000000000000 := by unfold J3 at hb; omega
 obtain ⟨W, hW, M⟩ : ∃ W, W = w.alloc (.cells #[v1, v2, v3] 25) /\ B6 (fun _ => True) (fun b => ¬ S b) w W [.box w.heap.size [v1, v2, v3], .row 3 1 v1 p.vars.length (ints p.vars), .row 3 1 v2 p.arrays.length (ints p.arrays), .own (fun b => S3 b /\ b < w.heap.size) (fun w' => A6 w' v3 p.body (fun b => S3 b /\ b < w.heap.size))] := by
  refine ⟨_, rfl, (((((B6.start fun _ _ => trivial).box [v1, v2, v3] 25).adopt (.row 3 1 v1 p.vars.length (ints p.vars)) ?_ bP7 (D8 h1 fun g hg => ?_) ?_ ?_).adopt (.row 3 1 v2 p.arrays.length (ints p.arrays)) ?_ bP7 (D8 h2 fun g hg => ?_) ?_ ?_).adopt (.own (fun b => S3 b /\ b < w.heap.size) (fun w' => A6 w' v3 p.body (fun b => S3 b /\ b < w.heap.size))) ?_ bP7 ⟨fun _ _ h hs => A6.same h hs, h3.cut.same fun b hb hl => ?_, fun b hb => ?_⟩ ?_ ?_)⟩
  ·intro a ha; simp at ha; subst ha; trivial
  ·exact (Below.refl _ _ |>.alloc (bP9 _) _).block g (World.ownsRow.lt h1 g hg).2
  ·intro a ha g hg h; simp at ha; subst ha; cases h; have := (World.ownsRow.lt h1 _ hg).2; omega
  ·intro g hg hn; exact hn (d1 g hg).1
  ·intro a ha; simp at ha; rcases ha with rfl | rfl <;> trivial
  ·exact (Below.refl _ _ |>.alloc (bP9 _) _).block g (World.ownsRow.lt h2 g hg).2
  ·intro a ha g hg h; simp at ha; rcases ha with rfl | rfl
   ·cases h; have := (World.ownsRow.lt h2 _ hg).2; omega
   exact (d1 g h).2.2 hg
  ·intro g hg hn; exact hn (d2 g hg).1
  ·intro a ha; simp at ha; rcases ha with rfl | rfl | rfl <;> trivial
  ·exact (Below.refl _ _ |>.alloc (bP9 _) _).block b hb.2
  ·simp; have := hb.2; omega
  ·intro a ha g hg h; simp at ha; rcases ha with rfl | rfl | rfl
   ·cases h; have := hg.2; omega
   ·exact (d1 g h).2.1 hg.1
   exact (d2 g h).2 hg.1
  intro g hg hn; exact hn (d3 g hg.1)
 have HD := show Hid _ from And.intro d1 (And.intro d2 d3)
 clear h1 h2 h3 d1 d2 d3
 have c0 := M.c 0 0 rfl rfl
 rw [hW] at c0
 go_enter Tryz.func8, Tryz.ntmps8
 go_wp2_with fail
 rw [<- hW]
 clear hW c0
 refine (ak2 v1 p.vars k _ (M.r 1 rfl) (by omega)).mono ?_
 rintro x w1 ⟨rfl, k1, kp1⟩
 replace M := M.turnRow 1 rfl kp1 k1
 clear k1 kp1
 have c1 := M.c 0 1 rfl rfl
 have HM := show Hid _ from M
 clear M
 go_wp2_with fail
 have M := HM.out
 clear HM c1
 refine (ak2 v2 p.arrays (k + p.vars.length) _ (M.r 2 rfl) (by omega)).mono ?_
 rintro x w2 ⟨rfl, k1, kp1⟩
 replace M := M.turnRow 2 rfl kp1 k1
 clear k1 kp1
 have c2 := M.c 0 2 rfl rfl
 have HM := show Hid _ from M
 clear M
 go_wp2_with fail
 have M := HM.out
 clear HM c2
 refine (aB2 p.body v3 ((k + p.vars.length + p.arrays.length : Nat) : Int) _ _ (M.o 3 rfl) (by omega) (by omega)).mono ?_
 rintro x w3 ⟨rfl, k1, kp1⟩
 replace M := M.turn 3 rfl kp1 (fun _ _ h hs => A6.same h hs) k1
 clear k1 kp1
 have HM := show Hid _ from M
 clear M
 go_wp2_with fail
 go_ret
 have M := HM.out
 obtain ⟨d1, d2, d3⟩ := HD.out
 refine ⟨L7 (by unfold J3; omega), ⟨v1, v2, v3, S3, rfl, ?_, ?_, (show A6 _ v3 (Y4 p.body _) _ from M.o 3 rfl).mono fun _ h => h.1, d1, d2, d3⟩, M.kept⟩
 ·rw [show (mkP p k).vars = D3 k p.vars.length from rfl, Z8]; exact M.r 1 rfl
 rw [show (mkP p k).arrays = D3 (k + p.vars.length) p.arrays.length from rfl, Z8]; exact M.r 2 rfl
theorem as7 (φ : Nat -> Prop) (v : Value) (p : o6) (k : Nat) (w : World) (h : aG5 w φ v (mkP p k)) (hb : k + J3 p <= 9000000000000000000) :
  Calls Tryz.prog 9 #[v, .int .i64 k] w fun x w' => x = .returned (.int .i64 (k + J3 p)) /\ Below w.heap.size w w' := by
 obtain ⟨v1, v2, v3, rfl, h1, h2, h3⟩ := h
 rw [show (mkP p k).vars = D3 k p.vars.length from rfl, Z8] at h1
 rw [show (mkP p k).arrays = D3 (k + p.vars.length) p.arrays.length from rfl, Z8] at h2
 have hnn := (A4 p.body).1
 have hbb : (k : Int) + p.vars.length + p.arrays.length + W4 p.body <= 9000000000000000000 := by unfold J3 at hb; omega
 obtain ⟨W, hW, M⟩ : ∃ W, W = w.alloc (.cells #[v1, v2, v3] 25) /\ B6 (fun _ => True) (fun _ => True) w W [.box w.heap.size [v1, v2, v3]] :=
  ⟨_, rfl, (B6.start fun _ _ => trivial).box _ _⟩
 have HG := show Hid (∀ W', Below w.heap.size w W' -> W7 W' v1 p.vars.length 1 (ints (D3 k p.vars.length)) /\ W7 W' v2 p.arrays.length 1 (ints (D3 (k + p.vars.length) p.arrays.length)) /\ w6 W' φ v3 (Y4 p.body ((k + p.vars.length + p.arrays.length : Nat) : Int))) from fun W' k =>
  ⟨h1.row.below k, h2.row.below k, w6.nice _ _ _ _ _ _ (G0.below k) h3⟩
 clear h1 h2 h3
 have c0 := M.c 0 0 rfl rfl
 have c1 := M.c 0 1 rfl rfl
 have c2 := M.c 0 2 rfl rfl
 have HB0 := show Hid _ from M.below fun _ _ => trivial
 clear M
 rw [hW] at c0
 go_enter Tryz.func9, Tryz.ntmps9
 go_wp2_with fail
 rw [<- hW]
 clear hW c0
 refine (al0 v1 p.vars.length k _ (HG.out _ HB0.out).1 (by omega)).mono ?_
 rintro x w1 ⟨rfl, n1, rfl⟩
 go_wp2_with fail
 have B1 := show Hid _ from below_drewN HB0.out n1
 refine (al0 v2 p.arrays.length (k + p.vars.length) _ (HG.out _ B1.out).2.1 (by omega)).mono ?_
 rintro x w2 ⟨rfl, n2, rfl⟩
 go_wp2_with fail
 have B2 := show Hid _ from below_drewN HB0.out (n1 + n2)
 have hcast : ((k + p.vars.length + p.arrays.length : Nat) : Int) = (k : Int) + p.vars.length + p.arrays.length := by omega
 have HBB : w6 (W.drewN (n1 + n2)) φ v3 (Y4 p.body ((k : Int) + p.vars.length + p.arrays.length)) := by rw [<- hcast]; exact (HG.out _ B2.out).2.2
 clear hcast
 refine (aC0 p.body φ v3 ((k : Int) + p.vars.length + p.arrays.length) _ HBB (by omega) (by omega)).mono ?_
 rintro x w3 ⟨rfl, b1⟩
 have HB := show Hid _ from B2.out.trans (b1.mono B2.out.size)
 clear b1 HBB
 have hn1 : ¬ ((k : Int) + p.vars.length + p.arrays.length + W4 p.body < 0) := by omega
 go_wp2_with fail
 go_ret
 exact ⟨L7 (by unfold J3; omega), HB.out⟩
end Go.Proofs.YtompcdbfongedaaGreatDoor
