/- Part 1: functions on the way, plain laws. Conditions: as said. -/
import Derived.WalkKit
import Derived.ProofKit
import Derived.Handy
import Derived.WalkSmall
import Derived.Deep.QuietTactic
import Derived.BigQuiet
import Derived.StillTailTactics
import Derived.Deep.Quiet
import Derived.StillTail
import Derived.Test.YtompcdbfongedaaGreatDoorRows
import Derived.Maps.AppendAt
import Derived.ArgAppend
import Derived.Deep.Upon
import Derived.Lib.AppendIntMem
set_option maxRecDepth 100000
set_option maxHeartbeats 16000000
set_option linter.unusedVariables false
set_option linter.unusedSimpArgs false
open Bool renaming and_eq_true → b57, eq_iff_iff → b89
open List renaming all_eq_true → b68, append_assoc → b83, eq_nil_of_length_eq_zero → b84, getElem?_append_left → b95, getElem?_eq_getElem → b56, getElem?_eq_none → b87, getElem?_eq_some_iff → b66, getElem?_map → b78, getElem_mem → b64, length_append → b69, length_cons → b58, length_nil → b60, map_cons → b94, mem_append → b73, mem_cons → b76, mem_cons_of_mem → b80, mem_cons_self → b72, mem_of_getElem? → b79, range → b82, replicate → b77, take_of_length_le → b75
open Nat renaming le_refl → b71, le_trans → b54, lt_or_ge → b86, mul_le_mul_right → b96, succ_mul → b90, zero_add → b97, zero_le → b92
open True renaming intro → b70

namespace Go.Proofs.YtompcdbfongedaaGreatDoor
open Go Go.RowKit
def V0 (w : World) (v : Value) (n sz : Nat) (xs : List Value) : Prop :=
 xs.length = n * sz /\ ∃ a cap, v = .slice a n cap /\ n <= cap /\ cap <= maxLen /\
  (0 < n -> ∃ b off, a = some ⟨b, off, none⟩ /\ b < w.heap.size /\ ∀ j u, xs[j]? = some u -> w.cell? ⟨b, off + j, none⟩ = some u)
theorem x9 {W w1 : World} (hb : Below W.heap.size W w1) : (∀ b o, b < W.heap.size -> w1.cell? ⟨b, o, none⟩ = W.cell? ⟨b, o, none⟩) /\ (∀ b o, b < W.heap.size -> w1.frozen? ⟨b, o, none⟩ = W.frozen? ⟨b, o, none⟩) :=
 ⟨fun b o h => hb.cell (p := ⟨b, o, none⟩) h, fun b o h => hb.frozen (p := ⟨b, o, none⟩) h⟩
theorem V0.below {w w' : World} {v : Value} {n sz : Nat} {xs : List Value} (h : V0 w v n sz xs) (hb : Below w.heap.size w w') : V0 w' v n sz xs := by
 obtain ⟨hl, a, cap, rfl, h1, h2, h3⟩ := h
 refine ⟨hl, a, cap, rfl, h1, h2, fun hn => ?_⟩
 obtain ⟨b, off, rfl, hbk, hc⟩ := h3 hn
 exact ⟨b, off, rfl, Nat.lt_of_lt_of_le hbk hb.size, fun j u hj => ((x9 hb).1 b _ hbk).trans (hc j u hj)⟩
theorem V0.len {w : World} {v : Value} {n sz : Nat} {xs : List Value} (h : V0 w v n sz xs) : n <= 9223372036854775807 := by
 obtain ⟨_, a, cap, rfl, h1, h2, _⟩ := h; unfold maxLen at h2; omega
theorem V0.nil (w : World) (sz : Nat) : V0 w (.slice none 0 0) 0 sz [] := ⟨by simp, none, 0, rfl, b71 _, by unfold maxLen; omega, fun h => absurd h (by omega)⟩
theorem V0.open {w : World} {v : Value} {n sz : Nat} {xs : List Value} (h : V0 w v n sz xs) : ∃ a cap, v = .slice a n cap /\ n <= cap /\ n <= 9223372036854775807 /\ cap <= 9223372036854775807 /\
  ∀ i, i < n -> ∃ b off, a = some ⟨b, off, none⟩ /\ b < w.heap.size /\ ∀ j, j < sz -> w.cell? ⟨b, off + i * sz + j, none⟩ = xs[i * sz + j]? := by
 obtain ⟨hl, a, cap, rfl, h1, h2, h3⟩ := h
 unfold maxLen at h2
 refine ⟨a, cap, rfl, h1, by omega, by omega, fun i hi => ?_⟩
 obtain ⟨b, off, rfl, hbk, hc⟩ := h3 (by omega)
 refine ⟨b, off, rfl, hbk, fun j hj => ?_⟩
 have hlt : i * sz + j < xs.length := by
  rw [hl]; have := b96 sz (Nat.succ_le_of_lt hi); rw [b90] at this; omega
 rw [b56 hlt, Nat.add_assoc]
 exact hc _ _ (b56 hlt)
theorem V0.open1 {w : World} {v : Value} {n : Nat} {xs : List Value} (h : V0 w v n 1 xs) : ∃ a cap, v = .slice a n cap /\ n <= cap /\ n <= 9223372036854775807 /\ cap <= 9223372036854775807 /\
  ∀ i, i < n -> ∃ b off, a = some ⟨b, off, none⟩ /\ b < w.heap.size /\ w.cell? ⟨b, off + i, none⟩ = xs[i]? := by
 obtain ⟨a, cap, h0, h1, h2, h3, h4⟩ := h.open
 refine ⟨a, cap, h0, h1, h2, h3, fun i hi => ?_⟩
 obtain ⟨b, off, e, hb, hc⟩ := h4 i hi
 exact ⟨b, off, e, hb, by simpa using hc 0 (by omega)⟩
theorem W6 {w : World} {base : Nat} {e : TypeId} {sz : Nat} {v : Value} {n : Nat} {xs : List Value} (h : w.ownsRow base e sz v n xs) : V0 w v n sz xs := by
 refine ⟨h.1, ?_⟩
 rcases h.2 with ⟨rfl, rfl⟩ | ⟨g, cap, cur, rfl, hbg, hg, hnc, hcm, hcs, ht⟩
 ·exact ⟨none, 0, rfl, b71 _, by unfold maxLen; omega, fun h => absurd h (by omega)⟩
 refine ⟨some ⟨g, 0, none⟩, cap, rfl, hnc, hcm, fun _ => ⟨g, 0, rfl, (Array.getElem?_eq_some_iff.1 hg).1, fun j u hj => ?_⟩⟩
 have hadd : (⟨g, 0, none⟩ : Addr).add j = ⟨g, 0 + j, none⟩ := by unfold Addr.add; split <;> simp_all
 rw [<- hadd]
 exact h.cells (g := g) rfl j u hj
theorem ae0 {w : World} {base base' : Nat} {e : TypeId} {sz : Nat} {v : Value} {n : Nat} {xs : List Value} (h : w.ownsRow base e sz v n xs) (hb : base' <= base) : w.ownsRow base' e sz v n xs := by
 refine ⟨h.1, ?_⟩
 rcases h.2 with hn | ⟨g, cap, cur, rfl, hbg, r⟩
 ·exact .inl hn
 exact .inr ⟨g, cap, cur, rfl, by omega, r⟩
def Own (w : World) (lo hi : Nat) (e : TypeId) (sz : Nat) (v : Value) (n : Nat) (xs : List Value) : Prop :=
 w.ownsRow lo e sz v n xs /\ ∀ g, v.ownBlock = some g -> g < hi
structure Out (lo hi : Nat) (w w' : World) : Prop where
 os : w'.os = w.os
 tape : w'.tape = w.tape
 output : w'.output = w.output
 size : w.heap.size <= w'.heap.size
 block : ∀ k, k < w.heap.size -> (k < lo \/ hi <= k) -> w'.heap[k]? = w.heap[k]?
theorem Out.refl (lo hi : Nat) (w : World) : Out lo hi w w := ⟨rfl, rfl, rfl, b71 _, fun _ _ _ => rfl⟩
theorem Out.trans {lo hi : Nat} {a b c : World} (h : Out lo hi a b) (k : Out lo hi b c) : Out lo hi a c :=
 ⟨k.os.trans h.os, k.tape.trans h.tape, k.output.trans h.output, b54 h.size k.size, fun i hi ho => (k.block i (Nat.lt_of_lt_of_le hi h.size) ho).trans (h.block i hi ho)⟩
theorem Out.below {lo hi B : Nat} {a b : World} (h : Out lo hi a b) (h1 : B <= lo) (h2 : B <= a.heap.size) : Below B a b :=
 ⟨h.os, h.tape, h.output, h.size, fun k hk => h.block k (by omega) (by omega)⟩
theorem Out.of_below {lo hi B : Nat} {a b : World} (h : Below B a b) (h1 : a.heap.size <= B) : Out lo hi a b :=
 ⟨h.os, h.tape, h.output, h.size, fun k hk _ => h.block k (by omega)⟩
theorem Out.setCell {lo hi : Nat} {a w : World} (h : Out lo hi a w) {p : Addr} (h1 : lo <= p.block) (h2 : p.block < hi) (u : Value) : Out lo hi a (w.setCell p u) :=
 h.trans ⟨rfl, rfl, rfl, by simp [World.setCell], fun k _ ho => Below.heap_setCell _ _ _ _ (by omega)⟩
theorem Own.lt {w : World} {lo hi : Nat} {e : TypeId} {sz : Nat} {v : Value} {n : Nat} {xs : List Value} (h : Own w lo hi e sz v n xs) : ∀ g, v.ownBlock = some g -> lo <= g /\ g < hi /\ g < w.heap.size :=
 fun g hg => ⟨(h.1.lt g hg).1, h.2 g hg, (h.1.lt g hg).2⟩
theorem Own.row {w : World} {lo hi : Nat} {e : TypeId} {sz : Nat} {v : Value} {n : Nat} {xs : List Value} (h : Own w lo hi e sz v n xs) : V0 w v n sz xs := W6 h.1
theorem Own.mk' {w : World} {lo : Nat} {e : TypeId} {sz : Nat} {v : Value} {n : Nat} {xs : List Value} (h : w.ownsRow lo e sz v n xs) : Own w lo w.heap.size e sz v n xs :=
 ⟨h, fun g hg => (h.lt g hg).2⟩
theorem Own.same {w w' : World} {lo hi : Nat} {e : TypeId} {sz : Nat} {v : Value} {n : Nat} {xs : List Value} (h : Own w lo hi e sz v n xs)
  (hs : ∀ g, v.ownBlock = some g -> w'.heap[g]? = w.heap[g]?) : Own w' lo hi e sz v n xs := by
 refine ⟨⟨h.1.1, ?_⟩, h.2⟩
 rcases h.1.2 with hn | ⟨g, cap, cur, rfl, hbg, hg, r⟩
 ·exact .inl hn
 exact .inr ⟨g, cap, cur, rfl, hbg, (hs g rfl).trans hg, r⟩
theorem Own.keep {w w' : World} {lo hi B : Nat} {e : TypeId} {sz : Nat} {v : Value} {n : Nat} {xs : List Value} (h : Own w lo hi e sz v n xs) (hb : Below B w w') (hB : hi <= B) : Own w' lo hi e sz v n xs :=
 h.same fun g hg => hb.block g (by have := h.lt g hg; omega)
theorem Own.out {w w' : World} {lo hi lo' hi' : Nat} {e : TypeId} {sz : Nat} {v : Value} {n : Nat} {xs : List Value} (h : Own w lo hi e sz v n xs) (ho : Out lo' hi' w w') (hd : hi <= lo' \/ hi' <= lo) : Own w' lo hi e sz v n xs :=
 h.same fun g hg => ho.block g (h.lt g hg).2.2 (by have := h.lt g hg; omega)
theorem Own.open {w : World} {lo hi : Nat} {e : TypeId} {sz : Nat} {v : Value} {n : Nat} {xs : List Value} (h : Own w lo hi e sz v n xs) (hn : 0 < n) :
  ∃ g cap, v = .slice (some ⟨g, 0, none⟩) n cap /\ lo <= g /\ g < hi /\ g < w.heap.size /\ n <= cap /\ cap <= maxLen /\ (∀ o, w.frozen? ⟨g, o, none⟩ = false) /\ ∀ j u, xs[j]? = some u -> w.cell? ⟨g, j, none⟩ = some u := by
 have hl := h.lt
 rcases h.1.2 with ⟨_, h0⟩ | ⟨g, cap, cur, rfl, hbg, hg, hnc, hcm, hcs, ht⟩
 ·omega
 obtain ⟨l1, l2, l3⟩ := hl g rfl
 refine ⟨g, cap, rfl, l1, l2, l3, hnc, hcm, fun o => ?_, fun j u hj => ?_⟩
 ·simp only [World.frozen?, hg]; simp
 have hadd : (⟨g, 0, none⟩ : Addr).add j = ⟨g, j, none⟩ := by unfold Addr.add; split <;> simp_all
 rw [<- hadd]
 exact h.1.cells (g := g) rfl j u hj
theorem Own.at {w : World} {lo hi : Nat} {e : TypeId} {sz : Nat} {v : Value} {n : Nat} {xs : List Value} (h : Own w lo hi e sz v n xs) {j : Nat} (hj : j < xs.length) :
  ∃ g cap, v = .slice (some ⟨g, 0, none⟩) n cap /\ lo <= g /\ g < hi /\ g < w.heap.size /\ w.frozen? ⟨g, j, none⟩ = false /\ ∃ u, w.cell? ⟨g, j, none⟩ = some u := by
 have hn : 0 < n := by
  rcases Nat.eq_zero_or_pos n with h0 | h0
  ·subst h0; have := h.1.1; omega
  exact h0
 obtain ⟨g, cap, hv, h1, h2, h3, _, _, h4, h5⟩ := h.open hn
 exact ⟨g, cap, hv, h1, h2, h3, h4 j, _, h5 j _ (b56 hj)⟩
theorem Own.setCell {w : World} {lo hi : Nat} {e : TypeId} {sz : Nat} {n cap g : Nat} {xs : List Value} (h : Own w lo hi e sz (.slice (some ⟨g, 0, none⟩) n cap) n xs) {j : Nat} (_hj : j < xs.length) (u : Value) :
  Own (w.setCell ⟨g, j, none⟩ u) lo hi e sz (.slice (some ⟨g, 0, none⟩) n cap) n (xs.set j u) := by
 refine ⟨⟨by rw [List.length_set]; exact h.1.1, ?_⟩, h.2⟩
 rcases h.1.2 with ⟨hv, _⟩ | ⟨g', cap', cur, hv, hbg, hg, hnc, hcm, hcs, ht⟩
 ·cases hv
 cases hv
 refine .inr ⟨g, cap, cur.setIfInBounds j u, rfl, hbg, ?_, hnc, hcm, by simpa using hcs, ?_⟩
 ·have hlt := (Array.getElem?_eq_some_iff.1 hg).1
  simp only [World.setCell, Array.getElem?_modify]
  simp [hg]
 rw [Array.toList_setIfInBounds, List.take_set, ht]
theorem o5 {a b : Bool} (h : a = b) : Ending.returned (.bool a) = .returned (.bool b) := by rw [h]
theorem ad9 {k : IntKind} {a b : Int} (h : a = b) : Ending.returned (.int k a) = .returned (.int k b) := by rw [h]
theorem B1 {α : Type} (l : List α) (k : Nat) (h : k < l.length) : l.take (k + 1) = l.take k ++ [l[k]] := by
 rw [List.take_succ_eq_append_getElem h]
theorem ag3 {α : Type} (ys : List α) (k : Nat) (u : α) (h : k < ys.length) : (ys.set k u).take (k + 1) = ys.take k ++ [u] := by
 rw [B1 _ _ (by simpa using h), List.take_set_of_le (b71 _)]; simp
def E2 (z : List Value) (n : Nat) : List Value := (b77 n z).flatten
theorem L6 (z : List Value) (n : Nat) : (E2 z n).length = n * z.length := by simp [E2]
theorem aq2 (z : Value) (n : Nat) : E2 [z] n = b77 n z := by
 unfold E2
 induction n with
 | zero => rfl
 | succ n ih => rw [List.replicate_succ, List.flatten_cons, ih]; rfl
theorem ay1 (z : Array Value) (n : Nat) (_hz : 0 < z.size) : madeCells z (n * z.size) = (E2 z.toList n).toArray := by
 apply Array.ext
 ·simp [size_madeCells, L6]
 intro i h1 h2
 simp only [madeCells, Array.getElem_map, Array.getElem_range, List.getElem_toArray]
 have hlt : i < (E2 z.toList n).length := by simpa using h2
 have key : ∀ (m i : Nat), i < (E2 z.toList m).length -> (E2 z.toList m)[i]? = some (z[i % z.size]!) := by
  intro m
  induction m with
  | zero => intro i hi; simp [E2] at hi
  | succ m ih =>
   intro i hi
   have e : E2 z.toList (m + 1) = z.toList ++ E2 z.toList m := by simp [E2, List.replicate_succ]
   rw [e]
   by_cases hlt : i < z.size
   ·rw [b95 (by simpa using hlt), Nat.mod_eq_of_lt hlt]
    simp [hlt]
   rw [List.getElem?_append_right (by simp; omega)]
   have := ih (i - z.toList.length) (by rw [e, b69] at hi; rw [Array.length_toList] at hi ⊢; omega)
   rw [this]
   congr 2
   rw [Array.length_toList]
   exact (Nat.mod_eq_sub_mod (by omega)).symm
 have := key n i hlt
 rw [b56 hlt] at this
 exact (Option.some.inj this).symm
theorem bn7 {P : Program} {t e : TypeId} {z : Value} {size bytes : Nat} (ht : P.underlying t = some (.slice e)) (hi : (P.info? e).map (fun i => (i.zero, i.size, i.bytes)) = some (some z, size, bytes))
  (hz : z.cells.size = size) (hs : 0 < size) (n : Nat) (hn : bytes * n <= 281474976710656) (hm : n <= 9223372036854775807) :
  ∀ w, (Instr.makeSlice t (.int .i64 n) (.int .i64 n)).run P w = .ok (.slice (some ⟨w.heap.size, 0, none⟩) n n) (w.alloc (.cells (E2 z.cells.toList n).toArray e)) := by
 intro w
 obtain ⟨i, h1, h2, h3, h4⟩ := info_parts hi
 have := run_make (P := P) w t e i z ht h1 h2 .i64 .i64 n n (by omega) (Int.le_refl _) (by rw [h4, <- Int.natCast_mul]; omega) (by omega)
 rw [this]
 simp only [Int.toNat_natCast, h3]
 subst hz
 rw [ay1 _ _ hs]
theorem ao7 (w : World) {g : Nat} (cs : Array Value) (n sz : Nat) (e : TypeId) (hg : g = w.heap.size) (hz : cs.size = n * sz) (hm : n <= 9223372036854775807) :
  Own (w.alloc (.cells cs e)) w.heap.size (w.heap.size + 1) e sz (.slice (some ⟨g, 0, none⟩) n n) n cs.toList := by
 subst hg
 refine ⟨⟨by simpa using hz, .inr ⟨w.heap.size, n, _, rfl, b71 _, heap_alloc_new w _, b71 _, by unfold maxLen; omega, hz, ?_⟩⟩, fun g hg => by cases hg; exact Nat.lt_succ_self _⟩
 rw [<- hz]
 exact b75 (by simp)
theorem bm5 (w : World) (z : List Value) (n sz : Nat) (e : TypeId) (hz : z.length = sz) (hm : n <= 9223372036854775807) :
  Own (w.alloc (.cells (E2 z n).toArray e)) w.heap.size (w.heap.size + 1) e sz (.slice (some ⟨w.heap.size, 0, none⟩) n n) n (E2 z n) := by
 refine ⟨⟨by rw [L6, hz], .inr ⟨w.heap.size, n, _, rfl, b71 _, heap_alloc_new w _, b71 _, by unfold maxLen; omega, by simp [L6, hz], ?_⟩⟩, fun g hg => by cases hg; exact Nat.lt_succ_self _⟩
 have : (E2 z n).length = n * sz := by rw [L6, hz]
 rw [<- this]
 simp
def setFrom (ys : List Value) (p : Nat) : List Value -> List Value
 | [] => ys
 | u :: r => setFrom (ys.set p u) (p + 1) r
def World.setFrom (w : World) (g p : Nat) : List Value -> World
 | [] => w
 | u :: r => World.setFrom (w.setCell ⟨g, p, none⟩ u) g (p + 1) r
theorem F7 (us : List Value) : ∀ (ys : List Value) (p : Nat), (setFrom ys p us).length = ys.length := by
 induction us with
 | nil => intro ys p; rfl
 | cons u r ih => intro ys p; simp [setFrom, ih]
theorem ak1 (us : List Value) : ∀ (ys : List Value) (p : Nat), p + us.length <= ys.length -> (setFrom ys p us).take (p + us.length) = ys.take p ++ us := by
 induction us with
 | nil => intro ys p h; simp [setFrom]
 | cons u r ih =>
  intro ys p h
  simp only [b58] at h
  have := ih (ys.set p u) (p + 1) (by simp; omega)
  simp only [setFrom, b58]
  rw [show p + (r.length + 1) = p + 1 + r.length by omega, this, ag3 _ _ _ (by omega)]
  simp
theorem Own.setFrom {lo hi : Nat} {e : TypeId} {sz n cap g : Nat} (us : List Value) : ∀ {w : World} {xs : List Value} {p : Nat}, Own w lo hi e sz (.slice (some ⟨g, 0, none⟩) n cap) n xs -> p + us.length <= xs.length ->
  Own (World.setFrom w g p us) lo hi e sz (.slice (some ⟨g, 0, none⟩) n cap) n (setFrom xs p us) := by
 induction us with
 | nil => intro w xs p h _; exact h
 | cons u r ih =>
  intro w xs p h hl
  simp only [b58] at hl
  exact ih (h.setCell (by omega) u) (by simp; omega)
theorem Out.setFrom {lo hi g : Nat} {a : World} (us : List Value) : ∀ {w : World} {p : Nat}, Out lo hi a w -> lo <= g -> g < hi -> Out lo hi a (World.setFrom w g p us) := by
 induction us with
 | nil => intro w p h _ _; exact h
 | cons u r ih => intro w p h h1 h2; exact ih (h.setCell h1 h2 u) h1 h2
def bO7 (u v : Value) : Prop := ∀ g, u.ownBlock = some g -> v.ownBlock ≠ some g
theorem bO7.symm {u v : Value} (h : bO7 u v) : bO7 v u := fun g h1 h2 => h g h2 h1
def T9 (w : World) (b : Nat) (cs : List Value) : Prop := ∃ T, w.heap[b]? = some (.cells cs.toArray T (0, 0))
theorem T9.lt {w : World} {b : Nat} {cs : List Value} (h : T9 w b cs) : b < w.heap.size := by
 obtain ⟨T, h⟩ := h; exact (Array.getElem?_eq_some_iff.1 h).1
theorem T9.cell {w : World} {b : Nat} {cs : List Value} (h : T9 w b cs) (j : Nat) : w.cell? ⟨b, j, none⟩ = cs[j]? := by
 obtain ⟨T, h⟩ := h; simp [World.cell?, h]
theorem T9.free {w : World} {b : Nat} {cs : List Value} (h : T9 w b cs) (j : Nat) : w.frozen? ⟨b, j, none⟩ = false := by
 obtain ⟨T, h⟩ := h; simp only [World.frozen?, h]; simp
theorem T9.below {w w' : World} {b B : Nat} {cs : List Value} (h : T9 w b cs) (hb : Below B w w') (hB : b < B) : T9 w' b cs := by
 obtain ⟨T, h⟩ := h; exact ⟨T, (hb.block b hB).trans h⟩
theorem T9.out {w w' : World} {b lo hi : Nat} {cs : List Value} (h : T9 w b cs) (hb : Out lo hi w w') (hB : b < lo \/ hi <= b) : T9 w' b cs := by
 have hlt := h.lt
 obtain ⟨T, h⟩ := h; exact ⟨T, (hb.block b hlt hB).trans h⟩
theorem T9.set {w : World} {b j : Nat} {cs : List Value} (h : T9 w b cs) (u : Value) : T9 (w.setCell ⟨b, j, none⟩ u) b (cs.set j u) := by
 obtain ⟨T, h⟩ := h
 refine ⟨T, ?_⟩
 simp only [World.setCell, Array.getElem?_modify]
 simp [h]
theorem T9.new (w : World) (cs : List Value) (T : TypeId) : T9 (w.alloc (.cells cs.toArray T)) w.heap.size cs := ⟨T, heap_alloc_new w _⟩
theorem T9.alloc {w : World} {b : Nat} {cs : List Value} (h : T9 w b cs) (o : Obj) : T9 (w.alloc o) b cs := by
 have hlt := h.lt
 obtain ⟨T, h⟩ := h; exact ⟨T, (Below.heap_alloc w o b hlt).trans h⟩
theorem T9.drew {w : World} {b : Nat} {cs : List Value} (h : T9 w b cs) : T9 w.drew b cs := h
theorem Out.cell (w : World) (b j : Nat) (u : Value) : Out b (b + 1) w (w.setCell ⟨b, j, none⟩ u) :=
 Out.setCell (p := ⟨b, j, none⟩) (Out.refl b (b + 1) w) (b71 b) (Nat.lt_succ_self b) u
def _root_.Go.World.ext (w X : World) : World := { w with heap := w.heap ++ X.heap, drawn := X.drawn }
theorem f8 (w : World) (X : World) : Below w.heap.size w (w.ext X) :=
 ⟨rfl, rfl, rfl, by simp [World.ext], fun k hk => by simp only [World.ext]; rw [Array.getElem?_append_left hk]⟩
theorem aG7 {w w' : World} (h : Below w.heap.size w w') : ∃ X, w' = w.ext X := by
 refine ⟨{ w' with heap := w'.heap.extract w.heap.size w'.heap.size }, ?_⟩
 obtain ⟨h1, h2, h3, h4, h5⟩ := h
 have hh : w'.heap = w.heap ++ w'.heap.extract w.heap.size w'.heap.size := by
  apply Array.ext_getElem?
  intro i
  rcases b86 i w.heap.size with hi | hi
  ·rw [Array.getElem?_append_left hi, h5 i hi]
  rw [Array.getElem?_append_right hi, Array.getElem?_extract]
  split
  ·rw [show w.heap.size + (i - w.heap.size) = i by omega]
  rename_i hn
  rw [Array.getElem?_eq_none]
  simp at hn
  omega
 cases w; cases w'
 simp only [World.ext] at *
 subst h1 h2 h3
 rw [<- hh]
theorem b9 {w : World} {b o : Nat} {v : Value} (h : w.cell? ⟨b, o, none⟩ = some v) (X : World) : (w.ext X).cell? ⟨b, o, none⟩ = some v := by
 have hb : b < w.heap.size := World.block_lt_of_cell? w ⟨b, o, none⟩ h
 rw [(x9 (f8 w X)).1 b o hb]; exact h
theorem Calls.ext_of' {P : Program} {f : FuncId} {args : Array Value} {w : World} {X : World} {v : Value}
  (h : Calls P f args (w.ext X) fun e w' => e = .returned v /\ Below (w.ext X).heap.size (w.ext X) w') : Calls P f args (w.ext X) fun e w'' => e = .returned v /\ ∃ Y, w'' = w.ext Y :=
 h.mono fun _ _ ⟨he, hb⟩ => ⟨he, aG7 ((f8 w X).trans (hb.mono (f8 w X).size))⟩
theorem l0 {P : Program} {id : Nat} {Q : Exit -> Act -> World -> Prop} {a : Act} {w : World} {l : List Oper} (hm : P.follows .mixedOrders = true) (hB : Region.lexB .any l.toArray = true)
  (h : wpQuiet P l.toArray (fun w' => ∃ X, w' = w.ext X) (fun a' => ∀ w', (∃ X, w' = w.ext X) -> Q .normal a' w') l a) : (Code.region id l.toArray true).wp P Q a w :=
 wp_region_quiet (C := fun w' => ∃ X, w' = w.ext X) hm hB (aG7 (w' := w.drew) (Below.refl _ _).drew) (by simpa using h)
theorem aG0 {P : Program} {f : FuncId} {fn : Func} {c : Code} (hf : P.funcs[f]? = some fn) (hn : (fn.name == "runtime.NumGoroutine") = false) (hb : fn.body = some c) :
  ∀ args w, (callFunc f args).run P w = .ok (.enter f args) w := by
 intro args w
 have h1 : fn.name ≠ "runtime.NumGoroutine" := by simpa using hn
 simp [callFunc, hf, h1, hb, mark]
end Go.Proofs.YtompcdbfongedaaGreatDoor

namespace Go.Proofs.YtompcdbfongedaaGreatDoor
theorem B3 {α : Type} (l : List α) (k : Nat) (h : k < l.length) : l.take (k + 1) = l.take k ++ [l[k]] := by
 rw [List.take_succ_eq_append_getElem h]
theorem V6 {α : Type} (p : α -> Bool) (l : List α) (k : Nat) (h : k < l.length) : (l.take (k + 1)).all p = ((l.take k).all p && p l[k]) := by
 rw [B3 l k h, List.all_append]; simp
theorem at5 {α : Type} {p : α -> Bool} {l : List α} {k : Nat} (h : k < l.length) (hp : p l[k] = false) : l.all p = false := by
 rw [List.all_eq_false]; exact ⟨l[k], b64 h, by simp [hp]⟩
structure aa8 where
 op : Int
 a : Int
 b : Int
 c : Int
 d : Int
def aa8.l (x : aa8) : List Int := [x.op, x.a, x.b, x.c, x.d]
def ah8 : List aa8 -> List Int
 | [] => []
 | x :: r => x.op :: x.a :: x.b :: x.c :: x.d :: ah8 r
theorem bp6 (l : List aa8) : (ah8 l).length = l.length * 5 := by
 induction l with
 | nil => rfl
 | cons x r ih => simp [ah8, ih]; omega
theorem aa8.ext' {x y : aa8} (h : x.l = y.l) : x = y := by
 cases x; cases y; simp [aa8.l] at h; simp [h]
theorem bp7 (l : List aa8) (i : Nat) (hi : i < l.length) : (ah8 l)[i * 5]? = some l[i].op /\ (ah8 l)[i * 5 + 1]? = some l[i].a /\ (ah8 l)[i * 5 + 2]? = some l[i].b /\ (ah8 l)[i * 5 + 3]? = some l[i].c /\ (ah8 l)[i * 5 + 4]? = some l[i].d := by
 induction l generalizing i with
 | nil => simp at hi
 | cons x r ih =>
  cases i with
  | zero => simp [ah8]
  | succ i =>
   rw [b90]
   have := ih i (by simpa using hi)
   simpa [ah8, Nat.add_assoc] using this
structure L4 where
 vars : List Int
 arrays : List Int
 list : List aa8
def L4.size (c : L4) : Nat := c.vars.length + c.arrays.length + c.list.length
def L4.same (c d : L4) : Bool := decide (c.vars = d.vars) && decide (c.arrays = d.arrays) && decide (ah8 c.list = ah8 d.list)
def s9 (l : Int) : Bool := decide (0 <= l) && decide (l <= 3)
def C9 (vars arrays : List Int) : Bool := vars.all s9 && arrays.all s9 && decide (1 <= vars.length) && decide (vars.length <= 12) && decide (arrays.length <= 2)
def bx2 (c : L4) (kd : UInt8) (n : Int) : Bool :=
 if kd = 114 then decide (0 <= n) && decide (n < 14)
 else if kd = 99 then decide (0 <= n) && decide (n <= 255)
 else if kd = 118 then decide (0 <= n) && decide (n < c.vars.length)
 else if kd = 97 then decide (0 <= n) && decide (n < c.arrays.length)
 else if kd = 111 then decide (4 <= n) && decide (n <= 10)
 else decide (0 <= n) && decide (n < c.list.length)
def aL7 (op : Int) : List UInt8 :=
 if op = 1 then [114, 99] else if op = 2 then [114, 118] else if op = 3 then [118, 114] else if op = 4 then [114, 97, 114] else if op = 5 then [97, 114, 114]
 else if op = 6 then [114, 111, 114, 114] else if op = 7 then [114, 114, 114, 114] else if op = 8 then [116] else if op = 9 then [114, 116] else if op = 10 then [114, 116]
 else if op = 11 then [114] else []
def aK1 (c : L4) (kinds : List UInt8) (k : Nat) (n : Int) : Bool :=
 match kinds[k]? with
 | some kd => bx2 c kd n
 | none => decide (n = 0)
def bF2 (c : L4) (x : aa8) : Bool :=
 decide (1 <= x.op) && decide (x.op <= 13) && (aK1 c (aL7 x.op) 0 x.a && aK1 c (aL7 x.op) 1 x.b && aK1 c (aL7 x.op) 2 x.c && aK1 c (aL7 x.op) 3 x.d)
def bo2 (c : L4) : Bool := match c.list.getLast? with | some x => decide (x.op = 13) || decide (x.op = 8) | none => false
def aM4 (c : L4) : Bool := C9 c.vars c.arrays && decide (1 <= c.list.length) && decide (c.list.length <= 400) && c.list.all (bF2 c) && bo2 c
def bT4 (x : aa8) (i : Int) : List Int := if x.op = 13 then [] else if x.op = 8 then [x.a] else if x.op = 9 \/ x.op = 10 then [i + 1, x.b] else [i + 1]
def nx (c : L4) (t : Int) : List Int := match c.list[t.toNat]? with | some x => bT4 x t | none => []
theorem al8 {c : L4} (h : aM4 c = true) : C9 c.vars c.arrays = true /\ 1 <= c.list.length /\ c.list.length <= 400 /\ (∀ (i : Nat) (hi : i < c.list.length), bF2 c c.list[i] = true) /\ bo2 c = true := by
 unfold aM4 at h
 simp only [b57, decide_eq_true_eq, b68] at h
 obtain ⟨⟨⟨⟨h1, h2⟩, h3⟩, h4⟩, h5⟩ := h
 exact ⟨h1, h2, h3, fun i hi => h4 _ (b64 hi), h5⟩
inductive Rc (c : L4) : Int -> Prop
 | zero : Rc c 0
 | step {i t : Int} : Rc c i -> t ∈ nx c i -> Rc c t
noncomputable def bZ8 (c : L4) : List Bool := (b82 c.list.length).map fun (j : Nat) => @decide (Rc c (j : Int)) (Classical.propDecidable _)
theorem aG5 {bs : List Bool} {k : Nat} (h : bs[k]? = some false) : (bs.set k true).count false + 1 = bs.count false := by
 induction bs generalizing k with
 | nil => simp at h
 | cons b r ih =>
  cases k with
  | zero => simp at h; subst h; simp
  | succ k =>
   simp at h
   have := ih h
   simp only [List.set_cons_succ, List.count_cons]
   omega
theorem aJ0 {bs : List Bool} {k j : Nat} (h : (bs.set k true)[j]? = some true) : j = k \/ bs[j]? = some true := by
 rw [List.getElem?_set] at h
 split at h
 ·rename_i e; exact .inl e.symm
 exact .inr h
theorem aP7 {bs : List Bool} {k : Nat} (h : k < bs.length) : (bs.set k true)[k]? = some true := by simp [h]
structure bY4 (c : L4) (qs : List Int) (bs : List Bool) : Prop where
 len : bs.length = c.list.length
 cnt : qs.length + bs.count false = c.list.length
 q : ∀ t ∈ qs, 0 <= t /\ t < c.list.length /\ Rc c t
 sound : ∀ j : Nat, bs[j]? = some true -> Rc c j
 inq : ∀ j : Nat, bs[j]? = some true -> (j : Int) ∈ qs
 zero : bs[0]? = some true
theorem bY4.start {c : L4} (hc : aM4 c = true) : bY4 c [0] ((b77 c.list.length false).set 0 true) := by
 have hn := (al8 hc).2.1
 have hone : ∀ j : Nat, ((b77 c.list.length false).set 0 true)[j]? = some true -> j = 0 := by
  intro j h
  rcases aJ0 h with h | h
  ·exact h
  rw [List.getElem?_replicate] at h; split at h <;> simp at h
 refine ⟨by simp, ?_, ?_, ?_, ?_, ?_⟩
 ·have := aG5 (bs := b77 c.list.length false) (k := 0) (by rw [List.getElem?_replicate, if_pos (by omega)])
  simp at this ⊢
  omega
 ·intro t ht
  simp at ht; subst ht
  exact ⟨by omega, by omega, .zero⟩
 ·intro j h; rw [hone j h]; exact .zero
 ·intro j h; rw [hone j h]; simp
 exact aP7 (by simp; omega)
structure bu6 (c : L4) (ls : List Int) (bs : List Bool) : Prop where
 len : bs.length = c.list.length
 cnt : ls.length + 2 * bs.count false <= 2 * c.list.length + 1
 l : ∀ t ∈ ls, 0 <= t /\ t < c.list.length /\ Rc c t
 sound : ∀ j : Nat, bs[j]? = some true -> Rc c j
 zero : bs[0]? = some true \/ (0 : Int) ∈ ls
 clos : ∀ j : Nat, bs[j]? = some true -> ∀ t ∈ nx c j, bs[t.toNat]? = some true \/ t ∈ ls
theorem bu6.start {c : L4} (hc : aM4 c = true) : bu6 c [0] (b77 c.list.length false) := by
 have hn := (al8 hc).2.1
 refine ⟨by simp, by simp; omega, ?_, ?_, .inr (by simp), ?_⟩
 ·intro t ht
  simp at ht; subst ht
  exact ⟨by omega, by omega, .zero⟩
 ·intro j h; rw [List.getElem?_replicate] at h; split at h <;> simp at h
 intro j h; rw [List.getElem?_replicate] at h; split at h <;> simp at h
theorem bu6.skip {c : L4} {ls : List Int} {i : Int} {bs : List Bool} (h : bu6 c (ls ++ [i]) bs) (hb : bs[i.toNat]? = some true) : bu6 c ls bs := by
 refine ⟨h.len, by have := h.cnt; simp at this; omega, fun t ht => h.l t (List.mem_append_left _ ht), h.sound, ?_, ?_⟩
 ·rcases h.zero with h0 | h0
  ·exact .inl h0
  rcases b73.1 h0 with h0 | h0
  ·exact .inr h0
  simp at h0; subst h0; exact .inl hb
 intro j hj t ht
 rcases h.clos j hj t ht with h1 | h1
 ·exact .inl h1
 rcases b73.1 h1 with h1 | h1
 ·exact .inr h1
 simp at h1; subst h1; exact .inl hb
end Go.Proofs.YtompcdbfongedaaGreatDoor

namespace Go.Proofs.YtompcdbfongedaaGreatDoor
open Go Go.RowKit
section
variable {P : Program} {md : Region.Mode} {C : World -> Prop}
theorem al6 {listed : Array Bool} {i : Nat} (h : listed.getD i true = false) : (listed.setIfInBounds i true).toList.count false + 1 = listed.toList.count false := by
 rw [Array.toList_setIfInBounds]
 refine aG5 ?_
 rcases b86 i listed.size with h' | h'
 ·simp [h'] at h ⊢; exact h
 simp [Array.getElem?_eq_none h'] at h
end
abbrev ints (l : List Int) : List Value := l.map (Value.int .i64)
theorem az1 (l : List Int) (k : Nat) (h : k < l.length) : (ints l)[k]? = some (.int .i64 l[k]) := by simp [ints, h]
def a06 (K n : Nat) : List Int := (b82 n).map fun (j : Nat) => ((K : Int) + (j : Int))
abbrev bO6 (w : World) (v : Value) (l : List aa8) : Prop := V0 w v l.length 5 (ints (ah8 l))
abbrev aa8.v (x : aa8) : Value := .agg #[.int .i64 x.op, .int .i64 x.a, .int .i64 x.b, .int .i64 x.c, .int .i64 x.d]
def aN1 (w : World) (v : Value) (c : L4) : Prop :=
 ∃ v1 v2 v3, v = .agg #[v1, v2, v3] /\ V0 w v1 c.vars.length 1 (ints c.vars) /\ V0 w v2 c.arrays.length 1 (ints c.arrays) /\ bO6 w v3 c.list
theorem aN1.below {w w' : World} {v : Value} {c : L4} (h : aN1 w v c) (hb : Below w.heap.size w w') : aN1 w' v c := by
 obtain ⟨v1, v2, v3, rfl, h1, h2, h3⟩ := h
 exact ⟨v1, v2, v3, rfl, h1.below hb, h2.below hb, h3.below hb⟩
def aq1 (w : World) (v : Value) (K nv na nl : Nat) : Prop :=
 ∃ v1 v2 v3, v = .agg #[v1, v2, v3] /\ V0 w v1 nv 1 (ints (a06 K nv)) /\ V0 w v2 na 1 (ints (a06 (K + nv) na)) /\ V0 w v3 nl 5 (ints (a06 (K + nv + na) (nl * 5)))
theorem aq1.below {w w' : World} {v : Value} {K nv na nl : Nat} (h : aq1 w v K nv na nl) (hb : Below w.heap.size w w') : aq1 w' v K nv na nl := by
 obtain ⟨v1, v2, v3, rfl, h1, h2, h3⟩ := h
 exact ⟨v1, v2, v3, rfl, h1.below hb, h2.below hb, h3.below hb⟩
theorem aQ2 {P : Program} {w : World} {lo : Nat} {t ty e : TypeId} {i : TypeInfo} {size : Nat} (ht : P.underlying t = some (.slice e)) (hi : P.info? e = some i)
  {v : Value} {n : Nat} {xs : List Value} (hown : w.ownsRow lo e size v n xs) (c : Nat) : (Builtin.append_ #[t, t] ty #[v, .slice none 0 c]).run P w = .ok v w := by
 obtain ⟨_, h⟩ := hown
 rcases h with ⟨rfl, rfl⟩ | ⟨g, cap, cur, rfl, _, _, hnc, _⟩
 ·simp [Builtin.append_, run_underlying ht, sizeOf, typeInfo, hi, Builtin.lenOf, Builtin.firstCells]
 simp [Builtin.append_, run_underlying ht, sizeOf, typeInfo, hi, Builtin.lenOf, Builtin.firstCells, hnc, storeCells]
theorem aF5 {w : World} {lo : Nat} {e : TypeId} {sz : Nat} {v : Value} {n : Nat} {xs : List Value} (h : w.ownsRow lo e sz v n xs) : ∃ a k, v = .slice a n k := by
 rcases h.2 with ⟨rfl, rfl⟩ | ⟨g, cap, cur, rfl, _⟩
 ·exact ⟨_, _, rfl⟩
 exact ⟨_, _, rfl⟩
theorem at4 {P : Program} {w : World} {lo : Nat} {t ty e : TypeId} {z : Value} {size bytes : Nat} (ht : P.underlying t = some (.slice e)) (hi : (P.info? e).map (fun i => (i.zero, i.size, i.bytes)) = some (some z, size, bytes))
  (hzs : z.cells.size = size) (hsz : 0 < size) {v : Value} {n : Nat} {xs : List Value} (hown : w.ownsRow lo e size v n xs) {u : Value} {m : Nat} {news : List Value} (hr : V0 w u m size news) (h1 : ∀ u ∈ news, u.oneCell' = true)
  (h63 : n + m <= 9223372036854775807) (hbytes : (n + m) * bytes <= 140737488355328) (hbase : lo <= w.heap.size) :
  ∃ a' k' w', (Builtin.append_ #[t, t] ty #[v, u]).run P w = .ok (.slice a' (n + m) k') w' /\ w'.ownsRow lo e size (.slice a' (n + m) k') (n + m) (xs ++ news) /\ Below lo w w' /\ w.grownBy w' v.ownBlock /\ (∀ g, (Value.slice a' (n + m) k').ownBlock = some g -> v.ownBlock = some g \/ w.heap.size <= g) := by
 obtain ⟨i, g1, g2, g3, g4⟩ := info_parts hi
 obtain ⟨hl, A, c, rfl, hmc, hc, hA⟩ := hr
 have below_of : ∀ {w' : World}, w.grownBy w' v.ownBlock -> Below lo w w' := fun {w'} hg => by
  refine ⟨hg.os, hg.tape, hg.output, hg.size, fun k hk => hg.block k (by omega) fun he => ?_⟩
  have := hown.lt k he.symm
  omega
 rcases A with _ | a
 ·have hm : m = 0 := by
   rcases Nat.eq_zero_or_pos m with h0 | h0
   ·exact h0
   obtain ⟨_, _, he, _⟩ := hA h0; cases he
  subst hm
  have hn : news = [] := b84 (by simpa using hl)
  subst hn
  obtain ⟨a', k', rfl⟩ := aF5 hown
  exact ⟨a', k', w, aQ2 ht g1 hown c, by simpa using hown, Below.refl _ _, ⟨rfl, rfl, rfl, b71 _, fun _ _ _ => rfl⟩, fun g hg => .inl hg⟩
 have hcells : ∀ j u, news[j]? = some u -> w.cell? (a.add j) = some u := by
  intro j u hu
  have h0 : 0 < m := by
   rcases Nat.eq_zero_or_pos m with h0 | h0
   ·subst h0
    have hn : news = [] := b84 (by simpa using hl)
    subst hn; simp at hu
   exact h0
  obtain ⟨b, off, he, hb, hx⟩ := hA h0
  cases he
  have hadd : (⟨b, off, none⟩ : Addr).add j = ⟨b, off + j, none⟩ := by unfold Addr.add; split <;> simp_all
  rw [hadd]
  exact hx j u hu
 obtain ⟨v', w', hrun, h2, h3, _, h5⟩ := run_append_own_at (P := P) w lo t ty e i z size bytes ht g1 g2 g3 g4 hzs hsz v n xs hown a m c news hl hcells h1 (by unfold maxLen; omega) hbytes hbase
 obtain ⟨a', k', rfl⟩ := aF5 h2
 exact ⟨a', k', w', hrun, h2, below_of h3, h3, fun g hg => h5.elim (fun h => .inl (h ▸ hg)) fun h => .inr (by rw [h] at hg; cases hg; exact b71 _)⟩
theorem Own.grown {w w' : World} {lo hi : Nat} {e : TypeId} {sz : Nat} {v : Value} {n : Nat} {xs : List Value} {row : Option Nat} (h : Own w lo hi e sz v n xs) (hg : w.grownBy w' row) (hne : ∀ g, v.ownBlock = some g -> row ≠ some g) : Own w' lo hi e sz v n xs :=
 h.same fun g hv => hg.block g (h.lt g hv).2.2 fun he => hne g hv he.symm
section
variable {P : Program}
theorem bb9 {x : Oper} {a : Act} {w : World} {K : Act -> World -> Prop} {Q Q0 : Exit -> Act -> World -> Prop} (h0 : ∀ e a w, Q0 e a w -> e = .normal) (h : x.wp P a w K Q0) : x.wp P a w K Q := by
 unfold Oper.wp at *
 generalize (execOp a.eval x).run P w = r at *
 cases r with
 | ok n w' =>
  cases n <;> simp only [Oper.upon] at h ⊢ <;>
   first
    | exact h
    | exact Calls.mono h (fun e w'' he => by
      cases e
      ·exact he
      ·exact absurd (h0 _ _ _ he) (by simp)
      obtain ⟨a, w, hq⟩ := he; exact absurd (h0 _ _ _ hq) (by simp))
 | halt y w' =>
  cases y <;> simp only [Oper.upon] at h ⊢ <;> first | exact h | exact absurd (h0 _ _ _ h) (by simp)
end
section
variable {P : Program}
structure b53 (mk : (Nat -> Value) -> Act) (C : World -> Prop) (R : Nat -> Value -> World -> Prop) (n : Nat) (listed : Array Bool) (f : Nat -> Value) (a : Act) (w : World) : Prop where
 act : a = mk f
 cls : C w
 val : ∀ i, i < n -> listed.getD i false = true -> R i (f i) w
end
def I5 (φ φ' : Nat -> Prop) (w w' : World) : Prop := w.heap.size <= w'.heap.size /\ ∀ b, b < w.heap.size -> φ b -> φ' b /\ w'.heap[b]? = w.heap[b]?
def Z0 (R : World -> (Nat -> Prop) -> Prop) : Prop := ∀ w w' φ φ', I5 φ φ' w w' -> R w φ -> R w' φ'
theorem I5.below {φ : Nat -> Prop} {w w' : World} (h : Below w.heap.size w w') : I5 φ φ w w' := ⟨h.size, fun b hb hf => ⟨hf, h.block b hb⟩⟩
theorem I5.mono {φ φ' : Nat -> Prop} {w : World} (h : ∀ b, b < w.heap.size -> φ b -> φ' b) : I5 φ φ' w w := ⟨b71 _, fun b hb hf => ⟨h b hb hf, rfl⟩⟩
theorem I5.cell {φ φ' : Nat -> Prop} {w w' : World} (h : I5 φ φ' w w') {b o : Nat} (hb : b < w.heap.size) (hf : φ b) : w'.cell? ⟨b, o, none⟩ = w.cell? ⟨b, o, none⟩ := by
 simp only [World.cell?, (h.2 b hb hf).2]
def z8 (w : World) (φ : Nat -> Prop) (v : Value) (n sz : Nat) (xs : List Value) : Prop :=
 xs.length = n * sz /\ ∃ a cap, v = .slice a n cap /\ n <= cap /\ cap <= maxLen /\
  (0 < n -> ∃ b off, a = some ⟨b, off, none⟩ /\ b < w.heap.size /\ φ b /\ ∀ j u, xs[j]? = some u -> w.cell? ⟨b, off + j, none⟩ = some u)
theorem z8.nice (v : Value) (n sz : Nat) (xs : List Value) : Z0 fun w φ => z8 w φ v n sz xs := by
 rintro w w' φ φ' ha ⟨hl, a, cap, rfl, h1, h2, h3⟩
 refine ⟨hl, a, cap, rfl, h1, h2, fun hn => ?_⟩
 obtain ⟨b, off, rfl, hb, hf, hc⟩ := h3 hn
 exact ⟨b, off, rfl, Nat.lt_of_lt_of_le hb ha.1, (ha.2 b hb hf).1, fun j u hj => (ha.cell hb hf).trans (hc j u hj)⟩
theorem z8.row {w : World} {φ : Nat -> Prop} {v : Value} {n sz : Nat} {xs : List Value} (h : z8 w φ v n sz xs) : V0 w v n sz xs := by
 obtain ⟨hl, a, cap, rfl, h1, h2, h3⟩ := h
 refine ⟨hl, a, cap, rfl, h1, h2, fun hn => ?_⟩
 obtain ⟨b, off, rfl, hb, _, hc⟩ := h3 hn
 exact ⟨b, off, rfl, hb, hc⟩
theorem V0.rowF {w : World} {v : Value} {n sz : Nat} {xs : List Value} (h : V0 w v n sz xs) {φ : Nat -> Prop} (hf : ∀ b, b < w.heap.size -> φ b) : z8 w φ v n sz xs := by
 obtain ⟨hl, a, cap, rfl, h1, h2, h3⟩ := h
 refine ⟨hl, a, cap, rfl, h1, h2, fun hn => ?_⟩
 obtain ⟨b, off, rfl, hb, hc⟩ := h3 hn
 exact ⟨b, off, rfl, hb, hf b hb, hc⟩
theorem z8.nil (w : World) (φ : Nat -> Prop) (sz : Nat) : z8 w φ (.slice none 0 0) 0 sz [] := ⟨by simp, none, 0, rfl, b71 _, by unfold maxLen; omega, fun h => absurd h (by omega)⟩
theorem B8 {w : World} {lo : Nat} {e : TypeId} {sz : Nat} {v : Value} {n : Nat} {xs : List Value} (h : w.ownsRow lo e sz v n xs) {φ : Nat -> Prop} (hf : ∀ g, v.ownBlock = some g -> φ g) : z8 w φ v n sz xs := by
 obtain ⟨hl, a, cap, hv, h1, h2, h3⟩ := W6 h
 refine ⟨hl, a, cap, hv, h1, h2, fun hn => ?_⟩
 obtain ⟨b, off, he, hb, hc⟩ := h3 hn
 refine ⟨b, off, he, hb, ?_, hc⟩
 rcases h.2 with ⟨hv', h0⟩ | ⟨g, cap', cur, hv', _⟩
 ·omega
 rw [hv'] at hv
 cases hv
 cases he
 exact hf _ (by rw [hv']; rfl)
inductive T7 where
 | box (b : Nat) (cs : List Value)
 | row (e : TypeId) (sz : Nat) (v : Value) (n : Nat) (xs : List Value)
 | dat (R : World -> (Nat -> Prop) -> Prop)
 | own (S : Nat -> Prop) (R : World -> Prop)
def T7.blk : T7 -> Nat -> Prop
 | .box b _ => fun g => g = b
 | .row _ _ v _ _ => fun g => v.ownBlock = some g
 | .dat _ => fun _ => False
 | .own S _ => S
def Fr (φ : Nat -> Prop) (L : List T7) (b : Nat) : Prop := φ b /\ ∀ r ∈ L, ¬ r.blk b
def T7.holds (w : World) (φ : Nat -> Prop) : T7 -> Prop
 | .box b cs => T9 w b cs
 | .row e sz v n xs => w.ownsRow 0 e sz v n xs
 | .dat R => Z0 R /\ R w φ
 | .own S R => (∀ w w', R w -> (∀ b, S b -> b < w.heap.size -> w'.heap[b]? = w.heap[b]?) -> R w') /\ R w /\ ∀ b, S b -> b < w.heap.size
structure B7 (ψ : Nat -> Prop) (w w' : World) : Prop where
 os : w'.os = w.os
 tape : w'.tape = w.tape
 output : w'.output = w.output
 size : w.heap.size <= w'.heap.size
 block : ∀ b, b < w.heap.size -> ψ b -> w'.heap[b]? = w.heap[b]?
theorem B7.refl (ψ : Nat -> Prop) (w : World) : B7 ψ w w := ⟨rfl, rfl, rfl, b71 _, fun _ _ _ => rfl⟩
theorem B7.trans {ψ : Nat -> Prop} {a b c : World} (h : B7 ψ a b) (k : B7 ψ b c) : B7 ψ a c :=
 ⟨k.os.trans h.os, k.tape.trans h.tape, k.output.trans h.output, b54 h.size k.size, fun i hi hp => (k.block i (Nat.lt_of_lt_of_le hi h.size) hp).trans (h.block i hi hp)⟩
theorem B7.of_below {ψ : Nat -> Prop} {w w' : World} {B : Nat} (h : Below B w w') (hB : ∀ b, b < w.heap.size -> ψ b -> b < B) : B7 ψ w w' := ⟨h.os, h.tape, h.output, h.size, fun b hb hp => h.block b (hB b hb hp)⟩
theorem B7.below {w w' : World} {ψ : Nat -> Prop} (h : B7 ψ w w') (hp : ∀ b, b < w.heap.size -> ψ b) : Below w.heap.size w w' := ⟨h.os, h.tape, h.output, h.size, fun b hb => h.block b hb (hp b hb)⟩
structure D9 (φ ψ : Nat -> Prop) (w0 w : World) (L : List T7) : Prop where
 kept : B7 ψ w0 w
 fresh : ∀ b, w0.heap.size <= b -> φ b
 holds : ∀ (r : T7), r ∈ L -> r.holds w (Fr φ L)
 dis : ∀ (i j : Nat) (a b : T7) (g : Nat), L[i]? = some a -> L[j]? = some b -> i ≠ j -> a.blk g -> ¬ b.blk g
 ge : ∀ (r : T7) (b : Nat), r ∈ L -> r.blk b -> w0.heap.size <= b \/ ¬ ψ b
section
variable {φ ψ : Nat -> Prop} {w0 w w' : World} {L : List T7}
theorem D9.start (hf : ∀ b, w0.heap.size <= b -> φ b) : D9 φ ψ w0 w0 [] := ⟨B7.refl _ _, hf, (fun _ h => by cases h), (fun i j a b g h => by simp at h), (fun _ _ h => by cases h)⟩
theorem T7.lt {r : T7} (h : r.holds w φ) {b : Nat} (hb : r.blk b) : b < w.heap.size := by
 cases r with
 | box b' cs => cases hb; exact T9.lt h
 | row e sz v n xs => exact (World.ownsRow.lt h b hb).2
 | dat R => cases hb
 | own S R => exact h.2.2 b hb
theorem D9.lt (M : D9 φ ψ w0 w L) {r : T7} (hr : r ∈ L) {b : Nat} (hb : r.blk b) : b < w.heap.size := T7.lt (M.holds r hr) hb
theorem D9.frFresh (M : D9 φ ψ w0 w L) : ∀ b, w.heap.size <= b -> Fr φ L b := fun b hb => ⟨M.fresh b (b54 M.kept.size hb), fun r hr he => by have := M.lt hr he; omega⟩
theorem D9.size (M : D9 φ ψ w0 w L) : w0.heap.size <= w.heap.size := M.kept.size
theorem D9.below (M : D9 φ ψ w0 w L) (hp : ∀ b, b < w0.heap.size -> ψ b) : Below w0.heap.size w0 w := M.kept.below hp
theorem T7.keep {φ' : Nat -> Prop} {r : T7} (h : r.holds w φ) (ha : I5 φ φ' w w') (hb : ∀ b, r.blk b -> w'.heap[b]? = w.heap[b]?) : r.holds w' φ' := by
 cases r with
 | box b cs => obtain ⟨T, h⟩ := h; exact ⟨T, (hb b rfl).trans h⟩
 | row e sz v n xs => exact (Own.same (lo := 0) (hi := w.heap.size) ⟨h, fun g hg => (World.ownsRow.lt h g hg).2⟩ hb).1
 | dat R => exact ⟨h.1, h.1 _ _ _ _ ha h.2⟩
 | own S R => exact ⟨h.1, h.1 _ _ h.2.1 fun b hs _ => hb b hs, fun b hs => Nat.lt_of_lt_of_le (h.2.2 b hs) ha.1⟩
theorem D9.call (M : D9 φ ψ w0 w L) (b : Below w.heap.size w w') : D9 φ ψ w0 w' L :=
 ⟨M.kept.trans (B7.of_below b fun _ h _ => h), M.fresh, fun r hr => T7.keep (M.holds r hr) (I5.below b) fun g hg => b.block g (M.lt hr hg), M.dis, M.ge⟩
theorem D9.drew (M : D9 φ ψ w0 w L) : D9 φ ψ w0 w.drew L := M.call (Below.refl _ _).drew
theorem Fr.snoc {r : T7} {b : Nat} : Fr φ (L ++ [r]) b ↔ Fr φ L b /\ ¬ r.blk b := by
 unfold Fr
 constructor
 ·rintro ⟨h1, h2⟩; exact ⟨⟨h1, fun x hx => h2 x (by simp [hx])⟩, h2 r (by simp)⟩
 rintro ⟨⟨h1, h2⟩, h3⟩
 refine ⟨h1, fun x hx => ?_⟩
 simp only [b73, List.mem_singleton] at hx
 rcases hx with hx | rfl
 ·exact h2 x hx
 exact h3
theorem D9.add (M : D9 φ ψ w0 w L) (b : Below w.heap.size w w') (r : T7) (h : r.holds w' (Fr φ (L ++ [r]))) (hg : ∀ g, r.blk g -> w.heap.size <= g) : D9 φ ψ w0 w' (L ++ [r]) := by
 have M' := M.call b
 refine ⟨M'.kept, M.fresh, fun x hx => ?_, fun i j x y g hi hj hij hx hy => ?_, fun x g hx hxg => ?_⟩
 ·simp only [b73, List.mem_singleton] at hx
  rcases hx with hx | rfl
  ·exact T7.keep (M.holds x hx) ⟨b.size, fun c hc hf => ⟨Fr.snoc.2 ⟨hf, fun he => by have := hg c he; omega⟩, b.block c hc⟩⟩ fun g hgx => b.block g (M.lt hx hgx)
  exact h
 ·have lt : ∀ (k : Nat) (z : T7), (L ++ [r])[k]? = some z -> (k < L.length /\ L[k]? = some z) \/ (k = L.length /\ z = r) := by
   intro k z hz
   rcases b86 k L.length with hk | hk
   ·rw [b95 hk] at hz; exact .inl ⟨hk, hz⟩
   rw [List.getElem?_append_right hk] at hz
   have : k - L.length = 0 := by
    rcases Nat.eq_zero_or_pos (k - L.length) with h | h
    ·exact h
    rw [b87 (by rw [List.length_singleton]; exact h)] at hz; cases hz
   rw [this] at hz; simp at hz
   exact .inr ⟨by omega, hz.symm⟩
  rcases lt i x hi with ⟨hi', h1⟩ | ⟨hi', rfl⟩ <;> rcases lt j y hj with ⟨hj', h2⟩ | ⟨hj', rfl⟩
  ·exact M.dis i j x y g h1 h2 hij hx hy
  ·have := M.lt (b79 h1) hx; have := hg g hy; omega
  ·have := M.lt (b79 h2) hy; have := hg g hx; omega
  omega
 simp only [b73, List.mem_singleton] at hx
 rcases hx with hx | rfl
 ·exact M.ge x g hx hxg
 exact .inl (b54 M.size (hg g hxg))
theorem D9.box (M : D9 φ ψ w0 w L) (cs : List Value) (T : TypeId) : D9 φ ψ w0 (w.alloc (.cells cs.toArray T)) (L ++ [.box w.heap.size cs]) :=
 M.add ((Below.refl _ _).alloc (b71 _) _) _ (T9.new w cs T) fun g hg => by cases hg; exact b71 _
theorem D9.box' (M : D9 φ ψ w0 w L) (cs : List Value) (T : TypeId) {b : Nat} (hb : b = w.heap.size) : D9 φ ψ w0 (w.alloc (.cells cs.toArray T)) (L ++ [.box b cs]) := by subst hb; exact M.box cs T
theorem D9.dat (M : D9 φ ψ w0 w L) {R : World -> (Nat -> Prop) -> Prop} (hn : Z0 R) (h : R w (Fr φ L)) : D9 φ ψ w0 w (L ++ [.dat R]) :=
 M.add (Below.refl _ _) _ ⟨hn, hn _ _ _ _ (I5.mono fun b _ hf => Fr.snoc.2 ⟨hf, fun h => by cases h⟩) h⟩ fun g hg => by cases hg
theorem D9.nil (M : D9 φ ψ w0 w L) (e : TypeId) (sz : Nat) : D9 φ ψ w0 w (L ++ [.row e sz (.slice none 0 0) 0 []]) :=
 M.add (Below.refl _ _) _ (World.ownsRow_nil _ _ _ _) fun g hg => by cases hg
theorem Fr.set {r : T7} {i : Nat} {a : T7} (_hi : L[i]? = some a) {b : Nat} (h : Fr φ L b) (hr : ¬ r.blk b) : Fr φ (L.set i r) b :=
 ⟨h.1, fun x hx => by
  rcases List.mem_or_eq_of_mem_set hx with hx | rfl
  ·exact h.2 x hx
  exact hr⟩
theorem D9.put (M : D9 φ ψ w0 w L) {i : Nat} {a : T7} (hi : L[i]? = some a) (r : T7) (hk : B7 (fun b => ¬ a.blk b) w w') (h : r.holds w' (Fr φ (L.set i r))) (hg : ∀ g, r.blk g -> a.blk g \/ w.heap.size <= g) : D9 φ ψ w0 w' (L.set i r) := by
 have hil := (b66.1 hi).1
 have ha := b79 hi
 have get : ∀ (j : Nat) (z : T7), (L.set i r)[j]? = some z -> (j ≠ i /\ L[j]? = some z) \/ (j = i /\ z = r) := by
  intro j z hz
  by_cases e : j = i
  ·subst e; rw [List.getElem?_set_self hil] at hz; exact .inr ⟨rfl, (Option.some.inj hz).symm⟩
  rw [List.getElem?_set_ne (fun h => e h.symm)] at hz; exact .inl ⟨e, hz⟩
 refine ⟨⟨hk.os.trans M.kept.os, hk.tape.trans M.kept.tape, hk.output.trans M.kept.output, b54 M.size hk.size, fun b hb hp => (hk.block b (Nat.lt_of_lt_of_le hb M.size) fun he => ?_).trans (M.kept.block b hb hp)⟩, M.fresh, fun x hx => ?_, fun j k x y g hj hk' hjk hx hy => ?_, fun x g hx hxg => ?_⟩
 ·rcases M.ge a b ha he with h' | h'
  ·omega
  exact h' hp
 ·obtain ⟨j, hj⟩ := List.mem_iff_getElem?.1 hx
  rcases get j x hj with ⟨hne, hj'⟩ | ⟨_, rfl⟩
  ·refine T7.keep (M.holds x (b79 hj')) ⟨hk.size, fun b hb hf => ⟨Fr.set hi hf fun he => ?_, hk.block b hb (hf.2 a ha)⟩⟩ fun g hgx => hk.block g (M.lt (b79 hj') hgx) fun he => M.dis i j a x g hi hj' (fun e => hne e.symm) he hgx
   rcases hg b he with h' | h'
   ·exact hf.2 a ha h'
   omega
  exact h
 ·rcases get j x hj with ⟨hne, hj'⟩ | ⟨e1, rfl⟩ <;> rcases get k y hk' with ⟨hne', hk''⟩ | ⟨e2, rfl⟩
  ·exact M.dis j k x y g hj' hk'' hjk hx hy
  ·rcases hg g hy with h' | h'
   ·exact M.dis j i x a g hj' hi hne hx h'
   have := M.lt (b79 hj') hx; omega
  ·rcases hg g hx with h' | h'
   ·exact M.dis i k a y g hi hk'' (fun e => hne' e.symm) h' hy
   have := M.lt (b79 hk'') hy; omega
  omega
 obtain ⟨j, hj⟩ := List.mem_iff_getElem?.1 hx
 rcases get j x hj with ⟨hne, hj'⟩ | ⟨_, rfl⟩
 ·exact M.ge x g (b79 hj') hxg
 rcases hg g hxg with h' | h'
 ·exact M.ge a g ha h'
 exact .inl (b54 M.size h')
theorem B7.mono {ψ ψ' : Nat -> Prop} {w w' : World} (h : B7 ψ w w') (hp : ∀ b, ψ' b -> ψ b) : B7 ψ' w w' := ⟨h.os, h.tape, h.output, h.size, fun b hb hp' => h.block b hb (hp b hp')⟩
theorem B7.setCell (w : World) (b j : Nat) (u : Value) : B7 (fun c => ¬ c = b) w (w.setCell ⟨b, j, none⟩ u) :=
 ⟨rfl, rfl, rfl, by simp [World.setCell], fun c _ hc => Below.heap_setCell _ _ _ _ hc⟩
theorem D9.set (M : D9 φ ψ w0 w L) (i : Nat) {b : Nat} {cs : List Value} (hi : L[i]? = some (.box b cs)) (j : Nat) (u : Value) : D9 φ ψ w0 (w.setCell ⟨b, j, none⟩ u) (L.set i (.box b (cs.set j u))) :=
 M.put hi _ (B7.setCell w b j u) (T9.set (M.holds _ (b79 hi)) u) fun _ hg => .inl hg
theorem D9.setFrom (us : List Value) : ∀ {w : World} {L : List T7} {p : Nat} {cs : List Value}, D9 φ ψ w0 w L -> ∀ (i : Nat) {b : Nat}, L[i]? = some (.box b cs) -> D9 φ ψ w0 (World.setFrom w b p us) (L.set i (.box b (Go.Proofs.YtompcdbfongedaaGreatDoor.setFrom cs p us))) := by
 induction us with
 | nil =>
  intro w L p cs M i b hi
  have : L.set i (.box b cs) = L := by
   apply List.ext_getElem?
   intro j
   rw [List.getElem?_set]
   split
   ·rename_i e; subst e; rw [if_pos (b66.1 hi).1, hi]
   rfl
  show D9 φ ψ w0 w (L.set i (.box b cs))
  rw [this]; exact M
 | cons u r ih =>
  intro w L p cs M i b hi
  have h1 := M.set i hi p u
  have h2 := ih (p := p + 1) h1 i (by rw [List.getElem?_set_self (b66.1 hi).1])
  rw [List.set_set] at h2
  exact h2
theorem aP9 {cs us : List Value} (h : us.length = cs.length) : Go.Proofs.YtompcdbfongedaaGreatDoor.setFrom cs 0 us = us := by
 have h1 := ak1 us cs 0 (by omega)
 rw [b97, b75 (by rw [F7]; omega)] at h1
 simpa using h1
theorem D9.fill (M : D9 φ ψ w0 w L) (i : Nat) {b : Nat} {cs : List Value} (hi : L[i]? = some (.box b cs)) (us : List Value) (h : us.length = cs.length) : D9 φ ψ w0 (World.setFrom w b 0 us) (L.set i (.box b us)) := by
 have h1 := M.setFrom us (p := 0) i hi
 rwa [aP9 h] at h1
theorem D9.callB (M : D9 φ ψ w0 w L) (i : Nat) {b : Nat} {cs cs' : List Value} (hi : L[i]? = some (.box b cs)) (hk : B7 (fun c => ¬ c = b) w w') (h : T9 w' b cs') : D9 φ ψ w0 w' (L.set i (.box b cs')) :=
 M.put hi _ hk h fun _ hg => .inl hg
theorem D9.app (M : D9 φ ψ w0 w L) (i : Nat) {e : TypeId} {sz : Nat} {v v' : Value} {n n' : Nat} {xs xs' : List Value} (hi : L[i]? = some (.row e sz v n xs)) (h : w'.ownsRow 0 e sz v' n' xs') (hg : w.grownBy w' v.ownBlock) (hb : ∀ g, v'.ownBlock = some g -> v.ownBlock = some g \/ w.heap.size <= g) :
  D9 φ ψ w0 w' (L.set i (.row e sz v' n' xs')) :=
 M.put hi _ ⟨hg.os, hg.tape, hg.output, hg.size, fun b hb hn => hg.block b hb fun h => hn h.symm⟩ h hb
theorem D9.take (M : D9 φ ψ w0 w L) (k : Nat) : D9 φ ψ w0 w (L.take k) :=
 ⟨M.kept, M.fresh, fun r hr => T7.keep (M.holds r (List.mem_of_mem_take hr)) (I5.mono fun _ _ hf => ⟨hf.1, fun x hx => hf.2 x (List.mem_of_mem_take hx)⟩) fun _ _ => rfl,
  fun i j a b g hi hj hij => M.dis i j a b g (by rw [List.getElem?_take] at hi; split at hi; exact hi; cases hi) (by rw [List.getElem?_take] at hj; split at hj; exact hj; cases hj) hij, fun r b hr => M.ge r b (List.mem_of_mem_take hr)⟩
theorem D9.sel (M : D9 φ ψ w0 w L) (is : List Nat) (L' : List T7) (h : L'.map some = is.map fun i => L[i]?) (hn : is.Nodup) : D9 φ ψ w0 w L' := by
 have hl : L'.length = is.length := by simpa using congrArg List.length h
 have get : ∀ (j : Nat) (r : T7), L'[j]? = some r -> ∃ i, is[j]? = some i /\ L[i]? = some r := by
  intro j r hj
  have h1 : (L'.map some)[j]? = some (some r) := by simp [hj]
  rw [h, b78] at h1
  cases hi : is[j]? with
  | none => rw [hi] at h1; cases h1
  | some i => rw [hi] at h1; exact ⟨i, rfl, Option.some.inj h1⟩
 have mem : ∀ r, r ∈ L' -> r ∈ L := fun r hr => by
  obtain ⟨j, hj⟩ := List.mem_iff_getElem?.1 hr
  obtain ⟨i, _, hi⟩ := get j r hj
  exact b79 hi
 refine ⟨M.kept, M.fresh, fun r hr => T7.keep (M.holds r (mem r hr)) (I5.mono fun _ _ hf => ⟨hf.1, fun x hx => hf.2 x (mem x hx)⟩) fun _ _ => rfl, fun j k a b g hj hk hjk ha hb => ?_, fun r b hr => M.ge r b (mem r hr)⟩
 obtain ⟨i1, e1, h1⟩ := get j a hj
 obtain ⟨i2, e2, h2⟩ := get k b hk
 refine M.dis i1 i2 a b g h1 h2 (fun e => hjk ?_) ha hb
 subst e
 have hlt := (b66.1 e1).1
 exact (List.getElem?_inj hlt hn).1 (e1.trans e2.symm)
theorem D9.c (M : D9 φ ψ w0 w L) (i j : Nat) {b : Nat} {cs : List Value} {u : Value} (hi : L[i]? = some (.box b cs)) (hj : cs[j]? = some u) : w.cell? ⟨b, j, none⟩ = some u :=
 (T9.cell (M.holds _ (b79 hi)) j).trans hj
theorem D9.f (M : D9 φ ψ w0 w L) (i : Nat) {b : Nat} {cs : List Value} (hi : L[i]? = some (.box b cs)) : ∀ j, w.frozen? ⟨b, j, none⟩ = false := T9.free (M.holds _ (b79 hi))
theorem D9.blk (M : D9 φ ψ w0 w L) (i : Nat) {b : Nat} {cs : List Value} (hi : L[i]? = some (.box b cs)) : T9 w b cs := M.holds _ (b79 hi)
theorem D9.d (M : D9 φ ψ w0 w L) (i : Nat) {R : World -> (Nat -> Prop) -> Prop} (hi : L[i]? = some (.dat R)) : R w (Fr φ L) := (M.holds _ (b79 hi)).2
theorem D9.dn (M : D9 φ ψ w0 w L) (i : Nat) {R : World -> (Nat -> Prop) -> Prop} (hi : L[i]? = some (.dat R)) : Z0 R := (M.holds _ (b79 hi)).1
theorem D9.out (M : D9 φ ψ w0 w L) (i : Nat) {R : World -> (Nat -> Prop) -> Prop} (hi : L[i]? = some (.dat R)) : R w φ := M.dn i hi _ _ _ _ (I5.mono fun _ _ hf => hf.1) (M.d i hi)
theorem D9.as (M : D9 φ ψ w0 w L) (L' : List T7) (h : L = L') : D9 φ ψ w0 w L' := h ▸ M
end
def b50 (w : World) : Prop := Lib.TabIs Tryz.prog w "internal/strconv.uint64pow10" .u64 Lib.pow10Tab
def bY6 (w : World) : Prop := (∃ te pe, w.var? Tryz.prog "strconv.ErrSyntax" = some #[.iface te pe]) /\ (∃ te pe, w.var? Tryz.prog "strconv.ErrRange" = some #[.iface te pe])
def b49 (w : World) : Prop := b50 w /\ bY6 w
def bf8 (ψ : Nat -> Prop) (w0 : World) : Prop := ∀ w', B7 ψ w0 w' -> b49 w'
end Go.Proofs.YtompcdbfongedaaGreatDoor

namespace Go.Proofs.YtompcdbfongedaaGreatDoor
inductive b7 where
 | mk (kind value : Int) (kids : List b7)
def b7.kind : b7 -> Int | ⟨k, _, _⟩ => k
def b7.value : b7 -> Int | ⟨_, n, _⟩ => n
def b7.kids : b7 -> List b7 | ⟨_, _, ks⟩ => ks
inductive b5 where
 | mk (kind target : Int) (index value : b7) (count : Int) (body els : List b5)
def b5.kind : b5 -> Int | ⟨k, _, _, _, _, _, _⟩ => k
def b5.target : b5 -> Int | ⟨_, t, _, _, _, _, _⟩ => t
def b5.index : b5 -> b7 | ⟨_, _, i, _, _, _, _⟩ => i
def b5.value : b5 -> b7 | ⟨_, _, _, v, _, _, _⟩ => v
def b5.count : b5 -> Int | ⟨_, _, _, _, c, _, _⟩ => c
def b5.body : b5 -> List b5 | ⟨_, _, _, _, _, b, _⟩ => b
def b5.els : b5 -> List b5 | ⟨_, _, _, _, _, _, e⟩ => e
structure j0 where
 vars : List Int
 arrays : List Int
 body : List b5
mutual
theorem b7.ind {P : b7 -> Prop} (h : ∀ k n ks, (∀ e ∈ ks, P e) -> P ⟨k, n, ks⟩) : ∀ e : b7, P e
 | ⟨k, n, ks⟩ => h k n ks (b7.indL h ks)
theorem b7.indL {P : b7 -> Prop} (h : ∀ k n ks, (∀ e ∈ ks, P e) -> P ⟨k, n, ks⟩) : ∀ ks : List b7, ∀ e ∈ ks, P e
 | [] => fun _ hm => by cases hm
 | a :: r => fun _ hm => (b76.1 hm).elim (fun he => he ▸ b7.ind h a) fun hm => b7.indL h r _ hm
end
mutual
theorem b5.ind {P : b5 -> Prop} (h : ∀ k t i v c b e, (∀ s ∈ b, P s) -> (∀ s ∈ e, P s) -> P ⟨k, t, i, v, c, b, e⟩) : ∀ s : b5, P s
 | ⟨k, t, i, v, c, b, e⟩ => h k t i v c b e (b5.indL h b) (b5.indL h e)
theorem b5.indL {P : b5 -> Prop} (h : ∀ k t i v c b e, (∀ s ∈ b, P s) -> (∀ s ∈ e, P s) -> P ⟨k, t, i, v, c, b, e⟩) : ∀ ss : List b5, ∀ s ∈ ss, P s
 | [] => fun _ hm => by cases hm
 | a :: r => fun _ hm => (b76.1 hm).elim (fun he => he ▸ b5.ind h a) fun hm => b5.indL h r _ hm
end
mutual
def L8 : b7 -> Nat
 | ⟨_, _, ks⟩ => s2 ks
def s2 : List b7 -> Nat
 | [] => 0
 | e :: r => 1 + L8 e + s2 r
end
mutual
def szS : b5 -> Nat
 | ⟨_, _, i, v, _, b, e⟩ => L8 i + L8 v + p9 b + p9 e
def p9 : List b5 -> Nat
 | [] => 0
 | s :: r => 1 + szS s + p9 r
end
def j0.size (p : j0) : Nat := p.vars.length + p.arrays.length + p9 p.body
theorem ab0 (a b : List b7) : s2 (a ++ b) = s2 a + s2 b := by
 induction a with
 | nil => simp [s2]
 | cons x r ih => simp [s2, ih]; omega
theorem bi8 (a : List b7) : a.length <= s2 a := by
 induction a with
 | nil => simp
 | cons x r ih => simp only [s2, b58]; omega
theorem aj7 (a : List b5) : a.length <= p9 a := by
 induction a with
 | nil => simp
 | cons x r ih => simp only [p9, b58]; omega
theorem bv2 {e : b7} {ks : List b7} (h : e ∈ ks) : L8 e < s2 ks := by
 induction ks with
 | nil => cases h
 | cons x r ih =>
  simp only [s2]
  rcases b76.1 h with rfl | h
  ·omega
  have := ih h; omega
theorem U3 {s : b5} {ss : List b5} (h : s ∈ ss) : szS s < p9 ss := by
 induction ss with
 | nil => cases h
 | cons x r ih =>
  simp only [p9]
  rcases b76.1 h with rfl | h
  ·omega
  have := ih h; omega
mutual
def I7 : b7 -> b7 -> Bool
 | ⟨k, n, ks⟩, ⟨k', n', ks'⟩ => decide (k = k') && decide (n = n') && I6 ks ks'
def I6 : List b7 -> List b7 -> Bool
 | [], [] => true
 | e :: r, e' :: r' => I7 e e' && I6 r r'
 | _, _ => false
end
mutual
def M4 : b5 -> b5 -> Bool
 | ⟨k, t, i, v, c, b, e⟩, ⟨k', t', i', v', c', b', e'⟩ => decide (k = k') && decide (t = t') && I7 i i' && I7 v v' && decide (c = c') && z7 b b' && z7 e e'
def z7 : List b5 -> List b5 -> Bool
 | [], [] => true
 | s :: r, s' :: r' => M4 s s' && z7 r r'
 | _, _ => false
end
mutual
theorem K1 : ∀ (a b : b7), I7 a b = true ↔ a = b
 | ⟨k, n, ks⟩, ⟨k', n', ks'⟩ => by
  simp only [I7, b57, decide_eq_true_eq, b7.mk.injEq, W4 ks ks', and_assoc]
theorem W4 : ∀ (a b : List b7), I6 a b = true ↔ a = b
 | [], [] => by simp [I6]
 | [], _ :: _ => by simp [I6]
 | _ :: _, [] => by simp [I6]
 | e :: r, e' :: r' => by simp only [I6, b57, List.cons.injEq, K1 e e', W4 r r']
end
mutual
theorem ab5 : ∀ (a b : b5), M4 a b = true ↔ a = b
 | ⟨k, t, i, v, c, b, e⟩, ⟨k', t', i', v', c', b', e'⟩ => by
  simp only [M4, b57, decide_eq_true_eq, b5.mk.injEq, K1 i i', K1 v v', H2 b b', H2 e e', and_assoc]
theorem H2 : ∀ (a b : List b5), z7 a b = true ↔ a = b
 | [], [] => by simp [z7]
 | [], _ :: _ => by simp [z7]
 | _ :: _, [] => by simp [z7]
 | e :: r, e' :: r' => by simp only [z7, b57, List.cons.injEq, ab5 e e', H2 r r']
end
def j0.same (p q : j0) : Bool := decide (p.vars = q.vars) && decide (p.arrays = q.arrays) && z7 p.body q.body
end Go.Proofs.YtompcdbfongedaaGreatDoor

namespace Go.Proofs.YtompcdbfongedaaGreatDoor
open Go Go.RowKit
section
mutual
def N9 (w : World) (φ : Nat -> Prop) : b7 -> List Value -> Prop
 | ⟨k, n, ks⟩, cs => ∃ v xs, cs = [.int .i64 k, .int .i64 n, v] /\ z8 w φ v ks.length 3 xs /\ y5 w φ ks xs
def y5 (w : World) (φ : Nat -> Prop) : List b7 -> List Value -> Prop
 | [], xs => xs = []
 | e :: r, xs => ∃ c ys, xs = c ++ ys /\ N9 w φ e c /\ y5 w φ r ys
end
def l8 (w : World) (φ : Nat -> Prop) (v : Value) (ks : List b7) : Prop := ∃ xs, z8 w φ v ks.length 3 xs /\ y5 w φ ks xs
def x3 (w : World) (φ : Nat -> Prop) (v : Value) (e : b7) : Prop := ∃ kv, v = .agg #[.int .i64 e.kind, .int .i64 e.value, kv] /\ l8 w φ kv e.kids
mutual
def M9 (w : World) (φ : Nat -> Prop) : b5 -> List Value -> Prop
 | ⟨k, t, i, v, c, b, e⟩, cs => ∃ iv vv bv ev xb xe, cs = [.int .i64 k, .int .i64 t, .int .i64 i.kind, .int .i64 i.value, iv, .int .i64 v.kind, .int .i64 v.value, vv, .int .i64 c, bv, ev] /\
   l8 w φ iv i.kids /\ l8 w φ vv v.kids /\ z8 w φ bv b.length 11 xb /\ w7 w φ b xb /\ z8 w φ ev e.length 11 xe /\ w7 w φ e xe
def w7 (w : World) (φ : Nat -> Prop) : List b5 -> List Value -> Prop
 | [], xs => xs = []
 | s :: r, xs => ∃ c ys, xs = c ++ ys /\ M9 w φ s c /\ w7 w φ r ys
end
def G6 (w : World) (φ : Nat -> Prop) (v : Value) (ss : List b5) : Prop := ∃ xs, z8 w φ v ss.length 11 xs /\ w7 w φ ss xs
def bb7 (w : World) (φ : Nat -> Prop) (v : Value) (s : b5) : Prop :=
 ∃ iv vv bv ev, v = .agg #[.int .i64 s.kind, .int .i64 s.target, .int .i64 s.index.kind, .int .i64 s.index.value, iv, .int .i64 s.value.kind, .int .i64 s.value.value, vv, .int .i64 s.count, bv, ev] /\
  l8 w φ iv s.index.kids /\ l8 w φ vv s.value.kids /\ G6 w φ bv s.body /\ G6 w φ ev s.els
def bu5 (w : World) (φ : Nat -> Prop) (v : Value) (p : j0) : Prop :=
 ∃ v1 v2 v3, v = .agg #[v1, v2, v3] /\ z8 w φ v1 p.vars.length 1 (ints p.vars) /\ z8 w φ v2 p.arrays.length 1 (ints p.arrays) /\ G6 w φ v3 p.body
variable {w w' : World} {φ φ' : Nat -> Prop}
mutual
theorem N9.agr (ha : I5 φ φ' w w') : ∀ (e : b7) (cs : List Value), N9 w φ e cs -> N9 w' φ' e cs
 | ⟨_, _, ks⟩, _, ⟨v, xs, h1, h2, h3⟩ => ⟨v, xs, h1, z8.nice _ _ _ _ _ _ _ _ ha h2, y5.agr ha ks xs h3⟩
theorem y5.agr (ha : I5 φ φ' w w') : ∀ (ks : List b7) (xs : List Value), y5 w φ ks xs -> y5 w' φ' ks xs
 | [], _, h => h
 | e :: r, _, ⟨c, ys, h1, h2, h3⟩ => ⟨c, ys, h1, N9.agr ha e c h2, y5.agr ha r ys h3⟩
end
theorem y5.nice (ks : List b7) (xs : List Value) : Z0 fun w φ => y5 w φ ks xs := fun _ _ _ _ ha h => y5.agr ha ks xs h
theorem l8.nice (v : Value) (ks : List b7) : Z0 fun w φ => l8 w φ v ks := fun _ _ _ _ ha ⟨xs, h1, h2⟩ => ⟨xs, z8.nice _ _ _ _ _ _ _ _ ha h1, y5.agr ha ks xs h2⟩
theorem x3.nice (v : Value) (e : b7) : Z0 fun w φ => x3 w φ v e := fun _ _ _ _ ha ⟨kv, h1, h2⟩ => ⟨kv, h1, l8.nice _ _ _ _ _ _ ha h2⟩
mutual
theorem M9.agr (ha : I5 φ φ' w w') : ∀ (s : b5) (cs : List Value), M9 w φ s cs -> M9 w' φ' s cs
 | ⟨_, _, _, _, _, b, e⟩, _, ⟨iv, vv, bv, ev, xb, xe, h1, h2, h3, h4, h5, h6, h7⟩ =>
  ⟨iv, vv, bv, ev, xb, xe, h1, l8.nice _ _ _ _ _ _ ha h2, l8.nice _ _ _ _ _ _ ha h3, z8.nice _ _ _ _ _ _ _ _ ha h4, w7.agr ha b xb h5, z8.nice _ _ _ _ _ _ _ _ ha h6, w7.agr ha e xe h7⟩
theorem w7.agr (ha : I5 φ φ' w w') : ∀ (ss : List b5) (xs : List Value), w7 w φ ss xs -> w7 w' φ' ss xs
 | [], _, h => h
 | s :: r, _, ⟨c, ys, h1, h2, h3⟩ => ⟨c, ys, h1, M9.agr ha s c h2, w7.agr ha r ys h3⟩
end
theorem w7.nice (ss : List b5) (xs : List Value) : Z0 fun w φ => w7 w φ ss xs := fun _ _ _ _ ha h => w7.agr ha ss xs h
theorem G6.nice (v : Value) (ss : List b5) : Z0 fun w φ => G6 w φ v ss := fun _ _ _ _ ha ⟨xs, h1, h2⟩ => ⟨xs, z8.nice _ _ _ _ _ _ _ _ ha h1, w7.agr ha ss xs h2⟩
theorem bb7.nice (v : Value) (s : b5) : Z0 fun w φ => bb7 w φ v s := fun _ _ _ _ ha ⟨iv, vv, bv, ev, h1, h2, h3, h4, h5⟩ =>
 ⟨iv, vv, bv, ev, h1, l8.nice _ _ _ _ _ _ ha h2, l8.nice _ _ _ _ _ _ ha h3, G6.nice _ _ _ _ _ _ ha h4, G6.nice _ _ _ _ _ _ ha h5⟩
theorem bu5.nice (v : Value) (p : j0) : Z0 fun w φ => bu5 w φ v p := fun _ _ _ _ ha ⟨v1, v2, v3, h1, h2, h3, h4⟩ =>
 ⟨v1, v2, v3, h1, z8.nice _ _ _ _ _ _ _ _ ha h2, z8.nice _ _ _ _ _ _ _ _ ha h3, G6.nice _ _ _ _ _ _ ha h4⟩
theorem N9.iff (e : b7) (cs : List Value) : N9 w φ e cs ↔ ∃ kv, cs = [.int .i64 e.kind, .int .i64 e.value, kv] /\ l8 w φ kv e.kids := by
 cases e with
 | mk k n ks => exact ⟨fun ⟨v, xs, h1, h2, h3⟩ => ⟨v, h1, xs, h2, h3⟩, fun ⟨v, h1, xs, h2, h3⟩ => ⟨v, xs, h1, h2, h3⟩⟩
theorem M9.iff (s : b5) (cs : List Value) : M9 w φ s cs ↔ ∃ iv vv bv ev, cs = [.int .i64 s.kind, .int .i64 s.target, .int .i64 s.index.kind, .int .i64 s.index.value, iv, .int .i64 s.value.kind, .int .i64 s.value.value, vv, .int .i64 s.count, bv, ev] /\
  l8 w φ iv s.index.kids /\ l8 w φ vv s.value.kids /\ G6 w φ bv s.body /\ G6 w φ ev s.els := by
 cases s with
 | mk k t i v c b e =>
  exact ⟨fun ⟨iv, vv, bv, ev, xb, xe, h1, h2, h3, h4, h5, h6, h7⟩ => ⟨iv, vv, bv, ev, h1, h2, h3, ⟨xb, h4, h5⟩, ⟨xe, h6, h7⟩⟩,
   fun ⟨iv, vv, bv, ev, h1, h2, h3, ⟨xb, h4, h5⟩, ⟨xe, h6, h7⟩⟩ => ⟨iv, vv, bv, ev, xb, xe, h1, h2, h3, h4, h5, h6, h7⟩⟩
theorem x3.iff {v : Value} {e : b7} : x3 w φ v e ↔ ∃ cs : List Value, v = .agg cs.toArray /\ N9 w φ e cs :=
 ⟨fun ⟨kv, h1, h2⟩ => ⟨_, h1, (N9.iff e _).2 ⟨kv, rfl, h2⟩⟩, fun ⟨cs, h1, h2⟩ => by obtain ⟨kv, rfl, h3⟩ := (N9.iff e cs).1 h2; exact ⟨kv, h1, h3⟩⟩
theorem bb7.iff {v : Value} {s : b5} : bb7 w φ v s ↔ ∃ cs : List Value, v = .agg cs.toArray /\ M9 w φ s cs :=
 ⟨fun ⟨iv, vv, bv, ev, h1, h2⟩ => ⟨_, h1, (M9.iff s _).2 ⟨iv, vv, bv, ev, rfl, h2⟩⟩, fun ⟨cs, h1, h2⟩ => by obtain ⟨iv, vv, bv, ev, rfl, h3⟩ := (M9.iff s cs).1 h2; exact ⟨iv, vv, bv, ev, h1, h3⟩⟩
theorem y5.len : ∀ {ks : List b7} {xs : List Value}, y5 w φ ks xs -> xs.length = ks.length * 3
 | [], _, h => by rw [show _ = [] from h]; rfl
 | e :: r, _, ⟨c, ys, h1, h2, h3⟩ => by
  obtain ⟨kv, rfl, _⟩ := (N9.iff e c).1 h2
  rw [h1, b69, y5.len h3, b58]; simp; omega
theorem w7.len : ∀ {ss : List b5} {xs : List Value}, w7 w φ ss xs -> xs.length = ss.length * 11
 | [], _, h => by rw [show _ = [] from h]; rfl
 | s :: r, _, ⟨c, ys, h1, h2, h3⟩ => by
  obtain ⟨iv, vv, bv, ev, rfl, _⟩ := (M9.iff s c).1 h2
  rw [h1, b69, w7.len h3, b58]; simp; omega
theorem y5.at : ∀ {ks : List b7} {xs : List Value}, y5 w φ ks xs -> ∀ (i : Nat) (hi : i < ks.length), ∃ kv, xs[i * 3]? = some (.int .i64 ks[i].kind) /\ xs[i * 3 + 1]? = some (.int .i64 ks[i].value) /\ xs[i * 3 + 2]? = some kv /\ l8 w φ kv ks[i].kids
 | [], _, _, i, hi => by simp at hi
 | e :: r, _, ⟨c, ys, h1, h2, h3⟩, i, hi => by
  obtain ⟨kv, rfl, hk⟩ := (N9.iff e c).1 h2
  subst h1
  cases i with
  | zero => exact ⟨kv, rfl, rfl, rfl, hk⟩
  | succ i =>
   obtain ⟨kv', a, b, d, f⟩ := y5.at h3 i (by simpa using hi)
   refine ⟨kv', ?_, ?_, ?_, f⟩ <;> (rw [b90]; simpa [Nat.add_assoc] using by assumption)
theorem w7.at : ∀ {ss : List b5} {xs : List Value}, w7 w φ ss xs -> ∀ (i : Nat) (hi : i < ss.length), ∃ cs : List Value, cs.length = 11 /\ M9 w φ ss[i] cs /\ ∀ j, j < 11 -> xs[i * 11 + j]? = cs[j]?
 | [], _, _, i, hi => by simp at hi
 | s :: r, _, ⟨c, ys, h1, h2, h3⟩, i, hi => by
  have hc : c.length = 11 := by obtain ⟨iv, vv, bv, ev, rfl, _⟩ := (M9.iff s c).1 h2; rfl
  subst h1
  cases i with
  | zero => exact ⟨c, hc, h2, fun j hj => by rw [b95 (by omega)]; simp⟩
  | succ i =>
   obtain ⟨cs, a, b, d⟩ := w7.at h3 i (by simpa using hi)
   refine ⟨cs, a, b, fun j hj => ?_⟩
   rw [List.getElem?_append_right (by rw [hc, b90]; omega), <- d j hj]
   congr 1
   rw [hc, b90]; omega
theorem y5.append : ∀ {ks : List b7} {xs : List Value} {ls : List b7} {ys : List Value}, y5 w φ ks xs -> y5 w φ ls ys -> y5 w φ (ks ++ ls) (xs ++ ys)
 | [], _, _, _, h, k => by rw [show _ = [] from h]; exact k
 | e :: r, _, _, _, ⟨c, zs, h1, h2, h3⟩, k => ⟨c, zs ++ _, by rw [h1, b83], h2, y5.append h3 k⟩
theorem y5.one {e : b7} {c : List Value} (h : N9 w φ e c) : y5 w φ [e] c := ⟨c, [], by simp, h, rfl⟩
theorem w7.append : ∀ {ks : List b5} {xs : List Value} {ls : List b5} {ys : List Value}, w7 w φ ks xs -> w7 w φ ls ys -> w7 w φ (ks ++ ls) (xs ++ ys)
 | [], _, _, _, h, k => by rw [show _ = [] from h]; exact k
 | e :: r, _, _, _, ⟨c, zs, h1, h2, h3⟩, k => ⟨c, zs ++ _, by rw [h1, b83], h2, w7.append h3 k⟩
theorem w7.one {s : b5} {c : List Value} (h : M9 w φ s c) : w7 w φ [s] c := ⟨c, [], by simp, h, rfl⟩
theorem l8.open {v : Value} {ks : List b7} (h : l8 w φ v ks) : ∃ a cap, v = .slice a ks.length cap /\ ks.length <= cap /\ ks.length <= 9223372036854775807 /\ cap <= 9223372036854775807 /\
  ∀ i (hi : i < ks.length), ∃ b off kv, a = some ⟨b, off, none⟩ /\ b < w.heap.size /\ φ b /\ w.cell? ⟨b, off + i * 3, none⟩ = some (.int .i64 ks[i].kind) /\ w.cell? ⟨b, off + i * 3 + 1, none⟩ = some (.int .i64 ks[i].value) /\ w.cell? ⟨b, off + i * 3 + 2, none⟩ = some kv /\ l8 w φ kv ks[i].kids := by
 obtain ⟨xs, ⟨hl, a, cap, rfl, h1, h2, h3⟩, hx⟩ := h
 unfold maxLen at h2
 refine ⟨a, cap, rfl, h1, by omega, by omega, fun i hi => ?_⟩
 obtain ⟨b, off, rfl, hb, hf, hc⟩ := h3 (by omega)
 obtain ⟨kv, e0, e1, e2, hk⟩ := hx.at i hi
 exact ⟨b, off, kv, rfl, hb, hf, hc _ _ e0, hc _ _ e1, hc _ _ e2, hk⟩
theorem G6.open {v : Value} {ss : List b5} (h : G6 w φ v ss) : ∃ a cap, v = .slice a ss.length cap /\ ss.length <= cap /\ ss.length <= 9223372036854775807 /\ cap <= 9223372036854775807 /\
  ∀ i (hi : i < ss.length), ∃ b off iv vv bv ev, a = some ⟨b, off, none⟩ /\ b < w.heap.size /\ φ b /\
   (w.cell? ⟨b, off + i * 11, none⟩ = some (.int .i64 ss[i].kind) /\ w.cell? ⟨b, off + i * 11 + 1, none⟩ = some (.int .i64 ss[i].target) /\ w.cell? ⟨b, off + i * 11 + 2, none⟩ = some (.int .i64 ss[i].index.kind) /\ w.cell? ⟨b, off + i * 11 + 3, none⟩ = some (.int .i64 ss[i].index.value) /\ w.cell? ⟨b, off + i * 11 + 4, none⟩ = some iv /\
    w.cell? ⟨b, off + i * 11 + 5, none⟩ = some (.int .i64 ss[i].value.kind) /\ w.cell? ⟨b, off + i * 11 + 6, none⟩ = some (.int .i64 ss[i].value.value) /\ w.cell? ⟨b, off + i * 11 + 7, none⟩ = some vv /\ w.cell? ⟨b, off + i * 11 + 8, none⟩ = some (.int .i64 ss[i].count) /\ w.cell? ⟨b, off + i * 11 + 9, none⟩ = some bv /\ w.cell? ⟨b, off + i * 11 + 10, none⟩ = some ev) /\
   l8 w φ iv ss[i].index.kids /\ l8 w φ vv ss[i].value.kids /\ G6 w φ bv ss[i].body /\ G6 w φ ev ss[i].els := by
 obtain ⟨xs, ⟨hl, a, cap, rfl, h1, h2, h3⟩, hx⟩ := h
 unfold maxLen at h2
 refine ⟨a, cap, rfl, h1, by omega, by omega, fun i hi => ?_⟩
 obtain ⟨b, off, rfl, hb, hf, hc⟩ := h3 (by omega)
 obtain ⟨cs, hl2, hs, hj⟩ := hx.at i hi
 obtain ⟨iv, vv, bv, ev, rfl, k1, k2, k3, k4⟩ := (M9.iff _ _).1 hs
 refine ⟨b, off, iv, vv, bv, ev, rfl, hb, hf, ⟨?_, ?_, ?_, ?_, ?_, ?_, ?_, ?_, ?_, ?_, ?_⟩, k1, k2, k3, k4⟩
 ·have := hc (i * 11 + 0) _ ((hj 0 (by omega)).trans rfl); simpa using this
 ·exact hc (i * 11 + 1) _ ((hj 1 (by omega)).trans rfl)
 ·exact hc (i * 11 + 2) _ ((hj 2 (by omega)).trans rfl)
 ·exact hc (i * 11 + 3) _ ((hj 3 (by omega)).trans rfl)
 ·exact hc (i * 11 + 4) _ ((hj 4 (by omega)).trans rfl)
 ·exact hc (i * 11 + 5) _ ((hj 5 (by omega)).trans rfl)
 ·exact hc (i * 11 + 6) _ ((hj 6 (by omega)).trans rfl)
 ·exact hc (i * 11 + 7) _ ((hj 7 (by omega)).trans rfl)
 ·exact hc (i * 11 + 8) _ ((hj 8 (by omega)).trans rfl)
 ·exact hc (i * 11 + 9) _ ((hj 9 (by omega)).trans rfl)
 exact hc (i * 11 + 10) _ ((hj 10 (by omega)).trans rfl)
theorem l8.nil (w : World) (φ : Nat -> Prop) : l8 w φ (.slice none 0 0) [] := ⟨[], z8.nil _ _ _, rfl⟩
theorem G6.nil (w : World) (φ : Nat -> Prop) : G6 w φ (.slice none 0 0) [] := ⟨[], z8.nil _ _ _, rfl⟩
end
section
mutual
def D6 (w : World) : b7 -> (Nat -> Prop) -> List Value -> Prop
 | ⟨k, n, ks⟩, S, cs => ∃ (v : Value) (xs : List Value) (S' : Nat -> Prop), cs = [.int .i64 k, .int .i64 n, v] /\ w.ownsRow 0 67 3 v ks.length xs /\ (∀ g, v.ownBlock = some g -> S g /\ ¬ S' g) /\ (∀ b, S' b -> S b) /\ o4 w ks S' xs
def o4 (w : World) : List b7 -> (Nat -> Prop) -> List Value -> Prop
 | [], _, xs => xs = []
 | e :: r, S, xs => ∃ (c ys : List Value) (S1 S2 : Nat -> Prop), xs = c ++ ys /\ (∀ b, S1 b -> S b /\ ¬ S2 b) /\ (∀ b, S2 b -> S b) /\ D6 w e S1 c /\ o4 w r S2 ys
end
def G2 (w : World) (v : Value) (ks : List b7) (S : Nat -> Prop) : Prop :=
 ∃ (xs : List Value) (S' : Nat -> Prop), w.ownsRow 0 67 3 v ks.length xs /\ (∀ g, v.ownBlock = some g -> S g /\ ¬ S' g) /\ (∀ b, S' b -> S b) /\ o4 w ks S' xs
mutual
def E7 (w : World) : b5 -> (Nat -> Prop) -> List Value -> Prop
 | ⟨k, t, i, v, c, b, e⟩, S, cs => ∃ (iv vv bv ev : Value) (xb xe : List Value) (Si Sv Sb Se Sb' Se' : Nat -> Prop), cs = [.int .i64 k, .int .i64 t, .int .i64 i.kind, .int .i64 i.value, iv, .int .i64 v.kind, .int .i64 v.value, vv, .int .i64 c, bv, ev] /\
   ((∀ b, Si b -> S b /\ ¬ Sv b /\ ¬ Sb b /\ ¬ Se b) /\ (∀ b, Sv b -> S b /\ ¬ Sb b /\ ¬ Se b) /\ (∀ b, Sb b -> S b /\ ¬ Se b) /\ (∀ b, Se b -> S b)) /\ G2 w iv i.kids Si /\ G2 w vv v.kids Sv /\
   (w.ownsRow 0 69 11 bv b.length xb /\ (∀ g, bv.ownBlock = some g -> Sb g /\ ¬ Sb' g) /\ (∀ b, Sb' b -> Sb b) /\ n7 w b Sb' xb) /\
   (w.ownsRow 0 69 11 ev e.length xe /\ (∀ g, ev.ownBlock = some g -> Se g /\ ¬ Se' g) /\ (∀ b, Se' b -> Se b) /\ n7 w e Se' xe)
def n7 (w : World) : List b5 -> (Nat -> Prop) -> List Value -> Prop
 | [], _, xs => xs = []
 | s :: r, S, xs => ∃ (c ys : List Value) (S1 S2 : Nat -> Prop), xs = c ++ ys /\ (∀ b, S1 b -> S b /\ ¬ S2 b) /\ (∀ b, S2 b -> S b) /\ E7 w s S1 c /\ n7 w r S2 ys
end
def I1 (w : World) (v : Value) (ss : List b5) (S : Nat -> Prop) : Prop :=
 ∃ (xs : List Value) (S' : Nat -> Prop), w.ownsRow 0 69 11 v ss.length xs /\ (∀ g, v.ownBlock = some g -> S g /\ ¬ S' g) /\ (∀ b, S' b -> S b) /\ n7 w ss S' xs
def as6 (w : World) (v : Value) (p : j0) (S : Nat -> Prop) : Prop :=
 ∃ (v1 v2 v3 : Value) (S3 : Nat -> Prop), v = .agg #[v1, v2, v3] /\ w.ownsRow 0 3 1 v1 p.vars.length (ints p.vars) /\ w.ownsRow 0 3 1 v2 p.arrays.length (ints p.arrays) /\ I1 w v3 p.body S3 /\
  (∀ g, v1.ownBlock = some g -> S g /\ ¬ S3 g /\ v2.ownBlock ≠ some g) /\ (∀ g, v2.ownBlock = some g -> S g /\ ¬ S3 g) /\ (∀ b, S3 b -> S b)
variable {w w' : World} {S S' φ : Nat -> Prop}
theorem F2 {e : TypeId} {sz : Nat} {v : Value} {n : Nat} {xs : List Value} (h : w.ownsRow 0 e sz v n xs) (hs : ∀ g, v.ownBlock = some g -> w'.heap[g]? = w.heap[g]?) : w'.ownsRow 0 e sz v n xs :=
 (Own.same (Own.mk' h) hs).1
mutual
theorem D6.same : ∀ (e : b7) (S : Nat -> Prop) (cs : List Value), D6 w e S cs -> (∀ b, S b -> b < w.heap.size -> w'.heap[b]? = w.heap[b]?) -> D6 w' e S cs
 | ⟨_, _, ks⟩, S, _, ⟨v, xs, S', h1, h2, h3, h4, h5⟩, hs => ⟨v, xs, S', h1, F2 h2 fun g hg => hs g (h3 g hg).1 (World.ownsRow.lt h2 g hg).2, h3, h4, o4.same ks S' xs h5 fun b hb => hs b (h4 b hb)⟩
theorem o4.same : ∀ (ks : List b7) (S : Nat -> Prop) (xs : List Value), o4 w ks S xs -> (∀ b, S b -> b < w.heap.size -> w'.heap[b]? = w.heap[b]?) -> o4 w' ks S xs
 | [], _, _, h, _ => h
 | e :: r, S, _, ⟨c, ys, S1, S2, h1, h2, h3, h4, h5⟩, hs => ⟨c, ys, S1, S2, h1, h2, h3, D6.same e S1 c h4 fun b hb => hs b (h2 b hb).1, o4.same r S2 ys h5 fun b hb => hs b (h3 b hb)⟩
end
theorem G2.same {v : Value} {ks : List b7} (h : G2 w v ks S) (hs : ∀ b, S b -> b < w.heap.size -> w'.heap[b]? = w.heap[b]?) : G2 w' v ks S := by
 obtain ⟨xs, S', h2, h3, h4, h5⟩ := h
 exact ⟨xs, S', F2 h2 fun g hg => hs g (h3 g hg).1 (World.ownsRow.lt h2 g hg).2, h3, h4, o4.same ks S' xs h5 fun b hb => hs b (h4 b hb)⟩
mutual
theorem E7.same : ∀ (s : b5) (S : Nat -> Prop) (cs : List Value), E7 w s S cs -> (∀ b, S b -> b < w.heap.size -> w'.heap[b]? = w.heap[b]?) -> E7 w' s S cs
 | ⟨_, _, _, _, _, b, e⟩, S, _, ⟨iv, vv, bv, ev, xb, xe, Si, Sv, Sb, Se, Sb', Se', h1, ⟨d1, d2, d3, d4⟩, h2, h3, ⟨b1, b2, b3, b4⟩, ⟨e1, e2, e3, e4⟩⟩, hs =>
  ⟨iv, vv, bv, ev, xb, xe, Si, Sv, Sb, Se, Sb', Se', h1, ⟨d1, d2, d3, d4⟩, h2.same fun b hb => hs b (d1 b hb).1, h3.same fun b hb => hs b (d2 b hb).1,
   ⟨F2 b1 fun g hg => hs g (d3 g (b2 g hg).1).1 (World.ownsRow.lt b1 g hg).2, b2, b3, n7.same b Sb' xb b4 fun x hx => hs x (d3 x (b3 x hx)).1⟩,
   ⟨F2 e1 fun g hg => hs g (d4 g (e2 g hg).1) (World.ownsRow.lt e1 g hg).2, e2, e3, n7.same e Se' xe e4 fun x hx => hs x (d4 x (e3 x hx))⟩⟩
theorem n7.same : ∀ (ss : List b5) (S : Nat -> Prop) (xs : List Value), n7 w ss S xs -> (∀ b, S b -> b < w.heap.size -> w'.heap[b]? = w.heap[b]?) -> n7 w' ss S xs
 | [], _, _, h, _ => h
 | s :: r, S, _, ⟨c, ys, S1, S2, h1, h2, h3, h4, h5⟩, hs => ⟨c, ys, S1, S2, h1, h2, h3, E7.same s S1 c h4 fun b hb => hs b (h2 b hb).1, n7.same r S2 ys h5 fun b hb => hs b (h3 b hb)⟩
end
theorem I1.same {v : Value} {ss : List b5} (h : I1 w v ss S) (hs : ∀ b, S b -> b < w.heap.size -> w'.heap[b]? = w.heap[b]?) : I1 w' v ss S := by
 obtain ⟨xs, S', h2, h3, h4, h5⟩ := h
 exact ⟨xs, S', F2 h2 fun g hg => hs g (h3 g hg).1 (World.ownsRow.lt h2 g hg).2, h3, h4, n7.same ss S' xs h5 fun b hb => hs b (h4 b hb)⟩
theorem as6.same {v : Value} {p : j0} (h : as6 w v p S) (hs : ∀ b, S b -> b < w.heap.size -> w'.heap[b]? = w.heap[b]?) : as6 w' v p S := by
 obtain ⟨v1, v2, v3, S3, rfl, h1, h2, h3, d1, d2, d3⟩ := h
 exact ⟨v1, v2, v3, S3, rfl, F2 h1 fun g hg => hs g (d1 g hg).1 (World.ownsRow.lt h1 g hg).2, F2 h2 fun g hg => hs g (d2 g hg).1 (World.ownsRow.lt h2 g hg).2, h3.same fun b hb => hs b (d3 b hb), d1, d2, d3⟩
theorem G2.mono {v : Value} {ks : List b7} (h : G2 w v ks S) (hs : ∀ b, S b -> S' b) : G2 w v ks S' := by
 obtain ⟨xs, T, h2, h3, h4, h5⟩ := h
 exact ⟨xs, T, h2, fun g hg => ⟨hs g (h3 g hg).1, (h3 g hg).2⟩, fun b hb => hs b (h4 b hb), h5⟩
theorem I1.mono {v : Value} {ss : List b5} (h : I1 w v ss S) (hs : ∀ b, S b -> S' b) : I1 w v ss S' := by
 obtain ⟨xs, T, h2, h3, h4, h5⟩ := h
 exact ⟨xs, T, h2, fun g hg => ⟨hs g (h3 g hg).1, (h3 g hg).2⟩, fun b hb => hs b (h4 b hb), h5⟩
theorem as6.mono {v : Value} {p : j0} (h : as6 w v p S) (hs : ∀ b, S b -> S' b) : as6 w v p S' := by
 obtain ⟨v1, v2, v3, S3, rfl, h1, h2, h3, d1, d2, d3⟩ := h
 exact ⟨v1, v2, v3, S3, rfl, h1, h2, h3, fun g hg => ⟨hs g (d1 g hg).1, (d1 g hg).2⟩, fun g hg => ⟨hs g (d2 g hg).1, (d2 g hg).2⟩, fun b hb => hs b (d3 b hb)⟩
mutual
theorem D6.read : ∀ (e : b7) (S : Nat -> Prop) (cs : List Value), D6 w e S cs -> (∀ b, S b -> φ b) -> N9 w φ e cs
 | ⟨_, _, ks⟩, S, _, ⟨v, xs, S', h1, h2, h3, h4, h5⟩, hs => ⟨v, xs, h1, B8 h2 fun g hg => hs g (h3 g hg).1, o4.read ks S' xs h5 fun b hb => hs b (h4 b hb)⟩
theorem o4.read : ∀ (ks : List b7) (S : Nat -> Prop) (xs : List Value), o4 w ks S xs -> (∀ b, S b -> φ b) -> y5 w φ ks xs
 | [], _, _, h, _ => h
 | e :: r, S, _, ⟨c, ys, S1, S2, h1, h2, h3, h4, h5⟩, hs => ⟨c, ys, h1, D6.read e S1 c h4 fun b hb => hs b (h2 b hb).1, o4.read r S2 ys h5 fun b hb => hs b (h3 b hb)⟩
end
theorem G2.read {v : Value} {ks : List b7} (h : G2 w v ks S) (hs : ∀ b, S b -> φ b) : l8 w φ v ks := by
 obtain ⟨xs, T, h2, h3, h4, h5⟩ := h
 exact ⟨xs, B8 h2 fun g hg => hs g (h3 g hg).1, o4.read ks T xs h5 fun b hb => hs b (h4 b hb)⟩
mutual
theorem E7.read : ∀ (s : b5) (S : Nat -> Prop) (cs : List Value), E7 w s S cs -> (∀ b, S b -> φ b) -> M9 w φ s cs
 | ⟨_, _, _, _, _, b, e⟩, S, _, ⟨iv, vv, bv, ev, xb, xe, Si, Sv, Sb, Se, Sb', Se', h1, ⟨d1, d2, d3, d4⟩, h2, h3, ⟨b1, b2, b3, b4⟩, ⟨e1, e2, e3, e4⟩⟩, hs =>
  ⟨iv, vv, bv, ev, xb, xe, h1, h2.read fun b hb => hs b (d1 b hb).1, h3.read fun b hb => hs b (d2 b hb).1,
   B8 b1 fun g hg => hs g (d3 g (b2 g hg).1).1, n7.read b Sb' xb b4 fun x hx => hs x (d3 x (b3 x hx)).1,
   B8 e1 fun g hg => hs g (d4 g (e2 g hg).1), n7.read e Se' xe e4 fun x hx => hs x (d4 x (e3 x hx))⟩
theorem n7.read : ∀ (ss : List b5) (S : Nat -> Prop) (xs : List Value), n7 w ss S xs -> (∀ b, S b -> φ b) -> w7 w φ ss xs
 | [], _, _, h, _ => h
 | s :: r, S, _, ⟨c, ys, S1, S2, h1, h2, h3, h4, h5⟩, hs => ⟨c, ys, h1, E7.read s S1 c h4 fun b hb => hs b (h2 b hb).1, n7.read r S2 ys h5 fun b hb => hs b (h3 b hb)⟩
end
theorem I1.read {v : Value} {ss : List b5} (h : I1 w v ss S) (hs : ∀ b, S b -> φ b) : G6 w φ v ss := by
 obtain ⟨xs, T, h2, h3, h4, h5⟩ := h
 exact ⟨xs, B8 h2 fun g hg => hs g (h3 g hg).1, n7.read ss T xs h5 fun b hb => hs b (h4 b hb)⟩
theorem as6.read {v : Value} {p : j0} (h : as6 w v p S) (hs : ∀ b, S b -> φ b) : bu5 w φ v p := by
 obtain ⟨v1, v2, v3, S3, rfl, h1, h2, h3, d1, d2, d3⟩ := h
 exact ⟨v1, v2, v3, rfl, B8 h1 fun g hg => hs g (d1 g hg).1, B8 h2 fun g hg => hs g (d2 g hg).1, h3.read fun b hb => hs b (d3 b hb)⟩
def bY5 (R : World -> (Nat -> Prop) -> Prop) (S : Nat -> Prop) : World -> (Nat -> Prop) -> Prop := fun w φ => R w S /\ ∀ b, S b -> b < w.heap.size /\ φ b
theorem bY5.nice {R : World -> (Nat -> Prop) -> Prop} (S : Nat -> Prop) (hR : ∀ w w' : World, R w S -> (∀ b, S b -> b < w.heap.size -> w'.heap[b]? = w.heap[b]?) -> R w' S) : Z0 (bY5 R S) :=
 fun w w' _ _ ha ⟨h1, h2⟩ => ⟨hR w w' h1 fun b hb hlt => (ha.2 b hlt (h2 b hb).2).2, fun b hb => ⟨Nat.lt_of_lt_of_le (h2 b hb).1 ha.1, (ha.2 b (h2 b hb).1 (h2 b hb).2).1⟩⟩
theorem o4.mono : ∀ {ks : List b7} {S S' : Nat -> Prop} {xs : List Value}, o4 w ks S xs -> (∀ b, S b -> S' b) -> o4 w ks S' xs
 | [], _, _, _, h, _ => h
 | _ :: _, _, _, _, ⟨c, ys, S1, S2, h1, h2, h3, h4, h5⟩, hs => ⟨c, ys, S1, S2, h1, fun b hb => ⟨hs b (h2 b hb).1, (h2 b hb).2⟩, fun b hb => hs b (h3 b hb), h4, h5⟩
theorem n7.mono : ∀ {ks : List b5} {S S' : Nat -> Prop} {xs : List Value}, n7 w ks S xs -> (∀ b, S b -> S' b) -> n7 w ks S' xs
 | [], _, _, _, h, _ => h
 | _ :: _, _, _, _, ⟨c, ys, S1, S2, h1, h2, h3, h4, h5⟩, hs => ⟨c, ys, S1, S2, h1, fun b hb => ⟨hs b (h2 b hb).1, (h2 b hb).2⟩, fun b hb => hs b (h3 b hb), h4, h5⟩
theorem o4.snoc : ∀ {ks : List b7} {S S' T : Nat -> Prop} {xs c : List Value} {e : b7}, o4 w ks S xs -> D6 w e T c -> (∀ b, S b -> S' b /\ ¬ T b) -> (∀ b, T b -> S' b) -> o4 w (ks ++ [e]) S' (xs ++ c)
 | [], S, S', T, xs, c, e, h, k, d, f => by
  rw [show xs = [] from h]
  exact ⟨c, [], T, fun _ => False, by simp, fun b hb => ⟨f b hb, fun h => h⟩, fun b hb => hb.elim, k, rfl⟩
 | a :: r, S, S', T, _, c, e, ⟨x, ys, S1, S2, h1, h2, h3, h4, h5⟩, k, d, f =>
  ⟨x, ys ++ c, S1, fun b => S2 b \/ T b, by rw [h1, b83], fun b hb => ⟨(d b (h2 b hb).1).1, fun h => h.elim (h2 b hb).2 (d b (h2 b hb).1).2⟩, fun b hb => hb.elim (fun h => (d b (h3 b h)).1) (f b), h4,
   o4.snoc h5 k (fun b hb => ⟨.inl hb, (d b (h3 b hb)).2⟩) fun b hb => .inr hb⟩
theorem n7.snoc : ∀ {ks : List b5} {S S' T : Nat -> Prop} {xs c : List Value} {e : b5}, n7 w ks S xs -> E7 w e T c -> (∀ b, S b -> S' b /\ ¬ T b) -> (∀ b, T b -> S' b) -> n7 w (ks ++ [e]) S' (xs ++ c)
 | [], S, S', T, xs, c, e, h, k, d, f => by
  rw [show xs = [] from h]
  exact ⟨c, [], T, fun _ => False, by simp, fun b hb => ⟨f b hb, fun h => h⟩, fun b hb => hb.elim, k, rfl⟩
 | a :: r, S, S', T, _, c, e, ⟨x, ys, S1, S2, h1, h2, h3, h4, h5⟩, k, d, f =>
  ⟨x, ys ++ c, S1, fun b => S2 b \/ T b, by rw [h1, b83], fun b hb => ⟨(d b (h2 b hb).1).1, fun h => h.elim (h2 b hb).2 (d b (h2 b hb).1).2⟩, fun b hb => hb.elim (fun h => (d b (h3 b h)).1) (f b), h4,
   n7.snoc h5 k (fun b hb => ⟨.inl hb, (d b (h3 b hb)).2⟩) fun b hb => .inr hb⟩
theorem D6.iff (e : b7) (S : Nat -> Prop) (cs : List Value) : D6 w e S cs ↔ ∃ kv, cs = [.int .i64 e.kind, .int .i64 e.value, kv] /\ G2 w kv e.kids S := by
 cases e with
 | mk k n ks => exact ⟨fun ⟨v, xs, T, h1, h2⟩ => ⟨v, h1, xs, T, h2⟩, fun ⟨v, h1, xs, T, h2⟩ => ⟨v, xs, T, h1, h2⟩⟩
theorem E7.iff (s : b5) (S : Nat -> Prop) (cs : List Value) : E7 w s S cs ↔ ∃ (iv vv bv ev : Value) (Si Sv Sb Se : Nat -> Prop), cs = [.int .i64 s.kind, .int .i64 s.target, .int .i64 s.index.kind, .int .i64 s.index.value, iv, .int .i64 s.value.kind, .int .i64 s.value.value, vv, .int .i64 s.count, bv, ev] /\
  ((∀ b, Si b -> S b /\ ¬ Sv b /\ ¬ Sb b /\ ¬ Se b) /\ (∀ b, Sv b -> S b /\ ¬ Sb b /\ ¬ Se b) /\ (∀ b, Sb b -> S b /\ ¬ Se b) /\ (∀ b, Se b -> S b)) /\ G2 w iv s.index.kids Si /\ G2 w vv s.value.kids Sv /\ I1 w bv s.body Sb /\ I1 w ev s.els Se := by
 cases s with
 | mk k t i v c b e =>
  exact ⟨fun ⟨iv, vv, bv, ev, xb, xe, Si, Sv, Sb, Se, Sb', Se', h1, h2, h3, h4, h5, h6⟩ => ⟨iv, vv, bv, ev, Si, Sv, Sb, Se, h1, h2, h3, h4, ⟨xb, Sb', h5⟩, ⟨xe, Se', h6⟩⟩,
   fun ⟨iv, vv, bv, ev, Si, Sv, Sb, Se, h1, h2, h3, h4, ⟨xb, Sb', h5⟩, ⟨xe, Se', h6⟩⟩ => ⟨iv, vv, bv, ev, xb, xe, Si, Sv, Sb, Se, Sb', Se', h1, h2, h3, h4, h5, h6⟩⟩
end
theorem X6 {ks : List b7} {k : Nat} (h : k < ks.length) : s2 (ks.take (k + 1)) = s2 (ks.take k) + (1 + L8 ks[k]) := by
 rw [B1 _ _ h, ab0]
 simp [s2]
theorem P4 (us : List Value) : ∀ (c ys : List Value) (p : Nat), c.length <= p -> setFrom (c ++ ys) p us = c ++ setFrom ys (p - c.length) us := by
 induction us with
 | nil => intro c ys p _; rfl
 | cons u r ih =>
  intro c ys p hp
  simp only [setFrom]
  rw [List.set_append_right _ _ hp, ih _ _ _ (by omega), show p + 1 - c.length = p - c.length + 1 by omega]
theorem R3 (us : List Value) : ∀ (c ys : List Value) (p : Nat), p + us.length <= c.length -> setFrom (c ++ ys) p us = setFrom c p us ++ ys := by
 induction us with
 | nil => intro c ys p _; rfl
 | cons u r ih =>
  intro c ys p hp
  simp only [b58] at hp
  simp only [setFrom]
  rw [List.set_append_left _ _ (by omega), ih _ _ _ (by simp; omega)]
theorem ag4 {c us : List Value} (h : us.length = c.length) : setFrom c 0 us = us := by
 have h1 := ak1 us c 0 (by omega)
 rw [b97, b75 (by rw [F7]; omega)] at h1
 simpa using h1
theorem D6.len {w : World} {e : b7} {S : Nat -> Prop} {c : List Value} (h : D6 w e S c) : c.length = 3 := by
 obtain ⟨kv, rfl, _⟩ := (D6.iff e S c).1 h; rfl
theorem E7.len {w : World} {s : b5} {S : Nat -> Prop} {c : List Value} (h : E7 w s S c) : c.length = 11 := by
 obtain ⟨_, _, _, _, _, _, _, _, rfl, _⟩ := (E7.iff s S c).1 h; rfl
theorem o4.focus {w : World} : ∀ {ls : List b7} {S : Nat -> Prop} {xs : List Value}, o4 w ls S xs -> ∀ (i : Nat) (hi : i < ls.length), ∃ (c : List Value) (Sc : Nat -> Prop), D6 w ls[i] Sc c /\ (∀ b, Sc b -> S b) /\ (∀ j, j < 3 -> xs[i * 3 + j]? = c[j]?) /\
  ∀ (w' : World) (e' : b7) (c' : List Value), (∀ b, S b -> ¬ Sc b -> b < w.heap.size -> w'.heap[b]? = w.heap[b]?) -> D6 w' e' Sc c' -> o4 w' (ls.set i e') S (setFrom xs (i * 3) c')
 | [], _, _, _, i, hi => by simp at hi
 | e :: r, S, xs, ⟨c, ys, S1, S2, h1, h2, h3, h4, h5⟩, i, hi => by
  have hc := h4.len
  subst h1
  cases i with
  | zero =>
   refine ⟨c, S1, h4, fun b hb => (h2 b hb).1, fun j hj => by rw [b95 (by omega)]; simp, fun w' e' c' hs hO => ?_⟩
   refine ⟨c', ys, S1, S2, ?_, h2, h3, hO, o4.same r S2 ys h5 fun b hb hlt => hs b (h3 b hb) (fun h => (h2 b h).2 hb) hlt⟩
   rw [Nat.zero_mul, R3 c' c ys 0 (by rw [hO.len]; omega), ag4 (by rw [hO.len, hc])]
  | succ i =>
   obtain ⟨d, Sc, k1, k2, k3, k4⟩ := o4.focus h5 i (by simpa using hi)
   refine ⟨d, Sc, k1, fun b hb => h3 b (k2 b hb), fun j hj => ?_, fun w' e' c' hs hO => ?_⟩
   ·rw [List.getElem?_append_right (by rw [hc, b90]; omega), <- k3 j hj]
    congr 1
    rw [hc, b90]; omega
   refine ⟨c, setFrom ys (i * 3) c', S1, S2, ?_, h2, h3, D6.same e S1 c h4 fun b hb hlt => hs b (h2 b hb).1 (fun h => (h2 b hb).2 (k2 b h)) hlt, k4 w' e' c' (fun b hb hn hlt => hs b (h3 b hb) hn hlt) hO⟩
   rw [P4 c' c ys _ (by rw [hc, b90]; omega), hc, b90, Nat.add_sub_cancel]
theorem n7.focus {w : World} : ∀ {ls : List b5} {S : Nat -> Prop} {xs : List Value}, n7 w ls S xs -> ∀ (i : Nat) (hi : i < ls.length), ∃ (c : List Value) (Sc : Nat -> Prop), E7 w ls[i] Sc c /\ (∀ b, Sc b -> S b) /\ (∀ j, j < 11 -> xs[i * 11 + j]? = c[j]?) /\
  ∀ (w' : World) (e' : b5) (c' : List Value), (∀ b, S b -> ¬ Sc b -> b < w.heap.size -> w'.heap[b]? = w.heap[b]?) -> E7 w' e' Sc c' -> n7 w' (ls.set i e') S (setFrom xs (i * 11) c')
 | [], _, _, _, i, hi => by simp at hi
 | e :: r, S, xs, ⟨c, ys, S1, S2, h1, h2, h3, h4, h5⟩, i, hi => by
  have hc := h4.len
  subst h1
  cases i with
  | zero =>
   refine ⟨c, S1, h4, fun b hb => (h2 b hb).1, fun j hj => by rw [b95 (by omega)]; simp, fun w' e' c' hs hO => ?_⟩
   refine ⟨c', ys, S1, S2, ?_, h2, h3, hO, n7.same r S2 ys h5 fun b hb hlt => hs b (h3 b hb) (fun h => (h2 b h).2 hb) hlt⟩
   rw [Nat.zero_mul, R3 c' c ys 0 (by rw [hO.len]; omega), ag4 (by rw [hO.len, hc])]
  | succ i =>
   obtain ⟨d, Sc, k1, k2, k3, k4⟩ := n7.focus h5 i (by simpa using hi)
   refine ⟨d, Sc, k1, fun b hb => h3 b (k2 b hb), fun j hj => ?_, fun w' e' c' hs hO => ?_⟩
   ·rw [List.getElem?_append_right (by rw [hc, b90]; omega), <- k3 j hj]
    congr 1
    rw [hc, b90]; omega
   refine ⟨c, setFrom ys (i * 11) c', S1, S2, ?_, h2, h3, E7.same e S1 c h4 fun b hb hlt => hs b (h2 b hb).1 (fun h => (h2 b hb).2 (k2 b h)) hlt, k4 w' e' c' (fun b hb hn hlt => hs b (h3 b hb) hn hlt) hO⟩
   rw [P4 c' c ys _ (by rw [hc, b90]; omega), hc, b90, Nat.add_sub_cancel]
section
variable {φ ψ : Nat -> Prop} {w0 w w' : World} {L : List T7}
theorem o4.at : ∀ {ks : List b7} {S : Nat -> Prop} {xs : List Value}, o4 w ks S xs -> ∀ (i : Nat) (hi : i < ks.length), ∃ kv, xs[i * 3]? = some (.int .i64 ks[i].kind) /\ xs[i * 3 + 1]? = some (.int .i64 ks[i].value) /\ xs[i * 3 + 2]? = some kv /\ G2 w kv ks[i].kids S
 | [], _, _, _, i, hi => by simp at hi
 | e :: r, S, _, ⟨c, ys, S1, S2, h1, h2, h3, h4, h5⟩, i, hi => by
  obtain ⟨kv, rfl, hk⟩ := (D6.iff e S1 c).1 h4
  subst h1
  cases i with
  | zero => exact ⟨kv, rfl, rfl, rfl, hk.mono fun b hb => (h2 b hb).1⟩
  | succ i =>
   obtain ⟨kv', a, b, d, f⟩ := o4.at h5 i (by simpa using hi)
   refine ⟨kv', ?_, ?_, ?_, f.mono h3⟩ <;> (rw [b90]; simpa [Nat.add_assoc] using by assumption)
theorem G2.open {v : Value} {ks : List b7} {S : Nat -> Prop} (h : G2 w v ks S) : ∃ a cap, v = .slice a ks.length cap /\ ks.length <= cap /\ ks.length <= 9223372036854775807 /\ cap <= 9223372036854775807 /\
  ∀ i (hi : i < ks.length), ∃ b off kv, a = some ⟨b, off, none⟩ /\ b < w.heap.size /\ S b /\ w.cell? ⟨b, off + i * 3, none⟩ = some (.int .i64 ks[i].kind) /\ w.cell? ⟨b, off + i * 3 + 1, none⟩ = some (.int .i64 ks[i].value) /\ w.cell? ⟨b, off + i * 3 + 2, none⟩ = some kv /\ G2 w kv ks[i].kids S := by
 obtain ⟨xs, S', h2, h3, h4, h5⟩ := h
 obtain ⟨hl, a, cap, hv, n1, n2, n3⟩ := B8 (φ := fun g => S g /\ ¬ S' g) h2 h3
 unfold maxLen at n2
 refine ⟨a, cap, hv, n1, by omega, by omega, fun i hi => ?_⟩
 obtain ⟨b, off, he, hb, hf, hc⟩ := n3 (by omega)
 obtain ⟨kv, e0, e1, e2, hk⟩ := h5.at i hi
 exact ⟨b, off, kv, he, hb, hf.1, hc _ _ e0, hc _ _ e1, hc _ _ e2, hk.mono h4⟩
theorem G2.nil (w : World) (S : Nat -> Prop) : G2 w (.slice none 0 0) [] S := ⟨[], fun _ => False, World.ownsRow_nil _ _ _ _, (fun g hg => by cases hg), fun _ h => h.elim, rfl⟩
end
theorem ab3 (us : List Value) : ∀ (ys : List Value) (p q : Nat), p + us.length <= ys.length -> (setFrom ys p us)[q]? = if p <= q /\ q < p + us.length then us[q - p]? else ys[q]? := by
 induction us with
 | nil => intro ys p q _; simp only [setFrom, b60]; split; omega; rfl
 | cons u r ih =>
  intro ys p q h
  simp only [b58] at h
  simp only [setFrom, b58]
  rw [ih _ _ _ (by simp; omega)]
  by_cases h1 : q = p
  ·subst h1
   rw [if_neg (by omega), if_pos (by omega), List.getElem?_set_self (by omega), Nat.sub_self]; rfl
  by_cases h2 : p + 1 <= q /\ q < p + 1 + r.length
  ·rw [if_pos h2, if_pos (by omega), show q - p = q - (p + 1) + 1 by omega]; rfl
  rw [if_neg h2, if_neg (by omega), List.getElem?_set_ne (by omega)]
theorem ak2 {xs cs : List Value} {p : Nat} (h : p + cs.length <= xs.length) (hc : ∀ j, j < cs.length -> xs[p + j]? = cs[j]?) : setFrom xs p cs = xs := by
 apply List.ext_getElem?
 intro q
 rw [ab3 _ _ _ _ h]
 split
 ·rename_i h1
  rw [<- hc _ (by omega)]; congr 1; omega
 rfl
theorem ar7 {xs cs : List Value} {p k : Nat} (u : Value) (h : p + cs.length <= xs.length) (hk : k < cs.length) : (setFrom xs p cs).set (p + k) u = setFrom xs p (cs.set k u) := by
 apply List.ext_getElem?
 intro q
 rw [ab3 _ _ _ _ (by simpa using h), List.getElem?_set, ab3 _ _ _ _ h, F7, List.length_set]
 by_cases h1 : p + k = q
 ·subst h1
  rw [if_pos rfl, if_pos (by omega), if_pos (by omega), Nat.add_sub_cancel_left, List.getElem?_set_self hk]
 rw [if_neg h1]
 split
 ·rw [List.getElem?_set_ne (by omega)]
 rfl
def T7.plain : T7 -> Prop
 | .dat _ => False
 | _ => True
theorem T7.holds_plain {w : World} {φ φ' : Nat -> Prop} {r : T7} (hp : r.plain) (h : r.holds w φ) : r.holds w φ' := by
 cases r with
 | dat R => exact hp.elim
 | box b cs => exact h
 | row e sz v n xs => exact h
 | own S R => exact h
theorem D9.adopt {φ ψ : Nat -> Prop} {w0 w : World} {L : List T7} (M : D9 φ ψ w0 w L) (r : T7) (hL : ∀ a ∈ L, a.plain) (hp : r.plain) (h : r.holds w (fun _ => True)) (hd : ∀ a ∈ L, ∀ g, r.blk g -> ¬ a.blk g) (hg : ∀ g, r.blk g -> ¬ ψ g) : D9 φ ψ w0 w (L ++ [r]) := by
 have get : ∀ (i : Nat) (x : T7), (L ++ [r])[i]? = some x -> (i < L.length /\ x ∈ L /\ L[i]? = some x) \/ (i = L.length /\ x = r) := by
  intro k z hz
  rcases b86 k L.length with hk | hk
  ·rw [b95 hk] at hz; exact .inl ⟨hk, b79 hz, hz⟩
  rw [List.getElem?_append_right hk] at hz
  have : k - L.length = 0 := by
   rcases Nat.eq_zero_or_pos (k - L.length) with h | h
   ·exact h
   rw [b87 (by rw [List.length_singleton]; exact h)] at hz; cases hz
  rw [this] at hz; simp at hz
  exact .inr ⟨by omega, hz.symm⟩
 refine ⟨M.kept, M.fresh, fun x hx => ?_, fun i j x y g hi hj hij hx hy => ?_, fun x g hx hxg => ?_⟩
 ·rcases b73.1 hx with hx | hx
  ·exact T7.holds_plain (hL x hx) (M.holds x hx)
  rw [List.mem_singleton] at hx; subst hx; exact T7.holds_plain hp h
 ·rcases get i x hi with ⟨hi1, hi2, hi3⟩ | ⟨hi1, rfl⟩ <;> rcases get j y hj with ⟨hj1, hj2, hj3⟩ | ⟨hj1, rfl⟩
  ·exact M.dis i j x y g hi3 hj3 hij hx hy
  ·exact hd x hi2 g hy hx
  ·exact hd y hj2 g hx hy
  omega
 rcases b73.1 hx with hx | hx
 ·exact M.ge x g hx hxg
 rw [List.mem_singleton] at hx; subst hx; exact .inr (hg g hxg)
section
variable {w : World}
mutual
theorem D6.cut : ∀ (e : b7) (S : Nat -> Prop) (cs : List Value), D6 w e S cs -> D6 w e (fun b => S b /\ b < w.heap.size) cs
 | ⟨_, _, ks⟩, _, _, ⟨v, xs, S', h1, h2, h3, h4, h5⟩ => ⟨v, xs, fun b => S' b /\ b < w.heap.size, h1, h2, fun g hg => ⟨⟨(h3 g hg).1, (World.ownsRow.lt h2 g hg).2⟩, fun h => (h3 g hg).2 h.1⟩, fun b hb => ⟨h4 b hb.1, hb.2⟩, o4.cut ks S' xs h5⟩
theorem o4.cut : ∀ (ks : List b7) (S : Nat -> Prop) (xs : List Value), o4 w ks S xs -> o4 w ks (fun b => S b /\ b < w.heap.size) xs
 | [], _, _, h => h
 | e :: r, _, _, ⟨c, ys, S1, S2, h1, h2, h3, h4, h5⟩ => ⟨c, ys, fun b => S1 b /\ b < w.heap.size, fun b => S2 b /\ b < w.heap.size, h1, fun b hb => ⟨⟨(h2 b hb.1).1, hb.2⟩, fun h => (h2 b hb.1).2 h.1⟩, fun b hb => ⟨h3 b hb.1, hb.2⟩, D6.cut e S1 c h4, o4.cut r S2 ys h5⟩
end
theorem G2.cut {v : Value} {ks : List b7} {S : Nat -> Prop} (h : G2 w v ks S) : G2 w v ks (fun b => S b /\ b < w.heap.size) := by
 obtain ⟨xs, S', h2, h3, h4, h5⟩ := h
 exact ⟨xs, fun b => S' b /\ b < w.heap.size, h2, fun g hg => ⟨⟨(h3 g hg).1, (World.ownsRow.lt h2 g hg).2⟩, fun h => (h3 g hg).2 h.1⟩, fun b hb => ⟨h4 b hb.1, hb.2⟩, o4.cut ks S' xs h5⟩
mutual
theorem E7.cut : ∀ (s : b5) (S : Nat -> Prop) (cs : List Value), E7 w s S cs -> E7 w s (fun b => S b /\ b < w.heap.size) cs
 | ⟨_, _, _, _, _, b, e⟩, _, _, ⟨iv, vv, bv, ev, xb, xe, Si, Sv, Sb, Se, Sb', Se', h1, ⟨d1, d2, d3, d4⟩, h2, h3, ⟨b1, b2, b3, b4⟩, ⟨e1, e2, e3, e4⟩⟩ =>
  ⟨iv, vv, bv, ev, xb, xe, fun b => Si b /\ b < w.heap.size, fun b => Sv b /\ b < w.heap.size, fun b => Sb b /\ b < w.heap.size, fun b => Se b /\ b < w.heap.size, fun b => Sb' b /\ b < w.heap.size, fun b => Se' b /\ b < w.heap.size, h1,
   ⟨fun b hb => ⟨⟨(d1 b hb.1).1, hb.2⟩, fun h => (d1 b hb.1).2.1 h.1, fun h => (d1 b hb.1).2.2.1 h.1, fun h => (d1 b hb.1).2.2.2 h.1⟩, fun b hb => ⟨⟨(d2 b hb.1).1, hb.2⟩, fun h => (d2 b hb.1).2.1 h.1, fun h => (d2 b hb.1).2.2 h.1⟩,
    fun b hb => ⟨⟨(d3 b hb.1).1, hb.2⟩, fun h => (d3 b hb.1).2 h.1⟩, fun b hb => ⟨d4 b hb.1, hb.2⟩⟩, h2.cut, h3.cut,
   ⟨b1, fun g hg => ⟨⟨(b2 g hg).1, (World.ownsRow.lt b1 g hg).2⟩, fun h => (b2 g hg).2 h.1⟩, fun b hb => ⟨b3 b hb.1, hb.2⟩, n7.cut b Sb' xb b4⟩,
   ⟨e1, fun g hg => ⟨⟨(e2 g hg).1, (World.ownsRow.lt e1 g hg).2⟩, fun h => (e2 g hg).2 h.1⟩, fun b hb => ⟨e3 b hb.1, hb.2⟩, n7.cut e Se' xe e4⟩⟩
theorem n7.cut : ∀ (ks : List b5) (S : Nat -> Prop) (xs : List Value), n7 w ks S xs -> n7 w ks (fun b => S b /\ b < w.heap.size) xs
 | [], _, _, h => h
 | e :: r, _, _, ⟨c, ys, S1, S2, h1, h2, h3, h4, h5⟩ => ⟨c, ys, fun b => S1 b /\ b < w.heap.size, fun b => S2 b /\ b < w.heap.size, h1, fun b hb => ⟨⟨(h2 b hb.1).1, hb.2⟩, fun h => (h2 b hb.1).2 h.1⟩, fun b hb => ⟨h3 b hb.1, hb.2⟩, E7.cut e S1 c h4, n7.cut r S2 ys h5⟩
end
theorem I1.cut {v : Value} {ks : List b5} {S : Nat -> Prop} (h : I1 w v ks S) : I1 w v ks (fun b => S b /\ b < w.heap.size) := by
 obtain ⟨xs, S', h2, h3, h4, h5⟩ := h
 exact ⟨xs, fun b => S' b /\ b < w.heap.size, h2, fun g hg => ⟨⟨(h3 g hg).1, (World.ownsRow.lt h2 g hg).2⟩, fun h => (h3 g hg).2 h.1⟩, fun b hb => ⟨h4 b hb.1, hb.2⟩, n7.cut ks S' xs h5⟩
end
section
variable {φ ψ : Nat -> Prop} {w0 w : World} {L : List T7}
end
section
variable {P : Program}
structure X3 (wr w : World) (S : Nat -> Prop) : Prop where
 below : Below wr.heap.size wr w
 box : ∀ b, S b -> wr.heap.size <= b /\ b < w.heap.size
theorem X3.start (w : World) : X3 w w.drew fun _ => False := ⟨(Below.refl _ _).drew, fun _ h => h.elim⟩
theorem X3.call {wr w w' : World} {S : Nat -> Prop} (h : X3 wr w S) (b : Below w.heap.size w w') : X3 wr w' S := ⟨h.below.trans (b.mono h.below.size), fun c hc => ⟨(h.box c hc).1, Nat.lt_of_lt_of_le (h.box c hc).2 b.size⟩⟩
theorem X3.new {wr w w' : World} {S : Nat -> Prop} (h : X3 wr w S) (b : Below w.heap.size w w') (hs : w.heap.size < w'.heap.size) : X3 wr w' fun c => S c \/ c = w.heap.size :=
 ⟨h.below.trans (b.mono h.below.size), fun c hc => by
  rcases hc with hc | rfl
  ·exact ⟨(h.box c hc).1, Nat.lt_of_lt_of_le (h.box c hc).2 b.size⟩
  exact ⟨h.below.size, hs⟩⟩
def RF (φ S : Nat -> Prop) (b : Nat) : Prop := φ b /\ ¬ S b
theorem X3.fresh {wr w : World} {S φ : Nat -> Prop} (h : X3 wr w S) (hf : ∀ b, wr.heap.size <= b -> φ b) : ∀ b, w.heap.size <= b -> RF φ S b := fun b hb => ⟨hf b (b54 h.below.size hb), fun hs => by have := (h.box b hs).2; omega⟩
theorem X3.old {wr w : World} {S φ : Nat -> Prop} (h : X3 wr w S) {R : World -> (Nat -> Prop) -> Prop} (hn : Z0 R) (hr : R wr φ) : R w (RF φ S) :=
 hn _ _ _ _ ⟨h.below.size, fun b hb hf => ⟨⟨hf, fun hs => by have := (h.box b hs).1; omega⟩, h.below.block b hb⟩⟩ hr
end
theorem D9.region {φ ψ : Nat -> Prop} {w0 wr w : World} {L : List T7} {S : Nat -> Prop} (M : D9 φ ψ w0 wr L) (hg : X3 wr w S) {g : Nat} {cs : List Value} (hb : T9 w g cs) (hs : S g) : D9 φ ψ w0 w (L ++ [.box g cs]) :=
 M.add hg.below _ hb fun g' h => by cases h; exact (hg.box _ hs).1
theorem RF.app {φ S : Nat -> Prop} {L : List T7} {b : Nat} (h : RF (Fr φ L) S b) (X : List T7) (hX : ∀ r ∈ X, ∀ g, r.blk g -> S g) : Fr φ (L ++ X) b :=
 ⟨h.1.1, fun r hr he => by
  rcases b73.1 hr with hr | hr
  ·exact h.1.2 r hr he
  exact h.2 (hX r hr b he)⟩
section
variable {P : Program}
def ad5 (ops : Array Oper) : Bool := (b82 ops.size).all fun j => (ops[j]?).any fun o => o.after.all fun e => !Region.binds .any e || decide (e.on < j)
theorem aB6 {ops : Array Oper} (hb : ad5 ops = true) {k : Nat} {o : Oper} (hk : k < ops.size) (ho : ops[k]? = some o) {e : Edge} (he : e ∈ o.after) (hbi : Region.binds .any e = true) : e.on < k := by
 have h1 := b68.1 hb k (List.mem_range.2 hk)
 rw [ho] at h1
 simp only [Option.any_some] at h1
 have h2 := Array.all_eq_true'.1 h1 e he
 rw [hbi] at h2
 simpa using h2
theorem aP6 {ops : Array Oper} (hb : ad5 ops = true) {listed : Array Bool} (hsz : listed.size = ops.size) : ∀ k, k < ops.size -> listed.getD k true = false -> Region.ready .any ops listed ≠ [] := by
 intro k
 induction k using Nat.strongRecOn with
 | _ k ih =>
  intro hk hl hn
  by_cases hall : ∃ j, j < k /\ listed.getD j true = false
  ·obtain ⟨j, hj, hlj⟩ := hall
   exact ih j hj (by omega) hlj hn
  have hok : ops[k]? = some ops[k] := Array.getElem?_eq_getElem hk
  have : k ∈ Region.ready .any ops listed := by
   refine mem_ready.2 ⟨hl, ops[k], hok, fun e he hbi => ?_⟩
   have h2 := aB6 hb hk hok he hbi
   cases h3 : listed.getD e.on true
   ·exact absurd ⟨e.on, h2, h3⟩ hall
   have : e.on < listed.size := by omega
   simp [this] at h3 ⊢
   exact h3
  rw [hn] at this
  cases this
theorem a99 {a : Array Bool} {j : Nat} (h : j < a.size) : a.getD j true = a.getD j false := by simp [h]
end
end Go.Proofs.YtompcdbfongedaaGreatDoor

namespace Go.Proofs.YtompcdbfongedaaGreatDoor
def j9 (k : Int) : Int := if k = 1 \/ k = 2 then 0 else if k = 3 then 1 else if 4 <= k /\ k <= 10 then 2 else if k = 11 then 3 else -1
def y6 (nv na : Nat) (k : Int) : Int := if k = 1 then 256 else if k = 2 then nv else if k = 3 then na else 1
def J0 (e : b7) : Bool := decide (e.kind = 1) || decide (e.kind = 2)
def B4 (nv na : Nat) (e : b7) : Bool := decide ((e.kids.length : Int) = j9 e.kind) && decide (0 <= e.value) && decide (e.value < y6 nv na e.kind)
def W5 (e : b7) : Bool := decide (e.kind ≠ 3) || (match e.kids with | k :: _ => J0 k | [] => false)
def j6 (nv na : Nat) : Nat -> b7 -> Bool
 | 0, _ => false
 | d + 1, e => B4 nv na e && e.kids.all (j6 nv na d) && W5 e
def aa7 : Nat -> b7 -> Nat
 | 0, _ => 1
 | d + 1, e => 1 + (e.kids.map (aa7 d)).sum
def j8 (nv na : Nat) (e : b7) : Bool := j6 nv na 5 e && decide (1 + L8 e <= 15)
theorem S8 (e : b7) : L8 e = s2 e.kids := by cases e; rfl
theorem aU7 (nv na : Nat) : ∀ (d : Nat) (e : b7), j6 nv na d e = true -> aa7 d e = 1 + L8 e := by
 intro d
 induction d with
 | zero => intro e h; simp [j6] at h
 | succ d ih =>
  intro e h
  simp only [j6, b57, b68] at h
  rw [aa7, S8]
  have key : ∀ ks : List b7, (∀ e ∈ ks, j6 nv na d e = true) -> (ks.map (aa7 d)).sum = s2 ks := by
   intro ks
   induction ks with
   | nil => intro _; rfl
   | cons a r ihr => intro hk; rw [b94, List.sum_cons, s2, ihr fun e he => hk e (b80 _ he), ih a (hk a b72)]
  rw [key _ h.1.2]
theorem aY7 (nv na : Nat) (e : b7) : j8 nv na e = (j6 nv na 5 e && decide (aa7 5 e <= 15)) := by
 unfold j8
 cases h : j6 nv na 5 e
 ·rfl
 rw [aU7 nv na 5 e h]
def w9 (nv na : Nat) (d c : Nat) (e : b7) : Bool := j6 nv na d e && decide (c + 1 + L8 e <= 15)
def w5 (nv na : Nat) (d c : Nat) (ks : List b7) (k : Nat) : Bool := (ks.take k).all (j6 nv na d) && decide (c + s2 (ks.take k) <= 15)
theorem aE7 {ks : List b7} {k : Nat} (h : k < ks.length) : s2 (ks.take (k + 1)) = s2 (ks.take k) + (1 + L8 ks[k]) := by
 rw [B3 _ _ h, ab0]
 simp [s2]
theorem aI5 (ks : List b7) (k : Nat) : s2 (ks.take k) <= s2 ks := by
 have := ab0 (ks.take k) (ks.drop k)
 rw [List.take_append_drop] at this
 omega
theorem R8 (nv na : Nat) {d c : Nat} {ks : List b7} {k : Nat} (h : k < ks.length) : w5 nv na d c ks (k + 1) = (w5 nv na d c ks k && w9 nv na d (c + s2 (ks.take k)) ks[k]) := by
 unfold w5 w9
 rw [aE7 h, B3 _ _ h, List.all_append]
 simp only [List.all_cons, List.all_nil, Bool.and_true]
 rw [b89]
 simp only [b57, decide_eq_true_eq]
 constructor
 ·rintro ⟨⟨h1, h2⟩, h3⟩; exact ⟨⟨h1, by omega⟩, h2, by omega⟩
 rintro ⟨⟨h1, _⟩, h3, h4⟩; exact ⟨⟨h1, h3⟩, by omega⟩
theorem aJ2 (nv na : Nat) {d c : Nat} {ks : List b7} {k : Nat} (h : k < ks.length) (hs : w9 nv na d (c + s2 (ks.take k)) ks[k] = false) : (ks.all (j6 nv na d) && decide (c + s2 ks <= 15)) = false := by
 rw [Bool.eq_false_iff]
 intro ht
 simp only [b57, decide_eq_true_eq, b68] at ht
 have h1 := ht.1 _ (b64 h)
 have h2 := aI5 ks (k + 1)
 rw [aE7 h] at h2
 unfold w9 at hs
 rw [h1] at hs
 simp at hs
 omega
def noneB (e : b7) : Bool := decide (e.kind = 0) && decide (e.value = 0) && decide (e.kids.length = 0)
def m6 (s : b5) : Bool :=
 if (s.kind = 3 \/ s.kind = 4) then
  decide (s.target = 0) && (if s.kind = 4 then decide (s.els.length = 0) && decide (1 <= s.count) && decide (s.count <= 3) && noneB s.index && noneB s.value
   else decide (s.count = 0) && noneB s.index)
 else decide (s.body.length = 0) && decide (s.els.length = 0) && decide (s.count = 0) && (decide (s.kind = 2) || noneB s.index)
def j4 (nv na : Nat) : Nat -> b5 -> Bool
  | 0, _ => false
  | d + 1, s => m6 s &&
    (if s.kind = 1 \/ s.kind = 5 then decide (0 <= s.target) && decide (s.target < nv) && j8 nv na s.value
     else if s.kind = 2 then decide (0 <= s.target) && decide (s.target < na) && j8 nv na s.index && J0 s.index && j8 nv na s.value
     else if s.kind = 3 then j8 nv na s.value && s.body.all (j4 nv na d) && s.els.all (j4 nv na d)
     else if s.kind = 4 then s.body.all (j4 nv na d)
     else false)
def ai8 (nv na : Nat) (d : Nat) (ss : List b5) : Bool := ss.all (j4 nv na d)
mutual
def nS : b5 -> Nat
 | ⟨_, _, _, _, _, b, e⟩ => 1 + S0 b + S0 e
def S0 : List b5 -> Nat
 | [] => 0
 | s :: r => nS s + S0 r
end
def o6 (p : j0) : Bool := C9 p.vars p.arrays && ai8 p.vars.length p.arrays.length 5 p.body && decide (S0 p.body <= 60)
end Go.Proofs.YtompcdbfongedaaGreatDoor

namespace Go.Proofs.YtompcdbfongedaaGreatDoor
open Go Go.RowKit
theorem Q1 (l : Int) (w : World) : Calls Tryz.prog 57 #[.int .i64 l] w fun e w' => e = .returned (.bool (s9 l)) /\ w = w' := by
 go_enter Tryz.func57, Tryz.ntmps57
 go_wp2
 all_goals go_ret
 all_goals exact ⟨o5 (by simp [s9]; try omega), rfl⟩
theorem aI8 (v1 v2 v3 : Value) (vars arrays : List Int) (w : World) (h1 : V0 w v1 vars.length 1 (ints vars)) (h2 : V0 w v2 arrays.length 1 (ints arrays)) :
  Calls Tryz.prog 35 #[.agg #[v1, v2, v3]] w fun e w' => e = .returned (.bool (C9 vars arrays)) /\ Below w.heap.size w w' := by
 have B0 : Below w.heap.size w (w.alloc (.cells #[v1, v2, v3] 25)) := by go_grown
 obtain ⟨a1, c1, rfl, -, hm1, -, hc1⟩ := (h1.below B0).open1
 obtain ⟨a2, c2, rfl, -, hm2, -, hc2⟩ := (h2.below B0).open1
 have HT : Hid (C9 vars arrays = (vars.all s9 && arrays.all s9 && decide (1 <= vars.length) && decide (vars.length <= 12) && decide (arrays.length <= 2))) := rfl
 clear h1 h2
 go_enter Tryz.func35, Tryz.ntmps35
 go_wp2_with fail
 go_loop [3] (fun i => ∃ k : Nat, k <= vars.length /\ i = .int .i64 k /\ (vars.take k).all s9 = true) (fun i => vars.length - (intOf i).toNat)
 case atStart => exact ⟨0, b92 _, rfl, rfl⟩
 case round =>
  obtain ⟨k, hk, rfl, ha⟩ := hrel
  have HA := show Hid _ from ha
  clear ha
  by_cases hlt : k < vars.length
  ·obtain ⟨b1, o1, rfl, hb1, hx⟩ := hc1 k hlt
   rw [az1 _ _ hlt] at hx
   have HS := show Hid _ from V6 s9 vars k hlt
   clear hc1 hc2
   cases hl : s9 vars[k]
   all_goals
    have HL := show Hid _ from hl
    clear hl
    go_wp2_with fail
    refine (Q1 _ _).mono ?_
    rintro e w1 ⟨rfl, rfl⟩
    rw [HL.out]
    go_wp2_with fail
   ·go_ret
    exact ⟨o5 (by rw [HT.out, at5 hlt HL.out]; rfl), B0⟩
   go_round
   case rel => exact ⟨k + 1, by omega, by go_num, by rw [HS.out, HA.out, HL.out]; rfl⟩
   case measure => simp [intOf]; omega
  have HA' := show Hid (vars.all s9 = true) from by have := HA.out; rwa [b75 (by omega)] at this
  clear HA hc1
  go_wp2_with fail
  go_loop [4] (fun i => ∃ k : Nat, k <= arrays.length /\ i = .int .i64 k /\ (arrays.take k).all s9 = true) (fun i => arrays.length - (intOf i).toNat)
  case atStart => exact ⟨0, b92 _, rfl, rfl⟩
  case round =>
   obtain ⟨j, hj, rfl, ha⟩ := hrel
   have HB := show Hid _ from ha
   clear ha
   by_cases hlj : j < arrays.length
   ·obtain ⟨b1, o1, rfl, hb1, hx⟩ := hc2 j hlj
    rw [az1 _ _ hlj] at hx
    have HS := show Hid _ from V6 s9 arrays j hlj
    clear hc2
    cases hl : s9 arrays[j]
    all_goals
     have HL := show Hid _ from hl
     clear hl
     go_wp2_with fail
     refine (Q1 _ _).mono ?_
     rintro e w1 ⟨rfl, rfl⟩
     rw [HL.out]
     go_wp2_with fail
    ·go_ret
     exact ⟨o5 (by rw [HT.out, at5 hlj HL.out]; simp), B0⟩
    go_round
    case rel => exact ⟨j + 1, by omega, by go_num, by rw [HS.out, HB.out, HL.out]; rfl⟩
    case measure => simp [intOf]; omega
   have HB' := show Hid (arrays.all s9 = true) from by have := HB.out; rwa [b75 (by omega)] at this
   clear HB hc2
   go_wp2_with fail
   all_goals go_ret
   all_goals refine ⟨o5 ?_, B0⟩
   all_goals rw [HT.out, HA'.out, HB'.out]
   all_goals rw [b89]
   all_goals simp
   all_goals omega
theorem I8 {nv na : Nat} {e : b7} (h : B4 nv na e = true) : (e.kids.length : Int) = j9 e.kind /\ 0 <= e.value /\ e.value < y6 nv na e.kind := by
 unfold B4 at h; simp at h; exact ⟨h.1.1, h.1.2, h.2⟩
theorem aF3 {e : b7} (h3 : e.kind = 3) (hl : 0 < e.kids.length) : W5 e = (decide (e.kids[0].kind = 1) || decide (e.kids[0].kind = 2)) := by
 rcases e with ⟨k, n, ks⟩
 cases ks with
 | nil => simp [b7.kids] at hl
 | cons a r =>
  have h3' : k = 3 := h3
  subst h3'
  simp only [W5, b7.kids, List.getElem_cons_zero, J0]
  rw [decide_eq_false (by simp [b7.kind])]
  rfl
theorem J1 {nv na d : Nat} {e : b7} (h : j6 nv na (d + 1) e = true) : e.kids.length <= 3 /\ ∀ x ∈ e.kids, j6 nv na d x = true := by
 simp only [j6, B4, b57, decide_eq_true_eq, b68] at h
 refine ⟨?_, h.1.2⟩
 have h1 := h.1.1.1.1
 have : j9 e.kind <= 3 := by unfold j9; (repeat' split) <;> omega
 omega
theorem aX5 {ks : List b7} {B : Nat} (h : ∀ x ∈ ks, 1 + L8 x <= B) : s2 ks <= ks.length * B := by
 induction ks with
 | nil => simp [s2]
 | cons a r ih =>
  have h1 := h a b72
  have h2 := ih fun x hx => h x (b80 _ hx)
  simp only [s2, b58, b90]; omega
theorem bk4 (nv na : Nat) : ∀ (d : Nat) (e : b7), j6 nv na d e = true -> 1 + L8 e <= 4 ^ d := by
 intro d
 induction d with
 | zero => intro e h; simp [j6] at h
 | succ d ih =>
  intro e h
  obtain ⟨h1, h2⟩ := J1 h
  have h3 := aX5 (ks := e.kids) fun x hx => ih x (h2 x hx)
  have h4 : e.kids.length * 4 ^ d <= 3 * 4 ^ d := b96 _ h1
  have h5 : 0 < 4 ^ d := Nat.pos_of_ne_zero (by simp)
  rw [S8, Nat.pow_succ]
  omega
theorem B5 (n lo hi : Int) (w : World) : Calls Tryz.prog 61 #[.int .i64 n, .int .i64 lo, .int .i64 hi] w fun e w' => e = .returned (.bool (decide (lo <= n) && decide (n <= hi))) /\ w = w' := by
 go_enter Tryz.func61, Tryz.ntmps61
 go_wp2
 all_goals go_ret
 all_goals exact ⟨o5 (by simp; try omega), rfl⟩
theorem at0 (l : Int) (w : World) : Calls Tryz.prog 97 #[.int .i64 l] w fun e w' => e = .returned (.bool (s9 l)) /\ w = w' := by
 go_enter Tryz.func97, Tryz.ntmps97
 go_wp2_with fail
 refine (B5 l 0 3 _).mono ?_
 rintro e w1 ⟨rfl, rfl⟩
 go_wp2_with fail
 go_ret
 exact ⟨rfl, rfl⟩
theorem as9 (l : Int) (w : World) : Calls Tryz.prog 96 #[.int .i64 l] w fun e w' => e = .returned (.bool (!s9 l)) /\ w = w' := by
 go_enter Tryz.func96, Tryz.ntmps96
 go_wp2_with fail
 refine (at0 l _).mono ?_
 rintro e w1 ⟨rfl, rfl⟩
 go_wp2_with fail
 go_ret
 exact ⟨rfl, rfl⟩
theorem aC0 (p : Int -> Bool) (f : FuncId) (v : Value) (xs : List Int) (w : World) (h : V0 w v xs.length 1 (ints xs)) (he : ∀ args w, (callFunc f args).run Tryz.prog w = .ok (.enter f args) w)
  (hf : ∀ x w', Calls Tryz.prog f #[.int .i64 x] w' fun e w'' => e = .returned (.bool (p x)) /\ w' = w'') :
  Calls Tryz.prog 118 #[v, .func (.func f) #[] #[]] w fun e w' => ∃ r : Int, e = .returned (.int .i64 r) /\ decide (0 <= r) = xs.any p /\ w = w' := by
 obtain ⟨a1, c1, rfl, -, hm1, -, hc1⟩ := h.open1
 have HF := show Hid _ from hf
 clear h hf
 go_enter Tryz.func118, Tryz.ntmps118
 go_wp2_with fail
 go_loop [5, 8] (fun _ i => ∃ k : Nat, k <= xs.length /\ i = .int .i64 k /\ (xs.take k).any p = false) (fun _ i => xs.length - (intOf i).toNat)
 case atStart => exact ⟨0, b92 _, rfl, rfl⟩
 case round =>
  obtain ⟨k, hk, rfl, ha⟩ := hrel
  have HA := show Hid _ from ha
  clear ha
  by_cases hlt : k < xs.length
  ·obtain ⟨b1, o1, rfl, hb1, hx⟩ := hc1 k hlt
   rw [az1 _ _ hlt] at hx
   clear hc1
   cases hp : p xs[k]
   all_goals
    have HP := show Hid _ from hp
    clear hp
    go_wp2_with fail
    refine (HF.out xs[k] _).mono ?_
    rintro e w1 ⟨rfl, rfl⟩
    rw [HP.out]
    go_wp2_with fail
   ·go_round
    case rel => exact ⟨k + 1, by omega, by go_num, by rw [B1 _ _ hlt, List.any_append, HA.out]; simp [HP.out]⟩
    case measure => simp [intOf]; omega
   go_ret
   exact ⟨_, rfl, by rw [decide_eq_true (by omega)]; symm; rw [List.any_eq_true]; exact ⟨_, b64 hlt, HP.out⟩, rfl⟩
  go_wp2_with fail
  go_ret
  refine ⟨_, rfl, ?_, rfl⟩
  have := HA.out
  rw [b75 (by omega)] at this
  rw [this]; rfl
theorem ap4 (p : Int -> Bool) (f : FuncId) (v : Value) (xs : List Int) (w : World) (h : V0 w v xs.length 1 (ints xs)) (he : ∀ args w, (callFunc f args).run Tryz.prog w = .ok (.enter f args) w)
  (hf : ∀ x w', Calls Tryz.prog f #[.int .i64 x] w' fun e w'' => e = .returned (.bool (p x)) /\ w' = w'') :
  Calls Tryz.prog 95 #[v, .func (.func f) #[] #[]] w fun e w' => e = .returned (.bool (xs.any p)) /\ w = w' := by
 obtain ⟨a1, c1, rfl, -⟩ := h.open1
 have HF := show Hid _ from hf
 have HE := show Hid _ from he
 clear hf he
 go_enter Tryz.func95, Tryz.ntmps95
 go_wp2_with fail
 refine (aC0 p f _ xs _ h HE.out HF.out).mono ?_
 rintro e w1 ⟨r, rfl, hr, rfl⟩
 have HR := show Hid _ from hr
 clear hr
 go_wp2_with fail
 go_ret
 exact ⟨o5 HR.out, rfl⟩
theorem aW2 (xs : List Int) : (!xs.any fun l => !s9 l) = xs.all s9 := by
 induction xs with
 | nil => rfl
 | cons x r ih => simp only [List.any_cons, List.all_cons, <- ih]; cases s9 x <;> simp
theorem M7 (v : Value) (xs : List Int) (w : World) (h : V0 w v xs.length 1 (ints xs)) :
  Calls Tryz.prog 62 #[v] w fun e w' => e = .returned (.bool (xs.all s9)) /\ w = w' := by
 obtain ⟨a1, c1, rfl, -⟩ := h.open1
 go_enter Tryz.func62, Tryz.ntmps62
 go_wp2_with fail
 refine (ap4 (fun l => !s9 l) 96 _ xs _ h (aG0 Tryz.func96 (by kernel_rfl) rfl) (fun x w' => as9 x w')).mono ?_
 rintro e w1 ⟨rfl, rfl⟩
 have HN := show Hid _ from aW2 xs
 go_wp2_with fail
 go_ret
 exact ⟨o5 HN.out, rfl⟩
theorem aC3 (v1 v2 : Value) (vars arrays : List Int) (w : World) (h1 : V0 w v1 vars.length 1 (ints vars)) (h2 : V0 w v2 arrays.length 1 (ints arrays)) :
  Calls Tryz.prog 33 #[v1, v2] w fun e w' => e = .returned (.bool (C9 vars arrays)) /\ w = w' := by
 obtain ⟨a1, c1, rfl, -, q1, -⟩ := h1.open1
 obtain ⟨a2, c2, rfl, -, q2, -⟩ := h2.open1
 have HT : Hid (C9 vars arrays = (vars.all s9 && arrays.all s9 && decide (1 <= vars.length) && decide (vars.length <= 12) && decide (arrays.length <= 2))) := rfl
 by_cases hn : (1 : Int) <= (vars.length : Int) /\ (vars.length : Int) <= 12
 ·have hb : (decide ((1 : Int) <= vars.length) && decide ((vars.length : Int) <= 12)) = true := by simpa using hn
  have HB := show Hid _ from hb
  by_cases hm : (arrays.length : Int) <= 2
  ·cases hv : vars.all s9
   ·have HV := show Hid _ from hv
    clear hv hb hn
    go_enter Tryz.func33, Tryz.ntmps33
    go_wp2_with fail
    refine (B5 _ 1 12 _).mono ?_
    rintro e w1 ⟨rfl, rfl⟩
    rw [HB.out]
    go_wp2_with fail
    refine (M7 _ vars _ h1).mono ?_
    rintro e w1 ⟨rfl, rfl⟩
    rw [HV.out]
    go_wp2_with fail
    go_ret
    exact ⟨o5 (by rw [HT.out, HV.out]; rfl), rfl⟩
   have HV := show Hid _ from hv
   have hn' := show Hid _ from hn
   have hm' := show Hid _ from hm
   clear hv hb hn
   go_enter Tryz.func33, Tryz.ntmps33
   go_wp2_with fail
   refine (B5 _ 1 12 _).mono ?_
   rintro e w1 ⟨rfl, rfl⟩
   rw [HB.out]
   go_wp2_with fail
   refine (M7 _ vars _ h1).mono ?_
   rintro e w1 ⟨rfl, rfl⟩
   rw [HV.out]
   go_wp2_with fail
   refine (M7 _ arrays _ h2).mono ?_
   rintro e w1 ⟨rfl, rfl⟩
   go_wp2_with fail
   go_ret
   refine ⟨o5 ?_, rfl⟩
   have h3 := hn'.out
   have h4 := hm'.out
   rw [HT.out, HV.out, decide_eq_true (show 1 <= vars.length by omega), decide_eq_true (show vars.length <= 12 by omega), decide_eq_true (show arrays.length <= 2 by omega)]
   simp
  have hF : Hid (C9 vars arrays = false) := by unfold Hid; rw [HT.out, decide_eq_false (show ¬ arrays.length <= 2 by omega)]; simp
  clear hb hn
  go_enter Tryz.func33, Tryz.ntmps33
  go_wp2_with fail
  refine (B5 _ 1 12 _).mono ?_
  rintro e w1 ⟨rfl, rfl⟩
  rw [HB.out]
  go_wp2_with fail
  go_ret
  exact ⟨o5 hF.out.symm, rfl⟩
 have hb : (decide ((1 : Int) <= vars.length) && decide ((vars.length : Int) <= 12)) = false := by
  rw [Bool.eq_false_iff]; simp only [ne_eq, b57, decide_eq_true_eq]; exact hn
 have HB := show Hid _ from hb
 have hF : Hid (C9 vars arrays = false) := by
  unfold Hid; rw [HT.out]
  rcases Classical.not_and_iff_not_or_not.1 hn with h | h
  ·rw [decide_eq_false (show ¬ 1 <= vars.length by omega)]; simp
  rw [decide_eq_false (show ¬ vars.length <= 12 by omega)]; simp
 clear hb hn
 go_enter Tryz.func33, Tryz.ntmps33
 go_wp2_with fail
 refine (B5 _ 1 12 _).mono ?_
 rintro e w1 ⟨rfl, rfl⟩
 rw [HB.out]
 go_wp2_with fail
 go_ret
 exact ⟨o5 hF.out.symm, rfl⟩
theorem al0 (k n : Int) (kv : Value) (w : World) : Calls Tryz.prog 99 #[.agg #[.int .i64 k, .int .i64 n, kv]] w fun e w' => e = .returned (.bool (decide (k = 1) || decide (k = 2))) /\ Below w.heap.size w w' := by
 by_cases h1 : k = 1
 ·have p1 : (k == 1) = true := by simp [h1]
  have Q := show Hid _ from h1
  clear h1
  go_enter Tryz.func99, Tryz.ntmps99
  go_wp2
  go_ret
  exact ⟨o5 (by simp [Q.out]), by go_grown⟩
 have p1 : (k == 1) = false := by simp [h1]
 have Q := show Hid _ from h1
 clear h1
 by_cases h2 : k = 2
 ·have p2 : (k == 2) = true := by simp [h2]
  have Q2 := show Hid _ from h2
  clear h2
  go_enter Tryz.func99, Tryz.ntmps99
  go_wp2
  go_ret
  exact ⟨o5 (by simp [Q2.out]), by go_grown⟩
 have p2 : (k == 2) = false := by simp [h2]
 have Q2 := show Hid _ from h2
 clear h2
 go_enter Tryz.func99, Tryz.ntmps99
 go_wp2
 go_ret
 exact ⟨o5 (by rw [decide_eq_false Q.out, decide_eq_false Q2.out]; rfl), by go_grown⟩
theorem aC1 (k : Int) (w : World) : Calls Tryz.prog 135 #[.int .i64 k] w fun e w' => e = .returned (.int .i64 (j9 k)) /\ w = w' := by
 by_cases h1 : k = 1
 ·subst h1
  go_enter Tryz.func135, Tryz.ntmps135
  go_wp2_with fail
  go_ret
  exact ⟨ad9 (by simp [j9]), rfl⟩
 by_cases h2 : k = 2
 ·subst h2
  go_enter Tryz.func135, Tryz.ntmps135
  go_wp2_with fail
  go_ret
  exact ⟨ad9 (by simp [j9]), rfl⟩
 by_cases h3 : k = 3
 ·subst h3
  go_enter Tryz.func135, Tryz.ntmps135
  go_wp2_with fail
  go_ret
  exact ⟨ad9 (by simp [j9]), rfl⟩
 have p1 : (k == 1) = false := by simp [h1]
 have p2 : (k == 2) = false := by simp [h2]
 have p3 : (k == 3) = false := by simp [h3]
 have H := show Hid _ from And.intro h1 (And.intro h2 h3)
 clear h1 h2 h3
 go_enter Tryz.func135, Tryz.ntmps135
 go_wp2_with fail
 refine (B5 k 4 10 _).mono ?_
 rintro x w1 ⟨rfl, rfl⟩
 by_cases h4 : 4 <= k /\ k <= 10
 ·have p4 : (decide (4 <= k) && decide (k <= 10)) = true := by simp [h4]
  rw [p4]
  have H4 := show Hid _ from h4
  clear h4 p4
  go_wp2_with fail
  go_ret
  exact ⟨ad9 (by have := H.out; have := H4.out; unfold j9; rw [if_neg (by omega), if_neg (by omega), if_pos (by omega)]), rfl⟩
 have p4 : (decide (4 <= k) && decide (k <= 10)) = false := by simp; omega
 rw [p4]
 have H4 := show Hid _ from h4
 clear h4 p4
 by_cases h5 : k = 11
 ·subst h5
  go_wp2_with fail
  go_ret
  exact ⟨ad9 (by simp [j9]), rfl⟩
 have p5 : (k == 11) = false := by simp [h5]
 have H5 := show Hid _ from h5
 clear h5
 go_wp2_with fail
 go_ret
 exact ⟨ad9 (by have := H.out; have := H4.out; have := H5.out; unfold j9; rw [if_neg (by omega), if_neg (by omega), if_neg (by omega), if_neg (by omega)]), rfl⟩
theorem X7 {nv na d c : Nat} {e : b7} (h1 : B4 nv na e = true) (h2 : W5 e = true) : w9 nv na (d + 1) c e = w5 nv na d (c + 1) e.kids e.kids.length := by
 unfold w9 w5
 rw [b75 (b71 _), j6, h1, h2, S8]
 simp
theorem U5 {nv na d c k : Nat} {ks : List b7} (hk : k < ks.length) (hs : w9 nv na d (c + s2 (ks.take k)) ks[k] = false) : w5 nv na d c ks ks.length = false := by
 unfold w5
 rw [b75 (b71 _)]
 exact aJ2 nv na hk hs
theorem M0 {nv na d c : Nat} {e : b7} (h1 : B4 nv na e = false) : w9 nv na (d + 1) c e = false := by
 unfold w9; rw [j6, h1]; rfl
theorem aJ3 {nv na d c : Nat} {e : b7} (h1 : W5 e = false) : w9 nv na (d + 1) c e = false := by
 unfold w9; rw [j6, h1]; simp
theorem Y1 {nv na : Nat} {k n h : Int} (hh : h = y6 nv na k - 1) : (decide (0 <= n) && decide (n <= h)) = (decide (0 <= n) && decide (n < y6 nv na k)) := by
 congr 1; exact decide_eq_decide.2 (by omega)
theorem bd7 (a1 a2 : Option Addr) (nv c1 na c2 : Nat) (v3 : Value) (h1 : nv <= 9223372036854775807) (h2 : na <= 9223372036854775807) : ∀ (d : Nat) (deep : Int), deep + d = 6 -> 1 <= deep -> ∀ (e : b7) (φ : Nat -> Prop) (v : Value) (c cb : Nat) (w : World), x3 w φ v e -> ¬ φ cb -> T9 w cb [.int .i64 c] -> c <= 15 ->
  Calls Tryz.prog 119 #[.agg #[.slice a1 nv c1, .slice a2 na c2, v3], v, .int .i64 deep, .pointer (some ⟨cb, 0, none⟩)] w fun x w' =>
   x = .returned (.bool (w9 nv na d c e)) /\ (w9 nv na d c e = true -> T9 w' cb [.int .i64 (c + 1 + L8 e : Nat)]) /\ (∃ u, T9 w' cb [u]) /\ B7 (fun b => ¬ b = cb) w w' := by
 intro d
 induction d with
 | zero =>
  intro deep hdp hd1 e φ v c cb w h hcb hblk hc
  obtain ⟨kv, rfl, hk⟩ := h
  have HF : Hid (w9 nv na 0 c e = false) := rfl
  obtain rfl : deep = 6 := by omega
  have hl := hblk.lt
  have x0 : w.cell? ⟨cb, 0, none⟩ = some (.int .i64 c) := (hblk.cell 0).trans rfl
  have f0 := hblk.free
  obtain ⟨W, hW, M⟩ : ∃ W, W = (((w.setCell ⟨cb, 0, none⟩ (.int .i64 ((c : Int) + 1))).alloc (.cells #[.slice a1 nv c1, .slice a2 na c2, v3] 25)).alloc (.cells #[.int .i64 e.kind, .int .i64 e.value, kv] 67)) /\ D9 (fun _ => True) (fun b => ¬ b = cb) w W [.box cb [.int .i64 ((c : Int) + 1)]] :=
   ⟨_, rfl, (((D9.start fun _ _ => trivial).adopt (.box cb [.int .i64 c]) (fun _ ha => by cases ha) b70 hblk (fun _ ha => by cases ha) (fun g hg hn => by cases hg; exact hn rfl)).set 0 rfl 0 (.int .i64 ((c : Int) + 1))).call (by go_grown)⟩
  have y0 := M.c 0 0 rfl rfl
  have z0 := fun X => b9 y0 X
  clear hk y0 hblk
  by_cases q : (15 : Int) < (c : Int) + 1
  ·have p : decide ((15 : Int) < (c : Int) + 1) = true := by simp; omega
   clear q
   go_enter Tryz.func119, Tryz.ntmps119
   go_wp2_with fail
   rw [<- hW]
   clear hW
   refine l0 (by kernel_rfl) (by kernel_rfl) ?_
   repeat (any_goals (first | go_big_quiet_step (((fail))) | quiet_step (((fail)))))
   refine wpQuiet_nil ?_
   rintro _ ⟨X, rfl⟩
   replace M := M.call (f8 W X)
   go_wp2_with fail
   go_ret
   exact ⟨o5 (by rw [HF.out]), fun h => absurd (h.symm.trans HF.out) (by simp), ⟨_, M.blk 0 rfl⟩, M.kept⟩
  have p : decide ((15 : Int) < (c : Int) + 1) = false := by simp; omega
  clear q
  go_enter Tryz.func119, Tryz.ntmps119
  go_wp2_with fail
  rw [<- hW]
  clear hW
  refine l0 (by kernel_rfl) (by kernel_rfl) ?_
  repeat (any_goals (first | go_big_quiet_step (((fail))) | quiet_step (((fail)))))
  refine wpQuiet_nil ?_
  rintro _ ⟨X, rfl⟩
  replace M := M.call (f8 W X)
  go_wp2_with fail
  go_ret
  exact ⟨o5 (by rw [HF.out]), fun h => absurd (h.symm.trans HF.out) (by simp), ⟨_, M.blk 0 rfl⟩, M.kept⟩
 | succ d ih =>
  intro deep hdp hd1 e φ v c cb w h hcb hblk hc
  obtain ⟨kv, rfl, hk⟩ := h
  obtain ⟨ak, ck, rfl, -, hn, -, -⟩ := hk.open
  have hl := hblk.lt
  have hd5 : deep <= 5 := by omega
  obtain ⟨φ', hφ'⟩ : ∃ φ' : Nat -> Prop, φ' = fun b => φ b \/ w.heap.size <= b := ⟨_, rfl⟩
  have x0 : w.cell? ⟨cb, 0, none⟩ = some (.int .i64 c) := (hblk.cell 0).trans rfl
  have f0 := hblk.free
  obtain ⟨W, hW, M⟩ : ∃ W, W = (((w.setCell ⟨cb, 0, none⟩ (.int .i64 ((c : Int) + 1))).alloc (.cells #[.slice a1 nv c1, .slice a2 na c2, v3] 25)).alloc (.cells #[.int .i64 e.kind, .int .i64 e.value, .slice ak e.kids.length ck] 67)) /\
    D9 φ' (fun b => ¬ b = cb) w W [.box cb [.int .i64 ((c : Int) + 1)], .box w.heap.size [.slice a1 nv c1, .slice a2 na c2, v3], .box (w.heap.size + 1) [.int .i64 e.kind, .int .i64 e.value, .slice ak e.kids.length ck], .dat (fun w φ => l8 w φ (.slice ak e.kids.length ck) e.kids)] := by
   refine ⟨_, rfl, (((((D9.start (by rw [hφ']; exact fun _ h => .inr h)).adopt (.box cb [.int .i64 c]) (fun _ ha => by cases ha) b70 hblk (fun _ ha => by cases ha) (fun g hg hn => by cases hg; exact hn rfl)).set 0 rfl 0 (.int .i64 ((c : Int) + 1))).box' _ _ (by simp)).box' _ _ (by simp)).dat (l8.nice _ _) (l8.nice _ _ _ _ _ _ ⟨by simp; omega, fun b hb hf => ⟨⟨by rw [hφ']; exact .inl hf, fun r hr he => ?_⟩, ?_⟩⟩ hk)⟩
   ·simp at hr
    rcases hr with rfl | rfl | rfl
    ·cases he; exact hcb hf
    ·cases he; omega
    cases he; omega
   have hbc : b ≠ cb := fun he => hcb (he ▸ hf)
   exact (((Below.refl w.heap.size (w.setCell ⟨cb, 0, none⟩ (.int .i64 ((c : Int) + 1)))).alloc (by simp) _ |>.alloc (by simp) _).block b (by simpa using hb)).trans (Below.heap_setCell _ _ _ _ hbc)
  clear hk hblk hφ'
  have y0 := M.c 0 0 rfl rfl
  have y1 := M.c 2 0 rfl rfl
  have y2 := M.c 2 2 rfl rfl
  have z0 := fun X => b9 y0 X
  have z1 := fun X => b9 y1 X
  have z2 := fun X => b9 y2 X
  have HA : Hid (∀ X, Calls Tryz.prog 135 #[.int .i64 e.kind] (W.ext X) fun x w'' => x = .returned (.int .i64 (j9 e.kind)) /\ ∃ Y, w'' = W.ext Y) := fun X =>
   Calls.ext_of' ((aC1 e.kind _).mono fun x w' h => ⟨h.1, h.2 ▸ Below.refl _ _⟩)
  clear y0 y1 y2
  have p2 : decide ((5 : Int) < deep) = false := decide_eq_false (by omega)
  by_cases q1 : (15 : Int) < (c : Int) + 1
  ·have p1 : decide ((15 : Int) < (c : Int) + 1) = true := decide_eq_true q1
   have HF : Hid (w9 nv na (d + 1) c e = false) := by unfold Hid w9; rw [decide_eq_false (by omega), Bool.and_false]
   clear q1
   go_enter Tryz.func119, Tryz.ntmps119
   go_wp2_with fail
   rw [<- hW]
   clear hW
   refine l0 (by kernel_rfl) (by kernel_rfl) ?_
   repeat (any_goals (first | go_big_quiet_step (((go_at_call 135; exact HA.out _))) | quiet_step (((go_at_call 135; exact HA.out _)))))
   refine wpQuiet_nil ?_
   rintro _ ⟨X, rfl⟩
   replace M := M.call (f8 W X)
   go_wp2_with fail
   go_ret
   exact ⟨o5 (by rw [HF.out]), fun h => absurd (h.symm.trans HF.out) (by simp), ⟨_, M.blk 0 rfl⟩, M.kept⟩
  have p1 : decide ((15 : Int) < (c : Int) + 1) = false := decide_eq_false q1
  by_cases q3 : (e.kids.length : Int) = j9 e.kind
  case neg =>
   have p3 : (j9 e.kind != (e.kids.length : Int)) = true := by simp; omega
   have HF : Hid (w9 nv na (d + 1) c e = false) := M0 (by unfold B4; rw [decide_eq_false q3]; rfl)
   clear q1 q3
   go_enter Tryz.func119, Tryz.ntmps119
   go_wp2_with fail
   rw [<- hW]
   clear hW
   refine l0 (by kernel_rfl) (by kernel_rfl) ?_
   repeat (any_goals (first | go_big_quiet_step (((go_at_call 135; exact HA.out _))) | quiet_step (((go_at_call 135; exact HA.out _)))))
   refine wpQuiet_nil ?_
   rintro _ ⟨X, rfl⟩
   replace M := M.call (f8 W X)
   go_wp2_with fail
   go_ret
   exact ⟨o5 (by rw [HF.out]), fun h => absurd (h.symm.trans HF.out) (by simp), ⟨_, M.blk 0 rfl⟩, M.kept⟩
  have p3 : (j9 e.kind != (e.kids.length : Int)) = false := by simp; omega
  have HQ := show Hid _ from And.intro q1 q3
  clear q1 q3
  go_enter Tryz.func119, Tryz.ntmps119
  go_wp2_with fail
  rw [<- hW]
  clear hW
  refine l0 (by kernel_rfl) (by kernel_rfl) ?_
  repeat (any_goals (first | go_big_quiet_step (((go_at_call 135; exact HA.out _))) | quiet_step (((go_at_call 135; exact HA.out _)))))
  refine wpQuiet_nil ?_
  rintro _ ⟨X, rfl⟩
  replace M := M.call (f8 W X)
  generalize W.ext X = W1 at *
  clear z0 z1 z2 HA p1 p2 p3 f0 x0
  have y0 := M.c 1 0 rfl rfl
  have y1 := M.c 1 1 rfl rfl
  have y2 := M.c 2 0 rfl rfl
  have y3 := M.c 2 1 rfl rfl
  have y4 := M.c 2 2 rfl rfl
  have HM := show Hid _ from M
  clear M
  by_cases k1 : e.kind = 1
  ·have qq1 : (e.kind == 1) = true := by simp [k1]
   have qq2 : (e.kind == 3) = false := by simp [k1]
   have HRD : Hid (W5 e = true) := by unfold Hid W5; simp [k1]
   have hhi : (255 : Int) = y6 nv na e.kind - 1 := by rw [k1]; simp [y6]
   clear k1
   have HNB := show Hid (B4 nv na e = (decide (0 <= e.value) && decide (e.value <= 255))) from by
    unfold Hid B4; rw [decide_eq_true HQ.out.2, Y1 hhi]; rfl
   clear hhi
   go_wp2_with fail
   refine (B5 e.value 0 _ _).mono ?_
   rintro x w1 ⟨rfl, rfl⟩
   have HNB2 := show Hid (B4 nv na e = (decide (0 <= e.value) && decide (e.value <= 255))) from HNB.out
   clear HNB
   obtain ⟨qn, hqn⟩ : ∃ qn, qn = (decide (0 <= e.value) && decide (e.value <= 255)) := ⟨_, rfl⟩
   rw [<- hqn]
   have HN := show Hid (B4 nv na e = qn) from HNB2.out.trans hqn.symm
   clear hqn HNB2
   cases qn
   ·have HF : Hid (w9 nv na (d + 1) c e = false) := M0 HN.out
    have M := HM.out
    clear HM
    go_wp2_with fail
    go_ret
    exact ⟨o5 (by rw [HF.out]), fun h => absurd (h.symm.trans HF.out) (by simp), ⟨_, M.blk 0 rfl⟩, M.kept⟩
   have HSC : Hid (w9 nv na (d + 1) c e = w5 nv na d (c + 1) e.kids e.kids.length) := X7 HN.out HRD.out
   go_wp2_with fail
   clear y0 y1 y2 y3 y4
   have HST : Hid (w5 nv na d (c + 1) e.kids 0 = true /\ D9 φ' (fun b => ¬ b = cb) w W1 [.box cb [.int .i64 (c + 1 + s2 (e.kids.take 0) : Nat)], .box w.heap.size [.slice a1 nv c1, .slice a2 na c2, v3], .box (w.heap.size + 1) [.int .i64 e.kind, .int .i64 e.value, .slice ak e.kids.length ck], .dat (fun w φ => l8 w φ (.slice ak e.kids.length ck) e.kids)]) := by
    refine ⟨?_, ?_⟩
    ·have := HQ.out.1
     simp [w5, s2]; omega
    rw [show ((c + 1 + s2 (e.kids.take 0) : Nat) : Int) = (c : Int) + 1 by simp [s2]]
    exact HM.out
   go_loopw [71] (fun i wr => ∃ k : Nat, k <= e.kids.length /\ i = .int .i64 k /\ w5 nv na d (c + 1) e.kids k = true /\ D9 φ' (fun b => ¬ b = cb) w wr [.box cb [.int .i64 (c + 1 + s2 (e.kids.take k) : Nat)], .box w.heap.size [.slice a1 nv c1, .slice a2 na c2, v3], .box (w.heap.size + 1) [.int .i64 e.kind, .int .i64 e.value, .slice ak e.kids.length ck], .dat (fun w φ => l8 w φ (.slice ak e.kids.length ck) e.kids)]) (fun i _ => e.kids.length - (intOf i).toNat)
   case atStart => exact ⟨0, b92 _, rfl, HST.out.1, HST.out.2⟩
   case round =>
    clear HM
    obtain ⟨k, hk, rfl, hpre, M⟩ := hrel
    have HPRE := show Hid _ from hpre
    have hle : c + 1 + s2 (e.kids.take k) <= 15 := by unfold w5 at hpre; simp at hpre; exact hpre.2
    clear hpre
    by_cases hlt : k < e.kids.length
    ·have hncb : ¬ Fr φ' [.box cb [.int .i64 (c + 1 + s2 (e.kids.take k) : Nat)], .box w.heap.size [.slice a1 nv c1, .slice a2 na c2, v3], .box (w.heap.size + 1) [.int .i64 e.kind, .int .i64 e.value, .slice ak e.kids.length ck], .dat (fun w φ => l8 w φ (.slice ak e.kids.length ck) e.kids)] cb := fun h => h.2 _ b72 rfl
     obtain ⟨a', c', he, -, -, -, hcell⟩ := (M.d 3 rfl).open
     cases he
     obtain ⟨b, off, kv, hbo, hbk, hf, g0, g1, g2, hkk⟩ := hcell k hlt
     cases hbo
     obtain ⟨ka, kc, rfl, -, -, -, -⟩ := hkk.open
     have bz : Below wr.heap.size wr (wr.alloc (.cells #[.int .i64 e.kids[k].kind, .int .i64 e.kids[k].value, .slice ka e.kids[k].kids.length kc] 67)) := by go_grown
     have HE := show Hid _ from l8.nice _ _ _ _ _ _ (I5.below bz) hkk
     have HNCB := show Hid _ from hncb
     have x0 := M.c 1 0 rfl rfl
     have x1 := M.c 1 1 rfl rfl
     have x2 := M.c 1 2 rfl rfl
     have s1 : w.heap.size < wr.heap.size := M.lt (r := .box w.heap.size [.slice a1 nv c1, .slice a2 na c2, v3]) (b80 _ b72) rfl
     have HM := show Hid _ from M.box [.int .i64 e.kids[k].kind, .int .i64 e.kids[k].value, .slice ka e.kids[k].kids.length kc] 67
     have HP := show Hid _ from R8 nv na (d := d) (c := c + 1) hlt
     have HX := show Hid (w9 nv na d (c + 1 + s2 (e.kids.take k)) e.kids[k] = false -> w9 nv na (d + 1) c e = false) from fun h => HSC.out.trans (U5 hlt h)
     have HT := show Hid _ from X6 hlt
     clear hcell hncb bz hkk M
     go_wp2_with fail
     refine (ih (deep + 1) (by omega) (by omega) e.kids[k] _ _ (c + 1 + s2 (e.kids.take k)) cb _ ⟨_, rfl, HE.out⟩ HNCB.out (HM.out.blk 0 rfl) hle).mono ?_
     rintro x w2 ⟨rfl, r1, ⟨u, r2⟩, kp⟩
     obtain ⟨q, hq⟩ : ∃ q, q = w9 nv na d (c + 1 + s2 (e.kids.take k)) e.kids[k] := ⟨_, rfl⟩
     rw [<- hq] at r1 ⊢
     have HQ2 := show Hid _ from hq
     clear hq x0 x1 x2 g0 g1 g2
     cases q
     ·have M2 := HM.out.callB 0 rfl kp r2
      have HF := show Hid _ from HX.out HQ2.out.symm
      clear r1 r2 kp
      go_wp2_with fail
      go_ret
      exact ⟨o5 (by rw [HF.out]), fun h => absurd (h.symm.trans HF.out) (by simp), ⟨_, M2.blk 0 rfl⟩, M2.kept⟩
     have M2 := (HM.out.callB 0 rfl kp (r1 rfl)).take 4
     have HM2 := show Hid _ from M2
     clear r1 r2 kp M2
     go_wp2_with fail
     refine ⟨⟨k + 1, by omega, by go_num, by rw [HP.out, HPRE.out, <- HQ2.out]; rfl, ?_⟩, by simp [intOf]; omega⟩
     rw [HT.out, show c + 1 + (s2 (e.kids.take k) + (1 + L8 e.kids[k])) = c + 1 + s2 (e.kids.take k) + 1 + L8 e.kids[k] by omega]
     exact HM2.out
    have hkn : k = e.kids.length := by omega
    subst hkn
    have HM := show Hid _ from M
    have HS : Hid (w9 nv na (d + 1) c e = true) := HSC.out.trans HPRE.out
    clear M
    go_wp2_with fail
    go_ret
    refine ⟨o5 (by rw [HS.out]), fun _ => ?_, ⟨_, HM.out.blk 0 rfl⟩, HM.out.kept⟩
    have := HM.out.blk 0 rfl
    rw [b75 (b71 _)] at this
    rw [S8]
    exact this
  have k1' : (e.kind == 1) = false := by simp [k1]
  by_cases k2 : e.kind = 2
  ·have qq1 : (e.kind == 2) = true := by simp [k2]
   have qq2 : (e.kind == 3) = false := by simp [k2]
   have HRD : Hid (W5 e = true) := by unfold Hid W5; simp [k2]
   have hhi : (nv : Int) - 1 = y6 nv na e.kind - 1 := by rw [k2]; simp [y6]
   clear k1 k2
   have HNB := show Hid (B4 nv na e = (decide (0 <= e.value) && decide (e.value <= (nv : Int) - 1))) from by
    unfold Hid B4; rw [decide_eq_true HQ.out.2, Y1 hhi]; rfl
   clear hhi
   go_wp2_with fail
   refine (B5 e.value 0 _ _).mono ?_
   rintro x w1 ⟨rfl, rfl⟩
   have HNB2 := show Hid (B4 nv na e = (decide (0 <= e.value) && decide (e.value <= (nv : Int) - 1))) from HNB.out
   clear HNB
   obtain ⟨qn, hqn⟩ : ∃ qn, qn = (decide (0 <= e.value) && decide (e.value <= (nv : Int) - 1)) := ⟨_, rfl⟩
   rw [<- hqn]
   have HN := show Hid (B4 nv na e = qn) from HNB2.out.trans hqn.symm
   clear hqn HNB2
   cases qn
   ·have HF : Hid (w9 nv na (d + 1) c e = false) := M0 HN.out
    have M := HM.out
    clear HM
    go_wp2_with fail
    go_ret
    exact ⟨o5 (by rw [HF.out]), fun h => absurd (h.symm.trans HF.out) (by simp), ⟨_, M.blk 0 rfl⟩, M.kept⟩
   have HSC : Hid (w9 nv na (d + 1) c e = w5 nv na d (c + 1) e.kids e.kids.length) := X7 HN.out HRD.out
   go_wp2_with fail
   clear y0 y1 y2 y3 y4
   have HST : Hid (w5 nv na d (c + 1) e.kids 0 = true /\ D9 φ' (fun b => ¬ b = cb) w W1 [.box cb [.int .i64 (c + 1 + s2 (e.kids.take 0) : Nat)], .box w.heap.size [.slice a1 nv c1, .slice a2 na c2, v3], .box (w.heap.size + 1) [.int .i64 e.kind, .int .i64 e.value, .slice ak e.kids.length ck], .dat (fun w φ => l8 w φ (.slice ak e.kids.length ck) e.kids)]) := by
    refine ⟨?_, ?_⟩
    ·have := HQ.out.1
     simp [w5, s2]; omega
    rw [show ((c + 1 + s2 (e.kids.take 0) : Nat) : Int) = (c : Int) + 1 by simp [s2]]
    exact HM.out
   go_loopw [71] (fun i wr => ∃ k : Nat, k <= e.kids.length /\ i = .int .i64 k /\ w5 nv na d (c + 1) e.kids k = true /\ D9 φ' (fun b => ¬ b = cb) w wr [.box cb [.int .i64 (c + 1 + s2 (e.kids.take k) : Nat)], .box w.heap.size [.slice a1 nv c1, .slice a2 na c2, v3], .box (w.heap.size + 1) [.int .i64 e.kind, .int .i64 e.value, .slice ak e.kids.length ck], .dat (fun w φ => l8 w φ (.slice ak e.kids.length ck) e.kids)]) (fun i _ => e.kids.length - (intOf i).toNat)
   case atStart => exact ⟨0, b92 _, rfl, HST.out.1, HST.out.2⟩
   case round =>
    clear HM
    obtain ⟨k, hk, rfl, hpre, M⟩ := hrel
    have HPRE := show Hid _ from hpre
    have hle : c + 1 + s2 (e.kids.take k) <= 15 := by unfold w5 at hpre; simp at hpre; exact hpre.2
    clear hpre
    by_cases hlt : k < e.kids.length
    ·have hncb : ¬ Fr φ' [.box cb [.int .i64 (c + 1 + s2 (e.kids.take k) : Nat)], .box w.heap.size [.slice a1 nv c1, .slice a2 na c2, v3], .box (w.heap.size + 1) [.int .i64 e.kind, .int .i64 e.value, .slice ak e.kids.length ck], .dat (fun w φ => l8 w φ (.slice ak e.kids.length ck) e.kids)] cb := fun h => h.2 _ b72 rfl
     obtain ⟨a', c', he, -, -, -, hcell⟩ := (M.d 3 rfl).open
     cases he
     obtain ⟨b, off, kv, hbo, hbk, hf, g0, g1, g2, hkk⟩ := hcell k hlt
     cases hbo
     obtain ⟨ka, kc, rfl, -, -, -, -⟩ := hkk.open
     have bz : Below wr.heap.size wr (wr.alloc (.cells #[.int .i64 e.kids[k].kind, .int .i64 e.kids[k].value, .slice ka e.kids[k].kids.length kc] 67)) := by go_grown
     have HE := show Hid _ from l8.nice _ _ _ _ _ _ (I5.below bz) hkk
     have HNCB := show Hid _ from hncb
     have x0 := M.c 1 0 rfl rfl
     have x1 := M.c 1 1 rfl rfl
     have x2 := M.c 1 2 rfl rfl
     have s1 : w.heap.size < wr.heap.size := M.lt (r := .box w.heap.size [.slice a1 nv c1, .slice a2 na c2, v3]) (b80 _ b72) rfl
     have HM := show Hid _ from M.box [.int .i64 e.kids[k].kind, .int .i64 e.kids[k].value, .slice ka e.kids[k].kids.length kc] 67
     have HP := show Hid _ from R8 nv na (d := d) (c := c + 1) hlt
     have HX := show Hid (w9 nv na d (c + 1 + s2 (e.kids.take k)) e.kids[k] = false -> w9 nv na (d + 1) c e = false) from fun h => HSC.out.trans (U5 hlt h)
     have HT := show Hid _ from X6 hlt
     clear hcell hncb bz hkk M
     go_wp2_with fail
     refine (ih (deep + 1) (by omega) (by omega) e.kids[k] _ _ (c + 1 + s2 (e.kids.take k)) cb _ ⟨_, rfl, HE.out⟩ HNCB.out (HM.out.blk 0 rfl) hle).mono ?_
     rintro x w2 ⟨rfl, r1, ⟨u, r2⟩, kp⟩
     obtain ⟨q, hq⟩ : ∃ q, q = w9 nv na d (c + 1 + s2 (e.kids.take k)) e.kids[k] := ⟨_, rfl⟩
     rw [<- hq] at r1 ⊢
     have HQ2 := show Hid _ from hq
     clear hq x0 x1 x2 g0 g1 g2
     cases q
     ·have M2 := HM.out.callB 0 rfl kp r2
      have HF := show Hid _ from HX.out HQ2.out.symm
      clear r1 r2 kp
      go_wp2_with fail
      go_ret
      exact ⟨o5 (by rw [HF.out]), fun h => absurd (h.symm.trans HF.out) (by simp), ⟨_, M2.blk 0 rfl⟩, M2.kept⟩
     have M2 := (HM.out.callB 0 rfl kp (r1 rfl)).take 4
     have HM2 := show Hid _ from M2
     clear r1 r2 kp M2
     go_wp2_with fail
     refine ⟨⟨k + 1, by omega, by go_num, by rw [HP.out, HPRE.out, <- HQ2.out]; rfl, ?_⟩, by simp [intOf]; omega⟩
     rw [HT.out, show c + 1 + (s2 (e.kids.take k) + (1 + L8 e.kids[k])) = c + 1 + s2 (e.kids.take k) + 1 + L8 e.kids[k] by omega]
     exact HM2.out
    have hkn : k = e.kids.length := by omega
    subst hkn
    have HM := show Hid _ from M
    have HS : Hid (w9 nv na (d + 1) c e = true) := HSC.out.trans HPRE.out
    clear M
    go_wp2_with fail
    go_ret
    refine ⟨o5 (by rw [HS.out]), fun _ => ?_, ⟨_, HM.out.blk 0 rfl⟩, HM.out.kept⟩
    have := HM.out.blk 0 rfl
    rw [b75 (b71 _)] at this
    rw [S8]
    exact this
  have k2' : (e.kind == 2) = false := by simp [k2]
  by_cases k3 : e.kind = 3
  ·have qq1 : (e.kind == 3) = true := by simp [k3]
   have qq2 := k2'
   have HRD : Hid (e.kind = 3) := k3
   have hhi : (na : Int) - 1 = y6 nv na e.kind - 1 := by rw [k3]; simp [y6]
   clear k1 k2 k3
   have HNB := show Hid (B4 nv na e = (decide (0 <= e.value) && decide (e.value <= (na : Int) - 1))) from by
    unfold Hid B4; rw [decide_eq_true HQ.out.2, Y1 hhi]; rfl
   clear hhi
   go_wp2_with fail
   refine (B5 e.value 0 _ _).mono ?_
   rintro x w1 ⟨rfl, rfl⟩
   have HNB2 := show Hid (B4 nv na e = (decide (0 <= e.value) && decide (e.value <= (na : Int) - 1))) from HNB.out
   clear HNB
   obtain ⟨qn, hqn⟩ : ∃ qn, qn = (decide (0 <= e.value) && decide (e.value <= (na : Int) - 1)) := ⟨_, rfl⟩
   rw [<- hqn]
   have HN := show Hid (B4 nv na e = qn) from HNB2.out.trans hqn.symm
   clear hqn HNB2
   cases qn
   ·have HF : Hid (w9 nv na (d + 1) c e = false) := M0 HN.out
    have M := HM.out
    clear HM
    go_wp2_with fail
    go_ret
    exact ⟨o5 (by rw [HF.out]), fun h => absurd (h.symm.trans HF.out) (by simp), ⟨_, M.blk 0 rfl⟩, M.kept⟩
   have hl1 : e.kids.length = 1 := by have := HQ.out.2; rw [HRD.out] at this; simp [j9] at this; omega
   have hpos : 0 < (e.kids.length : Int) := by omega
   obtain ⟨a', c', he, -, -, -, hcell⟩ := (HM.out.d 3 rfl).open
   have e1 : ak = a' := by cases he; rfl
   have e2 : ck = c' := by cases he; rfl
   subst e1 e2
   obtain ⟨b, off, kv, rfl, hbk, hf, g0, g1, g2, hkk⟩ := hcell 0 (by omega)
   simp only [Nat.zero_mul, Nat.add_zero] at g0 g1 g2
   have HR := show Hid _ from aF3 HRD.out (by omega)
   clear hcell hkk
   go_wp2_with fail
   refine (al0 _ _ _ _).mono ?_
   rintro x w2 ⟨rfl, b2⟩
   replace HM := show Hid _ from HM.out.call b2
   obtain ⟨qr, hqr⟩ : ∃ qr, qr = (decide ((e.kids[0]'(by omega)).kind = 1) || decide ((e.kids[0]'(by omega)).kind = 2)) := ⟨_, rfl⟩
   rw [<- hqr]
   have HRR := show Hid (W5 e = qr) from HR.out.trans hqr.symm
   clear hqr b2 HR g0 g1 g2
   cases qr
   ·have HF : Hid (w9 nv na (d + 1) c e = false) := aJ3 HRR.out
    have M := HM.out
    clear HM
    go_wp2_with fail
    go_ret
    exact ⟨o5 (by rw [HF.out]), fun h => absurd (h.symm.trans HF.out) (by simp), ⟨_, M.blk 0 rfl⟩, M.kept⟩
   clear y0 y1 y2 y3 y4
   have y4 := HM.out.c 2 2 rfl rfl
   have HSC : Hid (w9 nv na (d + 1) c e = w5 nv na d (c + 1) e.kids e.kids.length) := X7 HN.out HRR.out
   go_wp2_with fail
   clear y4
   have HST : Hid (w5 nv na d (c + 1) e.kids 0 = true /\ D9 φ' (fun b => ¬ b = cb) w w2 [.box cb [.int .i64 (c + 1 + s2 (e.kids.take 0) : Nat)], .box w.heap.size [.slice a1 nv c1, .slice a2 na c2, v3], .box (w.heap.size + 1) [.int .i64 e.kind, .int .i64 e.value, .slice (some ⟨b, off, none⟩) e.kids.length ck], .dat (fun w φ => l8 w φ (.slice (some ⟨b, off, none⟩) e.kids.length ck) e.kids)]) := by
    refine ⟨?_, ?_⟩
    ·have := HQ.out.1
     simp [w5, s2]; omega
    rw [show ((c + 1 + s2 (e.kids.take 0) : Nat) : Int) = (c : Int) + 1 by simp [s2]]
    exact HM.out
   go_loopw [71] (fun i wr => ∃ k : Nat, k <= e.kids.length /\ i = .int .i64 k /\ w5 nv na d (c + 1) e.kids k = true /\ D9 φ' (fun b => ¬ b = cb) w wr [.box cb [.int .i64 (c + 1 + s2 (e.kids.take k) : Nat)], .box w.heap.size [.slice a1 nv c1, .slice a2 na c2, v3], .box (w.heap.size + 1) [.int .i64 e.kind, .int .i64 e.value, .slice (some ⟨b, off, none⟩) e.kids.length ck], .dat (fun w φ => l8 w φ (.slice (some ⟨b, off, none⟩) e.kids.length ck) e.kids)]) (fun i _ => e.kids.length - (intOf i).toNat)
   case atStart => exact ⟨0, b92 _, rfl, HST.out.1, HST.out.2⟩
   case round =>
    clear HM
    obtain ⟨k, hk, rfl, hpre, M⟩ := hrel
    have HPRE := show Hid _ from hpre
    have hle : c + 1 + s2 (e.kids.take k) <= 15 := by unfold w5 at hpre; simp at hpre; exact hpre.2
    clear hpre
    by_cases hlt : k < e.kids.length
    ·have hncb : ¬ Fr φ' [.box cb [.int .i64 (c + 1 + s2 (e.kids.take k) : Nat)], .box w.heap.size [.slice a1 nv c1, .slice a2 na c2, v3], .box (w.heap.size + 1) [.int .i64 e.kind, .int .i64 e.value, .slice (some ⟨b, off, none⟩) e.kids.length ck], .dat (fun w φ => l8 w φ (.slice (some ⟨b, off, none⟩) e.kids.length ck) e.kids)] cb := fun h => h.2 _ b72 rfl
     obtain ⟨a', c', he, -, -, -, hcell⟩ := (M.d 3 rfl).open
     cases he
     obtain ⟨b, off, kv, hbo, hbk, hf, g0, g1, g2, hkk⟩ := hcell k hlt
     cases hbo
     obtain ⟨ka, kc, rfl, -, -, -, -⟩ := hkk.open
     have bz : Below wr.heap.size wr (wr.alloc (.cells #[.int .i64 e.kids[k].kind, .int .i64 e.kids[k].value, .slice ka e.kids[k].kids.length kc] 67)) := by go_grown
     have HE := show Hid _ from l8.nice _ _ _ _ _ _ (I5.below bz) hkk
     have HNCB := show Hid _ from hncb
     have x0 := M.c 1 0 rfl rfl
     have x1 := M.c 1 1 rfl rfl
     have x2 := M.c 1 2 rfl rfl
     have s1 : w.heap.size < wr.heap.size := M.lt (r := .box w.heap.size [.slice a1 nv c1, .slice a2 na c2, v3]) (b80 _ b72) rfl
     have HM := show Hid _ from M.box [.int .i64 e.kids[k].kind, .int .i64 e.kids[k].value, .slice ka e.kids[k].kids.length kc] 67
     have HP := show Hid _ from R8 nv na (d := d) (c := c + 1) hlt
     have HX := show Hid (w9 nv na d (c + 1 + s2 (e.kids.take k)) e.kids[k] = false -> w9 nv na (d + 1) c e = false) from fun h => HSC.out.trans (U5 hlt h)
     have HT := show Hid _ from X6 hlt
     clear hcell hncb bz hkk M
     go_wp2_with fail
     refine (ih (deep + 1) (by omega) (by omega) e.kids[k] _ _ (c + 1 + s2 (e.kids.take k)) cb _ ⟨_, rfl, HE.out⟩ HNCB.out (HM.out.blk 0 rfl) hle).mono ?_
     rintro x w2 ⟨rfl, r1, ⟨u, r2⟩, kp⟩
     obtain ⟨q, hq⟩ : ∃ q, q = w9 nv na d (c + 1 + s2 (e.kids.take k)) e.kids[k] := ⟨_, rfl⟩
     rw [<- hq] at r1 ⊢
     have HQ2 := show Hid _ from hq
     clear hq x0 x1 x2 g0 g1 g2
     cases q
     ·have M2 := HM.out.callB 0 rfl kp r2
      have HF := show Hid _ from HX.out HQ2.out.symm
      clear r1 r2 kp
      go_wp2_with fail
      go_ret
      exact ⟨o5 (by rw [HF.out]), fun h => absurd (h.symm.trans HF.out) (by simp), ⟨_, M2.blk 0 rfl⟩, M2.kept⟩
     have M2 := (HM.out.callB 0 rfl kp (r1 rfl)).take 4
     have HM2 := show Hid _ from M2
     clear r1 r2 kp M2
     go_wp2_with fail
     refine ⟨⟨k + 1, by omega, by go_num, by rw [HP.out, HPRE.out, <- HQ2.out]; rfl, ?_⟩, by simp [intOf]; omega⟩
     rw [HT.out, show c + 1 + (s2 (e.kids.take k) + (1 + L8 e.kids[k])) = c + 1 + s2 (e.kids.take k) + 1 + L8 e.kids[k] by omega]
     exact HM2.out
    have hkn : k = e.kids.length := by omega
    subst hkn
    have HM := show Hid _ from M
    have HS : Hid (w9 nv na (d + 1) c e = true) := HSC.out.trans HPRE.out
    clear M
    go_wp2_with fail
    go_ret
    refine ⟨o5 (by rw [HS.out]), fun _ => ?_, ⟨_, HM.out.blk 0 rfl⟩, HM.out.kept⟩
    have := HM.out.blk 0 rfl
    rw [b75 (b71 _)] at this
    rw [S8]
    exact this
  have qq1 : (e.kind == 3) = false := by simp [k3]
  have qq2 := qq1
  have HRD : Hid (W5 e = true) := by unfold Hid W5; simp [k3]
  have hhi : (0 : Int) = y6 nv na e.kind - 1 := by unfold y6; rw [if_neg k1, if_neg k2, if_neg k3]; rfl
  clear k1 k2 k3
  have HNB := show Hid (B4 nv na e = (decide (0 <= e.value) && decide (e.value <= 0))) from by
   unfold Hid B4; rw [decide_eq_true HQ.out.2, Y1 hhi]; rfl
  clear hhi
  go_wp2_with fail
  refine (B5 e.value 0 _ _).mono ?_
  rintro x w1 ⟨rfl, rfl⟩
  have HNB2 := show Hid (B4 nv na e = (decide (0 <= e.value) && decide (e.value <= 0))) from HNB.out
  clear HNB
  obtain ⟨qn, hqn⟩ : ∃ qn, qn = (decide (0 <= e.value) && decide (e.value <= 0)) := ⟨_, rfl⟩
  rw [<- hqn]
  have HN := show Hid (B4 nv na e = qn) from HNB2.out.trans hqn.symm
  clear hqn HNB2
  cases qn
  ·have HF : Hid (w9 nv na (d + 1) c e = false) := M0 HN.out
   have M := HM.out
   clear HM
   go_wp2_with fail
   go_ret
   exact ⟨o5 (by rw [HF.out]), fun h => absurd (h.symm.trans HF.out) (by simp), ⟨_, M.blk 0 rfl⟩, M.kept⟩
  have HSC : Hid (w9 nv na (d + 1) c e = w5 nv na d (c + 1) e.kids e.kids.length) := X7 HN.out HRD.out
  go_wp2_with fail
  clear y0 y1 y2 y3 y4
  have HST : Hid (w5 nv na d (c + 1) e.kids 0 = true /\ D9 φ' (fun b => ¬ b = cb) w W1 [.box cb [.int .i64 (c + 1 + s2 (e.kids.take 0) : Nat)], .box w.heap.size [.slice a1 nv c1, .slice a2 na c2, v3], .box (w.heap.size + 1) [.int .i64 e.kind, .int .i64 e.value, .slice ak e.kids.length ck], .dat (fun w φ => l8 w φ (.slice ak e.kids.length ck) e.kids)]) := by
   refine ⟨?_, ?_⟩
   ·have := HQ.out.1
    simp [w5, s2]; omega
   rw [show ((c + 1 + s2 (e.kids.take 0) : Nat) : Int) = (c : Int) + 1 by simp [s2]]
   exact HM.out
  go_loopw [71] (fun i wr => ∃ k : Nat, k <= e.kids.length /\ i = .int .i64 k /\ w5 nv na d (c + 1) e.kids k = true /\ D9 φ' (fun b => ¬ b = cb) w wr [.box cb [.int .i64 (c + 1 + s2 (e.kids.take k) : Nat)], .box w.heap.size [.slice a1 nv c1, .slice a2 na c2, v3], .box (w.heap.size + 1) [.int .i64 e.kind, .int .i64 e.value, .slice ak e.kids.length ck], .dat (fun w φ => l8 w φ (.slice ak e.kids.length ck) e.kids)]) (fun i _ => e.kids.length - (intOf i).toNat)
  case atStart => exact ⟨0, b92 _, rfl, HST.out.1, HST.out.2⟩
  case round =>
   clear HM
   obtain ⟨k, hk, rfl, hpre, M⟩ := hrel
   have HPRE := show Hid _ from hpre
   have hle : c + 1 + s2 (e.kids.take k) <= 15 := by unfold w5 at hpre; simp at hpre; exact hpre.2
   clear hpre
   by_cases hlt : k < e.kids.length
   ·have hncb : ¬ Fr φ' [.box cb [.int .i64 (c + 1 + s2 (e.kids.take k) : Nat)], .box w.heap.size [.slice a1 nv c1, .slice a2 na c2, v3], .box (w.heap.size + 1) [.int .i64 e.kind, .int .i64 e.value, .slice ak e.kids.length ck], .dat (fun w φ => l8 w φ (.slice ak e.kids.length ck) e.kids)] cb := fun h => h.2 _ b72 rfl
    obtain ⟨a', c', he, -, -, -, hcell⟩ := (M.d 3 rfl).open
    cases he
    obtain ⟨b, off, kv, hbo, hbk, hf, g0, g1, g2, hkk⟩ := hcell k hlt
    cases hbo
    obtain ⟨ka, kc, rfl, -, -, -, -⟩ := hkk.open
    have bz : Below wr.heap.size wr (wr.alloc (.cells #[.int .i64 e.kids[k].kind, .int .i64 e.kids[k].value, .slice ka e.kids[k].kids.length kc] 67)) := by go_grown
    have HE := show Hid _ from l8.nice _ _ _ _ _ _ (I5.below bz) hkk
    have HNCB := show Hid _ from hncb
    have x0 := M.c 1 0 rfl rfl
    have x1 := M.c 1 1 rfl rfl
    have x2 := M.c 1 2 rfl rfl
    have s1 : w.heap.size < wr.heap.size := M.lt (r := .box w.heap.size [.slice a1 nv c1, .slice a2 na c2, v3]) (b80 _ b72) rfl
    have HM := show Hid _ from M.box [.int .i64 e.kids[k].kind, .int .i64 e.kids[k].value, .slice ka e.kids[k].kids.length kc] 67
    have HP := show Hid _ from R8 nv na (d := d) (c := c + 1) hlt
    have HX := show Hid (w9 nv na d (c + 1 + s2 (e.kids.take k)) e.kids[k] = false -> w9 nv na (d + 1) c e = false) from fun h => HSC.out.trans (U5 hlt h)
    have HT := show Hid _ from X6 hlt
    clear hcell hncb bz hkk M
    go_wp2_with fail
    refine (ih (deep + 1) (by omega) (by omega) e.kids[k] _ _ (c + 1 + s2 (e.kids.take k)) cb _ ⟨_, rfl, HE.out⟩ HNCB.out (HM.out.blk 0 rfl) hle).mono ?_
    rintro x w2 ⟨rfl, r1, ⟨u, r2⟩, kp⟩
    obtain ⟨q, hq⟩ : ∃ q, q = w9 nv na d (c + 1 + s2 (e.kids.take k)) e.kids[k] := ⟨_, rfl⟩
    rw [<- hq] at r1 ⊢
    have HQ2 := show Hid _ from hq
    clear hq x0 x1 x2 g0 g1 g2
    cases q
    ·have M2 := HM.out.callB 0 rfl kp r2
     have HF := show Hid _ from HX.out HQ2.out.symm
     clear r1 r2 kp
     go_wp2_with fail
     go_ret
     exact ⟨o5 (by rw [HF.out]), fun h => absurd (h.symm.trans HF.out) (by simp), ⟨_, M2.blk 0 rfl⟩, M2.kept⟩
    have M2 := (HM.out.callB 0 rfl kp (r1 rfl)).take 4
    have HM2 := show Hid _ from M2
    clear r1 r2 kp M2
    go_wp2_with fail
    refine ⟨⟨k + 1, by omega, by go_num, by rw [HP.out, HPRE.out, <- HQ2.out]; rfl, ?_⟩, by simp [intOf]; omega⟩
    rw [HT.out, show c + 1 + (s2 (e.kids.take k) + (1 + L8 e.kids[k])) = c + 1 + s2 (e.kids.take k) + 1 + L8 e.kids[k] by omega]
    exact HM2.out
   have hkn : k = e.kids.length := by omega
   subst hkn
   have HM := show Hid _ from M
   have HS : Hid (w9 nv na (d + 1) c e = true) := HSC.out.trans HPRE.out
   clear M
   go_wp2_with fail
   go_ret
   refine ⟨o5 (by rw [HS.out]), fun _ => ?_, ⟨_, HM.out.blk 0 rfl⟩, HM.out.kept⟩
   have := HM.out.blk 0 rfl
   rw [b75 (b71 _)] at this
   rw [S8]
   exact this
theorem aY4 (nv na : Nat) (e : b7) : w9 nv na 5 0 e = j8 nv na e := by
 have h : (0 + 1 + L8 e <= 15) = (1 + L8 e <= 15) := by rw [b97]
 unfold w9 j8
 simp only [h]
theorem bd8 (a1 a2 : Option Addr) (nv c1 na c2 : Nat) (v3 : Value) (h1 : nv <= 9223372036854775807) (h2 : na <= 9223372036854775807) (e : b7) (φ : Nat -> Prop) (v : Value) (w : World) (h : x3 w φ v e) :
  Calls Tryz.prog 98 #[.agg #[.slice a1 nv c1, .slice a2 na c2, v3], v] w fun x w' => x = .returned (.bool (j8 nv na e)) /\ Below w.heap.size w w' := by
 obtain ⟨kv, rfl, hk⟩ := h
 obtain ⟨W, hW, M⟩ : ∃ W, W = ((w.alloc (.cells #[.slice a1 nv c1, .slice a2 na c2, v3] 25)).alloc (.cells #[.int .i64 e.kind, .int .i64 e.value, kv] 67)).alloc (.cells #[.int .i64 0] 3) /\ D9 (fun _ => True) (fun _ => True) w W [.box w.heap.size [.slice a1 nv c1, .slice a2 na c2, v3], .box (w.heap.size + 1) [.int .i64 e.kind, .int .i64 e.value, kv], .box (w.heap.size + 1 + 1) [.int .i64 0]] :=
  ⟨_, rfl, (((D9.start fun _ _ => trivial).box _ _).box' _ _ (by simp)).box' _ _ (by simp)⟩
 have hb := M.below fun _ _ => trivial
 have HK := show Hid _ from l8.nice _ _ _ _ φ (fun b => φ b /\ b < w.heap.size) ⟨hb.size, fun b hl hf => ⟨⟨hf, hl⟩, hb.block b hl⟩⟩ hk
 clear hb hk
 have x0 := M.c 0 0 rfl rfl
 have x1 := M.c 0 1 rfl rfl
 have x2 := M.c 0 2 rfl rfl
 have y0 := M.c 1 0 rfl rfl
 have y1 := M.c 1 1 rfl rfl
 have y2 := M.c 1 2 rfl rfl
 have HM := show Hid _ from M
 rw [hW] at x0 x1 x2 y0 y1 y2
 clear M
 go_enter Tryz.func98, Tryz.ntmps98
 go_wp2_with fail
 rw [<- hW]
 clear hW x0 x1 x2 y0 y1 y2
 refine (bd7 a1 a2 nv c1 na c2 v3 h1 h2 5 1 (by omega) (by omega) e _ _ 0 _ _ ⟨kv, rfl, HK.out⟩ (fun h => by have := h.2; omega) (HM.out.blk 2 rfl) (by omega)).mono ?_
 rintro x w1 ⟨rfl, -, ⟨u, r2⟩, kp⟩
 rw [aY4]
 have M := HM.out.callB 2 rfl kp r2
 have HB := show Hid _ from M.below fun _ _ => trivial
 clear kp r2 M
 go_wp2_with fail
 go_ret
 exact ⟨rfl, HB.out⟩
end Go.Proofs.YtompcdbfongedaaGreatDoor

