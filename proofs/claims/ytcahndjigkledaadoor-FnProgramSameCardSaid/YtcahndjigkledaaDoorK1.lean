/- Part 1: functions on the way, plain laws. Conditions: as said. -/
import Derived.WalkKit
import Derived.ProofKit
import Derived.Handy
import Derived.WalkSmall
import Derived.Deep.QuietTactic
import Derived.BigQuiet
import Derived.StillTailTactics
import Derived.Deep.Quiet
import Derived.StillTail
import Derived.Test.YtcahndjigkledaaDoorRows
import Derived.Maps.AppendAt
import Derived.ArgAppend
import Derived.Deep.Upon
import Derived.Lib.AppendIntMem
set_option maxRecDepth 100000
set_option maxHeartbeats 16000000
set_option linter.unusedVariables false
set_option linter.unusedSimpArgs false
open Bool renaming and_eq_true → bk0, eq_iff_iff → bm4
open List renaming all_eq_true → bk6, append_assoc → bn1, eq_nil_of_length_eq_zero → bm2, getElem?_append_left → bn6, getElem?_eq_getElem → bk1, getElem?_eq_none → bm7, getElem?_eq_some_iff → bk5, getElem?_map → bm9, getElem_mem → bk8, length_append → bl6, length_cons → bk4, length_nil → bk7, map_cons → bm8, mem_append → bm1, mem_cons → bn2, mem_cons_of_mem → bl9, mem_cons_self → bl2, mem_of_getElem? → bl8, range → bm3, replicate → bl4, take_of_length_le → bm0
open Nat renaming le_refl → bl5, le_trans → bk9, lt_or_ge → bn0, mul_le_mul_right → bn3, succ_mul → bm5, zero_add → bn7
open True renaming intro → bm6

namespace Go.Proofs.YtcahndjigkledaaDoor
open Go Go.RowKit
def L0 (w : World) (v : Value) (n sz : Nat) (xs : List Value) : Prop :=
 xs.length = n * sz /\ ∃ a cap, v = .slice a n cap /\ n <= cap /\ cap <= maxLen /\
  (0 < n -> ∃ b off, a = some ⟨b, off, none⟩ /\ b < w.heap.size /\ ∀ j u, xs[j]? = some u -> w.cell? ⟨b, off + j, none⟩ = some u)
theorem C6 {W w1 : World} (hb : Below W.heap.size W w1) : (∀ b o, b < W.heap.size -> w1.cell? ⟨b, o, none⟩ = W.cell? ⟨b, o, none⟩) /\ (∀ b o, b < W.heap.size -> w1.frozen? ⟨b, o, none⟩ = W.frozen? ⟨b, o, none⟩) :=
 ⟨fun b o h => hb.cell (p := ⟨b, o, none⟩) h, fun b o h => hb.frozen (p := ⟨b, o, none⟩) h⟩
theorem L0.below {w w' : World} {v : Value} {n sz : Nat} {xs : List Value} (h : L0 w v n sz xs) (hb : Below w.heap.size w w') : L0 w' v n sz xs := by
 obtain ⟨hl, a, cap, rfl, h1, h2, h3⟩ := h
 refine ⟨hl, a, cap, rfl, h1, h2, fun hn => ?_⟩
 obtain ⟨b, off, rfl, hbk, hc⟩ := h3 hn
 exact ⟨b, off, rfl, Nat.lt_of_lt_of_le hbk hb.size, fun j u hj => ((C6 hb).1 b _ hbk).trans (hc j u hj)⟩
theorem L0.len {w : World} {v : Value} {n sz : Nat} {xs : List Value} (h : L0 w v n sz xs) : n <= 9223372036854775807 := by
 obtain ⟨_, a, cap, rfl, h1, h2, _⟩ := h; unfold maxLen at h2; omega
theorem L0.nil (w : World) (sz : Nat) : L0 w (.slice none 0 0) 0 sz [] := ⟨by simp, none, 0, rfl, bl5 _, by unfold maxLen; omega, fun h => absurd h (by omega)⟩
theorem L0.open {w : World} {v : Value} {n sz : Nat} {xs : List Value} (h : L0 w v n sz xs) : ∃ a cap, v = .slice a n cap /\ n <= cap /\ n <= 9223372036854775807 /\ cap <= 9223372036854775807 /\
  ∀ i, i < n -> ∃ b off, a = some ⟨b, off, none⟩ /\ b < w.heap.size /\ ∀ j, j < sz -> w.cell? ⟨b, off + i * sz + j, none⟩ = xs[i * sz + j]? := by
 obtain ⟨hl, a, cap, rfl, h1, h2, h3⟩ := h
 unfold maxLen at h2
 refine ⟨a, cap, rfl, h1, by omega, by omega, fun i hi => ?_⟩
 obtain ⟨b, off, rfl, hbk, hc⟩ := h3 (by omega)
 refine ⟨b, off, rfl, hbk, fun j hj => ?_⟩
 have hlt : i * sz + j < xs.length := by
  rw [hl]; have := bn3 sz (Nat.succ_le_of_lt hi); rw [bm5] at this; omega
 rw [bk1 hlt, Nat.add_assoc]
 exact hc _ _ (bk1 hlt)
theorem L0.open1 {w : World} {v : Value} {n : Nat} {xs : List Value} (h : L0 w v n 1 xs) : ∃ a cap, v = .slice a n cap /\ n <= cap /\ n <= 9223372036854775807 /\ cap <= 9223372036854775807 /\
  ∀ i, i < n -> ∃ b off, a = some ⟨b, off, none⟩ /\ b < w.heap.size /\ w.cell? ⟨b, off + i, none⟩ = xs[i]? := by
 obtain ⟨a, cap, h0, h1, h2, h3, h4⟩ := h.open
 refine ⟨a, cap, h0, h1, h2, h3, fun i hi => ?_⟩
 obtain ⟨b, off, e, hb, hc⟩ := h4 i hi
 exact ⟨b, off, e, hb, by simpa using hc 0 (by omega)⟩
theorem M0 {w : World} {base : Nat} {e : TypeId} {sz : Nat} {v : Value} {n : Nat} {xs : List Value} (h : w.ownsRow base e sz v n xs) : L0 w v n sz xs := by
 refine ⟨h.1, ?_⟩
 rcases h.2 with ⟨rfl, rfl⟩ | ⟨g, cap, cur, rfl, hbg, hg, hnc, hcm, hcs, ht⟩
 ·exact ⟨none, 0, rfl, bl5 _, by unfold maxLen; omega, fun h => absurd h (by omega)⟩
 refine ⟨some ⟨g, 0, none⟩, cap, rfl, hnc, hcm, fun _ => ⟨g, 0, rfl, (Array.getElem?_eq_some_iff.1 hg).1, fun j u hj => ?_⟩⟩
 have hadd : (⟨g, 0, none⟩ : Addr).add j = ⟨g, 0 + j, none⟩ := by unfold Addr.add; split <;> simp_all
 rw [<- hadd]
 exact h.cells (g := g) rfl j u hj
theorem R8 {w : World} {base base' : Nat} {e : TypeId} {sz : Nat} {v : Value} {n : Nat} {xs : List Value} (h : w.ownsRow base e sz v n xs) (hb : base' <= base) : w.ownsRow base' e sz v n xs := by
 refine ⟨h.1, ?_⟩
 rcases h.2 with hn | ⟨g, cap, cur, rfl, hbg, r⟩
 ·exact .inl hn
 exact .inr ⟨g, cap, cur, rfl, by omega, r⟩
def T0 (w : World) (lo hi : Nat) (e : TypeId) (sz : Nat) (v : Value) (n : Nat) (xs : List Value) : Prop :=
 w.ownsRow lo e sz v n xs /\ ∀ g, v.ownBlock = some g -> g < hi
structure Out (lo hi : Nat) (w w' : World) : Prop where
 os : w'.os = w.os
 tape : w'.tape = w.tape
 output : w'.output = w.output
 size : w.heap.size <= w'.heap.size
 block : ∀ k, k < w.heap.size -> (k < lo \/ hi <= k) -> w'.heap[k]? = w.heap[k]?
theorem Out.refl (lo hi : Nat) (w : World) : Out lo hi w w := ⟨rfl, rfl, rfl, bl5 _, fun _ _ _ => rfl⟩
theorem Out.trans {lo hi : Nat} {a b c : World} (h : Out lo hi a b) (k : Out lo hi b c) : Out lo hi a c :=
 ⟨k.os.trans h.os, k.tape.trans h.tape, k.output.trans h.output, bk9 h.size k.size, fun i hi ho => (k.block i (Nat.lt_of_lt_of_le hi h.size) ho).trans (h.block i hi ho)⟩
theorem Out.below {lo hi B : Nat} {a b : World} (h : Out lo hi a b) (h1 : B <= lo) (h2 : B <= a.heap.size) : Below B a b :=
 ⟨h.os, h.tape, h.output, h.size, fun k hk => h.block k (by omega) (by omega)⟩
theorem Out.of_below {lo hi B : Nat} {a b : World} (h : Below B a b) (h1 : a.heap.size <= B) : Out lo hi a b :=
 ⟨h.os, h.tape, h.output, h.size, fun k hk _ => h.block k (by omega)⟩
theorem Out.setCell {lo hi : Nat} {a w : World} (h : Out lo hi a w) {p : Addr} (h1 : lo <= p.block) (h2 : p.block < hi) (u : Value) : Out lo hi a (w.setCell p u) :=
 h.trans ⟨rfl, rfl, rfl, by simp [World.setCell], fun k _ ho => Below.heap_setCell _ _ _ _ (by omega)⟩
theorem T0.lt {w : World} {lo hi : Nat} {e : TypeId} {sz : Nat} {v : Value} {n : Nat} {xs : List Value} (h : T0 w lo hi e sz v n xs) : ∀ g, v.ownBlock = some g -> lo <= g /\ g < hi /\ g < w.heap.size :=
 fun g hg => ⟨(h.1.lt g hg).1, h.2 g hg, (h.1.lt g hg).2⟩
theorem T0.row {w : World} {lo hi : Nat} {e : TypeId} {sz : Nat} {v : Value} {n : Nat} {xs : List Value} (h : T0 w lo hi e sz v n xs) : L0 w v n sz xs := M0 h.1
theorem T0.mk' {w : World} {lo : Nat} {e : TypeId} {sz : Nat} {v : Value} {n : Nat} {xs : List Value} (h : w.ownsRow lo e sz v n xs) : T0 w lo w.heap.size e sz v n xs :=
 ⟨h, fun g hg => (h.lt g hg).2⟩
theorem T0.same {w w' : World} {lo hi : Nat} {e : TypeId} {sz : Nat} {v : Value} {n : Nat} {xs : List Value} (h : T0 w lo hi e sz v n xs)
  (hs : ∀ g, v.ownBlock = some g -> w'.heap[g]? = w.heap[g]?) : T0 w' lo hi e sz v n xs := by
 refine ⟨⟨h.1.1, ?_⟩, h.2⟩
 rcases h.1.2 with hn | ⟨g, cap, cur, rfl, hbg, hg, r⟩
 ·exact .inl hn
 exact .inr ⟨g, cap, cur, rfl, hbg, (hs g rfl).trans hg, r⟩
theorem T0.keep {w w' : World} {lo hi B : Nat} {e : TypeId} {sz : Nat} {v : Value} {n : Nat} {xs : List Value} (h : T0 w lo hi e sz v n xs) (hb : Below B w w') (hB : hi <= B) : T0 w' lo hi e sz v n xs :=
 h.same fun g hg => hb.block g (by have := h.lt g hg; omega)
theorem T0.out {w w' : World} {lo hi lo' hi' : Nat} {e : TypeId} {sz : Nat} {v : Value} {n : Nat} {xs : List Value} (h : T0 w lo hi e sz v n xs) (ho : Out lo' hi' w w') (hd : hi <= lo' \/ hi' <= lo) : T0 w' lo hi e sz v n xs :=
 h.same fun g hg => ho.block g (h.lt g hg).2.2 (by have := h.lt g hg; omega)
theorem T0.open {w : World} {lo hi : Nat} {e : TypeId} {sz : Nat} {v : Value} {n : Nat} {xs : List Value} (h : T0 w lo hi e sz v n xs) (hn : 0 < n) :
  ∃ g cap, v = .slice (some ⟨g, 0, none⟩) n cap /\ lo <= g /\ g < hi /\ g < w.heap.size /\ n <= cap /\ cap <= maxLen /\ (∀ o, w.frozen? ⟨g, o, none⟩ = false) /\ ∀ j u, xs[j]? = some u -> w.cell? ⟨g, j, none⟩ = some u := by
 have hl := h.lt
 rcases h.1.2 with ⟨_, h0⟩ | ⟨g, cap, cur, rfl, hbg, hg, hnc, hcm, hcs, ht⟩
 ·omega
 obtain ⟨l1, l2, l3⟩ := hl g rfl
 refine ⟨g, cap, rfl, l1, l2, l3, hnc, hcm, fun o => ?_, fun j u hj => ?_⟩
 ·simp only [World.frozen?, hg]; simp
 have hadd : (⟨g, 0, none⟩ : Addr).add j = ⟨g, j, none⟩ := by unfold Addr.add; split <;> simp_all
 rw [<- hadd]
 exact h.1.cells (g := g) rfl j u hj
theorem T0.at {w : World} {lo hi : Nat} {e : TypeId} {sz : Nat} {v : Value} {n : Nat} {xs : List Value} (h : T0 w lo hi e sz v n xs) {j : Nat} (hj : j < xs.length) :
  ∃ g cap, v = .slice (some ⟨g, 0, none⟩) n cap /\ lo <= g /\ g < hi /\ g < w.heap.size /\ w.frozen? ⟨g, j, none⟩ = false /\ ∃ u, w.cell? ⟨g, j, none⟩ = some u := by
 have hn : 0 < n := by
  rcases Nat.eq_zero_or_pos n with h0 | h0
  ·subst h0; have := h.1.1; omega
  exact h0
 obtain ⟨g, cap, hv, h1, h2, h3, _, _, h4, h5⟩ := h.open hn
 exact ⟨g, cap, hv, h1, h2, h3, h4 j, _, h5 j _ (bk1 hj)⟩
theorem T0.setCell {w : World} {lo hi : Nat} {e : TypeId} {sz : Nat} {n cap g : Nat} {xs : List Value} (h : T0 w lo hi e sz (.slice (some ⟨g, 0, none⟩) n cap) n xs) {j : Nat} (_hj : j < xs.length) (u : Value) :
  T0 (w.setCell ⟨g, j, none⟩ u) lo hi e sz (.slice (some ⟨g, 0, none⟩) n cap) n (xs.set j u) := by
 refine ⟨⟨by rw [List.length_set]; exact h.1.1, ?_⟩, h.2⟩
 rcases h.1.2 with ⟨hv, _⟩ | ⟨g', cap', cur, hv, hbg, hg, hnc, hcm, hcs, ht⟩
 ·cases hv
 cases hv
 refine .inr ⟨g, cap, cur.setIfInBounds j u, rfl, hbg, ?_, hnc, hcm, by simpa using hcs, ?_⟩
 ·have hlt := (Array.getElem?_eq_some_iff.1 hg).1
  simp only [World.setCell, Array.getElem?_modify]
  simp [hg]
 rw [Array.toList_setIfInBounds, List.take_set, ht]
theorem j4 {a b : Bool} (h : a = b) : Ending.returned (.bool a) = .returned (.bool b) := by rw [h]
theorem R7 {k : IntKind} {a b : Int} (h : a = b) : Ending.returned (.int k a) = .returned (.int k b) := by rw [h]
theorem p7 {α : Type} (l : List α) (k : Nat) (h : k < l.length) : l.take (k + 1) = l.take k ++ [l[k]] := by
 rw [List.take_succ_eq_append_getElem h]
theorem U0 {α : Type} (ys : List α) (k : Nat) (u : α) (h : k < ys.length) : (ys.set k u).take (k + 1) = ys.take k ++ [u] := by
 rw [p7 _ _ (by simpa using h), List.take_set_of_le (bl5 _)]; simp
def w5 (z : List Value) (n : Nat) : List Value := (bl4 n z).flatten
theorem D4 (z : List Value) (n : Nat) : (w5 z n).length = n * z.length := by simp [w5]
theorem ab8 (z : Value) (n : Nat) : w5 [z] n = bl4 n z := by
 unfold w5
 induction n with
 | zero => rfl
 | succ n ih => rw [List.replicate_succ, List.flatten_cons, ih]; rfl
theorem ah9 (z : Array Value) (n : Nat) (_hz : 0 < z.size) : madeCells z (n * z.size) = (w5 z.toList n).toArray := by
 apply Array.ext
 ·simp [size_madeCells, D4]
 intro i h1 h2
 simp only [madeCells, Array.getElem_map, Array.getElem_range, List.getElem_toArray]
 have hlt : i < (w5 z.toList n).length := by simpa using h2
 have key : ∀ (m i : Nat), i < (w5 z.toList m).length -> (w5 z.toList m)[i]? = some (z[i % z.size]!) := by
  intro m
  induction m with
  | zero => intro i hi; simp [w5] at hi
  | succ m ih =>
   intro i hi
   have e : w5 z.toList (m + 1) = z.toList ++ w5 z.toList m := by simp [w5, List.replicate_succ]
   rw [e]
   by_cases hlt : i < z.size
   ·rw [bn6 (by simpa using hlt), Nat.mod_eq_of_lt hlt]
    simp [hlt]
   rw [List.getElem?_append_right (by simp; omega)]
   have := ih (i - z.toList.length) (by rw [e, bl6] at hi; rw [Array.length_toList] at hi ⊢; omega)
   rw [this]
   congr 2
   rw [Array.length_toList]
   exact (Nat.mod_eq_sub_mod (by omega)).symm
 have := key n i hlt
 rw [bk1 hlt] at this
 exact (Option.some.inj this).symm
theorem aQ9 {P : Program} {t e : TypeId} {z : Value} {size bytes : Nat} (ht : P.underlying t = some (.slice e)) (hi : (P.info? e).map (fun i => (i.zero, i.size, i.bytes)) = some (some z, size, bytes))
  (hz : z.cells.size = size) (hs : 0 < size) (n : Nat) (hn : bytes * n <= 281474976710656) (hm : n <= 9223372036854775807) :
  ∀ w, (Instr.makeSlice t (.int .i64 n) (.int .i64 n)).run P w = .ok (.slice (some ⟨w.heap.size, 0, none⟩) n n) (w.alloc (.cells (w5 z.cells.toList n).toArray e)) := by
 intro w
 obtain ⟨i, h1, h2, h3, h4⟩ := info_parts hi
 have := run_make (P := P) w t e i z ht h1 h2 .i64 .i64 n n (by omega) (Int.le_refl _) (by rw [h4, <- Int.natCast_mul]; omega) (by omega)
 rw [this]
 simp only [Int.toNat_natCast, h3]
 subst hz
 rw [ah9 _ _ hs]
theorem aa3 (w : World) {g : Nat} (cs : Array Value) (n sz : Nat) (e : TypeId) (hg : g = w.heap.size) (hz : cs.size = n * sz) (hm : n <= 9223372036854775807) :
  T0 (w.alloc (.cells cs e)) w.heap.size (w.heap.size + 1) e sz (.slice (some ⟨g, 0, none⟩) n n) n cs.toList := by
 subst hg
 refine ⟨⟨by simpa using hz, .inr ⟨w.heap.size, n, _, rfl, bl5 _, heap_alloc_new w _, bl5 _, by unfold maxLen; omega, hz, ?_⟩⟩, fun g hg => by cases hg; exact Nat.lt_succ_self _⟩
 rw [<- hz]
 exact bm0 (by simp)
theorem aQ0 (w : World) (z : List Value) (n sz : Nat) (e : TypeId) (hz : z.length = sz) (hm : n <= 9223372036854775807) :
  T0 (w.alloc (.cells (w5 z n).toArray e)) w.heap.size (w.heap.size + 1) e sz (.slice (some ⟨w.heap.size, 0, none⟩) n n) n (w5 z n) := by
 refine ⟨⟨by rw [D4, hz], .inr ⟨w.heap.size, n, _, rfl, bl5 _, heap_alloc_new w _, bl5 _, by unfold maxLen; omega, by simp [D4, hz], ?_⟩⟩, fun g hg => by cases hg; exact Nat.lt_succ_self _⟩
 have : (w5 z n).length = n * sz := by rw [D4, hz]
 rw [<- this]
 simp
def setFrom (ys : List Value) (p : Nat) : List Value -> List Value
 | [] => ys
 | u :: r => setFrom (ys.set p u) (p + 1) r
def World.setFrom (w : World) (g p : Nat) : List Value -> World
 | [] => w
 | u :: r => World.setFrom (w.setCell ⟨g, p, none⟩ u) g (p + 1) r
theorem y7 (us : List Value) : ∀ (ys : List Value) (p : Nat), (setFrom ys p us).length = ys.length := by
 induction us with
 | nil => intro ys p; rfl
 | cons u r ih => intro ys p; simp [setFrom, ih]
theorem X3 (us : List Value) : ∀ (ys : List Value) (p : Nat), p + us.length <= ys.length -> (setFrom ys p us).take (p + us.length) = ys.take p ++ us := by
 induction us with
 | nil => intro ys p h; simp [setFrom]
 | cons u r ih =>
  intro ys p h
  simp only [bk4] at h
  have := ih (ys.set p u) (p + 1) (by simp; omega)
  simp only [setFrom, bk4]
  rw [show p + (r.length + 1) = p + 1 + r.length by omega, this, U0 _ _ _ (by omega)]
  simp
theorem T0.setFrom {lo hi : Nat} {e : TypeId} {sz n cap g : Nat} (us : List Value) : ∀ {w : World} {xs : List Value} {p : Nat}, T0 w lo hi e sz (.slice (some ⟨g, 0, none⟩) n cap) n xs -> p + us.length <= xs.length ->
  T0 (World.setFrom w g p us) lo hi e sz (.slice (some ⟨g, 0, none⟩) n cap) n (setFrom xs p us) := by
 induction us with
 | nil => intro w xs p h _; exact h
 | cons u r ih =>
  intro w xs p h hl
  simp only [bk4] at hl
  exact ih (h.setCell (by omega) u) (by simp; omega)
theorem Out.setFrom {lo hi g : Nat} {a : World} (us : List Value) : ∀ {w : World} {p : Nat}, Out lo hi a w -> lo <= g -> g < hi -> Out lo hi a (World.setFrom w g p us) := by
 induction us with
 | nil => intro w p h _ _; exact h
 | cons u r ih => intro w p h h1 h2; exact ih (h.setCell h1 h2 u) h1 h2
def a85 (u v : Value) : Prop := ∀ g, u.ownBlock = some g -> v.ownBlock ≠ some g
theorem a85.symm {u v : Value} (h : a85 u v) : a85 v u := fun g h1 h2 => h g h2 h1
def K8 (w : World) (b : Nat) (cs : List Value) : Prop := ∃ T, w.heap[b]? = some (.cells cs.toArray T (0, 0))
theorem K8.lt {w : World} {b : Nat} {cs : List Value} (h : K8 w b cs) : b < w.heap.size := by
 obtain ⟨T, h⟩ := h; exact (Array.getElem?_eq_some_iff.1 h).1
theorem K8.cell {w : World} {b : Nat} {cs : List Value} (h : K8 w b cs) (j : Nat) : w.cell? ⟨b, j, none⟩ = cs[j]? := by
 obtain ⟨T, h⟩ := h; simp [World.cell?, h]
theorem K8.free {w : World} {b : Nat} {cs : List Value} (h : K8 w b cs) (j : Nat) : w.frozen? ⟨b, j, none⟩ = false := by
 obtain ⟨T, h⟩ := h; simp only [World.frozen?, h]; simp
theorem K8.below {w w' : World} {b B : Nat} {cs : List Value} (h : K8 w b cs) (hb : Below B w w') (hB : b < B) : K8 w' b cs := by
 obtain ⟨T, h⟩ := h; exact ⟨T, (hb.block b hB).trans h⟩
theorem K8.out {w w' : World} {b lo hi : Nat} {cs : List Value} (h : K8 w b cs) (hb : Out lo hi w w') (hB : b < lo \/ hi <= b) : K8 w' b cs := by
 have hlt := h.lt
 obtain ⟨T, h⟩ := h; exact ⟨T, (hb.block b hlt hB).trans h⟩
theorem K8.set {w : World} {b j : Nat} {cs : List Value} (h : K8 w b cs) (u : Value) : K8 (w.setCell ⟨b, j, none⟩ u) b (cs.set j u) := by
 obtain ⟨T, h⟩ := h
 refine ⟨T, ?_⟩
 simp only [World.setCell, Array.getElem?_modify]
 simp [h]
theorem K8.new (w : World) (cs : List Value) (T : TypeId) : K8 (w.alloc (.cells cs.toArray T)) w.heap.size cs := ⟨T, heap_alloc_new w _⟩
theorem K8.alloc {w : World} {b : Nat} {cs : List Value} (h : K8 w b cs) (o : Obj) : K8 (w.alloc o) b cs := by
 have hlt := h.lt
 obtain ⟨T, h⟩ := h; exact ⟨T, (Below.heap_alloc w o b hlt).trans h⟩
theorem K8.drew {w : World} {b : Nat} {cs : List Value} (h : K8 w b cs) : K8 w.drew b cs := h
theorem Out.cell (w : World) (b j : Nat) (u : Value) : Out b (b + 1) w (w.setCell ⟨b, j, none⟩ u) :=
 Out.setCell (p := ⟨b, j, none⟩) (Out.refl b (b + 1) w) (bl5 b) (Nat.lt_succ_self b) u
def _root_.Go.World.ext (w X : World) : World := { w with heap := w.heap ++ X.heap, drawn := X.drawn }
theorem e6 (w : World) (X : World) : Below w.heap.size w (w.ext X) :=
 ⟨rfl, rfl, rfl, by simp [World.ext], fun k hk => by simp only [World.ext]; rw [Array.getElem?_append_left hk]⟩
theorem an3 {w w' : World} (h : Below w.heap.size w w') : ∃ X, w' = w.ext X := by
 refine ⟨{ w' with heap := w'.heap.extract w.heap.size w'.heap.size }, ?_⟩
 obtain ⟨h1, h2, h3, h4, h5⟩ := h
 have hh : w'.heap = w.heap ++ w'.heap.extract w.heap.size w'.heap.size := by
  apply Array.ext_getElem?
  intro i
  rcases bn0 i w.heap.size with hi | hi
  ·rw [Array.getElem?_append_left hi, h5 i hi]
  rw [Array.getElem?_append_right hi, Array.getElem?_extract]
  split
  ·rw [show w.heap.size + (i - w.heap.size) = i by omega]
  rename_i hn
  rw [Array.getElem?_eq_none]
  simp at hn
  omega
 cases w; cases w'
 simp only [World.ext] at *
 subst h1 h2 h3
 rw [<- hh]
theorem b7 {w : World} {b o : Nat} {v : Value} (h : w.cell? ⟨b, o, none⟩ = some v) (X : World) : (w.ext X).cell? ⟨b, o, none⟩ = some v := by
 have hb : b < w.heap.size := World.block_lt_of_cell? w ⟨b, o, none⟩ h
 rw [(C6 (e6 w X)).1 b o hb]; exact h
theorem Calls.ext_of' {P : Program} {f : FuncId} {args : Array Value} {w : World} {X : World} {v : Value}
  (h : Calls P f args (w.ext X) fun e w' => e = .returned v /\ Below (w.ext X).heap.size (w.ext X) w') : Calls P f args (w.ext X) fun e w'' => e = .returned v /\ ∃ Y, w'' = w.ext Y :=
 h.mono fun _ _ ⟨he, hb⟩ => ⟨he, an3 ((e6 w X).trans (hb.mono (e6 w X).size))⟩
theorem l6 {P : Program} {id : Nat} {Q : Exit -> Act -> World -> Prop} {a : Act} {w : World} {l : List Oper} (hm : P.follows .mixedOrders = true) (hB : Region.lexB .any l.toArray = true)
  (h : wpQuiet P l.toArray (fun w' => ∃ X, w' = w.ext X) (fun a' => ∀ w', (∃ X, w' = w.ext X) -> Q .normal a' w') l a) : (Code.region id l.toArray true).wp P Q a w :=
 wp_region_quiet (C := fun w' => ∃ X, w' = w.ext X) hm hB (an3 (w' := w.drew) (Below.refl _ _).drew) (by simpa using h)
theorem am9 {P : Program} {f : FuncId} {fn : Func} {c : Code} (hf : P.funcs[f]? = some fn) (hn : (fn.name == "runtime.NumGoroutine") = false) (hb : fn.body = some c) :
  ∀ args w, (callFunc f args).run P w = .ok (.enter f args) w := by
 intro args w
 have h1 : fn.name ≠ "runtime.NumGoroutine" := by simpa using hn
 simp [callFunc, hf, h1, hb, mark]
end Go.Proofs.YtcahndjigkledaaDoor

namespace Go.Proofs.YtcahndjigkledaaDoor
theorem B5 {α : Type} (l : List α) (k : Nat) (h : k < l.length) : l.take (k + 1) = l.take k ++ [l[k]] := by
 rw [List.take_succ_eq_append_getElem h]
theorem K7 {α : Type} (p : α -> Bool) (l : List α) (k : Nat) (h : k < l.length) : (l.take (k + 1)).all p = ((l.take k).all p && p l[k]) := by
 rw [B5 l k h, List.all_append]; simp
theorem ae5 {α : Type} {p : α -> Bool} {l : List α} {k : Nat} (h : k < l.length) (hp : p l[k] = false) : l.all p = false := by
 rw [List.all_eq_false]; exact ⟨l[k], bk8 h, by simp [hp]⟩
structure P1 where
 op : Int
 a : Int
 b : Int
 c : Int
 d : Int
def P1.l (x : P1) : List Int := [x.op, x.a, x.b, x.c, x.d]
def U7 : List P1 -> List Int
 | [] => []
 | x :: r => x.op :: x.a :: x.b :: x.c :: x.d :: U7 r
theorem aS5 (l : List P1) : (U7 l).length = l.length * 5 := by
 induction l with
 | nil => rfl
 | cons x r ih => simp [U7, ih]; omega
theorem P1.ext' {x y : P1} (h : x.l = y.l) : x = y := by
 cases x; cases y; simp [P1.l] at h; simp [h]
theorem aS6 (l : List P1) (i : Nat) (hi : i < l.length) : (U7 l)[i * 5]? = some l[i].op /\ (U7 l)[i * 5 + 1]? = some l[i].a /\ (U7 l)[i * 5 + 2]? = some l[i].b /\ (U7 l)[i * 5 + 3]? = some l[i].c /\ (U7 l)[i * 5 + 4]? = some l[i].d := by
 induction l generalizing i with
 | nil => simp at hi
 | cons x r ih =>
  cases i with
  | zero => simp [U7]
  | succ i =>
   rw [bm5]
   have := ih i (by simpa using hi)
   simpa [U7, Nat.add_assoc] using this
structure D3 where
 vars : List Int
 arrays : List Int
 list : List P1
def D3.size (c : D3) : Nat := c.vars.length + c.arrays.length + c.list.length
def D3.same (c d : D3) : Bool := decide (c.vars = d.vars) && decide (c.arrays = d.arrays) && decide (U7 c.list = U7 d.list)
def n8 (l : Int) : Bool := decide (0 <= l) && decide (l <= 3)
def x4 (vars arrays : List Int) : Bool := vars.all n8 && arrays.all n8 && decide (1 <= vars.length) && decide (vars.length <= 12) && decide (arrays.length <= 2)
def aY1 (c : D3) (kd : UInt8) (n : Int) : Bool :=
 if kd = 114 then decide (0 <= n) && decide (n < 14)
 else if kd = 99 then decide (0 <= n) && decide (n <= 255)
 else if kd = 118 then decide (0 <= n) && decide (n < c.vars.length)
 else if kd = 97 then decide (0 <= n) && decide (n < c.arrays.length)
 else if kd = 111 then decide (4 <= n) && decide (n <= 10)
 else decide (0 <= n) && decide (n < c.list.length)
def aq7 (op : Int) : List UInt8 :=
 if op = 1 then [114, 99] else if op = 2 then [114, 118] else if op = 3 then [118, 114] else if op = 4 then [114, 97, 114] else if op = 5 then [97, 114, 114]
 else if op = 6 then [114, 111, 114, 114] else if op = 7 then [114, 114, 114, 114] else if op = 8 then [116] else if op = 9 then [114, 116] else if op = 10 then [114, 116]
 else if op = 11 then [114] else []
def ap6 (c : D3) (kinds : List UInt8) (k : Nat) (n : Int) : Bool :=
 match kinds[k]? with
 | some kd => aY1 c kd n
 | none => decide (n = 0)
def a28 (c : D3) (x : P1) : Bool :=
 decide (1 <= x.op) && decide (x.op <= 13) && (ap6 c (aq7 x.op) 0 x.a && ap6 c (aq7 x.op) 1 x.b && ap6 c (aq7 x.op) 2 x.c && ap6 c (aq7 x.op) 3 x.d)
def aR5 (c : D3) : Bool := match c.list.getLast? with | some x => decide (x.op = 13) || decide (x.op = 8) | none => false
def ar4 (c : D3) : Bool := x4 c.vars c.arrays && decide (1 <= c.list.length) && decide (c.list.length <= 400) && c.list.all (a28 c) && aR5 c
def bb6 (x : P1) (i : Int) : List Int := if x.op = 13 then [] else if x.op = 8 then [x.a] else if x.op = 9 \/ x.op = 10 then [i + 1, x.b] else [i + 1]
def nx (c : D3) (t : Int) : List Int := match c.list[t.toNat]? with | some x => bb6 x t | none => []
theorem Z1 {c : D3} (h : ar4 c = true) : x4 c.vars c.arrays = true /\ 1 <= c.list.length /\ c.list.length <= 400 /\ (∀ (i : Nat) (hi : i < c.list.length), a28 c c.list[i] = true) /\ aR5 c = true := by
 unfold ar4 at h
 simp only [bk0, decide_eq_true_eq, bk6] at h
 obtain ⟨⟨⟨⟨h1, h2⟩, h3⟩, h4⟩, h5⟩ := h
 exact ⟨h1, h2, h3, fun i hi => h4 _ (bk8 hi), h5⟩
inductive Rc (c : D3) : Int -> Prop
 | zero : Rc c 0
 | step {i t : Int} : Rc c i -> t ∈ nx c i -> Rc c t
noncomputable def bg0 (c : D3) : List Bool := (bm3 c.list.length).map fun (j : Nat) => @decide (Rc c (j : Int)) (Classical.propDecidable _)
theorem an1 {bs : List Bool} {k : Nat} (h : bs[k]? = some false) : (bs.set k true).count false + 1 = bs.count false := by
 induction bs generalizing k with
 | nil => simp at h
 | cons b r ih =>
  cases k with
  | zero => simp at h; subst h; simp
  | succ k =>
   simp at h
   have := ih h
   simp only [List.set_cons_succ, List.count_cons]
   omega
theorem ao5 {bs : List Bool} {k j : Nat} (h : (bs.set k true)[j]? = some true) : j = k \/ bs[j]? = some true := by
 rw [List.getElem?_set] at h
 split at h
 ·rename_i e; exact .inl e.symm
 exact .inr h
theorem at6 {bs : List Bool} {k : Nat} (h : k < bs.length) : (bs.set k true)[k]? = some true := by simp [h]
structure bf0 (c : D3) (qs : List Int) (bs : List Bool) : Prop where
 len : bs.length = c.list.length
 cnt : qs.length + bs.count false = c.list.length
 q : ∀ t ∈ qs, 0 <= t /\ t < c.list.length /\ Rc c t
 sound : ∀ j : Nat, bs[j]? = some true -> Rc c j
 inq : ∀ j : Nat, bs[j]? = some true -> (j : Int) ∈ qs
 zero : bs[0]? = some true
theorem bf0.start {c : D3} (hc : ar4 c = true) : bf0 c [0] ((bl4 c.list.length false).set 0 true) := by
 have hn := (Z1 hc).2.1
 have hone : ∀ j : Nat, ((bl4 c.list.length false).set 0 true)[j]? = some true -> j = 0 := by
  intro j h
  rcases ao5 h with h | h
  ·exact h
  rw [List.getElem?_replicate] at h; split at h <;> simp at h
 refine ⟨by simp, ?_, ?_, ?_, ?_, ?_⟩
 ·have := an1 (bs := bl4 c.list.length false) (k := 0) (by rw [List.getElem?_replicate, if_pos (by omega)])
  simp at this ⊢
  omega
 ·intro t ht
  simp at ht; subst ht
  exact ⟨by omega, by omega, .zero⟩
 ·intro j h; rw [hone j h]; exact .zero
 ·intro j h; rw [hone j h]; simp
 exact at6 (by simp; omega)
structure aV6 (c : D3) (ls : List Int) (bs : List Bool) : Prop where
 len : bs.length = c.list.length
 cnt : ls.length + 2 * bs.count false <= 2 * c.list.length + 1
 l : ∀ t ∈ ls, 0 <= t /\ t < c.list.length /\ Rc c t
 sound : ∀ j : Nat, bs[j]? = some true -> Rc c j
 zero : bs[0]? = some true \/ (0 : Int) ∈ ls
 clos : ∀ j : Nat, bs[j]? = some true -> ∀ t ∈ nx c j, bs[t.toNat]? = some true \/ t ∈ ls
theorem aV6.start {c : D3} (hc : ar4 c = true) : aV6 c [0] (bl4 c.list.length false) := by
 have hn := (Z1 hc).2.1
 refine ⟨by simp, by simp; omega, ?_, ?_, .inr (by simp), ?_⟩
 ·intro t ht
  simp at ht; subst ht
  exact ⟨by omega, by omega, .zero⟩
 ·intro j h; rw [List.getElem?_replicate] at h; split at h <;> simp at h
 intro j h; rw [List.getElem?_replicate] at h; split at h <;> simp at h
theorem aV6.skip {c : D3} {ls : List Int} {i : Int} {bs : List Bool} (h : aV6 c (ls ++ [i]) bs) (hb : bs[i.toNat]? = some true) : aV6 c ls bs := by
 refine ⟨h.len, by have := h.cnt; simp at this; omega, fun t ht => h.l t (List.mem_append_left _ ht), h.sound, ?_, ?_⟩
 ·rcases h.zero with h0 | h0
  ·exact .inl h0
  rcases bm1.1 h0 with h0 | h0
  ·exact .inr h0
  simp at h0; subst h0; exact .inl hb
 intro j hj t ht
 rcases h.clos j hj t ht with h1 | h1
 ·exact .inl h1
 rcases bm1.1 h1 with h1 | h1
 ·exact .inr h1
 simp at h1; subst h1; exact .inl hb
end Go.Proofs.YtcahndjigkledaaDoor

namespace Go.Proofs.YtcahndjigkledaaDoor
open Go Go.RowKit
section
variable {P : Program} {md : Region.Mode} {C : World -> Prop}
theorem Z0 {listed : Array Bool} {i : Nat} (h : listed.getD i true = false) : (listed.setIfInBounds i true).toList.count false + 1 = listed.toList.count false := by
 rw [Array.toList_setIfInBounds]
 refine an1 ?_
 rcases bn0 i listed.size with h' | h'
 ·simp [h'] at h ⊢; exact h
 simp [Array.getElem?_eq_none h'] at h
end
abbrev ints (l : List Int) : List Value := l.map (Value.int .i64)
theorem ai4 (l : List Int) (k : Nat) (h : k < l.length) : (ints l)[k]? = some (.int .i64 l[k]) := by simp [ints, h]
def aB6 (K n : Nat) : List Int := (bm3 n).map fun (j : Nat) => ((K : Int) + (j : Int))
abbrev a84 (w : World) (v : Value) (l : List P1) : Prop := L0 w v l.length 5 (ints (U7 l))
abbrev P1.v (x : P1) : Value := .agg #[.int .i64 x.op, .int .i64 x.a, .int .i64 x.b, .int .i64 x.c, .int .i64 x.d]
def as0 (w : World) (v : Value) (c : D3) : Prop :=
 ∃ v1 v2 v3, v = .agg #[v1, v2, v3] /\ L0 w v1 c.vars.length 1 (ints c.vars) /\ L0 w v2 c.arrays.length 1 (ints c.arrays) /\ a84 w v3 c.list
theorem as0.below {w w' : World} {v : Value} {c : D3} (h : as0 w v c) (hb : Below w.heap.size w w') : as0 w' v c := by
 obtain ⟨v1, v2, v3, rfl, h1, h2, h3⟩ := h
 exact ⟨v1, v2, v3, rfl, h1.below hb, h2.below hb, h3.below hb⟩
def ab7 (w : World) (v : Value) (K nv na nl : Nat) : Prop :=
 ∃ v1 v2 v3, v = .agg #[v1, v2, v3] /\ L0 w v1 nv 1 (ints (aB6 K nv)) /\ L0 w v2 na 1 (ints (aB6 (K + nv) na)) /\ L0 w v3 nl 5 (ints (aB6 (K + nv + na) (nl * 5)))
theorem ab7.below {w w' : World} {v : Value} {K nv na nl : Nat} (h : ab7 w v K nv na nl) (hb : Below w.heap.size w w') : ab7 w' v K nv na nl := by
 obtain ⟨v1, v2, v3, rfl, h1, h2, h3⟩ := h
 exact ⟨v1, v2, v3, rfl, h1.below hb, h2.below hb, h3.below hb⟩
theorem au1 {P : Program} {w : World} {lo : Nat} {t ty e : TypeId} {i : TypeInfo} {size : Nat} (ht : P.underlying t = some (.slice e)) (hi : P.info? e = some i)
  {v : Value} {n : Nat} {xs : List Value} (hown : w.ownsRow lo e size v n xs) (c : Nat) : (Builtin.append_ #[t, t] ty #[v, .slice none 0 c]).run P w = .ok v w := by
 obtain ⟨_, h⟩ := hown
 rcases h with ⟨rfl, rfl⟩ | ⟨g, cap, cur, rfl, _, _, hnc, _⟩
 ·simp [Builtin.append_, run_underlying ht, sizeOf, typeInfo, hi, Builtin.lenOf, Builtin.firstCells]
 simp [Builtin.append_, run_underlying ht, sizeOf, typeInfo, hi, Builtin.lenOf, Builtin.firstCells, hnc, storeCells]
theorem am5 {w : World} {lo : Nat} {e : TypeId} {sz : Nat} {v : Value} {n : Nat} {xs : List Value} (h : w.ownsRow lo e sz v n xs) : ∃ a k, v = .slice a n k := by
 rcases h.2 with ⟨rfl, rfl⟩ | ⟨g, cap, cur, rfl, _⟩
 ·exact ⟨_, _, rfl⟩
 exact ⟨_, _, rfl⟩
theorem ae4 {P : Program} {w : World} {lo : Nat} {t ty e : TypeId} {z : Value} {size bytes : Nat} (ht : P.underlying t = some (.slice e)) (hi : (P.info? e).map (fun i => (i.zero, i.size, i.bytes)) = some (some z, size, bytes))
  (hzs : z.cells.size = size) (hsz : 0 < size) {v : Value} {n : Nat} {xs : List Value} (hown : w.ownsRow lo e size v n xs) {u : Value} {m : Nat} {news : List Value} (hr : L0 w u m size news) (h1 : ∀ u ∈ news, u.oneCell' = true)
  (h63 : n + m <= 9223372036854775807) (hbytes : (n + m) * bytes <= 140737488355328) (hbase : lo <= w.heap.size) :
  ∃ a' k' w', (Builtin.append_ #[t, t] ty #[v, u]).run P w = .ok (.slice a' (n + m) k') w' /\ w'.ownsRow lo e size (.slice a' (n + m) k') (n + m) (xs ++ news) /\ Below lo w w' /\ w.grownBy w' v.ownBlock /\ (∀ g, (Value.slice a' (n + m) k').ownBlock = some g -> v.ownBlock = some g \/ w.heap.size <= g) := by
 obtain ⟨i, g1, g2, g3, g4⟩ := info_parts hi
 obtain ⟨hl, A, c, rfl, hmc, hc, hA⟩ := hr
 have below_of : ∀ {w' : World}, w.grownBy w' v.ownBlock -> Below lo w w' := fun {w'} hg => by
  refine ⟨hg.os, hg.tape, hg.output, hg.size, fun k hk => hg.block k (by omega) fun he => ?_⟩
  have := hown.lt k he.symm
  omega
 rcases A with _ | a
 ·have hm : m = 0 := by
   rcases Nat.eq_zero_or_pos m with h0 | h0
   ·exact h0
   obtain ⟨_, _, he, _⟩ := hA h0; cases he
  subst hm
  have hn : news = [] := bm2 (by simpa using hl)
  subst hn
  obtain ⟨a', k', rfl⟩ := am5 hown
  exact ⟨a', k', w, au1 ht g1 hown c, by simpa using hown, Below.refl _ _, ⟨rfl, rfl, rfl, bl5 _, fun _ _ _ => rfl⟩, fun g hg => .inl hg⟩
 have hcells : ∀ j u, news[j]? = some u -> w.cell? (a.add j) = some u := by
  intro j u hu
  have h0 : 0 < m := by
   rcases Nat.eq_zero_or_pos m with h0 | h0
   ·subst h0
    have hn : news = [] := bm2 (by simpa using hl)
    subst hn; simp at hu
   exact h0
  obtain ⟨b, off, he, hb, hx⟩ := hA h0
  cases he
  have hadd : (⟨b, off, none⟩ : Addr).add j = ⟨b, off + j, none⟩ := by unfold Addr.add; split <;> simp_all
  rw [hadd]
  exact hx j u hu
 obtain ⟨v', w', hrun, h2, h3, _, h5⟩ := run_append_own_at (P := P) w lo t ty e i z size bytes ht g1 g2 g3 g4 hzs hsz v n xs hown a m c news hl hcells h1 (by unfold maxLen; omega) hbytes hbase
 obtain ⟨a', k', rfl⟩ := am5 h2
 exact ⟨a', k', w', hrun, h2, below_of h3, h3, fun g hg => h5.elim (fun h => .inl (h ▸ hg)) fun h => .inr (by rw [h] at hg; cases hg; exact bl5 _)⟩
theorem T0.grown {w w' : World} {lo hi : Nat} {e : TypeId} {sz : Nat} {v : Value} {n : Nat} {xs : List Value} {row : Option Nat} (h : T0 w lo hi e sz v n xs) (hg : w.grownBy w' row) (hne : ∀ g, v.ownBlock = some g -> row ≠ some g) : T0 w' lo hi e sz v n xs :=
 h.same fun g hv => hg.block g (h.lt g hv).2.2 fun he => hne g hv he.symm
section
variable {P : Program}
theorem aI6 {x : Oper} {a : Act} {w : World} {K : Act -> World -> Prop} {Q Q0 : Exit -> Act -> World -> Prop} (h0 : ∀ e a w, Q0 e a w -> e = .normal) (h : x.wp P a w K Q0) : x.wp P a w K Q := by
 unfold Oper.wp at *
 generalize (execOp a.eval x).run P w = r at *
 cases r with
 | ok n w' =>
  cases n <;> simp only [Oper.upon] at h ⊢ <;>
   first
    | exact h
    | exact Calls.mono h (fun e w'' he => by
      cases e
      ·exact he
      ·exact absurd (h0 _ _ _ he) (by simp)
      obtain ⟨a, w, hq⟩ := he; exact absurd (h0 _ _ _ hq) (by simp))
 | halt y w' =>
  cases y <;> simp only [Oper.upon] at h ⊢ <;> first | exact h | exact absurd (h0 _ _ _ h) (by simp)
end
section
variable {P : Program}
structure bj8 (mk : (Nat -> Value) -> Act) (C : World -> Prop) (R : Nat -> Value -> World -> Prop) (n : Nat) (listed : Array Bool) (f : Nat -> Value) (a : Act) (w : World) : Prop where
 act : a = mk f
 cls : C w
 val : ∀ i, i < n -> listed.getD i false = true -> R i (f i) w
end
def G2 (φ φ' : Nat -> Prop) (w w' : World) : Prop := w.heap.size <= w'.heap.size /\ ∀ b, b < w.heap.size -> φ b -> φ' b /\ w'.heap[b]? = w.heap[b]?
def O1 (R : World -> (Nat -> Prop) -> Prop) : Prop := ∀ w w' φ φ', G2 φ φ' w w' -> R w φ -> R w' φ'
theorem G2.below {φ : Nat -> Prop} {w w' : World} (h : Below w.heap.size w w') : G2 φ φ w w' := ⟨h.size, fun b hb hf => ⟨hf, h.block b hb⟩⟩
theorem G2.mono {φ φ' : Nat -> Prop} {w : World} (h : ∀ b, b < w.heap.size -> φ b -> φ' b) : G2 φ φ' w w := ⟨bl5 _, fun b hb hf => ⟨h b hb hf, rfl⟩⟩
theorem G2.cell {φ φ' : Nat -> Prop} {w w' : World} (h : G2 φ φ' w w') {b o : Nat} (hb : b < w.heap.size) (hf : φ b) : w'.cell? ⟨b, o, none⟩ = w.cell? ⟨b, o, none⟩ := by
 simp only [World.cell?, (h.2 b hb hf).2]
def o7 (w : World) (φ : Nat -> Prop) (v : Value) (n sz : Nat) (xs : List Value) : Prop :=
 xs.length = n * sz /\ ∃ a cap, v = .slice a n cap /\ n <= cap /\ cap <= maxLen /\
  (0 < n -> ∃ b off, a = some ⟨b, off, none⟩ /\ b < w.heap.size /\ φ b /\ ∀ j u, xs[j]? = some u -> w.cell? ⟨b, off + j, none⟩ = some u)
theorem o7.nice (v : Value) (n sz : Nat) (xs : List Value) : O1 fun w φ => o7 w φ v n sz xs := by
 rintro w w' φ φ' ha ⟨hl, a, cap, rfl, h1, h2, h3⟩
 refine ⟨hl, a, cap, rfl, h1, h2, fun hn => ?_⟩
 obtain ⟨b, off, rfl, hb, hf, hc⟩ := h3 hn
 exact ⟨b, off, rfl, Nat.lt_of_lt_of_le hb ha.1, (ha.2 b hb hf).1, fun j u hj => (ha.cell hb hf).trans (hc j u hj)⟩
theorem o7.row {w : World} {φ : Nat -> Prop} {v : Value} {n sz : Nat} {xs : List Value} (h : o7 w φ v n sz xs) : L0 w v n sz xs := by
 obtain ⟨hl, a, cap, rfl, h1, h2, h3⟩ := h
 refine ⟨hl, a, cap, rfl, h1, h2, fun hn => ?_⟩
 obtain ⟨b, off, rfl, hb, _, hc⟩ := h3 hn
 exact ⟨b, off, rfl, hb, hc⟩
theorem L0.rowF {w : World} {v : Value} {n sz : Nat} {xs : List Value} (h : L0 w v n sz xs) {φ : Nat -> Prop} (hf : ∀ b, b < w.heap.size -> φ b) : o7 w φ v n sz xs := by
 obtain ⟨hl, a, cap, rfl, h1, h2, h3⟩ := h
 refine ⟨hl, a, cap, rfl, h1, h2, fun hn => ?_⟩
 obtain ⟨b, off, rfl, hb, hc⟩ := h3 hn
 exact ⟨b, off, rfl, hb, hf b hb, hc⟩
theorem o7.nil (w : World) (φ : Nat -> Prop) (sz : Nat) : o7 w φ (.slice none 0 0) 0 sz [] := ⟨by simp, none, 0, rfl, bl5 _, by unfold maxLen; omega, fun h => absurd h (by omega)⟩
theorem t7 {w : World} {lo : Nat} {e : TypeId} {sz : Nat} {v : Value} {n : Nat} {xs : List Value} (h : w.ownsRow lo e sz v n xs) {φ : Nat -> Prop} (hf : ∀ g, v.ownBlock = some g -> φ g) : o7 w φ v n sz xs := by
 obtain ⟨hl, a, cap, hv, h1, h2, h3⟩ := M0 h
 refine ⟨hl, a, cap, hv, h1, h2, fun hn => ?_⟩
 obtain ⟨b, off, he, hb, hc⟩ := h3 hn
 refine ⟨b, off, he, hb, ?_, hc⟩
 rcases h.2 with ⟨hv', h0⟩ | ⟨g, cap', cur, hv', _⟩
 ·omega
 rw [hv'] at hv
 cases hv
 cases he
 exact hf _ (by rw [hv']; rfl)
inductive J0 where
 | box (b : Nat) (cs : List Value)
 | row (e : TypeId) (sz : Nat) (v : Value) (n : Nat) (xs : List Value)
 | dat (R : World -> (Nat -> Prop) -> Prop)
 | own (S : Nat -> Prop) (R : World -> Prop)
def J0.blk : J0 -> Nat -> Prop
 | .box b _ => fun g => g = b
 | .row _ _ v _ _ => fun g => v.ownBlock = some g
 | .dat _ => fun _ => False
 | .own S _ => S
def Fr (φ : Nat -> Prop) (L : List J0) (b : Nat) : Prop := φ b /\ ∀ r ∈ L, ¬ r.blk b
def J0.holds (w : World) (φ : Nat -> Prop) : J0 -> Prop
 | .box b cs => K8 w b cs
 | .row e sz v n xs => w.ownsRow 0 e sz v n xs
 | .dat R => O1 R /\ R w φ
 | .own S R => (∀ w w', R w -> (∀ b, S b -> b < w.heap.size -> w'.heap[b]? = w.heap[b]?) -> R w') /\ R w /\ ∀ b, S b -> b < w.heap.size
structure s3 (ψ : Nat -> Prop) (w w' : World) : Prop where
 os : w'.os = w.os
 tape : w'.tape = w.tape
 output : w'.output = w.output
 size : w.heap.size <= w'.heap.size
 block : ∀ b, b < w.heap.size -> ψ b -> w'.heap[b]? = w.heap[b]?
theorem s3.refl (ψ : Nat -> Prop) (w : World) : s3 ψ w w := ⟨rfl, rfl, rfl, bl5 _, fun _ _ _ => rfl⟩
theorem s3.trans {ψ : Nat -> Prop} {a b c : World} (h : s3 ψ a b) (k : s3 ψ b c) : s3 ψ a c :=
 ⟨k.os.trans h.os, k.tape.trans h.tape, k.output.trans h.output, bk9 h.size k.size, fun i hi hp => (k.block i (Nat.lt_of_lt_of_le hi h.size) hp).trans (h.block i hi hp)⟩
theorem s3.of_below {ψ : Nat -> Prop} {w w' : World} {B : Nat} (h : Below B w w') (hB : ∀ b, b < w.heap.size -> ψ b -> b < B) : s3 ψ w w' := ⟨h.os, h.tape, h.output, h.size, fun b hb hp => h.block b (hB b hb hp)⟩
theorem s3.below {w w' : World} {ψ : Nat -> Prop} (h : s3 ψ w w') (hp : ∀ b, b < w.heap.size -> ψ b) : Below w.heap.size w w' := ⟨h.os, h.tape, h.output, h.size, fun b hb => h.block b hb (hp b hb)⟩
structure w9 (φ ψ : Nat -> Prop) (w0 w : World) (L : List J0) : Prop where
 kept : s3 ψ w0 w
 fresh : ∀ b, w0.heap.size <= b -> φ b
 holds : ∀ (r : J0), r ∈ L -> r.holds w (Fr φ L)
 dis : ∀ (i j : Nat) (a b : J0) (g : Nat), L[i]? = some a -> L[j]? = some b -> i ≠ j -> a.blk g -> ¬ b.blk g
 ge : ∀ (r : J0) (b : Nat), r ∈ L -> r.blk b -> w0.heap.size <= b \/ ¬ ψ b
section
variable {φ ψ : Nat -> Prop} {w0 w w' : World} {L : List J0}
theorem w9.start (hf : ∀ b, w0.heap.size <= b -> φ b) : w9 φ ψ w0 w0 [] := ⟨s3.refl _ _, hf, (fun _ h => by cases h), (fun i j a b g h => by simp at h), (fun _ _ h => by cases h)⟩
theorem J0.lt {r : J0} (h : r.holds w φ) {b : Nat} (hb : r.blk b) : b < w.heap.size := by
 cases r with
 | box b' cs => cases hb; exact K8.lt h
 | row e sz v n xs => exact (World.ownsRow.lt h b hb).2
 | dat R => cases hb
 | own S R => exact h.2.2 b hb
theorem w9.lt (M : w9 φ ψ w0 w L) {r : J0} (hr : r ∈ L) {b : Nat} (hb : r.blk b) : b < w.heap.size := J0.lt (M.holds r hr) hb
theorem w9.size (M : w9 φ ψ w0 w L) : w0.heap.size <= w.heap.size := M.kept.size
theorem w9.below (M : w9 φ ψ w0 w L) (hp : ∀ b, b < w0.heap.size -> ψ b) : Below w0.heap.size w0 w := M.kept.below hp
theorem J0.keep {φ' : Nat -> Prop} {r : J0} (h : r.holds w φ) (ha : G2 φ φ' w w') (hb : ∀ b, r.blk b -> w'.heap[b]? = w.heap[b]?) : r.holds w' φ' := by
 cases r with
 | box b cs => obtain ⟨T, h⟩ := h; exact ⟨T, (hb b rfl).trans h⟩
 | row e sz v n xs => exact (T0.same (lo := 0) (hi := w.heap.size) ⟨h, fun g hg => (World.ownsRow.lt h g hg).2⟩ hb).1
 | dat R => exact ⟨h.1, h.1 _ _ _ _ ha h.2⟩
 | own S R => exact ⟨h.1, h.1 _ _ h.2.1 fun b hs _ => hb b hs, fun b hs => Nat.lt_of_lt_of_le (h.2.2 b hs) ha.1⟩
theorem w9.call (M : w9 φ ψ w0 w L) (b : Below w.heap.size w w') : w9 φ ψ w0 w' L :=
 ⟨M.kept.trans (s3.of_below b fun _ h _ => h), M.fresh, fun r hr => J0.keep (M.holds r hr) (G2.below b) fun g hg => b.block g (M.lt hr hg), M.dis, M.ge⟩
theorem w9.drew (M : w9 φ ψ w0 w L) : w9 φ ψ w0 w.drew L := M.call (Below.refl _ _).drew
theorem Fr.snoc {r : J0} {b : Nat} : Fr φ (L ++ [r]) b ↔ Fr φ L b /\ ¬ r.blk b := by
 unfold Fr
 constructor
 ·rintro ⟨h1, h2⟩; exact ⟨⟨h1, fun x hx => h2 x (by simp [hx])⟩, h2 r (by simp)⟩
 rintro ⟨⟨h1, h2⟩, h3⟩
 refine ⟨h1, fun x hx => ?_⟩
 simp only [bm1, List.mem_singleton] at hx
 rcases hx with hx | rfl
 ·exact h2 x hx
 exact h3
theorem w9.add (M : w9 φ ψ w0 w L) (b : Below w.heap.size w w') (r : J0) (h : r.holds w' (Fr φ (L ++ [r]))) (hg : ∀ g, r.blk g -> w.heap.size <= g) : w9 φ ψ w0 w' (L ++ [r]) := by
 have M' := M.call b
 refine ⟨M'.kept, M.fresh, fun x hx => ?_, fun i j x y g hi hj hij hx hy => ?_, fun x g hx hxg => ?_⟩
 ·simp only [bm1, List.mem_singleton] at hx
  rcases hx with hx | rfl
  ·exact J0.keep (M.holds x hx) ⟨b.size, fun c hc hf => ⟨Fr.snoc.2 ⟨hf, fun he => by have := hg c he; omega⟩, b.block c hc⟩⟩ fun g hgx => b.block g (M.lt hx hgx)
  exact h
 ·have lt : ∀ (k : Nat) (z : J0), (L ++ [r])[k]? = some z -> (k < L.length /\ L[k]? = some z) \/ (k = L.length /\ z = r) := by
   intro k z hz
   rcases bn0 k L.length with hk | hk
   ·rw [bn6 hk] at hz; exact .inl ⟨hk, hz⟩
   rw [List.getElem?_append_right hk] at hz
   have : k - L.length = 0 := by
    rcases Nat.eq_zero_or_pos (k - L.length) with h | h
    ·exact h
    rw [bm7 (by rw [List.length_singleton]; exact h)] at hz; cases hz
   rw [this] at hz; simp at hz
   exact .inr ⟨by omega, hz.symm⟩
  rcases lt i x hi with ⟨hi', h1⟩ | ⟨hi', rfl⟩ <;> rcases lt j y hj with ⟨hj', h2⟩ | ⟨hj', rfl⟩
  ·exact M.dis i j x y g h1 h2 hij hx hy
  ·have := M.lt (bl8 h1) hx; have := hg g hy; omega
  ·have := M.lt (bl8 h2) hy; have := hg g hx; omega
  omega
 simp only [bm1, List.mem_singleton] at hx
 rcases hx with hx | rfl
 ·exact M.ge x g hx hxg
 exact .inl (bk9 M.size (hg g hxg))
theorem w9.box (M : w9 φ ψ w0 w L) (cs : List Value) (T : TypeId) : w9 φ ψ w0 (w.alloc (.cells cs.toArray T)) (L ++ [.box w.heap.size cs]) :=
 M.add ((Below.refl _ _).alloc (bl5 _) _) _ (K8.new w cs T) fun g hg => by cases hg; exact bl5 _
theorem w9.box' (M : w9 φ ψ w0 w L) (cs : List Value) (T : TypeId) {b : Nat} (hb : b = w.heap.size) : w9 φ ψ w0 (w.alloc (.cells cs.toArray T)) (L ++ [.box b cs]) := by subst hb; exact M.box cs T
theorem w9.dat (M : w9 φ ψ w0 w L) {R : World -> (Nat -> Prop) -> Prop} (hn : O1 R) (h : R w (Fr φ L)) : w9 φ ψ w0 w (L ++ [.dat R]) :=
 M.add (Below.refl _ _) _ ⟨hn, hn _ _ _ _ (G2.mono fun b _ hf => Fr.snoc.2 ⟨hf, fun h => by cases h⟩) h⟩ fun g hg => by cases hg
theorem w9.nil (M : w9 φ ψ w0 w L) (e : TypeId) (sz : Nat) : w9 φ ψ w0 w (L ++ [.row e sz (.slice none 0 0) 0 []]) :=
 M.add (Below.refl _ _) _ (World.ownsRow_nil _ _ _ _) fun g hg => by cases hg
theorem Fr.set {r : J0} {i : Nat} {a : J0} (_hi : L[i]? = some a) {b : Nat} (h : Fr φ L b) (hr : ¬ r.blk b) : Fr φ (L.set i r) b :=
 ⟨h.1, fun x hx => by
  rcases List.mem_or_eq_of_mem_set hx with hx | rfl
  ·exact h.2 x hx
  exact hr⟩
theorem w9.put (M : w9 φ ψ w0 w L) {i : Nat} {a : J0} (hi : L[i]? = some a) (r : J0) (hk : s3 (fun b => ¬ a.blk b) w w') (h : r.holds w' (Fr φ (L.set i r))) (hg : ∀ g, r.blk g -> a.blk g \/ w.heap.size <= g) : w9 φ ψ w0 w' (L.set i r) := by
 have hil := (bk5.1 hi).1
 have ha := bl8 hi
 have get : ∀ (j : Nat) (z : J0), (L.set i r)[j]? = some z -> (j ≠ i /\ L[j]? = some z) \/ (j = i /\ z = r) := by
  intro j z hz
  by_cases e : j = i
  ·subst e; rw [List.getElem?_set_self hil] at hz; exact .inr ⟨rfl, (Option.some.inj hz).symm⟩
  rw [List.getElem?_set_ne (fun h => e h.symm)] at hz; exact .inl ⟨e, hz⟩
 refine ⟨⟨hk.os.trans M.kept.os, hk.tape.trans M.kept.tape, hk.output.trans M.kept.output, bk9 M.size hk.size, fun b hb hp => (hk.block b (Nat.lt_of_lt_of_le hb M.size) fun he => ?_).trans (M.kept.block b hb hp)⟩, M.fresh, fun x hx => ?_, fun j k x y g hj hk' hjk hx hy => ?_, fun x g hx hxg => ?_⟩
 ·rcases M.ge a b ha he with h' | h'
  ·omega
  exact h' hp
 ·obtain ⟨j, hj⟩ := List.mem_iff_getElem?.1 hx
  rcases get j x hj with ⟨hne, hj'⟩ | ⟨_, rfl⟩
  ·refine J0.keep (M.holds x (bl8 hj')) ⟨hk.size, fun b hb hf => ⟨Fr.set hi hf fun he => ?_, hk.block b hb (hf.2 a ha)⟩⟩ fun g hgx => hk.block g (M.lt (bl8 hj') hgx) fun he => M.dis i j a x g hi hj' (fun e => hne e.symm) he hgx
   rcases hg b he with h' | h'
   ·exact hf.2 a ha h'
   omega
  exact h
 ·rcases get j x hj with ⟨hne, hj'⟩ | ⟨e1, rfl⟩ <;> rcases get k y hk' with ⟨hne', hk''⟩ | ⟨e2, rfl⟩
  ·exact M.dis j k x y g hj' hk'' hjk hx hy
  ·rcases hg g hy with h' | h'
   ·exact M.dis j i x a g hj' hi hne hx h'
   have := M.lt (bl8 hj') hx; omega
  ·rcases hg g hx with h' | h'
   ·exact M.dis i k a y g hi hk'' (fun e => hne' e.symm) h' hy
   have := M.lt (bl8 hk'') hy; omega
  omega
 obtain ⟨j, hj⟩ := List.mem_iff_getElem?.1 hx
 rcases get j x hj with ⟨hne, hj'⟩ | ⟨_, rfl⟩
 ·exact M.ge x g (bl8 hj') hxg
 rcases hg g hxg with h' | h'
 ·exact M.ge a g ha h'
 exact .inl (bk9 M.size h')
theorem s3.mono {ψ ψ' : Nat -> Prop} {w w' : World} (h : s3 ψ w w') (hp : ∀ b, ψ' b -> ψ b) : s3 ψ' w w' := ⟨h.os, h.tape, h.output, h.size, fun b hb hp' => h.block b hb (hp b hp')⟩
theorem s3.setCell (w : World) (b j : Nat) (u : Value) : s3 (fun c => ¬ c = b) w (w.setCell ⟨b, j, none⟩ u) :=
 ⟨rfl, rfl, rfl, by simp [World.setCell], fun c _ hc => Below.heap_setCell _ _ _ _ hc⟩
theorem w9.set (M : w9 φ ψ w0 w L) (i : Nat) {b : Nat} {cs : List Value} (hi : L[i]? = some (.box b cs)) (j : Nat) (u : Value) : w9 φ ψ w0 (w.setCell ⟨b, j, none⟩ u) (L.set i (.box b (cs.set j u))) :=
 M.put hi _ (s3.setCell w b j u) (K8.set (M.holds _ (bl8 hi)) u) fun _ hg => .inl hg
theorem w9.setFrom (us : List Value) : ∀ {w : World} {L : List J0} {p : Nat} {cs : List Value}, w9 φ ψ w0 w L -> ∀ (i : Nat) {b : Nat}, L[i]? = some (.box b cs) -> w9 φ ψ w0 (World.setFrom w b p us) (L.set i (.box b (Go.Proofs.YtcahndjigkledaaDoor.setFrom cs p us))) := by
 induction us with
 | nil =>
  intro w L p cs M i b hi
  have : L.set i (.box b cs) = L := by
   apply List.ext_getElem?
   intro j
   rw [List.getElem?_set]
   split
   ·rename_i e; subst e; rw [if_pos (bk5.1 hi).1, hi]
   rfl
  show w9 φ ψ w0 w (L.set i (.box b cs))
  rw [this]; exact M
 | cons u r ih =>
  intro w L p cs M i b hi
  have h1 := M.set i hi p u
  have h2 := ih (p := p + 1) h1 i (by rw [List.getElem?_set_self (bk5.1 hi).1])
  rw [List.set_set] at h2
  exact h2
theorem at8 {cs us : List Value} (h : us.length = cs.length) : Go.Proofs.YtcahndjigkledaaDoor.setFrom cs 0 us = us := by
 have h1 := X3 us cs 0 (by omega)
 rw [bn7, bm0 (by rw [y7]; omega)] at h1
 simpa using h1
theorem w9.fill (M : w9 φ ψ w0 w L) (i : Nat) {b : Nat} {cs : List Value} (hi : L[i]? = some (.box b cs)) (us : List Value) (h : us.length = cs.length) : w9 φ ψ w0 (World.setFrom w b 0 us) (L.set i (.box b us)) := by
 have h1 := M.setFrom us (p := 0) i hi
 rwa [at8 h] at h1
theorem w9.callB (M : w9 φ ψ w0 w L) (i : Nat) {b : Nat} {cs cs' : List Value} (hi : L[i]? = some (.box b cs)) (hk : s3 (fun c => ¬ c = b) w w') (h : K8 w' b cs') : w9 φ ψ w0 w' (L.set i (.box b cs')) :=
 M.put hi _ hk h fun _ hg => .inl hg
theorem w9.app (M : w9 φ ψ w0 w L) (i : Nat) {e : TypeId} {sz : Nat} {v v' : Value} {n n' : Nat} {xs xs' : List Value} (hi : L[i]? = some (.row e sz v n xs)) (h : w'.ownsRow 0 e sz v' n' xs') (hg : w.grownBy w' v.ownBlock) (hb : ∀ g, v'.ownBlock = some g -> v.ownBlock = some g \/ w.heap.size <= g) :
  w9 φ ψ w0 w' (L.set i (.row e sz v' n' xs')) :=
 M.put hi _ ⟨hg.os, hg.tape, hg.output, hg.size, fun b hb hn => hg.block b hb fun h => hn h.symm⟩ h hb
theorem w9.take (M : w9 φ ψ w0 w L) (k : Nat) : w9 φ ψ w0 w (L.take k) :=
 ⟨M.kept, M.fresh, fun r hr => J0.keep (M.holds r (List.mem_of_mem_take hr)) (G2.mono fun _ _ hf => ⟨hf.1, fun x hx => hf.2 x (List.mem_of_mem_take hx)⟩) fun _ _ => rfl,
  fun i j a b g hi hj hij => M.dis i j a b g (by rw [List.getElem?_take] at hi; split at hi; exact hi; cases hi) (by rw [List.getElem?_take] at hj; split at hj; exact hj; cases hj) hij, fun r b hr => M.ge r b (List.mem_of_mem_take hr)⟩
theorem w9.sel (M : w9 φ ψ w0 w L) (is : List Nat) (L' : List J0) (h : L'.map some = is.map fun i => L[i]?) (hn : is.Nodup) : w9 φ ψ w0 w L' := by
 have hl : L'.length = is.length := by simpa using congrArg List.length h
 have get : ∀ (j : Nat) (r : J0), L'[j]? = some r -> ∃ i, is[j]? = some i /\ L[i]? = some r := by
  intro j r hj
  have h1 : (L'.map some)[j]? = some (some r) := by simp [hj]
  rw [h, bm9] at h1
  cases hi : is[j]? with
  | none => rw [hi] at h1; cases h1
  | some i => rw [hi] at h1; exact ⟨i, rfl, Option.some.inj h1⟩
 have mem : ∀ r, r ∈ L' -> r ∈ L := fun r hr => by
  obtain ⟨j, hj⟩ := List.mem_iff_getElem?.1 hr
  obtain ⟨i, _, hi⟩ := get j r hj
  exact bl8 hi
 refine ⟨M.kept, M.fresh, fun r hr => J0.keep (M.holds r (mem r hr)) (G2.mono fun _ _ hf => ⟨hf.1, fun x hx => hf.2 x (mem x hx)⟩) fun _ _ => rfl, fun j k a b g hj hk hjk ha hb => ?_, fun r b hr => M.ge r b (mem r hr)⟩
 obtain ⟨i1, e1, h1⟩ := get j a hj
 obtain ⟨i2, e2, h2⟩ := get k b hk
 refine M.dis i1 i2 a b g h1 h2 (fun e => hjk ?_) ha hb
 subst e
 have hlt := (bk5.1 e1).1
 exact (List.getElem?_inj hlt hn).1 (e1.trans e2.symm)
theorem w9.c (M : w9 φ ψ w0 w L) (i j : Nat) {b : Nat} {cs : List Value} {u : Value} (hi : L[i]? = some (.box b cs)) (hj : cs[j]? = some u) : w.cell? ⟨b, j, none⟩ = some u :=
 (K8.cell (M.holds _ (bl8 hi)) j).trans hj
theorem w9.f (M : w9 φ ψ w0 w L) (i : Nat) {b : Nat} {cs : List Value} (hi : L[i]? = some (.box b cs)) : ∀ j, w.frozen? ⟨b, j, none⟩ = false := K8.free (M.holds _ (bl8 hi))
theorem w9.blk (M : w9 φ ψ w0 w L) (i : Nat) {b : Nat} {cs : List Value} (hi : L[i]? = some (.box b cs)) : K8 w b cs := M.holds _ (bl8 hi)
theorem w9.d (M : w9 φ ψ w0 w L) (i : Nat) {R : World -> (Nat -> Prop) -> Prop} (hi : L[i]? = some (.dat R)) : R w (Fr φ L) := (M.holds _ (bl8 hi)).2
theorem w9.dn (M : w9 φ ψ w0 w L) (i : Nat) {R : World -> (Nat -> Prop) -> Prop} (hi : L[i]? = some (.dat R)) : O1 R := (M.holds _ (bl8 hi)).1
theorem w9.out (M : w9 φ ψ w0 w L) (i : Nat) {R : World -> (Nat -> Prop) -> Prop} (hi : L[i]? = some (.dat R)) : R w φ := M.dn i hi _ _ _ _ (G2.mono fun _ _ hf => hf.1) (M.d i hi)
theorem w9.as (M : w9 φ ψ w0 w L) (L' : List J0) (h : L = L') : w9 φ ψ w0 w L' := h ▸ M
end
def bj6 (w : World) : Prop := Lib.TabIs Tryd.prog w "internal/strconv.uint64pow10" .u64 Lib.pow10Tab
def aM3 (ψ : Nat -> Prop) (w0 : World) : Prop := ∀ w', s3 ψ w0 w' -> bj6 w'
end Go.Proofs.YtcahndjigkledaaDoor

namespace Go.Proofs.YtcahndjigkledaaDoor
inductive b6 where
 | mk (kind value : Int) (kids : List b6)
def b6.kind : b6 -> Int | ⟨k, _, _⟩ => k
def b6.value : b6 -> Int | ⟨_, n, _⟩ => n
def b6.kids : b6 -> List b6 | ⟨_, _, ks⟩ => ks
inductive b5 where
 | mk (kind target : Int) (index value : b6) (count : Int) (body els : List b5)
def b5.kind : b5 -> Int | ⟨k, _, _, _, _, _, _⟩ => k
def b5.target : b5 -> Int | ⟨_, t, _, _, _, _, _⟩ => t
def b5.index : b5 -> b6 | ⟨_, _, i, _, _, _, _⟩ => i
def b5.value : b5 -> b6 | ⟨_, _, _, v, _, _, _⟩ => v
def b5.count : b5 -> Int | ⟨_, _, _, _, c, _, _⟩ => c
def b5.body : b5 -> List b5 | ⟨_, _, _, _, _, b, _⟩ => b
def b5.els : b5 -> List b5 | ⟨_, _, _, _, _, _, e⟩ => e
structure c9 where
 vars : List Int
 arrays : List Int
 body : List b5
mutual
theorem b6.ind {P : b6 -> Prop} (h : ∀ k n ks, (∀ e ∈ ks, P e) -> P ⟨k, n, ks⟩) : ∀ e : b6, P e
 | ⟨k, n, ks⟩ => h k n ks (b6.indL h ks)
theorem b6.indL {P : b6 -> Prop} (h : ∀ k n ks, (∀ e ∈ ks, P e) -> P ⟨k, n, ks⟩) : ∀ ks : List b6, ∀ e ∈ ks, P e
 | [] => fun _ hm => by cases hm
 | a :: r => fun _ hm => (bn2.1 hm).elim (fun he => he ▸ b6.ind h a) fun hm => b6.indL h r _ hm
end
mutual
theorem b5.ind {P : b5 -> Prop} (h : ∀ k t i v c b e, (∀ s ∈ b, P s) -> (∀ s ∈ e, P s) -> P ⟨k, t, i, v, c, b, e⟩) : ∀ s : b5, P s
 | ⟨k, t, i, v, c, b, e⟩ => h k t i v c b e (b5.indL h b) (b5.indL h e)
theorem b5.indL {P : b5 -> Prop} (h : ∀ k t i v c b e, (∀ s ∈ b, P s) -> (∀ s ∈ e, P s) -> P ⟨k, t, i, v, c, b, e⟩) : ∀ ss : List b5, ∀ s ∈ ss, P s
 | [] => fun _ hm => by cases hm
 | a :: r => fun _ hm => (bn2.1 hm).elim (fun he => he ▸ b5.ind h a) fun hm => b5.indL h r _ hm
end
mutual
def K5 : b6 -> Nat
 | ⟨_, _, ks⟩ => k8 ks
def k8 : List b6 -> Nat
 | [] => 0
 | e :: r => 1 + K5 e + k8 r
end
mutual
def R4 : b5 -> Nat
 | ⟨_, _, i, v, _, b, e⟩ => K5 i + K5 v + o3 b + o3 e
def o3 : List b5 -> Nat
 | [] => 0
 | s :: r => 1 + R4 s + o3 r
end
def c9.size (p : c9) : Nat := p.vars.length + p.arrays.length + o3 p.body
theorem P6 (a b : List b6) : k8 (a ++ b) = k8 a + k8 b := by
 induction a with
 | nil => simp [k8]
 | cons x r ih => simp [k8, ih]; omega
theorem aN2 (a : List b6) : a.length <= k8 a := by
 induction a with
 | nil => simp
 | cons x r ih => simp only [k8, bk4]; omega
theorem W7 (a : List b5) : a.length <= o3 a := by
 induction a with
 | nil => simp
 | cons x r ih => simp only [o3, bk4]; omega
theorem aW2 {e : b6} {ks : List b6} (h : e ∈ ks) : K5 e < k8 ks := by
 induction ks with
 | nil => cases h
 | cons x r ih =>
  simp only [k8]
  rcases bn2.1 h with rfl | h
  ·omega
  have := ih h; omega
theorem J6 {s : b5} {ss : List b5} (h : s ∈ ss) : R4 s < o3 ss := by
 induction ss with
 | nil => cases h
 | cons x r ih =>
  simp only [o3]
  rcases bn2.1 h with rfl | h
  ·omega
  have := ih h; omega
mutual
def r8 : b6 -> b6 -> Bool
 | ⟨k, n, ks⟩, ⟨k', n', ks'⟩ => decide (k = k') && decide (n = n') && B4 ks ks'
def B4 : List b6 -> List b6 -> Bool
 | [], [] => true
 | e :: r, e' :: r' => r8 e e' && B4 r r'
 | _, _ => false
end
mutual
def B1 : b5 -> b5 -> Bool
 | ⟨k, t, i, v, c, b, e⟩, ⟨k', t', i', v', c', b', e'⟩ => decide (k = k') && decide (t = t') && r8 i i' && r8 v v' && decide (c = c') && m0 b b' && m0 e e'
def m0 : List b5 -> List b5 -> Bool
 | [], [] => true
 | s :: r, s' :: r' => B1 s s' && m0 r r'
 | _, _ => false
end
mutual
theorem x9 : ∀ (a b : b6), r8 a b = true ↔ a = b
 | ⟨k, n, ks⟩, ⟨k', n', ks'⟩ => by
  simp only [r8, bk0, decide_eq_true_eq, b6.mk.injEq, L7 ks ks', and_assoc]
theorem L7 : ∀ (a b : List b6), B4 a b = true ↔ a = b
 | [], [] => by simp [B4]
 | [], _ :: _ => by simp [B4]
 | _ :: _, [] => by simp [B4]
 | e :: r, e' :: r' => by simp only [B4, bk0, List.cons.injEq, x9 e e', L7 r r']
end
mutual
theorem L6 : ∀ (a b : b5), B1 a b = true ↔ a = b
 | ⟨k, t, i, v, c, b, e⟩, ⟨k', t', i', v', c', b', e'⟩ => by
  simp only [B1, bk0, decide_eq_true_eq, b5.mk.injEq, x9 i i', x9 v v', A4 b b', A4 e e', and_assoc]
theorem A4 : ∀ (a b : List b5), m0 a b = true ↔ a = b
 | [], [] => by simp [m0]
 | [], _ :: _ => by simp [m0]
 | _ :: _, [] => by simp [m0]
 | e :: r, e' :: r' => by simp only [m0, bk0, List.cons.injEq, L6 e e', A4 r r']
end
def c9.same (p q : c9) : Bool := decide (p.vars = q.vars) && decide (p.arrays = q.arrays) && m0 p.body q.body
end Go.Proofs.YtcahndjigkledaaDoor

namespace Go.Proofs.YtcahndjigkledaaDoor
open Go Go.RowKit
section
mutual
def E6 (w : World) (φ : Nat -> Prop) : b6 -> List Value -> Prop
 | ⟨k, n, ks⟩, cs => ∃ v xs, cs = [.int .i64 k, .int .i64 n, v] /\ o7 w φ v ks.length 3 xs /\ n6 w φ ks xs
def n6 (w : World) (φ : Nat -> Prop) : List b6 -> List Value -> Prop
 | [], xs => xs = []
 | e :: r, xs => ∃ c ys, xs = c ++ ys /\ E6 w φ e c /\ n6 w φ r ys
end
def j3 (w : World) (φ : Nat -> Prop) (v : Value) (ks : List b6) : Prop := ∃ xs, o7 w φ v ks.length 3 xs /\ n6 w φ ks xs
def A2 (w : World) (φ : Nat -> Prop) (v : Value) (e : b6) : Prop := ∃ kv, v = .agg #[.int .i64 e.kind, .int .i64 e.value, kv] /\ j3 w φ kv e.kids
mutual
def E1 (w : World) (φ : Nat -> Prop) : b5 -> List Value -> Prop
 | ⟨k, t, i, v, c, b, e⟩, cs => ∃ iv vv bv ev xb xe, cs = [.int .i64 k, .int .i64 t, .int .i64 i.kind, .int .i64 i.value, iv, .int .i64 v.kind, .int .i64 v.value, vv, .int .i64 c, bv, ev] /\
   j3 w φ iv i.kids /\ j3 w φ vv v.kids /\ o7 w φ bv b.length 11 xb /\ m9 w φ b xb /\ o7 w φ ev e.length 11 xe /\ m9 w φ e xe
def m9 (w : World) (φ : Nat -> Prop) : List b5 -> List Value -> Prop
 | [], xs => xs = []
 | s :: r, xs => ∃ c ys, xs = c ++ ys /\ E1 w φ s c /\ m9 w φ r ys
end
def z7 (w : World) (φ : Nat -> Prop) (v : Value) (ss : List b5) : Prop := ∃ xs, o7 w φ v ss.length 11 xs /\ m9 w φ ss xs
def aI4 (w : World) (φ : Nat -> Prop) (v : Value) (s : b5) : Prop :=
 ∃ iv vv bv ev, v = .agg #[.int .i64 s.kind, .int .i64 s.target, .int .i64 s.index.kind, .int .i64 s.index.value, iv, .int .i64 s.value.kind, .int .i64 s.value.value, vv, .int .i64 s.count, bv, ev] /\
  j3 w φ iv s.index.kids /\ j3 w φ vv s.value.kids /\ z7 w φ bv s.body /\ z7 w φ ev s.els
def aV5 (w : World) (φ : Nat -> Prop) (v : Value) (p : c9) : Prop :=
 ∃ v1 v2 v3, v = .agg #[v1, v2, v3] /\ o7 w φ v1 p.vars.length 1 (ints p.vars) /\ o7 w φ v2 p.arrays.length 1 (ints p.arrays) /\ z7 w φ v3 p.body
variable {w w' : World} {φ φ' : Nat -> Prop}
mutual
theorem E6.agr (ha : G2 φ φ' w w') : ∀ (e : b6) (cs : List Value), E6 w φ e cs -> E6 w' φ' e cs
 | ⟨_, _, ks⟩, _, ⟨v, xs, h1, h2, h3⟩ => ⟨v, xs, h1, o7.nice _ _ _ _ _ _ _ _ ha h2, n6.agr ha ks xs h3⟩
theorem n6.agr (ha : G2 φ φ' w w') : ∀ (ks : List b6) (xs : List Value), n6 w φ ks xs -> n6 w' φ' ks xs
 | [], _, h => h
 | e :: r, _, ⟨c, ys, h1, h2, h3⟩ => ⟨c, ys, h1, E6.agr ha e c h2, n6.agr ha r ys h3⟩
end
theorem n6.nice (ks : List b6) (xs : List Value) : O1 fun w φ => n6 w φ ks xs := fun _ _ _ _ ha h => n6.agr ha ks xs h
theorem j3.nice (v : Value) (ks : List b6) : O1 fun w φ => j3 w φ v ks := fun _ _ _ _ ha ⟨xs, h1, h2⟩ => ⟨xs, o7.nice _ _ _ _ _ _ _ _ ha h1, n6.agr ha ks xs h2⟩
theorem A2.nice (v : Value) (e : b6) : O1 fun w φ => A2 w φ v e := fun _ _ _ _ ha ⟨kv, h1, h2⟩ => ⟨kv, h1, j3.nice _ _ _ _ _ _ ha h2⟩
mutual
theorem E1.agr (ha : G2 φ φ' w w') : ∀ (s : b5) (cs : List Value), E1 w φ s cs -> E1 w' φ' s cs
 | ⟨_, _, _, _, _, b, e⟩, _, ⟨iv, vv, bv, ev, xb, xe, h1, h2, h3, h4, h5, h6, h7⟩ =>
  ⟨iv, vv, bv, ev, xb, xe, h1, j3.nice _ _ _ _ _ _ ha h2, j3.nice _ _ _ _ _ _ ha h3, o7.nice _ _ _ _ _ _ _ _ ha h4, m9.agr ha b xb h5, o7.nice _ _ _ _ _ _ _ _ ha h6, m9.agr ha e xe h7⟩
theorem m9.agr (ha : G2 φ φ' w w') : ∀ (ss : List b5) (xs : List Value), m9 w φ ss xs -> m9 w' φ' ss xs
 | [], _, h => h
 | s :: r, _, ⟨c, ys, h1, h2, h3⟩ => ⟨c, ys, h1, E1.agr ha s c h2, m9.agr ha r ys h3⟩
end
theorem m9.nice (ss : List b5) (xs : List Value) : O1 fun w φ => m9 w φ ss xs := fun _ _ _ _ ha h => m9.agr ha ss xs h
theorem z7.nice (v : Value) (ss : List b5) : O1 fun w φ => z7 w φ v ss := fun _ _ _ _ ha ⟨xs, h1, h2⟩ => ⟨xs, o7.nice _ _ _ _ _ _ _ _ ha h1, m9.agr ha ss xs h2⟩
theorem aI4.nice (v : Value) (s : b5) : O1 fun w φ => aI4 w φ v s := fun _ _ _ _ ha ⟨iv, vv, bv, ev, h1, h2, h3, h4, h5⟩ =>
 ⟨iv, vv, bv, ev, h1, j3.nice _ _ _ _ _ _ ha h2, j3.nice _ _ _ _ _ _ ha h3, z7.nice _ _ _ _ _ _ ha h4, z7.nice _ _ _ _ _ _ ha h5⟩
theorem aV5.nice (v : Value) (p : c9) : O1 fun w φ => aV5 w φ v p := fun _ _ _ _ ha ⟨v1, v2, v3, h1, h2, h3, h4⟩ =>
 ⟨v1, v2, v3, h1, o7.nice _ _ _ _ _ _ _ _ ha h2, o7.nice _ _ _ _ _ _ _ _ ha h3, z7.nice _ _ _ _ _ _ ha h4⟩
theorem E6.iff (e : b6) (cs : List Value) : E6 w φ e cs ↔ ∃ kv, cs = [.int .i64 e.kind, .int .i64 e.value, kv] /\ j3 w φ kv e.kids := by
 cases e with
 | mk k n ks => exact ⟨fun ⟨v, xs, h1, h2, h3⟩ => ⟨v, h1, xs, h2, h3⟩, fun ⟨v, h1, xs, h2, h3⟩ => ⟨v, xs, h1, h2, h3⟩⟩
theorem E1.iff (s : b5) (cs : List Value) : E1 w φ s cs ↔ ∃ iv vv bv ev, cs = [.int .i64 s.kind, .int .i64 s.target, .int .i64 s.index.kind, .int .i64 s.index.value, iv, .int .i64 s.value.kind, .int .i64 s.value.value, vv, .int .i64 s.count, bv, ev] /\
  j3 w φ iv s.index.kids /\ j3 w φ vv s.value.kids /\ z7 w φ bv s.body /\ z7 w φ ev s.els := by
 cases s with
 | mk k t i v c b e =>
  exact ⟨fun ⟨iv, vv, bv, ev, xb, xe, h1, h2, h3, h4, h5, h6, h7⟩ => ⟨iv, vv, bv, ev, h1, h2, h3, ⟨xb, h4, h5⟩, ⟨xe, h6, h7⟩⟩,
   fun ⟨iv, vv, bv, ev, h1, h2, h3, ⟨xb, h4, h5⟩, ⟨xe, h6, h7⟩⟩ => ⟨iv, vv, bv, ev, xb, xe, h1, h2, h3, h4, h5, h6, h7⟩⟩
theorem A2.iff {v : Value} {e : b6} : A2 w φ v e ↔ ∃ cs : List Value, v = .agg cs.toArray /\ E6 w φ e cs :=
 ⟨fun ⟨kv, h1, h2⟩ => ⟨_, h1, (E6.iff e _).2 ⟨kv, rfl, h2⟩⟩, fun ⟨cs, h1, h2⟩ => by obtain ⟨kv, rfl, h3⟩ := (E6.iff e cs).1 h2; exact ⟨kv, h1, h3⟩⟩
theorem aI4.iff {v : Value} {s : b5} : aI4 w φ v s ↔ ∃ cs : List Value, v = .agg cs.toArray /\ E1 w φ s cs :=
 ⟨fun ⟨iv, vv, bv, ev, h1, h2⟩ => ⟨_, h1, (E1.iff s _).2 ⟨iv, vv, bv, ev, rfl, h2⟩⟩, fun ⟨cs, h1, h2⟩ => by obtain ⟨iv, vv, bv, ev, rfl, h3⟩ := (E1.iff s cs).1 h2; exact ⟨iv, vv, bv, ev, h1, h3⟩⟩
theorem n6.len : ∀ {ks : List b6} {xs : List Value}, n6 w φ ks xs -> xs.length = ks.length * 3
 | [], _, h => by rw [show _ = [] from h]; rfl
 | e :: r, _, ⟨c, ys, h1, h2, h3⟩ => by
  obtain ⟨kv, rfl, _⟩ := (E6.iff e c).1 h2
  rw [h1, bl6, n6.len h3, bk4]; simp; omega
theorem m9.len : ∀ {ss : List b5} {xs : List Value}, m9 w φ ss xs -> xs.length = ss.length * 11
 | [], _, h => by rw [show _ = [] from h]; rfl
 | s :: r, _, ⟨c, ys, h1, h2, h3⟩ => by
  obtain ⟨iv, vv, bv, ev, rfl, _⟩ := (E1.iff s c).1 h2
  rw [h1, bl6, m9.len h3, bk4]; simp; omega
theorem n6.at : ∀ {ks : List b6} {xs : List Value}, n6 w φ ks xs -> ∀ (i : Nat) (hi : i < ks.length), ∃ kv, xs[i * 3]? = some (.int .i64 ks[i].kind) /\ xs[i * 3 + 1]? = some (.int .i64 ks[i].value) /\ xs[i * 3 + 2]? = some kv /\ j3 w φ kv ks[i].kids
 | [], _, _, i, hi => by simp at hi
 | e :: r, _, ⟨c, ys, h1, h2, h3⟩, i, hi => by
  obtain ⟨kv, rfl, hk⟩ := (E6.iff e c).1 h2
  subst h1
  cases i with
  | zero => exact ⟨kv, rfl, rfl, rfl, hk⟩
  | succ i =>
   obtain ⟨kv', a, b, d, f⟩ := n6.at h3 i (by simpa using hi)
   refine ⟨kv', ?_, ?_, ?_, f⟩ <;> (rw [bm5]; simpa [Nat.add_assoc] using by assumption)
theorem m9.at : ∀ {ss : List b5} {xs : List Value}, m9 w φ ss xs -> ∀ (i : Nat) (hi : i < ss.length), ∃ cs : List Value, cs.length = 11 /\ E1 w φ ss[i] cs /\ ∀ j, j < 11 -> xs[i * 11 + j]? = cs[j]?
 | [], _, _, i, hi => by simp at hi
 | s :: r, _, ⟨c, ys, h1, h2, h3⟩, i, hi => by
  have hc : c.length = 11 := by obtain ⟨iv, vv, bv, ev, rfl, _⟩ := (E1.iff s c).1 h2; rfl
  subst h1
  cases i with
  | zero => exact ⟨c, hc, h2, fun j hj => by rw [bn6 (by omega)]; simp⟩
  | succ i =>
   obtain ⟨cs, a, b, d⟩ := m9.at h3 i (by simpa using hi)
   refine ⟨cs, a, b, fun j hj => ?_⟩
   rw [List.getElem?_append_right (by rw [hc, bm5]; omega), <- d j hj]
   congr 1
   rw [hc, bm5]; omega
theorem n6.append : ∀ {ks : List b6} {xs : List Value} {ls : List b6} {ys : List Value}, n6 w φ ks xs -> n6 w φ ls ys -> n6 w φ (ks ++ ls) (xs ++ ys)
 | [], _, _, _, h, k => by rw [show _ = [] from h]; exact k
 | e :: r, _, _, _, ⟨c, zs, h1, h2, h3⟩, k => ⟨c, zs ++ _, by rw [h1, bn1], h2, n6.append h3 k⟩
theorem n6.one {e : b6} {c : List Value} (h : E6 w φ e c) : n6 w φ [e] c := ⟨c, [], by simp, h, rfl⟩
theorem m9.append : ∀ {ks : List b5} {xs : List Value} {ls : List b5} {ys : List Value}, m9 w φ ks xs -> m9 w φ ls ys -> m9 w φ (ks ++ ls) (xs ++ ys)
 | [], _, _, _, h, k => by rw [show _ = [] from h]; exact k
 | e :: r, _, _, _, ⟨c, zs, h1, h2, h3⟩, k => ⟨c, zs ++ _, by rw [h1, bn1], h2, m9.append h3 k⟩
theorem m9.one {s : b5} {c : List Value} (h : E1 w φ s c) : m9 w φ [s] c := ⟨c, [], by simp, h, rfl⟩
theorem j3.open {v : Value} {ks : List b6} (h : j3 w φ v ks) : ∃ a cap, v = .slice a ks.length cap /\ ks.length <= cap /\ ks.length <= 9223372036854775807 /\ cap <= 9223372036854775807 /\
  ∀ i (hi : i < ks.length), ∃ b off kv, a = some ⟨b, off, none⟩ /\ b < w.heap.size /\ φ b /\ w.cell? ⟨b, off + i * 3, none⟩ = some (.int .i64 ks[i].kind) /\ w.cell? ⟨b, off + i * 3 + 1, none⟩ = some (.int .i64 ks[i].value) /\ w.cell? ⟨b, off + i * 3 + 2, none⟩ = some kv /\ j3 w φ kv ks[i].kids := by
 obtain ⟨xs, ⟨hl, a, cap, rfl, h1, h2, h3⟩, hx⟩ := h
 unfold maxLen at h2
 refine ⟨a, cap, rfl, h1, by omega, by omega, fun i hi => ?_⟩
 obtain ⟨b, off, rfl, hb, hf, hc⟩ := h3 (by omega)
 obtain ⟨kv, e0, e1, e2, hk⟩ := hx.at i hi
 exact ⟨b, off, kv, rfl, hb, hf, hc _ _ e0, hc _ _ e1, hc _ _ e2, hk⟩
theorem z7.open {v : Value} {ss : List b5} (h : z7 w φ v ss) : ∃ a cap, v = .slice a ss.length cap /\ ss.length <= cap /\ ss.length <= 9223372036854775807 /\ cap <= 9223372036854775807 /\
  ∀ i (hi : i < ss.length), ∃ b off iv vv bv ev, a = some ⟨b, off, none⟩ /\ b < w.heap.size /\ φ b /\
   (w.cell? ⟨b, off + i * 11, none⟩ = some (.int .i64 ss[i].kind) /\ w.cell? ⟨b, off + i * 11 + 1, none⟩ = some (.int .i64 ss[i].target) /\ w.cell? ⟨b, off + i * 11 + 2, none⟩ = some (.int .i64 ss[i].index.kind) /\ w.cell? ⟨b, off + i * 11 + 3, none⟩ = some (.int .i64 ss[i].index.value) /\ w.cell? ⟨b, off + i * 11 + 4, none⟩ = some iv /\
    w.cell? ⟨b, off + i * 11 + 5, none⟩ = some (.int .i64 ss[i].value.kind) /\ w.cell? ⟨b, off + i * 11 + 6, none⟩ = some (.int .i64 ss[i].value.value) /\ w.cell? ⟨b, off + i * 11 + 7, none⟩ = some vv /\ w.cell? ⟨b, off + i * 11 + 8, none⟩ = some (.int .i64 ss[i].count) /\ w.cell? ⟨b, off + i * 11 + 9, none⟩ = some bv /\ w.cell? ⟨b, off + i * 11 + 10, none⟩ = some ev) /\
   j3 w φ iv ss[i].index.kids /\ j3 w φ vv ss[i].value.kids /\ z7 w φ bv ss[i].body /\ z7 w φ ev ss[i].els := by
 obtain ⟨xs, ⟨hl, a, cap, rfl, h1, h2, h3⟩, hx⟩ := h
 unfold maxLen at h2
 refine ⟨a, cap, rfl, h1, by omega, by omega, fun i hi => ?_⟩
 obtain ⟨b, off, rfl, hb, hf, hc⟩ := h3 (by omega)
 obtain ⟨cs, hl2, hs, hj⟩ := hx.at i hi
 obtain ⟨iv, vv, bv, ev, rfl, k1, k2, k3, k4⟩ := (E1.iff _ _).1 hs
 refine ⟨b, off, iv, vv, bv, ev, rfl, hb, hf, ⟨?_, ?_, ?_, ?_, ?_, ?_, ?_, ?_, ?_, ?_, ?_⟩, k1, k2, k3, k4⟩
 ·have := hc (i * 11 + 0) _ ((hj 0 (by omega)).trans rfl); simpa using this
 ·exact hc (i * 11 + 1) _ ((hj 1 (by omega)).trans rfl)
 ·exact hc (i * 11 + 2) _ ((hj 2 (by omega)).trans rfl)
 ·exact hc (i * 11 + 3) _ ((hj 3 (by omega)).trans rfl)
 ·exact hc (i * 11 + 4) _ ((hj 4 (by omega)).trans rfl)
 ·exact hc (i * 11 + 5) _ ((hj 5 (by omega)).trans rfl)
 ·exact hc (i * 11 + 6) _ ((hj 6 (by omega)).trans rfl)
 ·exact hc (i * 11 + 7) _ ((hj 7 (by omega)).trans rfl)
 ·exact hc (i * 11 + 8) _ ((hj 8 (by omega)).trans rfl)
 ·exact hc (i * 11 + 9) _ ((hj 9 (by omega)).trans rfl)
 exact hc (i * 11 + 10) _ ((hj 10 (by omega)).trans rfl)
theorem j3.nil (w : World) (φ : Nat -> Prop) : j3 w φ (.slice none 0 0) [] := ⟨[], o7.nil _ _ _, rfl⟩
theorem z7.nil (w : World) (φ : Nat -> Prop) : z7 w φ (.slice none 0 0) [] := ⟨[], o7.nil _ _ _, rfl⟩
end
section
mutual
def w3 (w : World) : b6 -> (Nat -> Prop) -> List Value -> Prop
 | ⟨k, n, ks⟩, S, cs => ∃ (v : Value) (xs : List Value) (S' : Nat -> Prop), cs = [.int .i64 k, .int .i64 n, v] /\ w.ownsRow 0 37 3 v ks.length xs /\ (∀ g, v.ownBlock = some g -> S g /\ ¬ S' g) /\ (∀ b, S' b -> S b) /\ j1 w ks S' xs
def j1 (w : World) : List b6 -> (Nat -> Prop) -> List Value -> Prop
 | [], _, xs => xs = []
 | e :: r, S, xs => ∃ (c ys : List Value) (S1 S2 : Nat -> Prop), xs = c ++ ys /\ (∀ b, S1 b -> S b /\ ¬ S2 b) /\ (∀ b, S2 b -> S b) /\ w3 w e S1 c /\ j1 w r S2 ys
end
def z6 (w : World) (v : Value) (ks : List b6) (S : Nat -> Prop) : Prop :=
 ∃ (xs : List Value) (S' : Nat -> Prop), w.ownsRow 0 37 3 v ks.length xs /\ (∀ g, v.ownBlock = some g -> S g /\ ¬ S' g) /\ (∀ b, S' b -> S b) /\ j1 w ks S' xs
mutual
def x6 (w : World) : b5 -> (Nat -> Prop) -> List Value -> Prop
 | ⟨k, t, i, v, c, b, e⟩, S, cs => ∃ (iv vv bv ev : Value) (xb xe : List Value) (Si Sv Sb Se Sb' Se' : Nat -> Prop), cs = [.int .i64 k, .int .i64 t, .int .i64 i.kind, .int .i64 i.value, iv, .int .i64 v.kind, .int .i64 v.value, vv, .int .i64 c, bv, ev] /\
   ((∀ b, Si b -> S b /\ ¬ Sv b /\ ¬ Sb b /\ ¬ Se b) /\ (∀ b, Sv b -> S b /\ ¬ Sb b /\ ¬ Se b) /\ (∀ b, Sb b -> S b /\ ¬ Se b) /\ (∀ b, Se b -> S b)) /\ z6 w iv i.kids Si /\ z6 w vv v.kids Sv /\
   (w.ownsRow 0 43 11 bv b.length xb /\ (∀ g, bv.ownBlock = some g -> Sb g /\ ¬ Sb' g) /\ (∀ b, Sb' b -> Sb b) /\ i8 w b Sb' xb) /\
   (w.ownsRow 0 43 11 ev e.length xe /\ (∀ g, ev.ownBlock = some g -> Se g /\ ¬ Se' g) /\ (∀ b, Se' b -> Se b) /\ i8 w e Se' xe)
def i8 (w : World) : List b5 -> (Nat -> Prop) -> List Value -> Prop
 | [], _, xs => xs = []
 | s :: r, S, xs => ∃ (c ys : List Value) (S1 S2 : Nat -> Prop), xs = c ++ ys /\ (∀ b, S1 b -> S b /\ ¬ S2 b) /\ (∀ b, S2 b -> S b) /\ x6 w s S1 c /\ i8 w r S2 ys
end
def A9 (w : World) (v : Value) (ss : List b5) (S : Nat -> Prop) : Prop :=
 ∃ (xs : List Value) (S' : Nat -> Prop), w.ownsRow 0 43 11 v ss.length xs /\ (∀ g, v.ownBlock = some g -> S g /\ ¬ S' g) /\ (∀ b, S' b -> S b) /\ i8 w ss S' xs
def ad6 (w : World) (v : Value) (p : c9) (S : Nat -> Prop) : Prop :=
 ∃ (v1 v2 v3 : Value) (S3 : Nat -> Prop), v = .agg #[v1, v2, v3] /\ w.ownsRow 0 3 1 v1 p.vars.length (ints p.vars) /\ w.ownsRow 0 3 1 v2 p.arrays.length (ints p.arrays) /\ A9 w v3 p.body S3 /\
  (∀ g, v1.ownBlock = some g -> S g /\ ¬ S3 g /\ v2.ownBlock ≠ some g) /\ (∀ g, v2.ownBlock = some g -> S g /\ ¬ S3 g) /\ (∀ b, S3 b -> S b)
variable {w w' : World} {S S' φ : Nat -> Prop}
theorem y5 {e : TypeId} {sz : Nat} {v : Value} {n : Nat} {xs : List Value} (h : w.ownsRow 0 e sz v n xs) (hs : ∀ g, v.ownBlock = some g -> w'.heap[g]? = w.heap[g]?) : w'.ownsRow 0 e sz v n xs :=
 (T0.same (T0.mk' h) hs).1
mutual
theorem w3.same : ∀ (e : b6) (S : Nat -> Prop) (cs : List Value), w3 w e S cs -> (∀ b, S b -> b < w.heap.size -> w'.heap[b]? = w.heap[b]?) -> w3 w' e S cs
 | ⟨_, _, ks⟩, S, _, ⟨v, xs, S', h1, h2, h3, h4, h5⟩, hs => ⟨v, xs, S', h1, y5 h2 fun g hg => hs g (h3 g hg).1 (World.ownsRow.lt h2 g hg).2, h3, h4, j1.same ks S' xs h5 fun b hb => hs b (h4 b hb)⟩
theorem j1.same : ∀ (ks : List b6) (S : Nat -> Prop) (xs : List Value), j1 w ks S xs -> (∀ b, S b -> b < w.heap.size -> w'.heap[b]? = w.heap[b]?) -> j1 w' ks S xs
 | [], _, _, h, _ => h
 | e :: r, S, _, ⟨c, ys, S1, S2, h1, h2, h3, h4, h5⟩, hs => ⟨c, ys, S1, S2, h1, h2, h3, w3.same e S1 c h4 fun b hb => hs b (h2 b hb).1, j1.same r S2 ys h5 fun b hb => hs b (h3 b hb)⟩
end
theorem z6.same {v : Value} {ks : List b6} (h : z6 w v ks S) (hs : ∀ b, S b -> b < w.heap.size -> w'.heap[b]? = w.heap[b]?) : z6 w' v ks S := by
 obtain ⟨xs, S', h2, h3, h4, h5⟩ := h
 exact ⟨xs, S', y5 h2 fun g hg => hs g (h3 g hg).1 (World.ownsRow.lt h2 g hg).2, h3, h4, j1.same ks S' xs h5 fun b hb => hs b (h4 b hb)⟩
mutual
theorem x6.same : ∀ (s : b5) (S : Nat -> Prop) (cs : List Value), x6 w s S cs -> (∀ b, S b -> b < w.heap.size -> w'.heap[b]? = w.heap[b]?) -> x6 w' s S cs
 | ⟨_, _, _, _, _, b, e⟩, S, _, ⟨iv, vv, bv, ev, xb, xe, Si, Sv, Sb, Se, Sb', Se', h1, ⟨d1, d2, d3, d4⟩, h2, h3, ⟨b1, b2, b3, b4⟩, ⟨e1, e2, e3, e4⟩⟩, hs =>
  ⟨iv, vv, bv, ev, xb, xe, Si, Sv, Sb, Se, Sb', Se', h1, ⟨d1, d2, d3, d4⟩, h2.same fun b hb => hs b (d1 b hb).1, h3.same fun b hb => hs b (d2 b hb).1,
   ⟨y5 b1 fun g hg => hs g (d3 g (b2 g hg).1).1 (World.ownsRow.lt b1 g hg).2, b2, b3, i8.same b Sb' xb b4 fun x hx => hs x (d3 x (b3 x hx)).1⟩,
   ⟨y5 e1 fun g hg => hs g (d4 g (e2 g hg).1) (World.ownsRow.lt e1 g hg).2, e2, e3, i8.same e Se' xe e4 fun x hx => hs x (d4 x (e3 x hx))⟩⟩
theorem i8.same : ∀ (ss : List b5) (S : Nat -> Prop) (xs : List Value), i8 w ss S xs -> (∀ b, S b -> b < w.heap.size -> w'.heap[b]? = w.heap[b]?) -> i8 w' ss S xs
 | [], _, _, h, _ => h
 | s :: r, S, _, ⟨c, ys, S1, S2, h1, h2, h3, h4, h5⟩, hs => ⟨c, ys, S1, S2, h1, h2, h3, x6.same s S1 c h4 fun b hb => hs b (h2 b hb).1, i8.same r S2 ys h5 fun b hb => hs b (h3 b hb)⟩
end
theorem A9.same {v : Value} {ss : List b5} (h : A9 w v ss S) (hs : ∀ b, S b -> b < w.heap.size -> w'.heap[b]? = w.heap[b]?) : A9 w' v ss S := by
 obtain ⟨xs, S', h2, h3, h4, h5⟩ := h
 exact ⟨xs, S', y5 h2 fun g hg => hs g (h3 g hg).1 (World.ownsRow.lt h2 g hg).2, h3, h4, i8.same ss S' xs h5 fun b hb => hs b (h4 b hb)⟩
theorem ad6.same {v : Value} {p : c9} (h : ad6 w v p S) (hs : ∀ b, S b -> b < w.heap.size -> w'.heap[b]? = w.heap[b]?) : ad6 w' v p S := by
 obtain ⟨v1, v2, v3, S3, rfl, h1, h2, h3, d1, d2, d3⟩ := h
 exact ⟨v1, v2, v3, S3, rfl, y5 h1 fun g hg => hs g (d1 g hg).1 (World.ownsRow.lt h1 g hg).2, y5 h2 fun g hg => hs g (d2 g hg).1 (World.ownsRow.lt h2 g hg).2, h3.same fun b hb => hs b (d3 b hb), d1, d2, d3⟩
theorem z6.mono {v : Value} {ks : List b6} (h : z6 w v ks S) (hs : ∀ b, S b -> S' b) : z6 w v ks S' := by
 obtain ⟨xs, T, h2, h3, h4, h5⟩ := h
 exact ⟨xs, T, h2, fun g hg => ⟨hs g (h3 g hg).1, (h3 g hg).2⟩, fun b hb => hs b (h4 b hb), h5⟩
theorem A9.mono {v : Value} {ss : List b5} (h : A9 w v ss S) (hs : ∀ b, S b -> S' b) : A9 w v ss S' := by
 obtain ⟨xs, T, h2, h3, h4, h5⟩ := h
 exact ⟨xs, T, h2, fun g hg => ⟨hs g (h3 g hg).1, (h3 g hg).2⟩, fun b hb => hs b (h4 b hb), h5⟩
theorem ad6.mono {v : Value} {p : c9} (h : ad6 w v p S) (hs : ∀ b, S b -> S' b) : ad6 w v p S' := by
 obtain ⟨v1, v2, v3, S3, rfl, h1, h2, h3, d1, d2, d3⟩ := h
 exact ⟨v1, v2, v3, S3, rfl, h1, h2, h3, fun g hg => ⟨hs g (d1 g hg).1, (d1 g hg).2⟩, fun g hg => ⟨hs g (d2 g hg).1, (d2 g hg).2⟩, fun b hb => hs b (d3 b hb)⟩
mutual
theorem w3.read : ∀ (e : b6) (S : Nat -> Prop) (cs : List Value), w3 w e S cs -> (∀ b, S b -> φ b) -> E6 w φ e cs
 | ⟨_, _, ks⟩, S, _, ⟨v, xs, S', h1, h2, h3, h4, h5⟩, hs => ⟨v, xs, h1, t7 h2 fun g hg => hs g (h3 g hg).1, j1.read ks S' xs h5 fun b hb => hs b (h4 b hb)⟩
theorem j1.read : ∀ (ks : List b6) (S : Nat -> Prop) (xs : List Value), j1 w ks S xs -> (∀ b, S b -> φ b) -> n6 w φ ks xs
 | [], _, _, h, _ => h
 | e :: r, S, _, ⟨c, ys, S1, S2, h1, h2, h3, h4, h5⟩, hs => ⟨c, ys, h1, w3.read e S1 c h4 fun b hb => hs b (h2 b hb).1, j1.read r S2 ys h5 fun b hb => hs b (h3 b hb)⟩
end
theorem z6.read {v : Value} {ks : List b6} (h : z6 w v ks S) (hs : ∀ b, S b -> φ b) : j3 w φ v ks := by
 obtain ⟨xs, T, h2, h3, h4, h5⟩ := h
 exact ⟨xs, t7 h2 fun g hg => hs g (h3 g hg).1, j1.read ks T xs h5 fun b hb => hs b (h4 b hb)⟩
mutual
theorem x6.read : ∀ (s : b5) (S : Nat -> Prop) (cs : List Value), x6 w s S cs -> (∀ b, S b -> φ b) -> E1 w φ s cs
 | ⟨_, _, _, _, _, b, e⟩, S, _, ⟨iv, vv, bv, ev, xb, xe, Si, Sv, Sb, Se, Sb', Se', h1, ⟨d1, d2, d3, d4⟩, h2, h3, ⟨b1, b2, b3, b4⟩, ⟨e1, e2, e3, e4⟩⟩, hs =>
  ⟨iv, vv, bv, ev, xb, xe, h1, h2.read fun b hb => hs b (d1 b hb).1, h3.read fun b hb => hs b (d2 b hb).1,
   t7 b1 fun g hg => hs g (d3 g (b2 g hg).1).1, i8.read b Sb' xb b4 fun x hx => hs x (d3 x (b3 x hx)).1,
   t7 e1 fun g hg => hs g (d4 g (e2 g hg).1), i8.read e Se' xe e4 fun x hx => hs x (d4 x (e3 x hx))⟩
theorem i8.read : ∀ (ss : List b5) (S : Nat -> Prop) (xs : List Value), i8 w ss S xs -> (∀ b, S b -> φ b) -> m9 w φ ss xs
 | [], _, _, h, _ => h
 | s :: r, S, _, ⟨c, ys, S1, S2, h1, h2, h3, h4, h5⟩, hs => ⟨c, ys, h1, x6.read s S1 c h4 fun b hb => hs b (h2 b hb).1, i8.read r S2 ys h5 fun b hb => hs b (h3 b hb)⟩
end
theorem A9.read {v : Value} {ss : List b5} (h : A9 w v ss S) (hs : ∀ b, S b -> φ b) : z7 w φ v ss := by
 obtain ⟨xs, T, h2, h3, h4, h5⟩ := h
 exact ⟨xs, t7 h2 fun g hg => hs g (h3 g hg).1, i8.read ss T xs h5 fun b hb => hs b (h4 b hb)⟩
theorem ad6.read {v : Value} {p : c9} (h : ad6 w v p S) (hs : ∀ b, S b -> φ b) : aV5 w φ v p := by
 obtain ⟨v1, v2, v3, S3, rfl, h1, h2, h3, d1, d2, d3⟩ := h
 exact ⟨v1, v2, v3, rfl, t7 h1 fun g hg => hs g (d1 g hg).1, t7 h2 fun g hg => hs g (d2 g hg).1, h3.read fun b hb => hs b (d3 b hb)⟩
def bf1 (R : World -> (Nat -> Prop) -> Prop) (S : Nat -> Prop) : World -> (Nat -> Prop) -> Prop := fun w φ => R w S /\ ∀ b, S b -> b < w.heap.size /\ φ b
theorem bf1.nice {R : World -> (Nat -> Prop) -> Prop} (S : Nat -> Prop) (hR : ∀ w w' : World, R w S -> (∀ b, S b -> b < w.heap.size -> w'.heap[b]? = w.heap[b]?) -> R w' S) : O1 (bf1 R S) :=
 fun w w' _ _ ha ⟨h1, h2⟩ => ⟨hR w w' h1 fun b hb hlt => (ha.2 b hlt (h2 b hb).2).2, fun b hb => ⟨Nat.lt_of_lt_of_le (h2 b hb).1 ha.1, (ha.2 b (h2 b hb).1 (h2 b hb).2).1⟩⟩
theorem j1.mono : ∀ {ks : List b6} {S S' : Nat -> Prop} {xs : List Value}, j1 w ks S xs -> (∀ b, S b -> S' b) -> j1 w ks S' xs
 | [], _, _, _, h, _ => h
 | _ :: _, _, _, _, ⟨c, ys, S1, S2, h1, h2, h3, h4, h5⟩, hs => ⟨c, ys, S1, S2, h1, fun b hb => ⟨hs b (h2 b hb).1, (h2 b hb).2⟩, fun b hb => hs b (h3 b hb), h4, h5⟩
theorem i8.mono : ∀ {ks : List b5} {S S' : Nat -> Prop} {xs : List Value}, i8 w ks S xs -> (∀ b, S b -> S' b) -> i8 w ks S' xs
 | [], _, _, _, h, _ => h
 | _ :: _, _, _, _, ⟨c, ys, S1, S2, h1, h2, h3, h4, h5⟩, hs => ⟨c, ys, S1, S2, h1, fun b hb => ⟨hs b (h2 b hb).1, (h2 b hb).2⟩, fun b hb => hs b (h3 b hb), h4, h5⟩
theorem j1.snoc : ∀ {ks : List b6} {S S' T : Nat -> Prop} {xs c : List Value} {e : b6}, j1 w ks S xs -> w3 w e T c -> (∀ b, S b -> S' b /\ ¬ T b) -> (∀ b, T b -> S' b) -> j1 w (ks ++ [e]) S' (xs ++ c)
 | [], S, S', T, xs, c, e, h, k, d, f => by
  rw [show xs = [] from h]
  exact ⟨c, [], T, fun _ => False, by simp, fun b hb => ⟨f b hb, fun h => h⟩, fun b hb => hb.elim, k, rfl⟩
 | a :: r, S, S', T, _, c, e, ⟨x, ys, S1, S2, h1, h2, h3, h4, h5⟩, k, d, f =>
  ⟨x, ys ++ c, S1, fun b => S2 b \/ T b, by rw [h1, bn1], fun b hb => ⟨(d b (h2 b hb).1).1, fun h => h.elim (h2 b hb).2 (d b (h2 b hb).1).2⟩, fun b hb => hb.elim (fun h => (d b (h3 b h)).1) (f b), h4,
   j1.snoc h5 k (fun b hb => ⟨.inl hb, (d b (h3 b hb)).2⟩) fun b hb => .inr hb⟩
theorem i8.snoc : ∀ {ks : List b5} {S S' T : Nat -> Prop} {xs c : List Value} {e : b5}, i8 w ks S xs -> x6 w e T c -> (∀ b, S b -> S' b /\ ¬ T b) -> (∀ b, T b -> S' b) -> i8 w (ks ++ [e]) S' (xs ++ c)
 | [], S, S', T, xs, c, e, h, k, d, f => by
  rw [show xs = [] from h]
  exact ⟨c, [], T, fun _ => False, by simp, fun b hb => ⟨f b hb, fun h => h⟩, fun b hb => hb.elim, k, rfl⟩
 | a :: r, S, S', T, _, c, e, ⟨x, ys, S1, S2, h1, h2, h3, h4, h5⟩, k, d, f =>
  ⟨x, ys ++ c, S1, fun b => S2 b \/ T b, by rw [h1, bn1], fun b hb => ⟨(d b (h2 b hb).1).1, fun h => h.elim (h2 b hb).2 (d b (h2 b hb).1).2⟩, fun b hb => hb.elim (fun h => (d b (h3 b h)).1) (f b), h4,
   i8.snoc h5 k (fun b hb => ⟨.inl hb, (d b (h3 b hb)).2⟩) fun b hb => .inr hb⟩
theorem w3.iff (e : b6) (S : Nat -> Prop) (cs : List Value) : w3 w e S cs ↔ ∃ kv, cs = [.int .i64 e.kind, .int .i64 e.value, kv] /\ z6 w kv e.kids S := by
 cases e with
 | mk k n ks => exact ⟨fun ⟨v, xs, T, h1, h2⟩ => ⟨v, h1, xs, T, h2⟩, fun ⟨v, h1, xs, T, h2⟩ => ⟨v, xs, T, h1, h2⟩⟩
theorem x6.iff (s : b5) (S : Nat -> Prop) (cs : List Value) : x6 w s S cs ↔ ∃ (iv vv bv ev : Value) (Si Sv Sb Se : Nat -> Prop), cs = [.int .i64 s.kind, .int .i64 s.target, .int .i64 s.index.kind, .int .i64 s.index.value, iv, .int .i64 s.value.kind, .int .i64 s.value.value, vv, .int .i64 s.count, bv, ev] /\
  ((∀ b, Si b -> S b /\ ¬ Sv b /\ ¬ Sb b /\ ¬ Se b) /\ (∀ b, Sv b -> S b /\ ¬ Sb b /\ ¬ Se b) /\ (∀ b, Sb b -> S b /\ ¬ Se b) /\ (∀ b, Se b -> S b)) /\ z6 w iv s.index.kids Si /\ z6 w vv s.value.kids Sv /\ A9 w bv s.body Sb /\ A9 w ev s.els Se := by
 cases s with
 | mk k t i v c b e =>
  exact ⟨fun ⟨iv, vv, bv, ev, xb, xe, Si, Sv, Sb, Se, Sb', Se', h1, h2, h3, h4, h5, h6⟩ => ⟨iv, vv, bv, ev, Si, Sv, Sb, Se, h1, h2, h3, h4, ⟨xb, Sb', h5⟩, ⟨xe, Se', h6⟩⟩,
   fun ⟨iv, vv, bv, ev, Si, Sv, Sb, Se, h1, h2, h3, h4, ⟨xb, Sb', h5⟩, ⟨xe, Se', h6⟩⟩ => ⟨iv, vv, bv, ev, xb, xe, Si, Sv, Sb, Se, Sb', Se', h1, h2, h3, h4, h5, h6⟩⟩
end
theorem N0 {ks : List b6} {k : Nat} (h : k < ks.length) : k8 (ks.take (k + 1)) = k8 (ks.take k) + (1 + K5 ks[k]) := by
 rw [p7 _ _ h, P6]
 simp [k8]
theorem F9 (us : List Value) : ∀ (c ys : List Value) (p : Nat), c.length <= p -> setFrom (c ++ ys) p us = c ++ setFrom ys (p - c.length) us := by
 induction us with
 | nil => intro c ys p _; rfl
 | cons u r ih =>
  intro c ys p hp
  simp only [setFrom]
  rw [List.set_append_right _ _ hp, ih _ _ _ (by omega), show p + 1 - c.length = p - c.length + 1 by omega]
theorem G9 (us : List Value) : ∀ (c ys : List Value) (p : Nat), p + us.length <= c.length -> setFrom (c ++ ys) p us = setFrom c p us ++ ys := by
 induction us with
 | nil => intro c ys p _; rfl
 | cons u r ih =>
  intro c ys p hp
  simp only [bk4] at hp
  simp only [setFrom]
  rw [List.set_append_left _ _ (by omega), ih _ _ _ (by simp; omega)]
theorem U1 {c us : List Value} (h : us.length = c.length) : setFrom c 0 us = us := by
 have h1 := X3 us c 0 (by omega)
 rw [bn7, bm0 (by rw [y7]; omega)] at h1
 simpa using h1
theorem w3.len {w : World} {e : b6} {S : Nat -> Prop} {c : List Value} (h : w3 w e S c) : c.length = 3 := by
 obtain ⟨kv, rfl, _⟩ := (w3.iff e S c).1 h; rfl
theorem x6.len {w : World} {s : b5} {S : Nat -> Prop} {c : List Value} (h : x6 w s S c) : c.length = 11 := by
 obtain ⟨_, _, _, _, _, _, _, _, rfl, _⟩ := (x6.iff s S c).1 h; rfl
theorem j1.focus {w : World} : ∀ {ls : List b6} {S : Nat -> Prop} {xs : List Value}, j1 w ls S xs -> ∀ (i : Nat) (hi : i < ls.length), ∃ (c : List Value) (Sc : Nat -> Prop), w3 w ls[i] Sc c /\ (∀ b, Sc b -> S b) /\ (∀ j, j < 3 -> xs[i * 3 + j]? = c[j]?) /\
  ∀ (w' : World) (e' : b6) (c' : List Value), (∀ b, S b -> ¬ Sc b -> b < w.heap.size -> w'.heap[b]? = w.heap[b]?) -> w3 w' e' Sc c' -> j1 w' (ls.set i e') S (setFrom xs (i * 3) c')
 | [], _, _, _, i, hi => by simp at hi
 | e :: r, S, xs, ⟨c, ys, S1, S2, h1, h2, h3, h4, h5⟩, i, hi => by
  have hc := h4.len
  subst h1
  cases i with
  | zero =>
   refine ⟨c, S1, h4, fun b hb => (h2 b hb).1, fun j hj => by rw [bn6 (by omega)]; simp, fun w' e' c' hs hO => ?_⟩
   refine ⟨c', ys, S1, S2, ?_, h2, h3, hO, j1.same r S2 ys h5 fun b hb hlt => hs b (h3 b hb) (fun h => (h2 b h).2 hb) hlt⟩
   rw [Nat.zero_mul, G9 c' c ys 0 (by rw [hO.len]; omega), U1 (by rw [hO.len, hc])]
  | succ i =>
   obtain ⟨d, Sc, k1, k2, k3, k4⟩ := j1.focus h5 i (by simpa using hi)
   refine ⟨d, Sc, k1, fun b hb => h3 b (k2 b hb), fun j hj => ?_, fun w' e' c' hs hO => ?_⟩
   ·rw [List.getElem?_append_right (by rw [hc, bm5]; omega), <- k3 j hj]
    congr 1
    rw [hc, bm5]; omega
   refine ⟨c, setFrom ys (i * 3) c', S1, S2, ?_, h2, h3, w3.same e S1 c h4 fun b hb hlt => hs b (h2 b hb).1 (fun h => (h2 b hb).2 (k2 b h)) hlt, k4 w' e' c' (fun b hb hn hlt => hs b (h3 b hb) hn hlt) hO⟩
   rw [F9 c' c ys _ (by rw [hc, bm5]; omega), hc, bm5, Nat.add_sub_cancel]
theorem i8.focus {w : World} : ∀ {ls : List b5} {S : Nat -> Prop} {xs : List Value}, i8 w ls S xs -> ∀ (i : Nat) (hi : i < ls.length), ∃ (c : List Value) (Sc : Nat -> Prop), x6 w ls[i] Sc c /\ (∀ b, Sc b -> S b) /\ (∀ j, j < 11 -> xs[i * 11 + j]? = c[j]?) /\
  ∀ (w' : World) (e' : b5) (c' : List Value), (∀ b, S b -> ¬ Sc b -> b < w.heap.size -> w'.heap[b]? = w.heap[b]?) -> x6 w' e' Sc c' -> i8 w' (ls.set i e') S (setFrom xs (i * 11) c')
 | [], _, _, _, i, hi => by simp at hi
 | e :: r, S, xs, ⟨c, ys, S1, S2, h1, h2, h3, h4, h5⟩, i, hi => by
  have hc := h4.len
  subst h1
  cases i with
  | zero =>
   refine ⟨c, S1, h4, fun b hb => (h2 b hb).1, fun j hj => by rw [bn6 (by omega)]; simp, fun w' e' c' hs hO => ?_⟩
   refine ⟨c', ys, S1, S2, ?_, h2, h3, hO, i8.same r S2 ys h5 fun b hb hlt => hs b (h3 b hb) (fun h => (h2 b h).2 hb) hlt⟩
   rw [Nat.zero_mul, G9 c' c ys 0 (by rw [hO.len]; omega), U1 (by rw [hO.len, hc])]
  | succ i =>
   obtain ⟨d, Sc, k1, k2, k3, k4⟩ := i8.focus h5 i (by simpa using hi)
   refine ⟨d, Sc, k1, fun b hb => h3 b (k2 b hb), fun j hj => ?_, fun w' e' c' hs hO => ?_⟩
   ·rw [List.getElem?_append_right (by rw [hc, bm5]; omega), <- k3 j hj]
    congr 1
    rw [hc, bm5]; omega
   refine ⟨c, setFrom ys (i * 11) c', S1, S2, ?_, h2, h3, x6.same e S1 c h4 fun b hb hlt => hs b (h2 b hb).1 (fun h => (h2 b hb).2 (k2 b h)) hlt, k4 w' e' c' (fun b hb hn hlt => hs b (h3 b hb) hn hlt) hO⟩
   rw [F9 c' c ys _ (by rw [hc, bm5]; omega), hc, bm5, Nat.add_sub_cancel]
section
variable {φ ψ : Nat -> Prop} {w0 w w' : World} {L : List J0}
theorem j1.at : ∀ {ks : List b6} {S : Nat -> Prop} {xs : List Value}, j1 w ks S xs -> ∀ (i : Nat) (hi : i < ks.length), ∃ kv, xs[i * 3]? = some (.int .i64 ks[i].kind) /\ xs[i * 3 + 1]? = some (.int .i64 ks[i].value) /\ xs[i * 3 + 2]? = some kv /\ z6 w kv ks[i].kids S
 | [], _, _, _, i, hi => by simp at hi
 | e :: r, S, _, ⟨c, ys, S1, S2, h1, h2, h3, h4, h5⟩, i, hi => by
  obtain ⟨kv, rfl, hk⟩ := (w3.iff e S1 c).1 h4
  subst h1
  cases i with
  | zero => exact ⟨kv, rfl, rfl, rfl, hk.mono fun b hb => (h2 b hb).1⟩
  | succ i =>
   obtain ⟨kv', a, b, d, f⟩ := j1.at h5 i (by simpa using hi)
   refine ⟨kv', ?_, ?_, ?_, f.mono h3⟩ <;> (rw [bm5]; simpa [Nat.add_assoc] using by assumption)
theorem z6.open {v : Value} {ks : List b6} {S : Nat -> Prop} (h : z6 w v ks S) : ∃ a cap, v = .slice a ks.length cap /\ ks.length <= cap /\ ks.length <= 9223372036854775807 /\ cap <= 9223372036854775807 /\
  ∀ i (hi : i < ks.length), ∃ b off kv, a = some ⟨b, off, none⟩ /\ b < w.heap.size /\ S b /\ w.cell? ⟨b, off + i * 3, none⟩ = some (.int .i64 ks[i].kind) /\ w.cell? ⟨b, off + i * 3 + 1, none⟩ = some (.int .i64 ks[i].value) /\ w.cell? ⟨b, off + i * 3 + 2, none⟩ = some kv /\ z6 w kv ks[i].kids S := by
 obtain ⟨xs, S', h2, h3, h4, h5⟩ := h
 obtain ⟨hl, a, cap, hv, n1, n2, n3⟩ := t7 (φ := fun g => S g /\ ¬ S' g) h2 h3
 unfold maxLen at n2
 refine ⟨a, cap, hv, n1, by omega, by omega, fun i hi => ?_⟩
 obtain ⟨b, off, he, hb, hf, hc⟩ := n3 (by omega)
 obtain ⟨kv, e0, e1, e2, hk⟩ := h5.at i hi
 exact ⟨b, off, kv, he, hb, hf.1, hc _ _ e0, hc _ _ e1, hc _ _ e2, hk.mono h4⟩
theorem z6.nil (w : World) (S : Nat -> Prop) : z6 w (.slice none 0 0) [] S := ⟨[], fun _ => False, World.ownsRow_nil _ _ _ _, (fun g hg => by cases hg), fun _ h => h.elim, rfl⟩
end
theorem P9 (us : List Value) : ∀ (ys : List Value) (p q : Nat), p + us.length <= ys.length -> (setFrom ys p us)[q]? = if p <= q /\ q < p + us.length then us[q - p]? else ys[q]? := by
 induction us with
 | nil => intro ys p q _; simp only [setFrom, bk7]; split; omega; rfl
 | cons u r ih =>
  intro ys p q h
  simp only [bk4] at h
  simp only [setFrom, bk4]
  rw [ih _ _ _ (by simp; omega)]
  by_cases h1 : q = p
  ·subst h1
   rw [if_neg (by omega), if_pos (by omega), List.getElem?_set_self (by omega), Nat.sub_self]; rfl
  by_cases h2 : p + 1 <= q /\ q < p + 1 + r.length
  ·rw [if_pos h2, if_pos (by omega), show q - p = q - (p + 1) + 1 by omega]; rfl
  rw [if_neg h2, if_neg (by omega), List.getElem?_set_ne (by omega)]
theorem X4 {xs cs : List Value} {p : Nat} (h : p + cs.length <= xs.length) (hc : ∀ j, j < cs.length -> xs[p + j]? = cs[j]?) : setFrom xs p cs = xs := by
 apply List.ext_getElem?
 intro q
 rw [P9 _ _ _ _ h]
 split
 ·rename_i h1
  rw [<- hc _ (by omega)]; congr 1; omega
 rfl
theorem ac8 {xs cs : List Value} {p k : Nat} (u : Value) (h : p + cs.length <= xs.length) (hk : k < cs.length) : (setFrom xs p cs).set (p + k) u = setFrom xs p (cs.set k u) := by
 apply List.ext_getElem?
 intro q
 rw [P9 _ _ _ _ (by simpa using h), List.getElem?_set, P9 _ _ _ _ h, y7, List.length_set]
 by_cases h1 : p + k = q
 ·subst h1
  rw [if_pos rfl, if_pos (by omega), if_pos (by omega), Nat.add_sub_cancel_left, List.getElem?_set_self hk]
 rw [if_neg h1]
 split
 ·rw [List.getElem?_set_ne (by omega)]
 rfl
def J0.plain : J0 -> Prop
 | .dat _ => False
 | _ => True
theorem J0.holds_plain {w : World} {φ φ' : Nat -> Prop} {r : J0} (hp : r.plain) (h : r.holds w φ) : r.holds w φ' := by
 cases r with
 | dat R => exact hp.elim
 | box b cs => exact h
 | row e sz v n xs => exact h
 | own S R => exact h
theorem w9.adopt {φ ψ : Nat -> Prop} {w0 w : World} {L : List J0} (M : w9 φ ψ w0 w L) (r : J0) (hL : ∀ a ∈ L, a.plain) (hp : r.plain) (h : r.holds w (fun _ => True)) (hd : ∀ a ∈ L, ∀ g, r.blk g -> ¬ a.blk g) (hg : ∀ g, r.blk g -> ¬ ψ g) : w9 φ ψ w0 w (L ++ [r]) := by
 have get : ∀ (i : Nat) (x : J0), (L ++ [r])[i]? = some x -> (i < L.length /\ x ∈ L /\ L[i]? = some x) \/ (i = L.length /\ x = r) := by
  intro k z hz
  rcases bn0 k L.length with hk | hk
  ·rw [bn6 hk] at hz; exact .inl ⟨hk, bl8 hz, hz⟩
  rw [List.getElem?_append_right hk] at hz
  have : k - L.length = 0 := by
   rcases Nat.eq_zero_or_pos (k - L.length) with h | h
   ·exact h
   rw [bm7 (by rw [List.length_singleton]; exact h)] at hz; cases hz
  rw [this] at hz; simp at hz
  exact .inr ⟨by omega, hz.symm⟩
 refine ⟨M.kept, M.fresh, fun x hx => ?_, fun i j x y g hi hj hij hx hy => ?_, fun x g hx hxg => ?_⟩
 ·rcases bm1.1 hx with hx | hx
  ·exact J0.holds_plain (hL x hx) (M.holds x hx)
  rw [List.mem_singleton] at hx; subst hx; exact J0.holds_plain hp h
 ·rcases get i x hi with ⟨hi1, hi2, hi3⟩ | ⟨hi1, rfl⟩ <;> rcases get j y hj with ⟨hj1, hj2, hj3⟩ | ⟨hj1, rfl⟩
  ·exact M.dis i j x y g hi3 hj3 hij hx hy
  ·exact hd x hi2 g hy hx
  ·exact hd y hj2 g hx hy
  omega
 rcases bm1.1 hx with hx | hx
 ·exact M.ge x g hx hxg
 rw [List.mem_singleton] at hx; subst hx; exact .inr (hg g hxg)
section
variable {w : World}
mutual
theorem w3.cut : ∀ (e : b6) (S : Nat -> Prop) (cs : List Value), w3 w e S cs -> w3 w e (fun b => S b /\ b < w.heap.size) cs
 | ⟨_, _, ks⟩, _, _, ⟨v, xs, S', h1, h2, h3, h4, h5⟩ => ⟨v, xs, fun b => S' b /\ b < w.heap.size, h1, h2, fun g hg => ⟨⟨(h3 g hg).1, (World.ownsRow.lt h2 g hg).2⟩, fun h => (h3 g hg).2 h.1⟩, fun b hb => ⟨h4 b hb.1, hb.2⟩, j1.cut ks S' xs h5⟩
theorem j1.cut : ∀ (ks : List b6) (S : Nat -> Prop) (xs : List Value), j1 w ks S xs -> j1 w ks (fun b => S b /\ b < w.heap.size) xs
 | [], _, _, h => h
 | e :: r, _, _, ⟨c, ys, S1, S2, h1, h2, h3, h4, h5⟩ => ⟨c, ys, fun b => S1 b /\ b < w.heap.size, fun b => S2 b /\ b < w.heap.size, h1, fun b hb => ⟨⟨(h2 b hb.1).1, hb.2⟩, fun h => (h2 b hb.1).2 h.1⟩, fun b hb => ⟨h3 b hb.1, hb.2⟩, w3.cut e S1 c h4, j1.cut r S2 ys h5⟩
end
theorem z6.cut {v : Value} {ks : List b6} {S : Nat -> Prop} (h : z6 w v ks S) : z6 w v ks (fun b => S b /\ b < w.heap.size) := by
 obtain ⟨xs, S', h2, h3, h4, h5⟩ := h
 exact ⟨xs, fun b => S' b /\ b < w.heap.size, h2, fun g hg => ⟨⟨(h3 g hg).1, (World.ownsRow.lt h2 g hg).2⟩, fun h => (h3 g hg).2 h.1⟩, fun b hb => ⟨h4 b hb.1, hb.2⟩, j1.cut ks S' xs h5⟩
mutual
theorem x6.cut : ∀ (s : b5) (S : Nat -> Prop) (cs : List Value), x6 w s S cs -> x6 w s (fun b => S b /\ b < w.heap.size) cs
 | ⟨_, _, _, _, _, b, e⟩, _, _, ⟨iv, vv, bv, ev, xb, xe, Si, Sv, Sb, Se, Sb', Se', h1, ⟨d1, d2, d3, d4⟩, h2, h3, ⟨b1, b2, b3, b4⟩, ⟨e1, e2, e3, e4⟩⟩ =>
  ⟨iv, vv, bv, ev, xb, xe, fun b => Si b /\ b < w.heap.size, fun b => Sv b /\ b < w.heap.size, fun b => Sb b /\ b < w.heap.size, fun b => Se b /\ b < w.heap.size, fun b => Sb' b /\ b < w.heap.size, fun b => Se' b /\ b < w.heap.size, h1,
   ⟨fun b hb => ⟨⟨(d1 b hb.1).1, hb.2⟩, fun h => (d1 b hb.1).2.1 h.1, fun h => (d1 b hb.1).2.2.1 h.1, fun h => (d1 b hb.1).2.2.2 h.1⟩, fun b hb => ⟨⟨(d2 b hb.1).1, hb.2⟩, fun h => (d2 b hb.1).2.1 h.1, fun h => (d2 b hb.1).2.2 h.1⟩,
    fun b hb => ⟨⟨(d3 b hb.1).1, hb.2⟩, fun h => (d3 b hb.1).2 h.1⟩, fun b hb => ⟨d4 b hb.1, hb.2⟩⟩, h2.cut, h3.cut,
   ⟨b1, fun g hg => ⟨⟨(b2 g hg).1, (World.ownsRow.lt b1 g hg).2⟩, fun h => (b2 g hg).2 h.1⟩, fun b hb => ⟨b3 b hb.1, hb.2⟩, i8.cut b Sb' xb b4⟩,
   ⟨e1, fun g hg => ⟨⟨(e2 g hg).1, (World.ownsRow.lt e1 g hg).2⟩, fun h => (e2 g hg).2 h.1⟩, fun b hb => ⟨e3 b hb.1, hb.2⟩, i8.cut e Se' xe e4⟩⟩
theorem i8.cut : ∀ (ks : List b5) (S : Nat -> Prop) (xs : List Value), i8 w ks S xs -> i8 w ks (fun b => S b /\ b < w.heap.size) xs
 | [], _, _, h => h
 | e :: r, _, _, ⟨c, ys, S1, S2, h1, h2, h3, h4, h5⟩ => ⟨c, ys, fun b => S1 b /\ b < w.heap.size, fun b => S2 b /\ b < w.heap.size, h1, fun b hb => ⟨⟨(h2 b hb.1).1, hb.2⟩, fun h => (h2 b hb.1).2 h.1⟩, fun b hb => ⟨h3 b hb.1, hb.2⟩, x6.cut e S1 c h4, i8.cut r S2 ys h5⟩
end
theorem A9.cut {v : Value} {ks : List b5} {S : Nat -> Prop} (h : A9 w v ks S) : A9 w v ks (fun b => S b /\ b < w.heap.size) := by
 obtain ⟨xs, S', h2, h3, h4, h5⟩ := h
 exact ⟨xs, fun b => S' b /\ b < w.heap.size, h2, fun g hg => ⟨⟨(h3 g hg).1, (World.ownsRow.lt h2 g hg).2⟩, fun h => (h3 g hg).2 h.1⟩, fun b hb => ⟨h4 b hb.1, hb.2⟩, i8.cut ks S' xs h5⟩
end
section
variable {φ ψ : Nat -> Prop} {w0 w : World} {L : List J0}
end
section
variable {P : Program}
structure M8 (wr w : World) (S : Nat -> Prop) : Prop where
 below : Below wr.heap.size wr w
 box : ∀ b, S b -> wr.heap.size <= b /\ b < w.heap.size
theorem M8.start (w : World) : M8 w w.drew fun _ => False := ⟨(Below.refl _ _).drew, fun _ h => h.elim⟩
theorem M8.call {wr w w' : World} {S : Nat -> Prop} (h : M8 wr w S) (b : Below w.heap.size w w') : M8 wr w' S := ⟨h.below.trans (b.mono h.below.size), fun c hc => ⟨(h.box c hc).1, Nat.lt_of_lt_of_le (h.box c hc).2 b.size⟩⟩
theorem M8.new {wr w w' : World} {S : Nat -> Prop} (h : M8 wr w S) (b : Below w.heap.size w w') (hs : w.heap.size < w'.heap.size) : M8 wr w' fun c => S c \/ c = w.heap.size :=
 ⟨h.below.trans (b.mono h.below.size), fun c hc => by
  rcases hc with hc | rfl
  ·exact ⟨(h.box c hc).1, Nat.lt_of_lt_of_le (h.box c hc).2 b.size⟩
  exact ⟨h.below.size, hs⟩⟩
def RF (φ S : Nat -> Prop) (b : Nat) : Prop := φ b /\ ¬ S b
theorem M8.fresh {wr w : World} {S φ : Nat -> Prop} (h : M8 wr w S) (hf : ∀ b, wr.heap.size <= b -> φ b) : ∀ b, w.heap.size <= b -> RF φ S b := fun b hb => ⟨hf b (bk9 h.below.size hb), fun hs => by have := (h.box b hs).2; omega⟩
theorem M8.old {wr w : World} {S φ : Nat -> Prop} (h : M8 wr w S) {R : World -> (Nat -> Prop) -> Prop} (hn : O1 R) (hr : R wr φ) : R w (RF φ S) :=
 hn _ _ _ _ ⟨h.below.size, fun b hb hf => ⟨⟨hf, fun hs => by have := (h.box b hs).1; omega⟩, h.below.block b hb⟩⟩ hr
end
theorem w9.region {φ ψ : Nat -> Prop} {w0 wr w : World} {L : List J0} {S : Nat -> Prop} (M : w9 φ ψ w0 wr L) (hg : M8 wr w S) {g : Nat} {cs : List Value} (hb : K8 w g cs) (hs : S g) : w9 φ ψ w0 w (L ++ [.box g cs]) :=
 M.add hg.below _ hb fun g' h => by cases h; exact (hg.box _ hs).1
theorem RF.app {φ S : Nat -> Prop} {L : List J0} {b : Nat} (h : RF (Fr φ L) S b) (X : List J0) (hX : ∀ r ∈ X, ∀ g, r.blk g -> S g) : Fr φ (L ++ X) b :=
 ⟨h.1.1, fun r hr he => by
  rcases bm1.1 hr with hr | hr
  ·exact h.1.2 r hr he
  exact h.2 (hX r hr b he)⟩
section
variable {P : Program}
def R1 (ops : Array Oper) : Bool := (bm3 ops.size).all fun j => (ops[j]?).any fun o => o.after.all fun e => !Region.binds .any e || decide (e.on < j)
theorem ak1 {ops : Array Oper} (hb : R1 ops = true) {k : Nat} {o : Oper} (hk : k < ops.size) (ho : ops[k]? = some o) {e : Edge} (he : e ∈ o.after) (hbi : Region.binds .any e = true) : e.on < k := by
 have h1 := bk6.1 hb k (List.mem_range.2 hk)
 rw [ho] at h1
 simp only [Option.any_some] at h1
 have h2 := Array.all_eq_true'.1 h1 e he
 rw [hbi] at h2
 simpa using h2
theorem at5 {ops : Array Oper} (hb : R1 ops = true) {listed : Array Bool} (hsz : listed.size = ops.size) : ∀ k, k < ops.size -> listed.getD k true = false -> Region.ready .any ops listed ≠ [] := by
 intro k
 induction k using Nat.strongRecOn with
 | _ k ih =>
  intro hk hl hn
  by_cases hall : ∃ j, j < k /\ listed.getD j true = false
  ·obtain ⟨j, hj, hlj⟩ := hall
   exact ih j hj (by omega) hlj hn
  have hok : ops[k]? = some ops[k] := Array.getElem?_eq_getElem hk
  have : k ∈ Region.ready .any ops listed := by
   refine mem_ready.2 ⟨hl, ops[k], hok, fun e he hbi => ?_⟩
   have h2 := ak1 hb hk hok he hbi
   cases h3 : listed.getD e.on true
   ·exact absurd ⟨e.on, h2, h3⟩ hall
   have : e.on < listed.size := by omega
   simp [this] at h3 ⊢
   exact h3
  rw [hn] at this
  cases this
theorem aH3 {a : Array Bool} {j : Nat} (h : j < a.size) : a.getD j true = a.getD j false := by simp [h]
end
end Go.Proofs.YtcahndjigkledaaDoor

namespace Go.Proofs.YtcahndjigkledaaDoor
def e7 (k : Int) : Int := if k = 1 \/ k = 2 then 0 else if k = 3 then 1 else if 4 <= k /\ k <= 10 then 2 else if k = 11 then 3 else -1
def v8 (nv na : Nat) (k : Int) : Int := if k = 1 then 256 else if k = 2 then nv else if k = 3 then na else 1
def B6 (e : b6) : Bool := decide (e.kind = 1) || decide (e.kind = 2)
def s5 (nv na : Nat) (e : b6) : Bool := decide ((e.kids.length : Int) = e7 e.kind) && decide (0 <= e.value) && decide (e.value < v8 nv na e.kind)
def L8 (e : b6) : Bool := decide (e.kind ≠ 3) || (match e.kids with | k :: _ => B6 k | [] => false)
def d7 (nv na : Nat) : Nat -> b6 -> Bool
 | 0, _ => false
 | d + 1, e => s5 nv na e && e.kids.all (d7 nv na d) && L8 e
def P0 : Nat -> b6 -> Nat
 | 0, _ => 1
 | d + 1, e => 1 + (e.kids.map (P0 d)).sum
def c7 (nv na : Nat) (e : b6) : Bool := d7 nv na 5 e && decide (1 + K5 e <= 15)
theorem I5 (e : b6) : K5 e = k8 e.kids := by cases e; rfl
theorem ax0 (nv na : Nat) : ∀ (d : Nat) (e : b6), d7 nv na d e = true -> P0 d e = 1 + K5 e := by
 intro d
 induction d with
 | zero => intro e h; simp [d7] at h
 | succ d ih =>
  intro e h
  simp only [d7, bk0, bk6] at h
  rw [P0, I5]
  have key : ∀ ks : List b6, (∀ e ∈ ks, d7 nv na d e = true) -> (ks.map (P0 d)).sum = k8 ks := by
   intro ks
   induction ks with
   | nil => intro _; rfl
   | cons a r ihr => intro hk; rw [bm8, List.sum_cons, k8, ihr fun e he => hk e (bl9 _ he), ih a (hk a bl2)]
  rw [key _ h.1.2]
theorem az8 (nv na : Nat) (e : b6) : c7 nv na e = (d7 nv na 5 e && decide (P0 5 e <= 15)) := by
 unfold c7
 cases h : d7 nv na 5 e
 ·rfl
 rw [ax0 nv na 5 e h]
def n4 (nv na : Nat) (d c : Nat) (e : b6) : Bool := d7 nv na d e && decide (c + 1 + K5 e <= 15)
def m8 (nv na : Nat) (d c : Nat) (ks : List b6) (k : Nat) : Bool := (ks.take k).all (d7 nv na d) && decide (c + k8 (ks.take k) <= 15)
theorem al8 {ks : List b6} {k : Nat} (h : k < ks.length) : k8 (ks.take (k + 1)) = k8 (ks.take k) + (1 + K5 ks[k]) := by
 rw [B5 _ _ h, P6]
 simp [k8]
theorem ao1 (ks : List b6) (k : Nat) : k8 (ks.take k) <= k8 ks := by
 have := P6 (ks.take k) (ks.drop k)
 rw [List.take_append_drop] at this
 omega
theorem H8 (nv na : Nat) {d c : Nat} {ks : List b6} {k : Nat} (h : k < ks.length) : m8 nv na d c ks (k + 1) = (m8 nv na d c ks k && n4 nv na d (c + k8 (ks.take k)) ks[k]) := by
 unfold m8 n4
 rw [al8 h, B5 _ _ h, List.all_append]
 simp only [List.all_cons, List.all_nil, Bool.and_true]
 rw [bm4]
 simp only [bk0, decide_eq_true_eq]
 constructor
 ·rintro ⟨⟨h1, h2⟩, h3⟩; exact ⟨⟨h1, by omega⟩, h2, by omega⟩
 rintro ⟨⟨h1, _⟩, h3, h4⟩; exact ⟨⟨h1, h3⟩, by omega⟩
theorem ao7 (nv na : Nat) {d c : Nat} {ks : List b6} {k : Nat} (h : k < ks.length) (hs : n4 nv na d (c + k8 (ks.take k)) ks[k] = false) : (ks.all (d7 nv na d) && decide (c + k8 ks <= 15)) = false := by
 rw [Bool.eq_false_iff]
 intro ht
 simp only [bk0, decide_eq_true_eq, bk6] at ht
 have h1 := ht.1 _ (bk8 h)
 have h2 := ao1 ks (k + 1)
 rw [al8 h] at h2
 unfold n4 at hs
 rw [h1] at hs
 simp at hs
 omega
def noneB (e : b6) : Bool := decide (e.kind = 0) && decide (e.value = 0) && decide (e.kids.length = 0)
def i6 (s : b5) : Bool :=
 if (s.kind = 3 \/ s.kind = 4) then
  decide (s.target = 0) && (if s.kind = 4 then decide (s.els.length = 0) && decide (1 <= s.count) && decide (s.count <= 3) && noneB s.index && noneB s.value
   else decide (s.count = 0) && noneB s.index)
 else decide (s.body.length = 0) && decide (s.els.length = 0) && decide (s.count = 0) && (decide (s.kind = 2) || noneB s.index)
def d8 (nv na : Nat) : Nat -> b5 -> Bool
  | 0, _ => false
  | d + 1, s => i6 s &&
    (if s.kind = 1 \/ s.kind = 5 then decide (0 <= s.target) && decide (s.target < nv) && c7 nv na s.value
     else if s.kind = 2 then decide (0 <= s.target) && decide (s.target < na) && c7 nv na s.index && B6 s.index && c7 nv na s.value
     else if s.kind = 3 then c7 nv na s.value && s.body.all (d8 nv na d) && s.els.all (d8 nv na d)
     else if s.kind = 4 then s.body.all (d8 nv na d)
     else false)
def V4 (nv na : Nat) (d : Nat) (ss : List b5) : Bool := ss.all (d8 nv na d)
mutual
def nS : b5 -> Nat
 | ⟨_, _, _, _, _, b, e⟩ => 1 + J3 b + J3 e
def J3 : List b5 -> Nat
 | [] => 0
 | s :: r => nS s + J3 r
end
def o9 (p : c9) : Bool := x4 p.vars p.arrays && V4 p.vars.length p.arrays.length 5 p.body && decide (J3 p.body <= 60)
end Go.Proofs.YtcahndjigkledaaDoor

namespace Go.Proofs.YtcahndjigkledaaDoor
open Go Go.RowKit
theorem O4 (l : Int) (w : World) : Calls Tryd.prog 52 #[.int .i64 l] w fun e w' => e = .returned (.bool (n8 l)) /\ w = w' := by
 go_enter Tryd.func52, Tryd.ntmps52
 go_wp2
 all_goals go_ret
 all_goals exact ⟨j4 (by simp [n8]; try omega), rfl⟩
theorem ao3 (v1 v2 v3 : Value) (vars arrays : List Int) (w : World) (h1 : L0 w v1 vars.length 1 (ints vars)) (h2 : L0 w v2 arrays.length 1 (ints arrays)) :
  Calls Tryd.prog 36 #[.agg #[v1, v2, v3]] w fun e w' => e = .returned (.bool (x4 vars arrays)) /\ Below w.heap.size w w' := by
 have B0 : Below w.heap.size w (w.alloc (.cells #[v1, v2, v3] 30)) := by go_grown
 obtain ⟨a1, c1, rfl, -, hm1, -, hc1⟩ := (h1.below B0).open1
 obtain ⟨a2, c2, rfl, -, hm2, -, hc2⟩ := (h2.below B0).open1
 have HT : Hid (x4 vars arrays = (vars.all n8 && arrays.all n8 && decide (1 <= vars.length) && decide (vars.length <= 12) && decide (arrays.length <= 2))) := rfl
 clear h1 h2
 go_enter Tryd.func36, Tryd.ntmps36
 go_wp2_with fail
 go_loop [3] (fun i => ∃ k : Nat, k <= vars.length /\ i = .int .i64 k /\ (vars.take k).all n8 = true) (fun i => vars.length - (intOf i).toNat)
 case atStart => exact ⟨0, Nat.zero_le _, rfl, rfl⟩
 case round =>
  obtain ⟨k, hk, rfl, ha⟩ := hrel
  have HA := show Hid _ from ha
  clear ha
  by_cases hlt : k < vars.length
  ·obtain ⟨b1, o1, rfl, hb1, hx⟩ := hc1 k hlt
   rw [ai4 _ _ hlt] at hx
   have HS := show Hid _ from K7 n8 vars k hlt
   clear hc1 hc2
   cases hl : n8 vars[k]
   all_goals
    have HL := show Hid _ from hl
    clear hl
    go_wp2_with fail
    refine (O4 _ _).mono ?_
    rintro e w1 ⟨rfl, rfl⟩
    rw [HL.out]
    go_wp2_with fail
   ·go_ret
    exact ⟨j4 (by rw [HT.out, ae5 hlt HL.out]; rfl), B0⟩
   go_round
   case rel => exact ⟨k + 1, by omega, by go_num, by rw [HS.out, HA.out, HL.out]; rfl⟩
   case measure => simp [intOf]; omega
  have HA' := show Hid (vars.all n8 = true) from by have := HA.out; rwa [bm0 (by omega)] at this
  clear HA hc1
  go_wp2_with fail
  go_loop [4] (fun i => ∃ k : Nat, k <= arrays.length /\ i = .int .i64 k /\ (arrays.take k).all n8 = true) (fun i => arrays.length - (intOf i).toNat)
  case atStart => exact ⟨0, Nat.zero_le _, rfl, rfl⟩
  case round =>
   obtain ⟨j, hj, rfl, ha⟩ := hrel
   have HB := show Hid _ from ha
   clear ha
   by_cases hlj : j < arrays.length
   ·obtain ⟨b1, o1, rfl, hb1, hx⟩ := hc2 j hlj
    rw [ai4 _ _ hlj] at hx
    have HS := show Hid _ from K7 n8 arrays j hlj
    clear hc2
    cases hl : n8 arrays[j]
    all_goals
     have HL := show Hid _ from hl
     clear hl
     go_wp2_with fail
     refine (O4 _ _).mono ?_
     rintro e w1 ⟨rfl, rfl⟩
     rw [HL.out]
     go_wp2_with fail
    ·go_ret
     exact ⟨j4 (by rw [HT.out, ae5 hlj HL.out]; simp), B0⟩
    go_round
    case rel => exact ⟨j + 1, by omega, by go_num, by rw [HS.out, HB.out, HL.out]; rfl⟩
    case measure => simp [intOf]; omega
   have HB' := show Hid (arrays.all n8 = true) from by have := HB.out; rwa [bm0 (by omega)] at this
   clear HB hc2
   go_wp2_with fail
   all_goals go_ret
   all_goals refine ⟨j4 ?_, B0⟩
   all_goals rw [HT.out, HA'.out, HB'.out]
   all_goals rw [bm4]
   all_goals simp
   all_goals omega
theorem K1 {nv na : Nat} {e : b6} (h : s5 nv na e = true) : (e.kids.length : Int) = e7 e.kind /\ 0 <= e.value /\ e.value < v8 nv na e.kind := by
 unfold s5 at h; simp at h; exact ⟨h.1.1, h.1.2, h.2⟩
theorem am3 {e : b6} (h3 : e.kind = 3) (hl : 0 < e.kids.length) : L8 e = (decide (e.kids[0].kind = 1) || decide (e.kids[0].kind = 2)) := by
 rcases e with ⟨k, n, ks⟩
 cases ks with
 | nil => simp [b6.kids] at hl
 | cons a r =>
  have h3' : k = 3 := h3
  subst h3'
  simp only [L8, b6.kids, List.getElem_cons_zero, B6]
  rw [decide_eq_false (by simp [b6.kind])]
  rfl
theorem F4 {nv na d : Nat} {e : b6} (h : d7 nv na (d + 1) e = true) : e.kids.length <= 3 /\ ∀ x ∈ e.kids, d7 nv na d x = true := by
 simp only [d7, s5, bk0, decide_eq_true_eq, bk6] at h
 refine ⟨?_, h.1.2⟩
 have h1 := h.1.1.1.1
 have : e7 e.kind <= 3 := by unfold e7; (repeat' split) <;> omega
 omega
theorem ay9 {ks : List b6} {B : Nat} (h : ∀ x ∈ ks, 1 + K5 x <= B) : k8 ks <= ks.length * B := by
 induction ks with
 | nil => simp [k8]
 | cons a r ih =>
  have h1 := h a bl2
  have h2 := ih fun x hx => h x (bl9 _ hx)
  simp only [k8, bk4, bm5]; omega
theorem aO2 (nv na : Nat) : ∀ (d : Nat) (e : b6), d7 nv na d e = true -> 1 + K5 e <= 4 ^ d := by
 intro d
 induction d with
 | zero => intro e h; simp [d7] at h
 | succ d ih =>
  intro e h
  obtain ⟨h1, h2⟩ := F4 h
  have h3 := ay9 (ks := e.kids) fun x hx => ih x (h2 x hx)
  have h4 : e.kids.length * 4 ^ d <= 3 * 4 ^ d := bn3 _ h1
  have h5 : 0 < 4 ^ d := Nat.pos_of_ne_zero (by simp)
  rw [I5, Nat.pow_succ]
  omega
theorem p8 (n lo hi : Int) (w : World) : Calls Tryd.prog 64 #[.int .i64 n, .int .i64 lo, .int .i64 hi] w fun e w' => e = .returned (.bool (decide (lo <= n) && decide (n <= hi))) /\ w = w' := by
 go_enter Tryd.func64, Tryd.ntmps64
 go_wp2
 all_goals go_ret
 all_goals exact ⟨j4 (by simp; try omega), rfl⟩
theorem ad9 (l : Int) (w : World) : Calls Tryd.prog 70 #[.int .i64 l] w fun e w' => e = .returned (.bool (n8 l)) /\ w = w' := by
 go_enter Tryd.func70, Tryd.ntmps70
 go_wp2_with fail
 refine (p8 l 0 3 _).mono ?_
 rintro e w1 ⟨rfl, rfl⟩
 go_wp2_with fail
 go_ret
 exact ⟨rfl, rfl⟩
theorem ad8 (l : Int) (w : World) : Calls Tryd.prog 69 #[.int .i64 l] w fun e w' => e = .returned (.bool (!n8 l)) /\ w = w' := by
 go_enter Tryd.func69, Tryd.ntmps69
 go_wp2_with fail
 refine (ad9 l _).mono ?_
 rintro e w1 ⟨rfl, rfl⟩
 go_wp2_with fail
 go_ret
 exact ⟨rfl, rfl⟩
theorem ak5 (p : Int -> Bool) (f : FuncId) (v : Value) (xs : List Int) (w : World) (h : L0 w v xs.length 1 (ints xs)) (he : ∀ args w, (callFunc f args).run Tryd.prog w = .ok (.enter f args) w)
  (hf : ∀ x w', Calls Tryd.prog f #[.int .i64 x] w' fun e w'' => e = .returned (.bool (p x)) /\ w' = w'') :
  Calls Tryd.prog 92 #[v, .func (.func f) #[] #[]] w fun e w' => ∃ r : Int, e = .returned (.int .i64 r) /\ decide (0 <= r) = xs.any p /\ w = w' := by
 obtain ⟨a1, c1, rfl, -, hm1, -, hc1⟩ := h.open1
 have HF := show Hid _ from hf
 clear h hf
 go_enter Tryd.func92, Tryd.ntmps92
 go_wp2_with fail
 go_loop [5, 8] (fun _ i => ∃ k : Nat, k <= xs.length /\ i = .int .i64 k /\ (xs.take k).any p = false) (fun _ i => xs.length - (intOf i).toNat)
 case atStart => exact ⟨0, Nat.zero_le _, rfl, rfl⟩
 case round =>
  obtain ⟨k, hk, rfl, ha⟩ := hrel
  have HA := show Hid _ from ha
  clear ha
  by_cases hlt : k < xs.length
  ·obtain ⟨b1, o1, rfl, hb1, hx⟩ := hc1 k hlt
   rw [ai4 _ _ hlt] at hx
   clear hc1
   cases hp : p xs[k]
   all_goals
    have HP := show Hid _ from hp
    clear hp
    go_wp2_with fail
    refine (HF.out xs[k] _).mono ?_
    rintro e w1 ⟨rfl, rfl⟩
    rw [HP.out]
    go_wp2_with fail
   ·go_round
    case rel => exact ⟨k + 1, by omega, by go_num, by rw [p7 _ _ hlt, List.any_append, HA.out]; simp [HP.out]⟩
    case measure => simp [intOf]; omega
   go_ret
   exact ⟨_, rfl, by rw [decide_eq_true (by omega)]; symm; rw [List.any_eq_true]; exact ⟨_, bk8 hlt, HP.out⟩, rfl⟩
  go_wp2_with fail
  go_ret
  refine ⟨_, rfl, ?_, rfl⟩
  have := HA.out
  rw [bm0 (by omega)] at this
  rw [this]; rfl
theorem ab1 (p : Int -> Bool) (f : FuncId) (v : Value) (xs : List Int) (w : World) (h : L0 w v xs.length 1 (ints xs)) (he : ∀ args w, (callFunc f args).run Tryd.prog w = .ok (.enter f args) w)
  (hf : ∀ x w', Calls Tryd.prog f #[.int .i64 x] w' fun e w'' => e = .returned (.bool (p x)) /\ w' = w'') :
  Calls Tryd.prog 68 #[v, .func (.func f) #[] #[]] w fun e w' => e = .returned (.bool (xs.any p)) /\ w = w' := by
 obtain ⟨a1, c1, rfl, -⟩ := h.open1
 have HF := show Hid _ from hf
 have HE := show Hid _ from he
 clear hf he
 go_enter Tryd.func68, Tryd.ntmps68
 go_wp2_with fail
 refine (ak5 p f _ xs _ h HE.out HF.out).mono ?_
 rintro e w1 ⟨r, rfl, hr, rfl⟩
 have HR := show Hid _ from hr
 clear hr
 go_wp2_with fail
 go_ret
 exact ⟨j4 HR.out, rfl⟩
theorem ay1 (xs : List Int) : (!xs.any fun l => !n8 l) = xs.all n8 := by
 induction xs with
 | nil => rfl
 | cons x r ih => simp only [List.any_cons, List.all_cons, <- ih]; cases n8 x <;> simp
theorem D7 (v : Value) (xs : List Int) (w : World) (h : L0 w v xs.length 1 (ints xs)) :
  Calls Tryd.prog 38 #[v] w fun e w' => e = .returned (.bool (xs.all n8)) /\ w = w' := by
 obtain ⟨a1, c1, rfl, -⟩ := h.open1
 go_enter Tryd.func38, Tryd.ntmps38
 go_wp2_with fail
 refine (ab1 (fun l => !n8 l) 69 _ xs _ h (am9 Tryd.func69 (by kernel_rfl) rfl) (fun x w' => ad8 x w')).mono ?_
 rintro e w1 ⟨rfl, rfl⟩
 have HN := show Hid _ from ay1 xs
 go_wp2_with fail
 go_ret
 exact ⟨j4 HN.out, rfl⟩
theorem ak8 (v1 v2 : Value) (vars arrays : List Int) (w : World) (h1 : L0 w v1 vars.length 1 (ints vars)) (h2 : L0 w v2 arrays.length 1 (ints arrays)) :
  Calls Tryd.prog 34 #[v1, v2] w fun e w' => e = .returned (.bool (x4 vars arrays)) /\ w = w' := by
 obtain ⟨a1, c1, rfl, -, q1, -⟩ := h1.open1
 obtain ⟨a2, c2, rfl, -, q2, -⟩ := h2.open1
 have HT : Hid (x4 vars arrays = (vars.all n8 && arrays.all n8 && decide (1 <= vars.length) && decide (vars.length <= 12) && decide (arrays.length <= 2))) := rfl
 by_cases hn : (1 : Int) <= (vars.length : Int) /\ (vars.length : Int) <= 12
 ·have hb : (decide ((1 : Int) <= vars.length) && decide ((vars.length : Int) <= 12)) = true := by simpa using hn
  have HB := show Hid _ from hb
  by_cases hm : (arrays.length : Int) <= 2
  ·cases hv : vars.all n8
   ·have HV := show Hid _ from hv
    clear hv hb hn
    go_enter Tryd.func34, Tryd.ntmps34
    go_wp2_with fail
    refine (p8 _ 1 12 _).mono ?_
    rintro e w1 ⟨rfl, rfl⟩
    rw [HB.out]
    go_wp2_with fail
    refine (D7 _ vars _ h1).mono ?_
    rintro e w1 ⟨rfl, rfl⟩
    rw [HV.out]
    go_wp2_with fail
    go_ret
    exact ⟨j4 (by rw [HT.out, HV.out]; rfl), rfl⟩
   have HV := show Hid _ from hv
   have hn' := show Hid _ from hn
   have hm' := show Hid _ from hm
   clear hv hb hn
   go_enter Tryd.func34, Tryd.ntmps34
   go_wp2_with fail
   refine (p8 _ 1 12 _).mono ?_
   rintro e w1 ⟨rfl, rfl⟩
   rw [HB.out]
   go_wp2_with fail
   refine (D7 _ vars _ h1).mono ?_
   rintro e w1 ⟨rfl, rfl⟩
   rw [HV.out]
   go_wp2_with fail
   refine (D7 _ arrays _ h2).mono ?_
   rintro e w1 ⟨rfl, rfl⟩
   go_wp2_with fail
   go_ret
   refine ⟨j4 ?_, rfl⟩
   have h3 := hn'.out
   have h4 := hm'.out
   rw [HT.out, HV.out, decide_eq_true (show 1 <= vars.length by omega), decide_eq_true (show vars.length <= 12 by omega), decide_eq_true (show arrays.length <= 2 by omega)]
   simp
  have hF : Hid (x4 vars arrays = false) := by unfold Hid; rw [HT.out, decide_eq_false (show ¬ arrays.length <= 2 by omega)]; simp
  clear hb hn
  go_enter Tryd.func34, Tryd.ntmps34
  go_wp2_with fail
  refine (p8 _ 1 12 _).mono ?_
  rintro e w1 ⟨rfl, rfl⟩
  rw [HB.out]
  go_wp2_with fail
  go_ret
  exact ⟨j4 hF.out.symm, rfl⟩
 have hb : (decide ((1 : Int) <= vars.length) && decide ((vars.length : Int) <= 12)) = false := by
  rw [Bool.eq_false_iff]; simp only [ne_eq, bk0, decide_eq_true_eq]; exact hn
 have HB := show Hid _ from hb
 have hF : Hid (x4 vars arrays = false) := by
  unfold Hid; rw [HT.out]
  rcases Classical.not_and_iff_not_or_not.1 hn with h | h
  ·rw [decide_eq_false (show ¬ 1 <= vars.length by omega)]; simp
  rw [decide_eq_false (show ¬ vars.length <= 12 by omega)]; simp
 clear hb hn
 go_enter Tryd.func34, Tryd.ntmps34
 go_wp2_with fail
 refine (p8 _ 1 12 _).mono ?_
 rintro e w1 ⟨rfl, rfl⟩
 rw [HB.out]
 go_wp2_with fail
 go_ret
 exact ⟨j4 hF.out.symm, rfl⟩
theorem Y5 (k n : Int) (kv : Value) (w : World) : Calls Tryd.prog 88 #[.agg #[.int .i64 k, .int .i64 n, kv]] w fun e w' => e = .returned (.bool (decide (k = 1) || decide (k = 2))) /\ Below w.heap.size w w' := by
 by_cases h1 : k = 1
 ·have p1 : (k == 1) = true := by simp [h1]
  have Q := show Hid _ from h1
  clear h1
  go_enter Tryd.func88, Tryd.ntmps88
  go_wp2
  go_ret
  exact ⟨j4 (by simp [Q.out]), by go_grown⟩
 have p1 : (k == 1) = false := by simp [h1]
 have Q := show Hid _ from h1
 clear h1
 by_cases h2 : k = 2
 ·have p2 : (k == 2) = true := by simp [h2]
  have Q2 := show Hid _ from h2
  clear h2
  go_enter Tryd.func88, Tryd.ntmps88
  go_wp2
  go_ret
  exact ⟨j4 (by simp [Q2.out]), by go_grown⟩
 have p2 : (k == 2) = false := by simp [h2]
 have Q2 := show Hid _ from h2
 clear h2
 go_enter Tryd.func88, Tryd.ntmps88
 go_wp2
 go_ret
 exact ⟨j4 (by rw [decide_eq_false Q.out, decide_eq_false Q2.out]; rfl), by go_grown⟩
theorem ak6 (k : Int) (w : World) : Calls Tryd.prog 87 #[.int .i64 k] w fun e w' => e = .returned (.int .i64 (e7 k)) /\ w = w' := by
 by_cases h1 : k = 1
 ·subst h1
  go_enter Tryd.func87, Tryd.ntmps87
  go_wp2_with fail
  go_ret
  exact ⟨R7 (by simp [e7]), rfl⟩
 by_cases h2 : k = 2
 ·subst h2
  go_enter Tryd.func87, Tryd.ntmps87
  go_wp2_with fail
  go_ret
  exact ⟨R7 (by simp [e7]), rfl⟩
 by_cases h3 : k = 3
 ·subst h3
  go_enter Tryd.func87, Tryd.ntmps87
  go_wp2_with fail
  go_ret
  exact ⟨R7 (by simp [e7]), rfl⟩
 have p1 : (k == 1) = false := by simp [h1]
 have p2 : (k == 2) = false := by simp [h2]
 have p3 : (k == 3) = false := by simp [h3]
 have H := show Hid _ from And.intro h1 (And.intro h2 h3)
 clear h1 h2 h3
 go_enter Tryd.func87, Tryd.ntmps87
 go_wp2_with fail
 refine (p8 k 4 10 _).mono ?_
 rintro x w1 ⟨rfl, rfl⟩
 by_cases h4 : 4 <= k /\ k <= 10
 ·have p4 : (decide (4 <= k) && decide (k <= 10)) = true := by simp [h4]
  rw [p4]
  have H4 := show Hid _ from h4
  clear h4 p4
  go_wp2_with fail
  go_ret
  exact ⟨R7 (by have := H.out; have := H4.out; unfold e7; rw [if_neg (by omega), if_neg (by omega), if_pos (by omega)]), rfl⟩
 have p4 : (decide (4 <= k) && decide (k <= 10)) = false := by simp; omega
 rw [p4]
 have H4 := show Hid _ from h4
 clear h4 p4
 by_cases h5 : k = 11
 ·subst h5
  go_wp2_with fail
  go_ret
  exact ⟨R7 (by simp [e7]), rfl⟩
 have p5 : (k == 11) = false := by simp [h5]
 have H5 := show Hid _ from h5
 clear h5
 go_wp2_with fail
 go_ret
 exact ⟨R7 (by have := H.out; have := H4.out; have := H5.out; unfold e7; rw [if_neg (by omega), if_neg (by omega), if_neg (by omega), if_neg (by omega)]), rfl⟩
theorem N1 {nv na d c : Nat} {e : b6} (h1 : s5 nv na e = true) (h2 : L8 e = true) : n4 nv na (d + 1) c e = m8 nv na d (c + 1) e.kids e.kids.length := by
 unfold n4 m8
 rw [bm0 (bl5 _), d7, h1, h2, I5]
 simp
theorem J8 {nv na d c k : Nat} {ks : List b6} (hk : k < ks.length) (hs : n4 nv na d (c + k8 (ks.take k)) ks[k] = false) : m8 nv na d c ks ks.length = false := by
 unfold m8
 rw [bm0 (bl5 _)]
 exact ao7 nv na hk hs
theorem D5 {nv na d c : Nat} {e : b6} (h1 : s5 nv na e = false) : n4 nv na (d + 1) c e = false := by
 unfold n4; rw [d7, h1]; rfl
theorem ao8 {nv na d c : Nat} {e : b6} (h1 : L8 e = false) : n4 nv na (d + 1) c e = false := by
 unfold n4; rw [d7, h1]; simp
theorem N4 {nv na : Nat} {k n h : Int} (hh : h = v8 nv na k - 1) : (decide (0 <= n) && decide (n <= h)) = (decide (0 <= n) && decide (n < v8 nv na k)) := by
 congr 1; exact decide_eq_decide.2 (by omega)
theorem aK1 (a1 a2 : Option Addr) (nv c1 na c2 : Nat) (v3 : Value) (h1 : nv <= 9223372036854775807) (h2 : na <= 9223372036854775807) : ∀ (d : Nat) (deep : Int), deep + d = 6 -> 1 <= deep -> ∀ (e : b6) (φ : Nat -> Prop) (v : Value) (c cb : Nat) (w : World), A2 w φ v e -> ¬ φ cb -> K8 w cb [.int .i64 c] -> c <= 15 ->
  Calls Tryd.prog 65 #[.agg #[.slice a1 nv c1, .slice a2 na c2, v3], v, .int .i64 deep, .pointer (some ⟨cb, 0, none⟩)] w fun x w' =>
   x = .returned (.bool (n4 nv na d c e)) /\ (n4 nv na d c e = true -> K8 w' cb [.int .i64 (c + 1 + K5 e : Nat)]) /\ (∃ u, K8 w' cb [u]) /\ s3 (fun b => ¬ b = cb) w w' := by
 intro d
 induction d with
 | zero =>
  intro deep hdp hd1 e φ v c cb w h hcb hblk hc
  obtain ⟨kv, rfl, hk⟩ := h
  have HF : Hid (n4 nv na 0 c e = false) := rfl
  obtain rfl : deep = 6 := by omega
  have hl := hblk.lt
  have x0 : w.cell? ⟨cb, 0, none⟩ = some (.int .i64 c) := (hblk.cell 0).trans rfl
  have f0 := hblk.free
  obtain ⟨W, hW, M⟩ : ∃ W, W = (((w.setCell ⟨cb, 0, none⟩ (.int .i64 ((c : Int) + 1))).alloc (.cells #[.slice a1 nv c1, .slice a2 na c2, v3] 30)).alloc (.cells #[.int .i64 e.kind, .int .i64 e.value, kv] 37)) /\ w9 (fun _ => True) (fun b => ¬ b = cb) w W [.box cb [.int .i64 ((c : Int) + 1)]] :=
   ⟨_, rfl, (((w9.start fun _ _ => trivial).adopt (.box cb [.int .i64 c]) (fun _ ha => by cases ha) bm6 hblk (fun _ ha => by cases ha) (fun g hg hn => by cases hg; exact hn rfl)).set 0 rfl 0 (.int .i64 ((c : Int) + 1))).call (by go_grown)⟩
  have y0 := M.c 0 0 rfl rfl
  have z0 := fun X => b7 y0 X
  clear hk y0 hblk
  by_cases q : (15 : Int) < (c : Int) + 1
  ·have p : decide ((15 : Int) < (c : Int) + 1) = true := by simp; omega
   clear q
   go_enter Tryd.func65, Tryd.ntmps65
   go_wp2_with fail
   rw [<- hW]
   clear hW
   refine l6 (by kernel_rfl) (by kernel_rfl) ?_
   repeat (any_goals (first | go_big_quiet_step (((fail))) | quiet_step (((fail)))))
   refine wpQuiet_nil ?_
   rintro _ ⟨X, rfl⟩
   replace M := M.call (e6 W X)
   go_wp2_with fail
   go_ret
   exact ⟨j4 (by rw [HF.out]), fun h => absurd (h.symm.trans HF.out) (by simp), ⟨_, M.blk 0 rfl⟩, M.kept⟩
  have p : decide ((15 : Int) < (c : Int) + 1) = false := by simp; omega
  clear q
  go_enter Tryd.func65, Tryd.ntmps65
  go_wp2_with fail
  rw [<- hW]
  clear hW
  refine l6 (by kernel_rfl) (by kernel_rfl) ?_
  repeat (any_goals (first | go_big_quiet_step (((fail))) | quiet_step (((fail)))))
  refine wpQuiet_nil ?_
  rintro _ ⟨X, rfl⟩
  replace M := M.call (e6 W X)
  go_wp2_with fail
  go_ret
  exact ⟨j4 (by rw [HF.out]), fun h => absurd (h.symm.trans HF.out) (by simp), ⟨_, M.blk 0 rfl⟩, M.kept⟩
 | succ d ih =>
  intro deep hdp hd1 e φ v c cb w h hcb hblk hc
  obtain ⟨kv, rfl, hk⟩ := h
  obtain ⟨ak, ck, rfl, -, hn, -, -⟩ := hk.open
  have hl := hblk.lt
  have hd5 : deep <= 5 := by omega
  obtain ⟨φ', hφ'⟩ : ∃ φ' : Nat -> Prop, φ' = fun b => φ b \/ w.heap.size <= b := ⟨_, rfl⟩
  have x0 : w.cell? ⟨cb, 0, none⟩ = some (.int .i64 c) := (hblk.cell 0).trans rfl
  have f0 := hblk.free
  obtain ⟨W, hW, M⟩ : ∃ W, W = (((w.setCell ⟨cb, 0, none⟩ (.int .i64 ((c : Int) + 1))).alloc (.cells #[.slice a1 nv c1, .slice a2 na c2, v3] 30)).alloc (.cells #[.int .i64 e.kind, .int .i64 e.value, .slice ak e.kids.length ck] 37)) /\
    w9 φ' (fun b => ¬ b = cb) w W [.box cb [.int .i64 ((c : Int) + 1)], .box w.heap.size [.slice a1 nv c1, .slice a2 na c2, v3], .box (w.heap.size + 1) [.int .i64 e.kind, .int .i64 e.value, .slice ak e.kids.length ck], .dat (fun w φ => j3 w φ (.slice ak e.kids.length ck) e.kids)] := by
   refine ⟨_, rfl, (((((w9.start (by rw [hφ']; exact fun _ h => .inr h)).adopt (.box cb [.int .i64 c]) (fun _ ha => by cases ha) bm6 hblk (fun _ ha => by cases ha) (fun g hg hn => by cases hg; exact hn rfl)).set 0 rfl 0 (.int .i64 ((c : Int) + 1))).box' _ _ (by simp)).box' _ _ (by simp)).dat (j3.nice _ _) (j3.nice _ _ _ _ _ _ ⟨by simp; omega, fun b hb hf => ⟨⟨by rw [hφ']; exact .inl hf, fun r hr he => ?_⟩, ?_⟩⟩ hk)⟩
   ·simp at hr
    rcases hr with rfl | rfl | rfl
    ·cases he; exact hcb hf
    ·cases he; omega
    cases he; omega
   have hbc : b ≠ cb := fun he => hcb (he ▸ hf)
   exact (((Below.refl w.heap.size (w.setCell ⟨cb, 0, none⟩ (.int .i64 ((c : Int) + 1)))).alloc (by simp) _ |>.alloc (by simp) _).block b (by simpa using hb)).trans (Below.heap_setCell _ _ _ _ hbc)
  clear hk hblk hφ'
  have y0 := M.c 0 0 rfl rfl
  have y1 := M.c 2 0 rfl rfl
  have y2 := M.c 2 2 rfl rfl
  have z0 := fun X => b7 y0 X
  have z1 := fun X => b7 y1 X
  have z2 := fun X => b7 y2 X
  have HA : Hid (∀ X, Calls Tryd.prog 87 #[.int .i64 e.kind] (W.ext X) fun x w'' => x = .returned (.int .i64 (e7 e.kind)) /\ ∃ Y, w'' = W.ext Y) := fun X =>
   Calls.ext_of' ((ak6 e.kind _).mono fun x w' h => ⟨h.1, h.2 ▸ Below.refl _ _⟩)
  clear y0 y1 y2
  have p2 : decide ((5 : Int) < deep) = false := decide_eq_false (by omega)
  by_cases q1 : (15 : Int) < (c : Int) + 1
  ·have p1 : decide ((15 : Int) < (c : Int) + 1) = true := decide_eq_true q1
   have HF : Hid (n4 nv na (d + 1) c e = false) := by unfold Hid n4; rw [decide_eq_false (by omega), Bool.and_false]
   clear q1
   go_enter Tryd.func65, Tryd.ntmps65
   go_wp2_with fail
   rw [<- hW]
   clear hW
   refine l6 (by kernel_rfl) (by kernel_rfl) ?_
   repeat (any_goals (first | go_big_quiet_step (((go_at_call 87; exact HA.out _))) | quiet_step (((go_at_call 87; exact HA.out _)))))
   refine wpQuiet_nil ?_
   rintro _ ⟨X, rfl⟩
   replace M := M.call (e6 W X)
   go_wp2_with fail
   go_ret
   exact ⟨j4 (by rw [HF.out]), fun h => absurd (h.symm.trans HF.out) (by simp), ⟨_, M.blk 0 rfl⟩, M.kept⟩
  have p1 : decide ((15 : Int) < (c : Int) + 1) = false := decide_eq_false q1
  by_cases q3 : (e.kids.length : Int) = e7 e.kind
  case neg =>
   have p3 : (e7 e.kind != (e.kids.length : Int)) = true := by simp; omega
   have HF : Hid (n4 nv na (d + 1) c e = false) := D5 (by unfold s5; rw [decide_eq_false q3]; rfl)
   clear q1 q3
   go_enter Tryd.func65, Tryd.ntmps65
   go_wp2_with fail
   rw [<- hW]
   clear hW
   refine l6 (by kernel_rfl) (by kernel_rfl) ?_
   repeat (any_goals (first | go_big_quiet_step (((go_at_call 87; exact HA.out _))) | quiet_step (((go_at_call 87; exact HA.out _)))))
   refine wpQuiet_nil ?_
   rintro _ ⟨X, rfl⟩
   replace M := M.call (e6 W X)
   go_wp2_with fail
   go_ret
   exact ⟨j4 (by rw [HF.out]), fun h => absurd (h.symm.trans HF.out) (by simp), ⟨_, M.blk 0 rfl⟩, M.kept⟩
  have p3 : (e7 e.kind != (e.kids.length : Int)) = false := by simp; omega
  have HQ := show Hid _ from And.intro q1 q3
  clear q1 q3
  go_enter Tryd.func65, Tryd.ntmps65
  go_wp2_with fail
  rw [<- hW]
  clear hW
  refine l6 (by kernel_rfl) (by kernel_rfl) ?_
  repeat (any_goals (first | go_big_quiet_step (((go_at_call 87; exact HA.out _))) | quiet_step (((go_at_call 87; exact HA.out _)))))
  refine wpQuiet_nil ?_
  rintro _ ⟨X, rfl⟩
  replace M := M.call (e6 W X)
  generalize W.ext X = W1 at *
  clear z0 z1 z2 HA p1 p2 p3 f0 x0
  have y0 := M.c 1 0 rfl rfl
  have y1 := M.c 1 1 rfl rfl
  have y2 := M.c 2 0 rfl rfl
  have y3 := M.c 2 1 rfl rfl
  have y4 := M.c 2 2 rfl rfl
  have HM := show Hid _ from M
  clear M
  by_cases k1 : e.kind = 1
  ·have qq1 : (e.kind == 1) = true := by simp [k1]
   have qq2 : (e.kind == 3) = false := by simp [k1]
   have HRD : Hid (L8 e = true) := by unfold Hid L8; simp [k1]
   have hhi : (255 : Int) = v8 nv na e.kind - 1 := by rw [k1]; simp [v8]
   clear k1
   have HNB := show Hid (s5 nv na e = (decide (0 <= e.value) && decide (e.value <= 255))) from by
    unfold Hid s5; rw [decide_eq_true HQ.out.2, N4 hhi]; rfl
   clear hhi
   go_wp2_with fail
   refine (p8 e.value 0 _ _).mono ?_
   rintro x w1 ⟨rfl, rfl⟩
   have HNB2 := show Hid (s5 nv na e = (decide (0 <= e.value) && decide (e.value <= 255))) from HNB.out
   clear HNB
   obtain ⟨qn, hqn⟩ : ∃ qn, qn = (decide (0 <= e.value) && decide (e.value <= 255)) := ⟨_, rfl⟩
   rw [<- hqn]
   have HN := show Hid (s5 nv na e = qn) from HNB2.out.trans hqn.symm
   clear hqn HNB2
   cases qn
   ·have HF : Hid (n4 nv na (d + 1) c e = false) := D5 HN.out
    have M := HM.out
    clear HM
    go_wp2_with fail
    go_ret
    exact ⟨j4 (by rw [HF.out]), fun h => absurd (h.symm.trans HF.out) (by simp), ⟨_, M.blk 0 rfl⟩, M.kept⟩
   have HSC : Hid (n4 nv na (d + 1) c e = m8 nv na d (c + 1) e.kids e.kids.length) := N1 HN.out HRD.out
   go_wp2_with fail
   clear y0 y1 y2 y3 y4
   have HST : Hid (m8 nv na d (c + 1) e.kids 0 = true /\ w9 φ' (fun b => ¬ b = cb) w W1 [.box cb [.int .i64 (c + 1 + k8 (e.kids.take 0) : Nat)], .box w.heap.size [.slice a1 nv c1, .slice a2 na c2, v3], .box (w.heap.size + 1) [.int .i64 e.kind, .int .i64 e.value, .slice ak e.kids.length ck], .dat (fun w φ => j3 w φ (.slice ak e.kids.length ck) e.kids)]) := by
    refine ⟨?_, ?_⟩
    ·have := HQ.out.1
     simp [m8, k8]; omega
    rw [show ((c + 1 + k8 (e.kids.take 0) : Nat) : Int) = (c : Int) + 1 by simp [k8]]
    exact HM.out
   go_loopw [71] (fun i wr => ∃ k : Nat, k <= e.kids.length /\ i = .int .i64 k /\ m8 nv na d (c + 1) e.kids k = true /\ w9 φ' (fun b => ¬ b = cb) w wr [.box cb [.int .i64 (c + 1 + k8 (e.kids.take k) : Nat)], .box w.heap.size [.slice a1 nv c1, .slice a2 na c2, v3], .box (w.heap.size + 1) [.int .i64 e.kind, .int .i64 e.value, .slice ak e.kids.length ck], .dat (fun w φ => j3 w φ (.slice ak e.kids.length ck) e.kids)]) (fun i _ => e.kids.length - (intOf i).toNat)
   case atStart => exact ⟨0, Nat.zero_le _, rfl, HST.out.1, HST.out.2⟩
   case round =>
    clear HM
    obtain ⟨k, hk, rfl, hpre, M⟩ := hrel
    have HPRE := show Hid _ from hpre
    have hle : c + 1 + k8 (e.kids.take k) <= 15 := by unfold m8 at hpre; simp at hpre; exact hpre.2
    clear hpre
    by_cases hlt : k < e.kids.length
    ·have hncb : ¬ Fr φ' [.box cb [.int .i64 (c + 1 + k8 (e.kids.take k) : Nat)], .box w.heap.size [.slice a1 nv c1, .slice a2 na c2, v3], .box (w.heap.size + 1) [.int .i64 e.kind, .int .i64 e.value, .slice ak e.kids.length ck], .dat (fun w φ => j3 w φ (.slice ak e.kids.length ck) e.kids)] cb := fun h => h.2 _ bl2 rfl
     obtain ⟨a', c', he, -, -, -, hcell⟩ := (M.d 3 rfl).open
     cases he
     obtain ⟨b, off, kv, hbo, hbk, hf, g0, g1, g2, hkk⟩ := hcell k hlt
     cases hbo
     obtain ⟨ka, kc, rfl, -, -, -, -⟩ := hkk.open
     have bz : Below wr.heap.size wr (wr.alloc (.cells #[.int .i64 e.kids[k].kind, .int .i64 e.kids[k].value, .slice ka e.kids[k].kids.length kc] 37)) := by go_grown
     have HE := show Hid _ from j3.nice _ _ _ _ _ _ (G2.below bz) hkk
     have HNCB := show Hid _ from hncb
     have x0 := M.c 1 0 rfl rfl
     have x1 := M.c 1 1 rfl rfl
     have x2 := M.c 1 2 rfl rfl
     have s1 : w.heap.size < wr.heap.size := M.lt (r := .box w.heap.size [.slice a1 nv c1, .slice a2 na c2, v3]) (bl9 _ bl2) rfl
     have HM := show Hid _ from M.box [.int .i64 e.kids[k].kind, .int .i64 e.kids[k].value, .slice ka e.kids[k].kids.length kc] 37
     have HP := show Hid _ from H8 nv na (d := d) (c := c + 1) hlt
     have HX := show Hid (n4 nv na d (c + 1 + k8 (e.kids.take k)) e.kids[k] = false -> n4 nv na (d + 1) c e = false) from fun h => HSC.out.trans (J8 hlt h)
     have HT := show Hid _ from N0 hlt
     clear hcell hncb bz hkk M
     go_wp2_with fail
     refine (ih (deep + 1) (by omega) (by omega) e.kids[k] _ _ (c + 1 + k8 (e.kids.take k)) cb _ ⟨_, rfl, HE.out⟩ HNCB.out (HM.out.blk 0 rfl) hle).mono ?_
     rintro x w2 ⟨rfl, r1, ⟨u, r2⟩, kp⟩
     obtain ⟨q, hq⟩ : ∃ q, q = n4 nv na d (c + 1 + k8 (e.kids.take k)) e.kids[k] := ⟨_, rfl⟩
     rw [<- hq] at r1 ⊢
     have HQ2 := show Hid _ from hq
     clear hq x0 x1 x2 g0 g1 g2
     cases q
     ·have M2 := HM.out.callB 0 rfl kp r2
      have HF := show Hid _ from HX.out HQ2.out.symm
      clear r1 r2 kp
      go_wp2_with fail
      go_ret
      exact ⟨j4 (by rw [HF.out]), fun h => absurd (h.symm.trans HF.out) (by simp), ⟨_, M2.blk 0 rfl⟩, M2.kept⟩
     have M2 := (HM.out.callB 0 rfl kp (r1 rfl)).take 4
     have HM2 := show Hid _ from M2
     clear r1 r2 kp M2
     go_wp2_with fail
     refine ⟨⟨k + 1, by omega, by go_num, by rw [HP.out, HPRE.out, <- HQ2.out]; rfl, ?_⟩, by simp [intOf]; omega⟩
     rw [HT.out, show c + 1 + (k8 (e.kids.take k) + (1 + K5 e.kids[k])) = c + 1 + k8 (e.kids.take k) + 1 + K5 e.kids[k] by omega]
     exact HM2.out
    have hkn : k = e.kids.length := by omega
    subst hkn
    have HM := show Hid _ from M
    have HS : Hid (n4 nv na (d + 1) c e = true) := HSC.out.trans HPRE.out
    clear M
    go_wp2_with fail
    go_ret
    refine ⟨j4 (by rw [HS.out]), fun _ => ?_, ⟨_, HM.out.blk 0 rfl⟩, HM.out.kept⟩
    have := HM.out.blk 0 rfl
    rw [bm0 (bl5 _)] at this
    rw [I5]
    exact this
  have k1' : (e.kind == 1) = false := by simp [k1]
  by_cases k2 : e.kind = 2
  ·have qq1 : (e.kind == 2) = true := by simp [k2]
   have qq2 : (e.kind == 3) = false := by simp [k2]
   have HRD : Hid (L8 e = true) := by unfold Hid L8; simp [k2]
   have hhi : (nv : Int) - 1 = v8 nv na e.kind - 1 := by rw [k2]; simp [v8]
   clear k1 k2
   have HNB := show Hid (s5 nv na e = (decide (0 <= e.value) && decide (e.value <= (nv : Int) - 1))) from by
    unfold Hid s5; rw [decide_eq_true HQ.out.2, N4 hhi]; rfl
   clear hhi
   go_wp2_with fail
   refine (p8 e.value 0 _ _).mono ?_
   rintro x w1 ⟨rfl, rfl⟩
   have HNB2 := show Hid (s5 nv na e = (decide (0 <= e.value) && decide (e.value <= (nv : Int) - 1))) from HNB.out
   clear HNB
   obtain ⟨qn, hqn⟩ : ∃ qn, qn = (decide (0 <= e.value) && decide (e.value <= (nv : Int) - 1)) := ⟨_, rfl⟩
   rw [<- hqn]
   have HN := show Hid (s5 nv na e = qn) from HNB2.out.trans hqn.symm
   clear hqn HNB2
   cases qn
   ·have HF : Hid (n4 nv na (d + 1) c e = false) := D5 HN.out
    have M := HM.out
    clear HM
    go_wp2_with fail
    go_ret
    exact ⟨j4 (by rw [HF.out]), fun h => absurd (h.symm.trans HF.out) (by simp), ⟨_, M.blk 0 rfl⟩, M.kept⟩
   have HSC : Hid (n4 nv na (d + 1) c e = m8 nv na d (c + 1) e.kids e.kids.length) := N1 HN.out HRD.out
   go_wp2_with fail
   clear y0 y1 y2 y3 y4
   have HST : Hid (m8 nv na d (c + 1) e.kids 0 = true /\ w9 φ' (fun b => ¬ b = cb) w W1 [.box cb [.int .i64 (c + 1 + k8 (e.kids.take 0) : Nat)], .box w.heap.size [.slice a1 nv c1, .slice a2 na c2, v3], .box (w.heap.size + 1) [.int .i64 e.kind, .int .i64 e.value, .slice ak e.kids.length ck], .dat (fun w φ => j3 w φ (.slice ak e.kids.length ck) e.kids)]) := by
    refine ⟨?_, ?_⟩
    ·have := HQ.out.1
     simp [m8, k8]; omega
    rw [show ((c + 1 + k8 (e.kids.take 0) : Nat) : Int) = (c : Int) + 1 by simp [k8]]
    exact HM.out
   go_loopw [71] (fun i wr => ∃ k : Nat, k <= e.kids.length /\ i = .int .i64 k /\ m8 nv na d (c + 1) e.kids k = true /\ w9 φ' (fun b => ¬ b = cb) w wr [.box cb [.int .i64 (c + 1 + k8 (e.kids.take k) : Nat)], .box w.heap.size [.slice a1 nv c1, .slice a2 na c2, v3], .box (w.heap.size + 1) [.int .i64 e.kind, .int .i64 e.value, .slice ak e.kids.length ck], .dat (fun w φ => j3 w φ (.slice ak e.kids.length ck) e.kids)]) (fun i _ => e.kids.length - (intOf i).toNat)
   case atStart => exact ⟨0, Nat.zero_le _, rfl, HST.out.1, HST.out.2⟩
   case round =>
    clear HM
    obtain ⟨k, hk, rfl, hpre, M⟩ := hrel
    have HPRE := show Hid _ from hpre
    have hle : c + 1 + k8 (e.kids.take k) <= 15 := by unfold m8 at hpre; simp at hpre; exact hpre.2
    clear hpre
    by_cases hlt : k < e.kids.length
    ·have hncb : ¬ Fr φ' [.box cb [.int .i64 (c + 1 + k8 (e.kids.take k) : Nat)], .box w.heap.size [.slice a1 nv c1, .slice a2 na c2, v3], .box (w.heap.size + 1) [.int .i64 e.kind, .int .i64 e.value, .slice ak e.kids.length ck], .dat (fun w φ => j3 w φ (.slice ak e.kids.length ck) e.kids)] cb := fun h => h.2 _ bl2 rfl
     obtain ⟨a', c', he, -, -, -, hcell⟩ := (M.d 3 rfl).open
     cases he
     obtain ⟨b, off, kv, hbo, hbk, hf, g0, g1, g2, hkk⟩ := hcell k hlt
     cases hbo
     obtain ⟨ka, kc, rfl, -, -, -, -⟩ := hkk.open
     have bz : Below wr.heap.size wr (wr.alloc (.cells #[.int .i64 e.kids[k].kind, .int .i64 e.kids[k].value, .slice ka e.kids[k].kids.length kc] 37)) := by go_grown
     have HE := show Hid _ from j3.nice _ _ _ _ _ _ (G2.below bz) hkk
     have HNCB := show Hid _ from hncb
     have x0 := M.c 1 0 rfl rfl
     have x1 := M.c 1 1 rfl rfl
     have x2 := M.c 1 2 rfl rfl
     have s1 : w.heap.size < wr.heap.size := M.lt (r := .box w.heap.size [.slice a1 nv c1, .slice a2 na c2, v3]) (bl9 _ bl2) rfl
     have HM := show Hid _ from M.box [.int .i64 e.kids[k].kind, .int .i64 e.kids[k].value, .slice ka e.kids[k].kids.length kc] 37
     have HP := show Hid _ from H8 nv na (d := d) (c := c + 1) hlt
     have HX := show Hid (n4 nv na d (c + 1 + k8 (e.kids.take k)) e.kids[k] = false -> n4 nv na (d + 1) c e = false) from fun h => HSC.out.trans (J8 hlt h)
     have HT := show Hid _ from N0 hlt
     clear hcell hncb bz hkk M
     go_wp2_with fail
     refine (ih (deep + 1) (by omega) (by omega) e.kids[k] _ _ (c + 1 + k8 (e.kids.take k)) cb _ ⟨_, rfl, HE.out⟩ HNCB.out (HM.out.blk 0 rfl) hle).mono ?_
     rintro x w2 ⟨rfl, r1, ⟨u, r2⟩, kp⟩
     obtain ⟨q, hq⟩ : ∃ q, q = n4 nv na d (c + 1 + k8 (e.kids.take k)) e.kids[k] := ⟨_, rfl⟩
     rw [<- hq] at r1 ⊢
     have HQ2 := show Hid _ from hq
     clear hq x0 x1 x2 g0 g1 g2
     cases q
     ·have M2 := HM.out.callB 0 rfl kp r2
      have HF := show Hid _ from HX.out HQ2.out.symm
      clear r1 r2 kp
      go_wp2_with fail
      go_ret
      exact ⟨j4 (by rw [HF.out]), fun h => absurd (h.symm.trans HF.out) (by simp), ⟨_, M2.blk 0 rfl⟩, M2.kept⟩
     have M2 := (HM.out.callB 0 rfl kp (r1 rfl)).take 4
     have HM2 := show Hid _ from M2
     clear r1 r2 kp M2
     go_wp2_with fail
     refine ⟨⟨k + 1, by omega, by go_num, by rw [HP.out, HPRE.out, <- HQ2.out]; rfl, ?_⟩, by simp [intOf]; omega⟩
     rw [HT.out, show c + 1 + (k8 (e.kids.take k) + (1 + K5 e.kids[k])) = c + 1 + k8 (e.kids.take k) + 1 + K5 e.kids[k] by omega]
     exact HM2.out
    have hkn : k = e.kids.length := by omega
    subst hkn
    have HM := show Hid _ from M
    have HS : Hid (n4 nv na (d + 1) c e = true) := HSC.out.trans HPRE.out
    clear M
    go_wp2_with fail
    go_ret
    refine ⟨j4 (by rw [HS.out]), fun _ => ?_, ⟨_, HM.out.blk 0 rfl⟩, HM.out.kept⟩
    have := HM.out.blk 0 rfl
    rw [bm0 (bl5 _)] at this
    rw [I5]
    exact this
  have k2' : (e.kind == 2) = false := by simp [k2]
  by_cases k3 : e.kind = 3
  ·have qq1 : (e.kind == 3) = true := by simp [k3]
   have qq2 := k2'
   have HRD : Hid (e.kind = 3) := k3
   have hhi : (na : Int) - 1 = v8 nv na e.kind - 1 := by rw [k3]; simp [v8]
   clear k1 k2 k3
   have HNB := show Hid (s5 nv na e = (decide (0 <= e.value) && decide (e.value <= (na : Int) - 1))) from by
    unfold Hid s5; rw [decide_eq_true HQ.out.2, N4 hhi]; rfl
   clear hhi
   go_wp2_with fail
   refine (p8 e.value 0 _ _).mono ?_
   rintro x w1 ⟨rfl, rfl⟩
   have HNB2 := show Hid (s5 nv na e = (decide (0 <= e.value) && decide (e.value <= (na : Int) - 1))) from HNB.out
   clear HNB
   obtain ⟨qn, hqn⟩ : ∃ qn, qn = (decide (0 <= e.value) && decide (e.value <= (na : Int) - 1)) := ⟨_, rfl⟩
   rw [<- hqn]
   have HN := show Hid (s5 nv na e = qn) from HNB2.out.trans hqn.symm
   clear hqn HNB2
   cases qn
   ·have HF : Hid (n4 nv na (d + 1) c e = false) := D5 HN.out
    have M := HM.out
    clear HM
    go_wp2_with fail
    go_ret
    exact ⟨j4 (by rw [HF.out]), fun h => absurd (h.symm.trans HF.out) (by simp), ⟨_, M.blk 0 rfl⟩, M.kept⟩
   have hl1 : e.kids.length = 1 := by have := HQ.out.2; rw [HRD.out] at this; simp [e7] at this; omega
   have hpos : 0 < (e.kids.length : Int) := by omega
   obtain ⟨a', c', he, -, -, -, hcell⟩ := (HM.out.d 3 rfl).open
   have e1 : ak = a' := by cases he; rfl
   have e2 : ck = c' := by cases he; rfl
   subst e1 e2
   obtain ⟨b, off, kv, rfl, hbk, hf, g0, g1, g2, hkk⟩ := hcell 0 (by omega)
   simp only [Nat.zero_mul, Nat.add_zero] at g0 g1 g2
   have HR := show Hid _ from am3 HRD.out (by omega)
   clear hcell hkk
   go_wp2_with fail
   refine (Y5 _ _ _ _).mono ?_
   rintro x w2 ⟨rfl, b2⟩
   replace HM := show Hid _ from HM.out.call b2
   obtain ⟨qr, hqr⟩ : ∃ qr, qr = (decide ((e.kids[0]'(by omega)).kind = 1) || decide ((e.kids[0]'(by omega)).kind = 2)) := ⟨_, rfl⟩
   rw [<- hqr]
   have HRR := show Hid (L8 e = qr) from HR.out.trans hqr.symm
   clear hqr b2 HR g0 g1 g2
   cases qr
   ·have HF : Hid (n4 nv na (d + 1) c e = false) := ao8 HRR.out
    have M := HM.out
    clear HM
    go_wp2_with fail
    go_ret
    exact ⟨j4 (by rw [HF.out]), fun h => absurd (h.symm.trans HF.out) (by simp), ⟨_, M.blk 0 rfl⟩, M.kept⟩
   clear y0 y1 y2 y3 y4
   have y4 := HM.out.c 2 2 rfl rfl
   have HSC : Hid (n4 nv na (d + 1) c e = m8 nv na d (c + 1) e.kids e.kids.length) := N1 HN.out HRR.out
   go_wp2_with fail
   clear y4
   have HST : Hid (m8 nv na d (c + 1) e.kids 0 = true /\ w9 φ' (fun b => ¬ b = cb) w w2 [.box cb [.int .i64 (c + 1 + k8 (e.kids.take 0) : Nat)], .box w.heap.size [.slice a1 nv c1, .slice a2 na c2, v3], .box (w.heap.size + 1) [.int .i64 e.kind, .int .i64 e.value, .slice (some ⟨b, off, none⟩) e.kids.length ck], .dat (fun w φ => j3 w φ (.slice (some ⟨b, off, none⟩) e.kids.length ck) e.kids)]) := by
    refine ⟨?_, ?_⟩
    ·have := HQ.out.1
     simp [m8, k8]; omega
    rw [show ((c + 1 + k8 (e.kids.take 0) : Nat) : Int) = (c : Int) + 1 by simp [k8]]
    exact HM.out
   go_loopw [71] (fun i wr => ∃ k : Nat, k <= e.kids.length /\ i = .int .i64 k /\ m8 nv na d (c + 1) e.kids k = true /\ w9 φ' (fun b => ¬ b = cb) w wr [.box cb [.int .i64 (c + 1 + k8 (e.kids.take k) : Nat)], .box w.heap.size [.slice a1 nv c1, .slice a2 na c2, v3], .box (w.heap.size + 1) [.int .i64 e.kind, .int .i64 e.value, .slice (some ⟨b, off, none⟩) e.kids.length ck], .dat (fun w φ => j3 w φ (.slice (some ⟨b, off, none⟩) e.kids.length ck) e.kids)]) (fun i _ => e.kids.length - (intOf i).toNat)
   case atStart => exact ⟨0, Nat.zero_le _, rfl, HST.out.1, HST.out.2⟩
   case round =>
    clear HM
    obtain ⟨k, hk, rfl, hpre, M⟩ := hrel
    have HPRE := show Hid _ from hpre
    have hle : c + 1 + k8 (e.kids.take k) <= 15 := by unfold m8 at hpre; simp at hpre; exact hpre.2
    clear hpre
    by_cases hlt : k < e.kids.length
    ·have hncb : ¬ Fr φ' [.box cb [.int .i64 (c + 1 + k8 (e.kids.take k) : Nat)], .box w.heap.size [.slice a1 nv c1, .slice a2 na c2, v3], .box (w.heap.size + 1) [.int .i64 e.kind, .int .i64 e.value, .slice (some ⟨b, off, none⟩) e.kids.length ck], .dat (fun w φ => j3 w φ (.slice (some ⟨b, off, none⟩) e.kids.length ck) e.kids)] cb := fun h => h.2 _ bl2 rfl
     obtain ⟨a', c', he, -, -, -, hcell⟩ := (M.d 3 rfl).open
     cases he
     obtain ⟨b, off, kv, hbo, hbk, hf, g0, g1, g2, hkk⟩ := hcell k hlt
     cases hbo
     obtain ⟨ka, kc, rfl, -, -, -, -⟩ := hkk.open
     have bz : Below wr.heap.size wr (wr.alloc (.cells #[.int .i64 e.kids[k].kind, .int .i64 e.kids[k].value, .slice ka e.kids[k].kids.length kc] 37)) := by go_grown
     have HE := show Hid _ from j3.nice _ _ _ _ _ _ (G2.below bz) hkk
     have HNCB := show Hid _ from hncb
     have x0 := M.c 1 0 rfl rfl
     have x1 := M.c 1 1 rfl rfl
     have x2 := M.c 1 2 rfl rfl
     have s1 : w.heap.size < wr.heap.size := M.lt (r := .box w.heap.size [.slice a1 nv c1, .slice a2 na c2, v3]) (bl9 _ bl2) rfl
     have HM := show Hid _ from M.box [.int .i64 e.kids[k].kind, .int .i64 e.kids[k].value, .slice ka e.kids[k].kids.length kc] 37
     have HP := show Hid _ from H8 nv na (d := d) (c := c + 1) hlt
     have HX := show Hid (n4 nv na d (c + 1 + k8 (e.kids.take k)) e.kids[k] = false -> n4 nv na (d + 1) c e = false) from fun h => HSC.out.trans (J8 hlt h)
     have HT := show Hid _ from N0 hlt
     clear hcell hncb bz hkk M
     go_wp2_with fail
     refine (ih (deep + 1) (by omega) (by omega) e.kids[k] _ _ (c + 1 + k8 (e.kids.take k)) cb _ ⟨_, rfl, HE.out⟩ HNCB.out (HM.out.blk 0 rfl) hle).mono ?_
     rintro x w2 ⟨rfl, r1, ⟨u, r2⟩, kp⟩
     obtain ⟨q, hq⟩ : ∃ q, q = n4 nv na d (c + 1 + k8 (e.kids.take k)) e.kids[k] := ⟨_, rfl⟩
     rw [<- hq] at r1 ⊢
     have HQ2 := show Hid _ from hq
     clear hq x0 x1 x2 g0 g1 g2
     cases q
     ·have M2 := HM.out.callB 0 rfl kp r2
      have HF := show Hid _ from HX.out HQ2.out.symm
      clear r1 r2 kp
      go_wp2_with fail
      go_ret
      exact ⟨j4 (by rw [HF.out]), fun h => absurd (h.symm.trans HF.out) (by simp), ⟨_, M2.blk 0 rfl⟩, M2.kept⟩
     have M2 := (HM.out.callB 0 rfl kp (r1 rfl)).take 4
     have HM2 := show Hid _ from M2
     clear r1 r2 kp M2
     go_wp2_with fail
     refine ⟨⟨k + 1, by omega, by go_num, by rw [HP.out, HPRE.out, <- HQ2.out]; rfl, ?_⟩, by simp [intOf]; omega⟩
     rw [HT.out, show c + 1 + (k8 (e.kids.take k) + (1 + K5 e.kids[k])) = c + 1 + k8 (e.kids.take k) + 1 + K5 e.kids[k] by omega]
     exact HM2.out
    have hkn : k = e.kids.length := by omega
    subst hkn
    have HM := show Hid _ from M
    have HS : Hid (n4 nv na (d + 1) c e = true) := HSC.out.trans HPRE.out
    clear M
    go_wp2_with fail
    go_ret
    refine ⟨j4 (by rw [HS.out]), fun _ => ?_, ⟨_, HM.out.blk 0 rfl⟩, HM.out.kept⟩
    have := HM.out.blk 0 rfl
    rw [bm0 (bl5 _)] at this
    rw [I5]
    exact this
  have qq1 : (e.kind == 3) = false := by simp [k3]
  have qq2 := qq1
  have HRD : Hid (L8 e = true) := by unfold Hid L8; simp [k3]
  have hhi : (0 : Int) = v8 nv na e.kind - 1 := by unfold v8; rw [if_neg k1, if_neg k2, if_neg k3]; rfl
  clear k1 k2 k3
  have HNB := show Hid (s5 nv na e = (decide (0 <= e.value) && decide (e.value <= 0))) from by
   unfold Hid s5; rw [decide_eq_true HQ.out.2, N4 hhi]; rfl
  clear hhi
  go_wp2_with fail
  refine (p8 e.value 0 _ _).mono ?_
  rintro x w1 ⟨rfl, rfl⟩
  have HNB2 := show Hid (s5 nv na e = (decide (0 <= e.value) && decide (e.value <= 0))) from HNB.out
  clear HNB
  obtain ⟨qn, hqn⟩ : ∃ qn, qn = (decide (0 <= e.value) && decide (e.value <= 0)) := ⟨_, rfl⟩
  rw [<- hqn]
  have HN := show Hid (s5 nv na e = qn) from HNB2.out.trans hqn.symm
  clear hqn HNB2
  cases qn
  ·have HF : Hid (n4 nv na (d + 1) c e = false) := D5 HN.out
   have M := HM.out
   clear HM
   go_wp2_with fail
   go_ret
   exact ⟨j4 (by rw [HF.out]), fun h => absurd (h.symm.trans HF.out) (by simp), ⟨_, M.blk 0 rfl⟩, M.kept⟩
  have HSC : Hid (n4 nv na (d + 1) c e = m8 nv na d (c + 1) e.kids e.kids.length) := N1 HN.out HRD.out
  go_wp2_with fail
  clear y0 y1 y2 y3 y4
  have HST : Hid (m8 nv na d (c + 1) e.kids 0 = true /\ w9 φ' (fun b => ¬ b = cb) w W1 [.box cb [.int .i64 (c + 1 + k8 (e.kids.take 0) : Nat)], .box w.heap.size [.slice a1 nv c1, .slice a2 na c2, v3], .box (w.heap.size + 1) [.int .i64 e.kind, .int .i64 e.value, .slice ak e.kids.length ck], .dat (fun w φ => j3 w φ (.slice ak e.kids.length ck) e.kids)]) := by
   refine ⟨?_, ?_⟩
   ·have := HQ.out.1
    simp [m8, k8]; omega
   rw [show ((c + 1 + k8 (e.kids.take 0) : Nat) : Int) = (c : Int) + 1 by simp [k8]]
   exact HM.out
  go_loopw [71] (fun i wr => ∃ k : Nat, k <= e.kids.length /\ i = .int .i64 k /\ m8 nv na d (c + 1) e.kids k = true /\ w9 φ' (fun b => ¬ b = cb) w wr [.box cb [.int .i64 (c + 1 + k8 (e.kids.take k) : Nat)], .box w.heap.size [.slice a1 nv c1, .slice a2 na c2, v3], .box (w.heap.size + 1) [.int .i64 e.kind, .int .i64 e.value, .slice ak e.kids.length ck], .dat (fun w φ => j3 w φ (.slice ak e.kids.length ck) e.kids)]) (fun i _ => e.kids.length - (intOf i).toNat)
  case atStart => exact ⟨0, Nat.zero_le _, rfl, HST.out.1, HST.out.2⟩
  case round =>
   clear HM
   obtain ⟨k, hk, rfl, hpre, M⟩ := hrel
   have HPRE := show Hid _ from hpre
   have hle : c + 1 + k8 (e.kids.take k) <= 15 := by unfold m8 at hpre; simp at hpre; exact hpre.2
   clear hpre
   by_cases hlt : k < e.kids.length
   ·have hncb : ¬ Fr φ' [.box cb [.int .i64 (c + 1 + k8 (e.kids.take k) : Nat)], .box w.heap.size [.slice a1 nv c1, .slice a2 na c2, v3], .box (w.heap.size + 1) [.int .i64 e.kind, .int .i64 e.value, .slice ak e.kids.length ck], .dat (fun w φ => j3 w φ (.slice ak e.kids.length ck) e.kids)] cb := fun h => h.2 _ bl2 rfl
    obtain ⟨a', c', he, -, -, -, hcell⟩ := (M.d 3 rfl).open
    cases he
    obtain ⟨b, off, kv, hbo, hbk, hf, g0, g1, g2, hkk⟩ := hcell k hlt
    cases hbo
    obtain ⟨ka, kc, rfl, -, -, -, -⟩ := hkk.open
    have bz : Below wr.heap.size wr (wr.alloc (.cells #[.int .i64 e.kids[k].kind, .int .i64 e.kids[k].value, .slice ka e.kids[k].kids.length kc] 37)) := by go_grown
    have HE := show Hid _ from j3.nice _ _ _ _ _ _ (G2.below bz) hkk
    have HNCB := show Hid _ from hncb
    have x0 := M.c 1 0 rfl rfl
    have x1 := M.c 1 1 rfl rfl
    have x2 := M.c 1 2 rfl rfl
    have s1 : w.heap.size < wr.heap.size := M.lt (r := .box w.heap.size [.slice a1 nv c1, .slice a2 na c2, v3]) (bl9 _ bl2) rfl
    have HM := show Hid _ from M.box [.int .i64 e.kids[k].kind, .int .i64 e.kids[k].value, .slice ka e.kids[k].kids.length kc] 37
    have HP := show Hid _ from H8 nv na (d := d) (c := c + 1) hlt
    have HX := show Hid (n4 nv na d (c + 1 + k8 (e.kids.take k)) e.kids[k] = false -> n4 nv na (d + 1) c e = false) from fun h => HSC.out.trans (J8 hlt h)
    have HT := show Hid _ from N0 hlt
    clear hcell hncb bz hkk M
    go_wp2_with fail
    refine (ih (deep + 1) (by omega) (by omega) e.kids[k] _ _ (c + 1 + k8 (e.kids.take k)) cb _ ⟨_, rfl, HE.out⟩ HNCB.out (HM.out.blk 0 rfl) hle).mono ?_
    rintro x w2 ⟨rfl, r1, ⟨u, r2⟩, kp⟩
    obtain ⟨q, hq⟩ : ∃ q, q = n4 nv na d (c + 1 + k8 (e.kids.take k)) e.kids[k] := ⟨_, rfl⟩
    rw [<- hq] at r1 ⊢
    have HQ2 := show Hid _ from hq
    clear hq x0 x1 x2 g0 g1 g2
    cases q
    ·have M2 := HM.out.callB 0 rfl kp r2
     have HF := show Hid _ from HX.out HQ2.out.symm
     clear r1 r2 kp
     go_wp2_with fail
     go_ret
     exact ⟨j4 (by rw [HF.out]), fun h => absurd (h.symm.trans HF.out) (by simp), ⟨_, M2.blk 0 rfl⟩, M2.kept⟩
    have M2 := (HM.out.callB 0 rfl kp (r1 rfl)).take 4
    have HM2 := show Hid _ from M2
    clear r1 r2 kp M2
    go_wp2_with fail
    refine ⟨⟨k + 1, by omega, by go_num, by rw [HP.out, HPRE.out, <- HQ2.out]; rfl, ?_⟩, by simp [intOf]; omega⟩
    rw [HT.out, show c + 1 + (k8 (e.kids.take k) + (1 + K5 e.kids[k])) = c + 1 + k8 (e.kids.take k) + 1 + K5 e.kids[k] by omega]
    exact HM2.out
   have hkn : k = e.kids.length := by omega
   subst hkn
   have HM := show Hid _ from M
   have HS : Hid (n4 nv na (d + 1) c e = true) := HSC.out.trans HPRE.out
   clear M
   go_wp2_with fail
   go_ret
   refine ⟨j4 (by rw [HS.out]), fun _ => ?_, ⟨_, HM.out.blk 0 rfl⟩, HM.out.kept⟩
   have := HM.out.blk 0 rfl
   rw [bm0 (bl5 _)] at this
   rw [I5]
   exact this
theorem az6 (nv na : Nat) (e : b6) : n4 nv na 5 0 e = c7 nv na e := by
 have h : (0 + 1 + K5 e <= 15) = (1 + K5 e <= 15) := by rw [bn7]
 unfold n4 c7
 simp only [h]
theorem aK2 (a1 a2 : Option Addr) (nv c1 na c2 : Nat) (v3 : Value) (h1 : nv <= 9223372036854775807) (h2 : na <= 9223372036854775807) (e : b6) (φ : Nat -> Prop) (v : Value) (w : World) (h : A2 w φ v e) :
  Calls Tryd.prog 35 #[.agg #[.slice a1 nv c1, .slice a2 na c2, v3], v] w fun x w' => x = .returned (.bool (c7 nv na e)) /\ Below w.heap.size w w' := by
 obtain ⟨kv, rfl, hk⟩ := h
 obtain ⟨W, hW, M⟩ : ∃ W, W = ((w.alloc (.cells #[.slice a1 nv c1, .slice a2 na c2, v3] 30)).alloc (.cells #[.int .i64 e.kind, .int .i64 e.value, kv] 37)).alloc (.cells #[.int .i64 0] 3) /\ w9 (fun _ => True) (fun _ => True) w W [.box w.heap.size [.slice a1 nv c1, .slice a2 na c2, v3], .box (w.heap.size + 1) [.int .i64 e.kind, .int .i64 e.value, kv], .box (w.heap.size + 1 + 1) [.int .i64 0]] :=
  ⟨_, rfl, (((w9.start fun _ _ => trivial).box _ _).box' _ _ (by simp)).box' _ _ (by simp)⟩
 have hb := M.below fun _ _ => trivial
 have HK := show Hid _ from j3.nice _ _ _ _ φ (fun b => φ b /\ b < w.heap.size) ⟨hb.size, fun b hl hf => ⟨⟨hf, hl⟩, hb.block b hl⟩⟩ hk
 clear hb hk
 have x0 := M.c 0 0 rfl rfl
 have x1 := M.c 0 1 rfl rfl
 have x2 := M.c 0 2 rfl rfl
 have y0 := M.c 1 0 rfl rfl
 have y1 := M.c 1 1 rfl rfl
 have y2 := M.c 1 2 rfl rfl
 have HM := show Hid _ from M
 rw [hW] at x0 x1 x2 y0 y1 y2
 clear M
 go_enter Tryd.func35, Tryd.ntmps35
 go_wp2_with fail
 rw [<- hW]
 clear hW x0 x1 x2 y0 y1 y2
 refine (aK1 a1 a2 nv c1 na c2 v3 h1 h2 5 1 (by omega) (by omega) e _ _ 0 _ _ ⟨kv, rfl, HK.out⟩ (fun h => by have := h.2; omega) (HM.out.blk 2 rfl) (by omega)).mono ?_
 rintro x w1 ⟨rfl, -, ⟨u, r2⟩, kp⟩
 rw [az6]
 have M := HM.out.callB 2 rfl kp r2
 have HB := show Hid _ from M.below fun _ _ => trivial
 clear kp r2 M
 go_wp2_with fail
 go_ret
 exact ⟨rfl, HB.out⟩
end Go.Proofs.YtcahndjigkledaaDoor

