/- Part 1: functions on the way, plain laws. Conditions: as said. -/
import Derived.WalkKit
import Derived.ProofKit
import Derived.Handy
import Derived.WalkSmall
import Derived.Deep.QuietTactic
import Derived.BigQuiet
import Derived.StillTailTactics
import Derived.Deep.Quiet
import Derived.StillTail
import Derived.Test.YtcahndjigkledaaDoorRows
import Derived.Maps.AppendAt
import Derived.ArgAppend
import Derived.Deep.Upon
import Derived.Lib.AppendIntMem
set_option maxRecDepth 100000
set_option maxHeartbeats 16000000
set_option linter.unusedVariables false
set_option linter.unusedSimpArgs false
open Bool renaming and_eq_true → a05, eq_iff_iff → a31
open List renaming all_eq_true → a19, append_assoc → a38, getElem?_append_left → a44, getElem?_append_right → a42, getElem?_eq_getElem → a02, getElem?_eq_none → a32, getElem?_eq_some_iff → a12, getElem?_map → a26, getElem_mem → a11, length_cons → a04, length_nil → a09, map_cons → a41, mem_append → a39, mem_cons_of_mem → a28, mem_cons_self → a22, mem_of_getElem? → a17, range → a25, replicate → a40, take_of_length_le → a16
open Nat renaming le_refl → a14, le_trans → a15, lt_of_lt_of_le → a36, mul_le_mul_right → a43, succ_mul → a29, zero_add → a45, zero_le → a34
open True renaming intro → a18

namespace Go.Proofs.YtcahndjigkledaaDoor
open Go Go.RowKit
def K0 (w : World) (v : Value) (n sz : Nat) (xs : List Value) : Prop :=
 xs.length = n * sz /\ ∃ a cap, v = .slice a n cap /\ n <= cap /\ cap <= maxLen /\
  (0 < n -> ∃ b off, a = some ⟨b, off, none⟩ /\ b < w.heap.size /\ ∀ j u, xs[j]? = some u -> w.cell? ⟨b, off + j, none⟩ = some u)
theorem v6 {W w1 : World} (hb : Below W.heap.size W w1) : (∀ b o, b < W.heap.size -> w1.cell? ⟨b, o, none⟩ = W.cell? ⟨b, o, none⟩) /\ (∀ b o, b < W.heap.size -> w1.frozen? ⟨b, o, none⟩ = W.frozen? ⟨b, o, none⟩) :=
 ⟨fun b o h => hb.cell (p := ⟨b, o, none⟩) h, fun b o h => hb.frozen (p := ⟨b, o, none⟩) h⟩
theorem K0.below {w w' : World} {v : Value} {n sz : Nat} {xs : List Value} (h : K0 w v n sz xs) (hb : Below w.heap.size w w') : K0 w' v n sz xs := by
 obtain ⟨hl, a, cap, rfl, h1, h2, h3⟩ := h
 refine ⟨hl, a, cap, rfl, h1, h2, fun hn => ?_⟩
 obtain ⟨b, off, rfl, hbk, hc⟩ := h3 hn
 exact ⟨b, off, rfl, a36 hbk hb.size, fun j u hj => ((v6 hb).1 b _ hbk).trans (hc j u hj)⟩
theorem K0.len {w : World} {v : Value} {n sz : Nat} {xs : List Value} (h : K0 w v n sz xs) : n <= 9223372036854775807 := by
 obtain ⟨_, a, cap, rfl, h1, h2, _⟩ := h; unfold maxLen at h2; omega
theorem K0.nil (w : World) (sz : Nat) : K0 w (.slice none 0 0) 0 sz [] := ⟨by simp, none, 0, rfl, a14 _, by unfold maxLen; omega, fun h => absurd h (by omega)⟩
theorem K0.open {w : World} {v : Value} {n sz : Nat} {xs : List Value} (h : K0 w v n sz xs) : ∃ a cap, v = .slice a n cap /\ n <= cap /\ n <= 9223372036854775807 /\ cap <= 9223372036854775807 /\
  ∀ i, i < n -> ∃ b off, a = some ⟨b, off, none⟩ /\ b < w.heap.size /\ ∀ j, j < sz -> w.cell? ⟨b, off + i * sz + j, none⟩ = xs[i * sz + j]? := by
 obtain ⟨hl, a, cap, rfl, h1, h2, h3⟩ := h
 unfold maxLen at h2
 refine ⟨a, cap, rfl, h1, by omega, by omega, fun i hi => ?_⟩
 obtain ⟨b, off, rfl, hbk, hc⟩ := h3 (by omega)
 refine ⟨b, off, rfl, hbk, fun j hj => ?_⟩
 have hlt : i * sz + j < xs.length := by
  rw [hl]; have := a43 sz (Nat.succ_le_of_lt hi); rw [a29] at this; omega
 rw [a02 hlt, Nat.add_assoc]
 exact hc _ _ (a02 hlt)
theorem K0.form {w : World} {v : Value} {n sz : Nat} {xs : List Value} (h : K0 w v n sz xs) : ∃ a cap, v = .slice a n cap := by
 obtain ⟨_, a, cap, hv, _⟩ := h
 exact ⟨a, cap, hv⟩
theorem K0.open1 {w : World} {v : Value} {n : Nat} {xs : List Value} (h : K0 w v n 1 xs) : ∃ a cap, v = .slice a n cap /\ n <= cap /\ n <= 9223372036854775807 /\ cap <= 9223372036854775807 /\
  ∀ i, i < n -> ∃ b off, a = some ⟨b, off, none⟩ /\ b < w.heap.size /\ w.cell? ⟨b, off + i, none⟩ = xs[i]? := by
 obtain ⟨a, cap, h0, h1, h2, h3, h4⟩ := h.open
 refine ⟨a, cap, h0, h1, h2, h3, fun i hi => ?_⟩
 obtain ⟨b, off, e, hb, hc⟩ := h4 i hi
 exact ⟨b, off, e, hb, by simpa using hc 0 (by omega)⟩
theorem R0 {w : World} {base : Nat} {e : TypeId} {sz : Nat} {v : Value} {n : Nat} {xs : List Value} (h : w.ownsRow base e sz v n xs) : K0 w v n sz xs := by
 refine ⟨h.1, ?_⟩
 rcases h.2 with ⟨rfl, rfl⟩ | ⟨g, cap, cur, rfl, hbg, hg, hnc, hcm, hcs, ht⟩
 ·exact ⟨none, 0, rfl, a14 _, by unfold maxLen; omega, fun h => absurd h (by omega)⟩
 refine ⟨some ⟨g, 0, none⟩, cap, rfl, hnc, hcm, fun _ => ⟨g, 0, rfl, (Array.getElem?_eq_some_iff.1 hg).1, fun j u hj => ?_⟩⟩
 have hadd : (⟨g, 0, none⟩ : Addr).add j = ⟨g, 0 + j, none⟩ := by unfold Addr.add; split <;> simp_all
 rw [<- hadd]
 exact h.cells (g := g) rfl j u hj
theorem I4 {w : World} {base base' : Nat} {e : TypeId} {sz : Nat} {v : Value} {n : Nat} {xs : List Value} (h : w.ownsRow base e sz v n xs) (hb : base' <= base) : w.ownsRow base' e sz v n xs := by
 refine ⟨h.1, ?_⟩
 rcases h.2 with hn | ⟨g, cap, cur, rfl, hbg, r⟩
 ·exact .inl hn
 exact .inr ⟨g, cap, cur, rfl, by omega, r⟩
def P8 (w : World) (lo hi : Nat) (e : TypeId) (sz : Nat) (v : Value) (n : Nat) (xs : List Value) : Prop :=
 w.ownsRow lo e sz v n xs /\ ∀ g, v.ownBlock = some g -> g < hi
structure Y0 (lo hi : Nat) (w w' : World) : Prop where
 os : w'.os = w.os
 tape : w'.tape = w.tape
 output : w'.output = w.output
 size : w.heap.size <= w'.heap.size
 block : ∀ k, k < w.heap.size -> (k < lo \/ hi <= k) -> w'.heap[k]? = w.heap[k]?
theorem Y0.refl (lo hi : Nat) (w : World) : Y0 lo hi w w := ⟨rfl, rfl, rfl, a14 _, fun _ _ _ => rfl⟩
theorem Y0.trans {lo hi : Nat} {a b c : World} (h : Y0 lo hi a b) (k : Y0 lo hi b c) : Y0 lo hi a c :=
 ⟨k.os.trans h.os, k.tape.trans h.tape, k.output.trans h.output, a15 h.size k.size, fun i hi ho => (k.block i (a36 hi h.size) ho).trans (h.block i hi ho)⟩
theorem Y0.wide {lo hi lo' hi' : Nat} {a b : World} (h : Y0 lo hi a b) (h1 : lo' <= lo) (h2 : hi <= hi') : Y0 lo' hi' a b :=
 ⟨h.os, h.tape, h.output, h.size, fun k hk ho => h.block k hk (by omega)⟩
theorem Y0.below {lo hi B : Nat} {a b : World} (h : Y0 lo hi a b) (h1 : B <= lo) (h2 : B <= a.heap.size) : Below B a b :=
 ⟨h.os, h.tape, h.output, h.size, fun k hk => h.block k (by omega) (by omega)⟩
theorem Y0.of_below {lo hi B : Nat} {a b : World} (h : Below B a b) (h1 : a.heap.size <= B) : Y0 lo hi a b :=
 ⟨h.os, h.tape, h.output, h.size, fun k hk _ => h.block k (by omega)⟩
theorem Y0.setCell {lo hi : Nat} {a w : World} (h : Y0 lo hi a w) {p : Addr} (h1 : lo <= p.block) (h2 : p.block < hi) (u : Value) : Y0 lo hi a (w.setCell p u) :=
 h.trans ⟨rfl, rfl, rfl, by simp [World.setCell], fun k _ ho => Below.heap_setCell _ _ _ _ (by omega)⟩
theorem P8.lt {w : World} {lo hi : Nat} {e : TypeId} {sz : Nat} {v : Value} {n : Nat} {xs : List Value} (h : P8 w lo hi e sz v n xs) : ∀ g, v.ownBlock = some g -> lo <= g /\ g < hi /\ g < w.heap.size :=
 fun g hg => ⟨(h.1.lt g hg).1, h.2 g hg, (h.1.lt g hg).2⟩
theorem P8.row {w : World} {lo hi : Nat} {e : TypeId} {sz : Nat} {v : Value} {n : Nat} {xs : List Value} (h : P8 w lo hi e sz v n xs) : K0 w v n sz xs := R0 h.1
theorem P8.mk' {w : World} {lo : Nat} {e : TypeId} {sz : Nat} {v : Value} {n : Nat} {xs : List Value} (h : w.ownsRow lo e sz v n xs) : P8 w lo w.heap.size e sz v n xs :=
 ⟨h, fun g hg => (h.lt g hg).2⟩
theorem P8.wide {w : World} {lo hi lo' hi' : Nat} {e : TypeId} {sz : Nat} {v : Value} {n : Nat} {xs : List Value} (h : P8 w lo hi e sz v n xs) (h1 : lo' <= lo) (h2 : hi <= hi') : P8 w lo' hi' e sz v n xs :=
 ⟨I4 h.1 h1, fun g hg => a36 (h.2 g hg) h2⟩
theorem P8.form {w : World} {lo hi : Nat} {e : TypeId} {sz : Nat} {v : Value} {n : Nat} {xs : List Value} (h : P8 w lo hi e sz v n xs) : ∃ a cap, v = .slice a n cap := by
 obtain ⟨_, a, cap, hv, _⟩ := h.row
 exact ⟨a, cap, hv⟩
theorem P8.same {w w' : World} {lo hi : Nat} {e : TypeId} {sz : Nat} {v : Value} {n : Nat} {xs : List Value} (h : P8 w lo hi e sz v n xs)
  (hs : ∀ g, v.ownBlock = some g -> w'.heap[g]? = w.heap[g]?) : P8 w' lo hi e sz v n xs := by
 refine ⟨⟨h.1.1, ?_⟩, h.2⟩
 rcases h.1.2 with hn | ⟨g, cap, cur, rfl, hbg, hg, r⟩
 ·exact .inl hn
 exact .inr ⟨g, cap, cur, rfl, hbg, (hs g rfl).trans hg, r⟩
theorem P8.keep {w w' : World} {lo hi B : Nat} {e : TypeId} {sz : Nat} {v : Value} {n : Nat} {xs : List Value} (h : P8 w lo hi e sz v n xs) (hb : Below B w w') (hB : hi <= B) : P8 w' lo hi e sz v n xs :=
 h.same fun g hg => hb.block g (by have := h.lt g hg; omega)
theorem P8.out {w w' : World} {lo hi lo' hi' : Nat} {e : TypeId} {sz : Nat} {v : Value} {n : Nat} {xs : List Value} (h : P8 w lo hi e sz v n xs) (ho : Y0 lo' hi' w w') (hd : hi <= lo' \/ hi' <= lo) : P8 w' lo hi e sz v n xs :=
 h.same fun g hg => ho.block g (h.lt g hg).2.2 (by have := h.lt g hg; omega)
theorem P8.open {w : World} {lo hi : Nat} {e : TypeId} {sz : Nat} {v : Value} {n : Nat} {xs : List Value} (h : P8 w lo hi e sz v n xs) (hn : 0 < n) :
  ∃ g cap, v = .slice (some ⟨g, 0, none⟩) n cap /\ lo <= g /\ g < hi /\ g < w.heap.size /\ n <= cap /\ cap <= maxLen /\ (∀ o, w.frozen? ⟨g, o, none⟩ = false) /\ ∀ j u, xs[j]? = some u -> w.cell? ⟨g, j, none⟩ = some u := by
 have hl := h.lt
 rcases h.1.2 with ⟨_, h0⟩ | ⟨g, cap, cur, rfl, hbg, hg, hnc, hcm, hcs, ht⟩
 ·omega
 obtain ⟨l1, l2, l3⟩ := hl g rfl
 refine ⟨g, cap, rfl, l1, l2, l3, hnc, hcm, fun o => ?_, fun j u hj => ?_⟩
 ·simp only [World.frozen?, hg]; simp
 have hadd : (⟨g, 0, none⟩ : Addr).add j = ⟨g, j, none⟩ := by unfold Addr.add; split <;> simp_all
 rw [<- hadd]
 exact h.1.cells (g := g) rfl j u hj
theorem P8.at {w : World} {lo hi : Nat} {e : TypeId} {sz : Nat} {v : Value} {n : Nat} {xs : List Value} (h : P8 w lo hi e sz v n xs) {j : Nat} (hj : j < xs.length) :
  ∃ g cap, v = .slice (some ⟨g, 0, none⟩) n cap /\ lo <= g /\ g < hi /\ g < w.heap.size /\ w.frozen? ⟨g, j, none⟩ = false /\ ∃ u, w.cell? ⟨g, j, none⟩ = some u := by
 have hn : 0 < n := by
  rcases Nat.eq_zero_or_pos n with h0 | h0
  ·subst h0; have := h.1.1; omega
  exact h0
 obtain ⟨g, cap, hv, h1, h2, h3, _, _, h4, h5⟩ := h.open hn
 exact ⟨g, cap, hv, h1, h2, h3, h4 j, _, h5 j _ (a02 hj)⟩
theorem P8.setCell {w : World} {lo hi : Nat} {e : TypeId} {sz : Nat} {n cap g : Nat} {xs : List Value} (h : P8 w lo hi e sz (.slice (some ⟨g, 0, none⟩) n cap) n xs) {j : Nat} (_hj : j < xs.length) (u : Value) :
  P8 (w.setCell ⟨g, j, none⟩ u) lo hi e sz (.slice (some ⟨g, 0, none⟩) n cap) n (xs.set j u) := by
 refine ⟨⟨by rw [List.length_set]; exact h.1.1, ?_⟩, h.2⟩
 rcases h.1.2 with ⟨hv, _⟩ | ⟨g', cap', cur, hv, hbg, hg, hnc, hcm, hcs, ht⟩
 ·cases hv
 cases hv
 refine .inr ⟨g, cap, cur.setIfInBounds j u, rfl, hbg, ?_, hnc, hcm, by simpa using hcs, ?_⟩
 ·have hlt := (Array.getElem?_eq_some_iff.1 hg).1
  simp only [World.setCell, Array.getElem?_modify]
  simp [hg]
 rw [Array.toList_setIfInBounds, List.take_set, ht]
theorem m5 {a b : Bool} (h : a = b) : Ending.returned (.bool a) = .returned (.bool b) := by rw [h]
theorem A6 {k : IntKind} {a b : Int} (h : a = b) : Ending.returned (.int k a) = .returned (.int k b) := by rw [h]
def E0 (m : Int) (n : Nat) : Int := if m < n then -1 else m - n
theorem s7 {m : Int} {n : Nat} (h : m < n) : E0 m n = -1 := if_pos h
theorem B6 {m : Int} {n : Nat} (h : ¬ m < n) : E0 m n = m - n := if_neg h
theorem A2 {α : Type} (l : List α) (k : Nat) (h : k < l.length) : l.take (k + 1) = l.take k ++ [l[k]] := by
 rw [List.take_succ_eq_append_getElem h]
theorem R6 {α : Type} {xs ys : List α} {k : Nat} (h : xs.take k = ys.take k) (h1 : k < xs.length) (h2 : k < ys.length) (he : xs[k] = ys[k]) : xs.take (k + 1) = ys.take (k + 1) := by
 rw [A2 _ _ h1, A2 _ _ h2, h, he]
theorem O5 {α : Type} {xs ys : List α} {k : Nat} (h : xs.take k = ys.take k) (h1 : xs.length <= k) (h2 : ys.length <= k) : xs = ys := by
 rw [a16 h1, a16 h2] at h; exact h
theorem P5 {α : Type} (ys : List α) (k : Nat) (u : α) (h : k < ys.length) : (ys.set k u).take (k + 1) = ys.take k ++ [u] := by
 rw [A2 _ _ (by simpa using h), List.take_set_of_le (a14 _)]; simp
def D5 (z : List Value) (n : Nat) : List Value := (a40 n z).flatten
theorem I6 (z : List Value) (n : Nat) : (D5 z n).length = n * z.length := by simp [D5]
theorem ad5 (z : Value) (n : Nat) : D5 [z] n = a40 n z := by
 unfold D5
 induction n with
 | zero => rfl
 | succ n ih => rw [List.replicate_succ, List.flatten_cons, ih]; rfl
theorem aj3 (z : Array Value) (n : Nat) (_hz : 0 < z.size) : madeCells z (n * z.size) = (D5 z.toList n).toArray := by
 apply Array.ext
 ·simp [size_madeCells, I6]
 intro i h1 h2
 simp only [madeCells, Array.getElem_map, Array.getElem_range, List.getElem_toArray]
 have hlt : i < (D5 z.toList n).length := by simpa using h2
 have key : ∀ (m i : Nat), i < (D5 z.toList m).length -> (D5 z.toList m)[i]? = some (z[i % z.size]!) := by
  intro m
  induction m with
  | zero => intro i hi; simp [D5] at hi
  | succ m ih =>
   intro i hi
   have e : D5 z.toList (m + 1) = z.toList ++ D5 z.toList m := by simp [D5, List.replicate_succ]
   rw [e]
   by_cases hlt : i < z.size
   ·rw [a44 (by simpa using hlt), Nat.mod_eq_of_lt hlt]
    simp [hlt]
   rw [a42 (by simp; omega)]
   have := ih (i - z.toList.length) (by rw [e, List.length_append] at hi; rw [Array.length_toList] at hi ⊢; omega)
   rw [this]
   congr 2
   rw [Array.length_toList]
   exact (Nat.mod_eq_sub_mod (by omega)).symm
 have := key n i hlt
 rw [a02 hlt] at this
 exact (Option.some.inj this).symm
theorem Z6 {P : Program} {t e : TypeId} {z : Value} {size bytes : Nat} (ht : P.underlying t = some (.slice e)) (hi : (P.info? e).map (fun i => (i.zero, i.size, i.bytes)) = some (some z, size, bytes))
  (hz : z.cells.size = size) (hs : 0 < size) (n : Nat) (hn : bytes * n <= 281474976710656) (hm : n <= 9223372036854775807) :
  ∀ w, (Instr.makeSlice t (.int .i64 n) (.int .i64 n)).run P w = .ok (.slice (some ⟨w.heap.size, 0, none⟩) n n) (w.alloc (.cells (D5 z.cells.toList n).toArray e)) := by
 intro w
 obtain ⟨i, h1, h2, h3, h4⟩ := info_parts hi
 have := run_make (P := P) w t e i z ht h1 h2 .i64 .i64 n n (by omega) (Int.le_refl _) (by rw [h4, <- Int.natCast_mul]; omega) (by omega)
 rw [this]
 simp only [Int.toNat_natCast, h3]
 subst hz
 rw [aj3 _ _ hs]
theorem ac3 (w : World) {g : Nat} (cs : Array Value) (n sz : Nat) (e : TypeId) (hg : g = w.heap.size) (hz : cs.size = n * sz) (hm : n <= 9223372036854775807) :
  P8 (w.alloc (.cells cs e)) w.heap.size (w.heap.size + 1) e sz (.slice (some ⟨g, 0, none⟩) n n) n cs.toList := by
 subst hg
 refine ⟨⟨by simpa using hz, .inr ⟨w.heap.size, n, _, rfl, a14 _, heap_alloc_new w _, a14 _, by unfold maxLen; omega, hz, ?_⟩⟩, fun g hg => by cases hg; exact Nat.lt_succ_self _⟩
 rw [<- hz]
 exact a16 (by simp)
theorem Z3 (w : World) (z : List Value) (n sz : Nat) (e : TypeId) (hz : z.length = sz) (hm : n <= 9223372036854775807) :
  P8 (w.alloc (.cells (D5 z n).toArray e)) w.heap.size (w.heap.size + 1) e sz (.slice (some ⟨w.heap.size, 0, none⟩) n n) n (D5 z n) := by
 refine ⟨⟨by rw [I6, hz], .inr ⟨w.heap.size, n, _, rfl, a14 _, heap_alloc_new w _, a14 _, by unfold maxLen; omega, by simp [I6, hz], ?_⟩⟩, fun g hg => by cases hg; exact Nat.lt_succ_self _⟩
 have : (D5 z n).length = n * sz := by rw [I6, hz]
 rw [<- this]
 simp
def setFrom (ys : List Value) (p : Nat) : List Value -> List Value
 | [] => ys
 | u :: r => setFrom (ys.set p u) (p + 1) r
def World.setFrom (w : World) (g p : Nat) : List Value -> World
 | [] => w
 | u :: r => World.setFrom (w.setCell ⟨g, p, none⟩ u) g (p + 1) r
theorem E9 (us : List Value) : ∀ (ys : List Value) (p : Nat), (setFrom ys p us).length = ys.length := by
 induction us with
 | nil => intro ys p; rfl
 | cons u r ih => intro ys p; simp [setFrom, ih]
theorem M7 (us : List Value) : ∀ (ys : List Value) (p : Nat), p + us.length <= ys.length -> (setFrom ys p us).take (p + us.length) = ys.take p ++ us := by
 induction us with
 | nil => intro ys p h; simp [setFrom]
 | cons u r ih =>
  intro ys p h
  simp only [a04] at h
  have := ih (ys.set p u) (p + 1) (by simp; omega)
  simp only [setFrom, a04]
  rw [show p + (r.length + 1) = p + 1 + r.length by omega, this, P5 _ _ _ (by omega)]
  simp
theorem P8.setFrom {lo hi : Nat} {e : TypeId} {sz n cap g : Nat} (us : List Value) : ∀ {w : World} {xs : List Value} {p : Nat}, P8 w lo hi e sz (.slice (some ⟨g, 0, none⟩) n cap) n xs -> p + us.length <= xs.length ->
  P8 (World.setFrom w g p us) lo hi e sz (.slice (some ⟨g, 0, none⟩) n cap) n (setFrom xs p us) := by
 induction us with
 | nil => intro w xs p h _; exact h
 | cons u r ih =>
  intro w xs p h hl
  simp only [a04] at hl
  exact ih (h.setCell (by omega) u) (by simp; omega)
theorem Y0.setFrom {lo hi g : Nat} {a : World} (us : List Value) : ∀ {w : World} {p : Nat}, Y0 lo hi a w -> lo <= g -> g < hi -> Y0 lo hi a (World.setFrom w g p us) := by
 induction us with
 | nil => intro w p h _ _; exact h
 | cons u r ih => intro w p h h1 h2; exact ih (h.setCell h1 h2 u) h1 h2
theorem W5 {B g : Nat} {a : World} (us : List Value) : ∀ {w : World} {p : Nat}, Below B a w -> B <= g -> Below B a (World.setFrom w g p us) := by
 induction us with
 | nil => intro w p h _; exact h
 | cons u r ih => intro w p h h1; exact ih (h.setCell h1 u) h1
def aU6 (u v : Value) : Prop := ∀ g, u.ownBlock = some g -> v.ownBlock ≠ some g
theorem aU6.symm {u v : Value} (h : aU6 u v) : aU6 v u := fun g h1 h2 => h g h2 h1
def O2 (w : World) (b : Nat) (cs : List Value) : Prop := ∃ T, w.heap[b]? = some (.cells cs.toArray T (0, 0))
theorem O2.lt {w : World} {b : Nat} {cs : List Value} (h : O2 w b cs) : b < w.heap.size := by
 obtain ⟨T, h⟩ := h; exact (Array.getElem?_eq_some_iff.1 h).1
theorem O2.cell {w : World} {b : Nat} {cs : List Value} (h : O2 w b cs) (j : Nat) : w.cell? ⟨b, j, none⟩ = cs[j]? := by
 obtain ⟨T, h⟩ := h; simp [World.cell?, h]
theorem O2.free {w : World} {b : Nat} {cs : List Value} (h : O2 w b cs) (j : Nat) : w.frozen? ⟨b, j, none⟩ = false := by
 obtain ⟨T, h⟩ := h; simp only [World.frozen?, h]; simp
theorem O2.below {w w' : World} {b B : Nat} {cs : List Value} (h : O2 w b cs) (hb : Below B w w') (hB : b < B) : O2 w' b cs := by
 obtain ⟨T, h⟩ := h; exact ⟨T, (hb.block b hB).trans h⟩
theorem O2.out {w w' : World} {b lo hi : Nat} {cs : List Value} (h : O2 w b cs) (hb : Y0 lo hi w w') (hB : b < lo \/ hi <= b) : O2 w' b cs := by
 have hlt := h.lt
 obtain ⟨T, h⟩ := h; exact ⟨T, (hb.block b hlt hB).trans h⟩
theorem O2.set {w : World} {b j : Nat} {cs : List Value} (h : O2 w b cs) (u : Value) : O2 (w.setCell ⟨b, j, none⟩ u) b (cs.set j u) := by
 obtain ⟨T, h⟩ := h
 refine ⟨T, ?_⟩
 simp only [World.setCell, Array.getElem?_modify]
 simp [h]
theorem O2.new (w : World) (cs : List Value) (T : TypeId) : O2 (w.alloc (.cells cs.toArray T)) w.heap.size cs := ⟨T, heap_alloc_new w _⟩
theorem O2.alloc {w : World} {b : Nat} {cs : List Value} (h : O2 w b cs) (o : Obj) : O2 (w.alloc o) b cs := by
 have hlt := h.lt
 obtain ⟨T, h⟩ := h; exact ⟨T, (Below.heap_alloc w o b hlt).trans h⟩
theorem O2.drew {w : World} {b : Nat} {cs : List Value} (h : O2 w b cs) : O2 w.drew b cs := h
theorem Y0.cell (w : World) (b j : Nat) (u : Value) : Y0 b (b + 1) w (w.setCell ⟨b, j, none⟩ u) :=
 Y0.setCell (p := ⟨b, j, none⟩) (Y0.refl b (b + 1) w) (a14 b) (Nat.lt_succ_self b) u
def _root_.Go.World.ext (w X : World) : World := { w with heap := w.heap ++ X.heap, drawn := X.drawn }
theorem k6 (w : World) (X : World) : Below w.heap.size w (w.ext X) :=
 ⟨rfl, rfl, rfl, by simp [World.ext], fun k hk => by simp only [World.ext]; rw [Array.getElem?_append_left hk]⟩
theorem ao0 {w w' : World} (h : Below w.heap.size w w') : ∃ X, w' = w.ext X := by
 refine ⟨{ w' with heap := w'.heap.extract w.heap.size w'.heap.size }, ?_⟩
 obtain ⟨h1, h2, h3, h4, h5⟩ := h
 have hh : w'.heap = w.heap ++ w'.heap.extract w.heap.size w'.heap.size := by
  apply Array.ext_getElem?
  intro i
  rcases Nat.lt_or_ge i w.heap.size with hi | hi
  ·rw [Array.getElem?_append_left hi, h5 i hi]
  rw [Array.getElem?_append_right hi, Array.getElem?_extract]
  split
  ·rw [show w.heap.size + (i - w.heap.size) = i by omega]
  rename_i hn
  rw [Array.getElem?_eq_none]
  simp at hn
  omega
 cases w; cases w'
 simp only [World.ext] at *
 subst h1 h2 h3
 rw [<- hh]
theorem b5 {w : World} {b o : Nat} {v : Value} (h : w.cell? ⟨b, o, none⟩ = some v) (X : World) : (w.ext X).cell? ⟨b, o, none⟩ = some v := by
 have hb : b < w.heap.size := World.block_lt_of_cell? w ⟨b, o, none⟩ h
 rw [(v6 (k6 w X)).1 b o hb]; exact h
theorem Calls.ext_of' {P : Program} {f : FuncId} {args : Array Value} {w : World} {X : World} {v : Value}
  (h : Calls P f args (w.ext X) fun e w' => e = .returned v /\ Below (w.ext X).heap.size (w.ext X) w') : Calls P f args (w.ext X) fun e w'' => e = .returned v /\ ∃ Y, w'' = w.ext Y :=
 h.mono fun _ _ ⟨he, hb⟩ => ⟨he, ao0 ((k6 w X).trans (hb.mono (k6 w X).size))⟩
theorem m7 {P : Program} {id : Nat} {Q : Exit -> Act -> World -> Prop} {a : Act} {w : World} {l : List Oper} (hm : P.follows .mixedOrders = true) (hB : Region.lexB .any l.toArray = true)
  (h : wpQuiet P l.toArray (fun w' => ∃ X, w' = w.ext X) (fun a' => ∀ w', (∃ X, w' = w.ext X) -> Q .normal a' w') l a) : (Code.region id l.toArray true).wp P Q a w :=
 wp_region_quiet (C := fun w' => ∃ X, w' = w.ext X) hm hB (ao0 (w' := w.drew) (Below.refl _ _).drew) (by simpa using h)
theorem an7 {P : Program} {f : FuncId} {fn : Func} {c : Code} (hf : P.funcs[f]? = some fn) (hn : (fn.name == "runtime.NumGoroutine") = false) (hb : fn.body = some c) :
  ∀ args w, (callFunc f args).run P w = .ok (.enter f args) w := by
 intro args w
 have h1 : fn.name ≠ "runtime.NumGoroutine" := by simpa using hn
 simp [callFunc, hf, h1, hb, mark]
end Go.Proofs.YtcahndjigkledaaDoor

namespace Go.Proofs.YtcahndjigkledaaDoor
theorem G0 {α : Type} (l : List α) (k : Nat) (h : k < l.length) : l.take (k + 1) = l.take k ++ [l[k]] := by
 rw [List.take_succ_eq_append_getElem h]
theorem P7 {α : Type} (p : α -> Bool) (l : List α) (k : Nat) (h : k < l.length) : (l.take (k + 1)).all p = ((l.take k).all p && p l[k]) := by
 rw [G0 l k h, List.all_append]; simp
theorem af7 {α : Type} {p : α -> Bool} {l : List α} {k : Nat} (h : k < l.length) (hp : p l[k] = false) : l.all p = false := by
 rw [List.all_eq_false]; exact ⟨l[k], a11 h, by simp [hp]⟩
structure P9 where
 op : Int
 a : Int
 b : Int
 c : Int
 d : Int
def P9.l (x : P9) : List Int := [x.op, x.a, x.b, x.c, x.d]
def R2 : List P9 -> List Int
 | [] => []
 | x :: r => x.op :: x.a :: x.b :: x.c :: x.d :: R2 r
theorem aL3 (l : List P9) : (R2 l).length = l.length * 5 := by
 induction l with
 | nil => rfl
 | cons x r ih => simp [R2, ih]; omega
theorem P9.ext' {x y : P9} (h : x.l = y.l) : x = y := by
 cases x; cases y; simp [P9.l] at h; simp [h]
theorem au7 : ∀ {l m : List P9}, R2 l = R2 m -> l = m
 | [], [], _ => rfl
 | [], _ :: _, h => by simp [R2] at h
 | _ :: _, [], h => by simp [R2] at h
 | x :: r, y :: s, h => by
  simp only [R2, List.cons.injEq] at h
  obtain ⟨h1, h2, h3, h4, h5, h6⟩ := h
  rw [au7 h6, P9.ext' (x := x) (y := y) (by simp [P9.l, h1, h2, h3, h4, h5])]
theorem aL4 (l : List P9) (i : Nat) (hi : i < l.length) : (R2 l)[i * 5]? = some l[i].op /\ (R2 l)[i * 5 + 1]? = some l[i].a /\ (R2 l)[i * 5 + 2]? = some l[i].b /\ (R2 l)[i * 5 + 3]? = some l[i].c /\ (R2 l)[i * 5 + 4]? = some l[i].d := by
 induction l generalizing i with
 | nil => simp at hi
 | cons x r ih =>
  cases i with
  | zero => simp [R2]
  | succ i =>
   rw [a29]
   have := ih i (by simpa using hi)
   simpa [R2, Nat.add_assoc] using this
structure F8 where
 vars : List Int
 arrays : List Int
 list : List P9
def F8.size (c : F8) : Nat := c.vars.length + c.arrays.length + c.list.length
def F8.same (c d : F8) : Bool := decide (c.vars = d.vars) && decide (c.arrays = d.arrays) && decide (R2 c.list = R2 d.list)
theorem F8.same_eq {c d : F8} : c.same d = true ↔ c = d := by
 cases c; cases d
 simp only [F8.same, a05, decide_eq_true_eq, F8.mk.injEq]
 constructor
 ·rintro ⟨⟨rfl, rfl⟩, h⟩; exact ⟨rfl, rfl, au7 h⟩
 rintro ⟨rfl, rfl, rfl⟩; exact ⟨⟨rfl, rfl⟩, rfl⟩
def A8 (l : Int) : Bool := decide (0 <= l) && decide (l <= 3)
def F0 (vars arrays : List Int) : Bool := vars.all A8 && arrays.all A8 && decide (1 <= vars.length) && decide (vars.length <= 12) && decide (arrays.length <= 2)
def aO9 (c : F8) (kd : UInt8) (n : Int) : Bool :=
 if kd = 114 then decide (0 <= n) && decide (n < 14)
 else if kd = 99 then decide (0 <= n) && decide (n <= 255)
 else if kd = 118 then decide (0 <= n) && decide (n < c.vars.length)
 else if kd = 97 then decide (0 <= n) && decide (n < c.arrays.length)
 else if kd = 111 then decide (4 <= n) && decide (n <= 10)
 else decide (0 <= n) && decide (n < c.list.length)
def aq7 (op : Int) : List UInt8 :=
 if op = 1 then [114, 99] else if op = 2 then [114, 118] else if op = 3 then [118, 114] else if op = 4 then [114, 97, 114] else if op = 5 then [97, 114, 114]
 else if op = 6 then [114, 111, 114, 114] else if op = 7 then [114, 114, 114, 114] else if op = 8 then [116] else if op = 9 then [114, 116] else if op = 10 then [114, 116]
 else if op = 11 then [114] else []
def aq0 (c : F8) (kinds : List UInt8) (k : Nat) (n : Int) : Bool :=
 match kinds[k]? with
 | some kd => aO9 c kd n
 | none => decide (n = 0)
def aS0 (c : F8) (x : P9) : Bool :=
 decide (1 <= x.op) && decide (x.op <= 13) && (aq0 c (aq7 x.op) 0 x.a && aq0 c (aq7 x.op) 1 x.b && aq0 c (aq7 x.op) 2 x.c && aq0 c (aq7 x.op) 3 x.d)
def aK8 (c : F8) : Bool := match c.list.getLast? with | some x => decide (x.op = 13) || decide (x.op = 8) | none => false
def ar2 (c : F8) : Bool := F0 c.vars c.arrays && decide (1 <= c.list.length) && decide (c.list.length <= 400) && c.list.all (aS0 c) && aK8 c
def aV7 (x : P9) (i : Int) : List Int := if x.op = 13 then [] else if x.op = 8 then [x.a] else if x.op = 9 \/ x.op = 10 then [i + 1, x.b] else [i + 1]
def nx (c : F8) (t : Int) : List Int := match c.list[t.toNat]? with | some x => aV7 x t | none => []
theorem ab0 {c : F8} (h : ar2 c = true) : F0 c.vars c.arrays = true /\ 1 <= c.list.length /\ c.list.length <= 400 /\ (∀ (i : Nat) (hi : i < c.list.length), aS0 c c.list[i] = true) /\ aK8 c = true := by
 unfold ar2 at h
 simp only [a05, decide_eq_true_eq, a19] at h
 obtain ⟨⟨⟨⟨h1, h2⟩, h3⟩, h4⟩, h5⟩ := h
 exact ⟨h1, h2, h3, fun i hi => h4 _ (a11 hi), h5⟩
inductive Rc (c : F8) : Int -> Prop
 | zero : Rc c 0
 | step {i t : Int} : Rc c i -> t ∈ nx c i -> Rc c t
noncomputable def aY0 (c : F8) : List Bool := (a25 c.list.length).map fun (j : Nat) => @decide (Rc c (j : Int)) (Classical.propDecidable _)
theorem an8 {bs : List Bool} {k : Nat} (h : bs[k]? = some false) : (bs.set k true).count false + 1 = bs.count false := by
 induction bs generalizing k with
 | nil => simp at h
 | cons b r ih =>
  cases k with
  | zero => simp at h; subst h; simp
  | succ k =>
   simp at h
   have := ih h
   simp only [List.set_cons_succ, List.count_cons]
   omega
theorem ap0 {bs : List Bool} {k j : Nat} (h : (bs.set k true)[j]? = some true) : j = k \/ bs[j]? = some true := by
 rw [List.getElem?_set] at h
 split at h
 ·rename_i e; exact .inl e.symm
 exact .inr h
theorem as7 {bs : List Bool} {k : Nat} (h : k < bs.length) : (bs.set k true)[k]? = some true := by simp [h]
structure aX2 (c : F8) (qs : List Int) (bs : List Bool) : Prop where
 len : bs.length = c.list.length
 cnt : qs.length + bs.count false = c.list.length
 q : ∀ t ∈ qs, 0 <= t /\ t < c.list.length /\ Rc c t
 sound : ∀ j : Nat, bs[j]? = some true -> Rc c j
 inq : ∀ j : Nat, bs[j]? = some true -> (j : Int) ∈ qs
 zero : bs[0]? = some true
theorem aX2.start {c : F8} (hc : ar2 c = true) : aX2 c [0] ((a40 c.list.length false).set 0 true) := by
 have hn := (ab0 hc).2.1
 have hone : ∀ j : Nat, ((a40 c.list.length false).set 0 true)[j]? = some true -> j = 0 := by
  intro j h
  rcases ap0 h with h | h
  ·exact h
  rw [List.getElem?_replicate] at h; split at h <;> simp at h
 refine ⟨by simp, ?_, ?_, ?_, ?_, ?_⟩
 ·have := an8 (bs := a40 c.list.length false) (k := 0) (by rw [List.getElem?_replicate, if_pos (by omega)])
  simp at this ⊢
  omega
 ·intro t ht
  simp at ht; subst ht
  exact ⟨by omega, by omega, .zero⟩
 ·intro j h; rw [hone j h]; exact .zero
 ·intro j h; rw [hone j h]; simp
 exact as7 (by simp; omega)
structure aN0 (c : F8) (ls : List Int) (bs : List Bool) : Prop where
 len : bs.length = c.list.length
 cnt : ls.length + 2 * bs.count false <= 2 * c.list.length + 1
 l : ∀ t ∈ ls, 0 <= t /\ t < c.list.length /\ Rc c t
 sound : ∀ j : Nat, bs[j]? = some true -> Rc c j
 zero : bs[0]? = some true \/ (0 : Int) ∈ ls
 clos : ∀ j : Nat, bs[j]? = some true -> ∀ t ∈ nx c j, bs[t.toNat]? = some true \/ t ∈ ls
theorem aN0.start {c : F8} (hc : ar2 c = true) : aN0 c [0] (a40 c.list.length false) := by
 have hn := (ab0 hc).2.1
 refine ⟨by simp, by simp; omega, ?_, ?_, .inr (by simp), ?_⟩
 ·intro t ht
  simp at ht; subst ht
  exact ⟨by omega, by omega, .zero⟩
 ·intro j h; rw [List.getElem?_replicate] at h; split at h <;> simp at h
 intro j h; rw [List.getElem?_replicate] at h; split at h <;> simp at h
theorem aN0.skip {c : F8} {ls : List Int} {i : Int} {bs : List Bool} (h : aN0 c (ls ++ [i]) bs) (hb : bs[i.toNat]? = some true) : aN0 c ls bs := by
 refine ⟨h.len, by have := h.cnt; simp at this; omega, fun t ht => h.l t (List.mem_append_left _ ht), h.sound, ?_, ?_⟩
 ·rcases h.zero with h0 | h0
  ·exact .inl h0
  rcases a39.1 h0 with h0 | h0
  ·exact .inr h0
  simp at h0; subst h0; exact .inl hb
 intro j hj t ht
 rcases h.clos j hj t ht with h1 | h1
 ·exact .inl h1
 rcases a39.1 h1 with h1 | h1
 ·exact .inr h1
 simp at h1; subst h1; exact .inl hb
end Go.Proofs.YtcahndjigkledaaDoor

namespace Go.Proofs.YtcahndjigkledaaDoor
open Go Go.RowKit
section
variable {P : Program} {md : Region.Mode} {C : World -> Prop}
theorem aa8 {listed : Array Bool} {i : Nat} (h : listed.getD i true = false) : (listed.setIfInBounds i true).toList.count false + 1 = listed.toList.count false := by
 rw [Array.toList_setIfInBounds]
 refine an8 ?_
 rcases Nat.lt_or_ge i listed.size with h' | h'
 ·simp [h'] at h ⊢; exact h
 simp [Array.getElem?_eq_none h'] at h
end
abbrev ints (l : List Int) : List Value := l.map (Value.int .i64)
theorem R1 (l : List Int) (k : Nat) (h : k < l.length) : (ints l)[k]? = some (.int .i64 l[k]) := by simp [ints, h]
theorem aW3 : (Tryd.prog.info? 3).map (fun i => (i.zero, i.size, i.bytes)) = some (some (.int .i64 0), 1, 8) := by kernel_rfl
theorem ak1 (v1 v2 : Value) (xs ys : List Int) (w : World) (h1 : K0 w v1 xs.length 1 (ints xs)) (h2 : K0 w v2 ys.length 1 (ints ys)) :
  Calls Tryd.prog 29 #[v1, v2] w fun e w' => e = .returned (.bool (decide (xs = ys))) /\ ∃ n, w' = w.drewN n := by
 obtain ⟨a1, c1, rfl, -, hm1, -, hc1⟩ := h1.open1
 obtain ⟨a2, c2, rfl, -, hm2, -, hc2⟩ := h2.open1
 by_cases hl : xs.length = ys.length
 ·rw [<- hl] at hc2 ⊢
  clear h1 h2 hm2
  go_enter Tryd.func29, Tryd.ntmps29
  go_wp2
  go_loopw [5] (fun i wr => ∃ k : Nat, k <= xs.length /\ i = .int .i64 k /\ xs.take k = ys.take k /\ ∃ n, wr = w.drewN n) (fun i _ => xs.length - (intOf i).toNat)
  case atStart => exact ⟨0, a34 _, rfl, rfl, 0, rfl⟩
  case round =>
   obtain ⟨k, hk, rfl, ht, nd, rfl⟩ := hrel
   have HT : Hid (xs.take k = ys.take k) := ht
   clear ht
   have HL : Hid (xs.length = ys.length) := hl
   clear hl
   by_cases hlt : k < xs.length
   ·have hlt2 : k < ys.length := by have := HL.out; omega
    obtain ⟨b1, o1, rfl, hb1, hx⟩ := hc1 k hlt
    obtain ⟨b2, o2, rfl, hb2, hy⟩ := hc2 k hlt
    rw [R1 _ _ hlt] at hx
    rw [R1 _ _ hlt2] at hy
    clear hc1 hc2
    go_wp2
    go_quiet (fail)
    go_wp2
    ·rename_i hd
     go_ret
     exact ⟨m5 (by symm; simp; intro h; subst h; simp at hd), _, by first | rfl | exact World.drewN_drewN _ _ _⟩
    rename_i hd
    refine ⟨⟨k + 1, by omega, by go_num, R6 HT.out hlt hlt2 (by simpa using hd), _, by first | rfl | exact World.drewN_drewN _ _ _⟩, by simp [intOf]; omega⟩
   go_wp2
   go_ret
   exact ⟨m5 (by symm; simp; exact O5 HT.out (by omega) (by have := HL.out; omega)), _, rfl⟩
 have hne : ((xs.length : Int) == (ys.length : Int)) = false := by simp; omega
 clear hc1 hc2
 go_enter Tryd.func29, Tryd.ntmps29
 go_wp2
 go_ret
 exact ⟨m5 (by symm; simp; intro h; exact hl (by rw [h])), 0, rfl⟩
theorem ah5 (v : Value) (n : Nat) (xs : List Value) (m : Int) (w : World) (h : K0 w v n 1 xs) (hm : 0 <= m) (hm2 : m <= 1048576) :
  Calls Tryd.prog 20 #[v, .int .i64 m] w fun e w' => e = .returned (.int .i64 (E0 m n)) /\ w = w' := by
 obtain ⟨a1, c1, rfl, -, hm1, -, hc1⟩ := h.open1
 clear hc1 h
 by_cases hlt : m < n
 all_goals
  go_enter Tryd.func20, Tryd.ntmps20
  go_wp2
  go_ret
  exact ⟨A6 (by unfold E0; split <;> omega), rfl⟩
theorem ah2 (v : Value) (xs : List Int) (w : World) (h : K0 w v xs.length 1 (ints xs)) (hb : xs.length <= 17592186044416) :
  Calls Tryd.prog 25 #[v] w fun e w' => ∃ u, e = .returned u /\ P8 w' w.heap.size w'.heap.size 3 1 u xs.length (ints xs) /\ Below w.heap.size w w' := by
 obtain ⟨a1, c1, rfl, -, hm1, -, hc1⟩ := h.open1
 clear h
 have hmk := Z6 (P := Tryd.prog) (t := 22) Tryd.underlying22 aW3 rfl (by omega) xs.length (by omega) hm1
 have hown := Z3 w (Value.int .i64 0).cells.toList xs.length 1 3 rfl hm1
 go_enter Tryd.func25, Tryd.ntmps25
 go_wp2
 clear hmk
 go_loopw [4] (fun i wr => ∃ (k : Nat) (ys : List Value), k <= xs.length /\ i = .int .i64 k /\ P8 wr w.heap.size (w.heap.size + 1) 3 1 (.slice (some ⟨w.heap.size, 0, none⟩) xs.length xs.length) xs.length ys /\ ys.take k = (ints xs).take k /\ Below w.heap.size w wr) (fun i _ => xs.length - (intOf i).toNat)
 case atStart => exact ⟨0, _, a34 _, rfl, hown, rfl, (Below.refl _ _).alloc (a14 _) _⟩
 case round =>
  obtain ⟨k, ys, hk, rfl, ho, ht, hbw⟩ := hrel
  have HT : Hid (ys.take k = (ints xs).take k) := ht
  clear ht hown
  by_cases hlt : k < xs.length
  ·obtain ⟨b1, o1, rfl, hb1, hx⟩ := hc1 k hlt
   rw [R1 _ _ hlt, <- (v6 hbw).1 _ _ hb1] at hx
   have hyl : ys.length = xs.length := by rw [ho.1.1, Nat.mul_one]
   obtain ⟨g, cap, hv, hg1, hg2, hg3, hf, u0, hc⟩ := ho.at (j := k) (by omega)
   cases hv
   have HY : Hid (ys.length = xs.length) := hyl
   clear hc1 hyl
   go_wp2
   go_roundw
   case rel =>
    refine ⟨k + 1, ys.set k (.int .i64 xs[k]), by omega, by go_num, ho.setCell (by have := HY.out; omega) _, ?_, hbw.setCell (a14 _) _⟩
    rw [P5 _ _ _ (by have := HY.out; omega), HT.out, A2 (ints xs) k (by simpa using hlt)]
    simp
   case measure => simp [intOf]; omega
  go_wp2
  go_ret
  have he : ys = ints xs := O5 HT.out (by rw [ho.1.1]; omega) (by simp; omega)
  subst he
  exact ⟨_, rfl, ho.wide (a14 _) (by have := ho.lt _ rfl; omega), hbw⟩
def az3 (K n : Nat) : List Int := (a25 n).map fun (j : Nat) => ((K : Int) + (j : Int))
abbrev aU5 (w : World) (v : Value) (l : List P9) : Prop := K0 w v l.length 5 (ints (R2 l))
abbrev P9.v (x : P9) : Value := .agg #[.int .i64 x.op, .int .i64 x.a, .int .i64 x.b, .int .i64 x.c, .int .i64 x.d]
def ar9 (w : World) (v : Value) (c : F8) : Prop :=
 ∃ v1 v2 v3, v = .agg #[v1, v2, v3] /\ K0 w v1 c.vars.length 1 (ints c.vars) /\ K0 w v2 c.arrays.length 1 (ints c.arrays) /\ aU5 w v3 c.list
theorem ar9.below {w w' : World} {v : Value} {c : F8} (h : ar9 w v c) (hb : Below w.heap.size w w') : ar9 w' v c := by
 obtain ⟨v1, v2, v3, rfl, h1, h2, h3⟩ := h
 exact ⟨v1, v2, v3, rfl, h1.below hb, h2.below hb, h3.below hb⟩
def ad4 (w : World) (v : Value) (K nv na nl : Nat) : Prop :=
 ∃ v1 v2 v3, v = .agg #[v1, v2, v3] /\ K0 w v1 nv 1 (ints (az3 K nv)) /\ K0 w v2 na 1 (ints (az3 (K + nv) na)) /\ K0 w v3 nl 5 (ints (az3 (K + nv + na) (nl * 5)))
theorem ad4.below {w w' : World} {v : Value} {K nv na nl : Nat} (h : ad4 w v K nv na nl) (hb : Below w.heap.size w w') : ad4 w' v K nv na nl := by
 obtain ⟨v1, v2, v3, rfl, h1, h2, h3⟩ := h
 exact ⟨v1, v2, v3, rfl, h1.below hb, h2.below hb, h3.below hb⟩
theorem at2 {P : Program} {w : World} {lo : Nat} {t ty e : TypeId} {i : TypeInfo} {size : Nat} (ht : P.underlying t = some (.slice e)) (hi : P.info? e = some i)
  {v : Value} {n : Nat} {xs : List Value} (hown : w.ownsRow lo e size v n xs) (c : Nat) : (Builtin.append_ #[t, t] ty #[v, .slice none 0 c]).run P w = .ok v w := by
 obtain ⟨_, h⟩ := hown
 rcases h with ⟨rfl, rfl⟩ | ⟨g, cap, cur, rfl, _, _, hnc, _⟩
 ·simp [Builtin.append_, run_underlying ht, sizeOf, typeInfo, hi, Builtin.lenOf, Builtin.firstCells]
 simp [Builtin.append_, run_underlying ht, sizeOf, typeInfo, hi, Builtin.lenOf, Builtin.firstCells, hnc, storeCells]
theorem an3 {w : World} {lo : Nat} {e : TypeId} {sz : Nat} {v : Value} {n : Nat} {xs : List Value} (h : w.ownsRow lo e sz v n xs) : ∃ a k, v = .slice a n k := by
 rcases h.2 with ⟨rfl, rfl⟩ | ⟨g, cap, cur, rfl, _⟩
 ·exact ⟨_, _, rfl⟩
 exact ⟨_, _, rfl⟩
theorem af6 {P : Program} {w : World} {lo : Nat} {t ty e : TypeId} {z : Value} {size bytes : Nat} (ht : P.underlying t = some (.slice e)) (hi : (P.info? e).map (fun i => (i.zero, i.size, i.bytes)) = some (some z, size, bytes))
  (hzs : z.cells.size = size) (hsz : 0 < size) {v : Value} {n : Nat} {xs : List Value} (hown : w.ownsRow lo e size v n xs) {u : Value} {m : Nat} {news : List Value} (hr : K0 w u m size news) (h1 : ∀ u ∈ news, u.oneCell' = true)
  (h63 : n + m <= 9223372036854775807) (hbytes : (n + m) * bytes <= 140737488355328) (hbase : lo <= w.heap.size) :
  ∃ a' k' w', (Builtin.append_ #[t, t] ty #[v, u]).run P w = .ok (.slice a' (n + m) k') w' /\ w'.ownsRow lo e size (.slice a' (n + m) k') (n + m) (xs ++ news) /\ Below lo w w' /\ w.grownBy w' v.ownBlock /\ (∀ g, (Value.slice a' (n + m) k').ownBlock = some g -> v.ownBlock = some g \/ w.heap.size <= g) := by
 obtain ⟨i, g1, g2, g3, g4⟩ := info_parts hi
 obtain ⟨hl, A, c, rfl, hmc, hc, hA⟩ := hr
 have below_of : ∀ {w' : World}, w.grownBy w' v.ownBlock -> Below lo w w' := fun {w'} hg => by
  refine ⟨hg.os, hg.tape, hg.output, hg.size, fun k hk => hg.block k (by omega) fun he => ?_⟩
  have := hown.lt k he.symm
  omega
 rcases A with _ | a
 ·have hm : m = 0 := by
   rcases Nat.eq_zero_or_pos m with h0 | h0
   ·exact h0
   obtain ⟨_, _, he, _⟩ := hA h0; cases he
  subst hm
  have hn : news = [] := List.eq_nil_of_length_eq_zero (by simpa using hl)
  subst hn
  obtain ⟨a', k', rfl⟩ := an3 hown
  exact ⟨a', k', w, at2 ht g1 hown c, by simpa using hown, Below.refl _ _, ⟨rfl, rfl, rfl, a14 _, fun _ _ _ => rfl⟩, fun g hg => .inl hg⟩
 have hcells : ∀ j u, news[j]? = some u -> w.cell? (a.add j) = some u := by
  intro j u hu
  have h0 : 0 < m := by
   rcases Nat.eq_zero_or_pos m with h0 | h0
   ·subst h0
    have hn : news = [] := List.eq_nil_of_length_eq_zero (by simpa using hl)
    subst hn; simp at hu
   exact h0
  obtain ⟨b, off, he, hb, hx⟩ := hA h0
  cases he
  have hadd : (⟨b, off, none⟩ : Addr).add j = ⟨b, off + j, none⟩ := by unfold Addr.add; split <;> simp_all
  rw [hadd]
  exact hx j u hu
 obtain ⟨v', w', hrun, h2, h3, _, h5⟩ := run_append_own_at (P := P) w lo t ty e i z size bytes ht g1 g2 g3 g4 hzs hsz v n xs hown a m c news hl hcells h1 (by unfold maxLen; omega) hbytes hbase
 obtain ⟨a', k', rfl⟩ := an3 h2
 exact ⟨a', k', w', hrun, h2, below_of h3, h3, fun g hg => h5.elim (fun h => .inl (h ▸ hg)) fun h => .inr (by rw [h] at hg; cases hg; exact a14 _)⟩
theorem P8.grown {w w' : World} {lo hi : Nat} {e : TypeId} {sz : Nat} {v : Value} {n : Nat} {xs : List Value} {row : Option Nat} (h : P8 w lo hi e sz v n xs) (hg : w.grownBy w' row) (hne : ∀ g, v.ownBlock = some g -> row ≠ some g) : P8 w' lo hi e sz v n xs :=
 h.same fun g hv => hg.block g (h.lt g hv).2.2 fun he => hne g hv he.symm
section
variable {P : Program}
theorem aE3 {x : Oper} {a : Act} {w : World} {K : Act -> World -> Prop} {Q Q0 : Exit -> Act -> World -> Prop} (h0 : ∀ e a w, Q0 e a w -> e = .normal) (h : x.wp P a w K Q0) : x.wp P a w K Q := by
 unfold Oper.wp at *
 generalize (execOp a.eval x).run P w = r at *
 cases r with
 | ok n w' =>
  cases n <;> simp only [Oper.upon] at h ⊢ <;>
   first
    | exact h
    | exact Calls.mono h (fun e w'' he => by
      cases e
      ·exact he
      ·exact absurd (h0 _ _ _ he) (by simp)
      obtain ⟨a, w, hq⟩ := he; exact absurd (h0 _ _ _ hq) (by simp))
 | halt y w' =>
  cases y <;> simp only [Oper.upon] at h ⊢ <;> first | exact h | exact absurd (h0 _ _ _ h) (by simp)
end
section
variable {P : Program}
structure a01 (mk : (Nat -> Value) -> Act) (C : World -> Prop) (R : Nat -> Value -> World -> Prop) (n : Nat) (listed : Array Bool) (f : Nat -> Value) (a : Act) (w : World) : Prop where
 act : a = mk f
 cls : C w
 val : ∀ i, i < n -> listed.getD i false = true -> R i (f i) w
end
def C0 (φ φ' : Nat -> Prop) (w w' : World) : Prop := w.heap.size <= w'.heap.size /\ ∀ b, b < w.heap.size -> φ b -> φ' b /\ w'.heap[b]? = w.heap[b]?
def S9 (R : World -> (Nat -> Prop) -> Prop) : Prop := ∀ w w' φ φ', C0 φ φ' w w' -> R w φ -> R w' φ'
theorem C0.below {φ : Nat -> Prop} {w w' : World} (h : Below w.heap.size w w') : C0 φ φ w w' := ⟨h.size, fun b hb hf => ⟨hf, h.block b hb⟩⟩
theorem C0.mono {φ φ' : Nat -> Prop} {w : World} (h : ∀ b, b < w.heap.size -> φ b -> φ' b) : C0 φ φ' w w := ⟨a14 _, fun b hb hf => ⟨h b hb hf, rfl⟩⟩
theorem C0.cell {φ φ' : Nat -> Prop} {w w' : World} (h : C0 φ φ' w w') {b o : Nat} (hb : b < w.heap.size) (hf : φ b) : w'.cell? ⟨b, o, none⟩ = w.cell? ⟨b, o, none⟩ := by
 simp only [World.cell?, (h.2 b hb hf).2]
def B4 (w : World) (φ : Nat -> Prop) (v : Value) (n sz : Nat) (xs : List Value) : Prop :=
 xs.length = n * sz /\ ∃ a cap, v = .slice a n cap /\ n <= cap /\ cap <= maxLen /\
  (0 < n -> ∃ b off, a = some ⟨b, off, none⟩ /\ b < w.heap.size /\ φ b /\ ∀ j u, xs[j]? = some u -> w.cell? ⟨b, off + j, none⟩ = some u)
theorem B4.nice (v : Value) (n sz : Nat) (xs : List Value) : S9 fun w φ => B4 w φ v n sz xs := by
 rintro w w' φ φ' ha ⟨hl, a, cap, rfl, h1, h2, h3⟩
 refine ⟨hl, a, cap, rfl, h1, h2, fun hn => ?_⟩
 obtain ⟨b, off, rfl, hb, hf, hc⟩ := h3 hn
 exact ⟨b, off, rfl, a36 hb ha.1, (ha.2 b hb hf).1, fun j u hj => (ha.cell hb hf).trans (hc j u hj)⟩
theorem B4.row {w : World} {φ : Nat -> Prop} {v : Value} {n sz : Nat} {xs : List Value} (h : B4 w φ v n sz xs) : K0 w v n sz xs := by
 obtain ⟨hl, a, cap, rfl, h1, h2, h3⟩ := h
 refine ⟨hl, a, cap, rfl, h1, h2, fun hn => ?_⟩
 obtain ⟨b, off, rfl, hb, _, hc⟩ := h3 hn
 exact ⟨b, off, rfl, hb, hc⟩
theorem K0.rowF {w : World} {v : Value} {n sz : Nat} {xs : List Value} (h : K0 w v n sz xs) {φ : Nat -> Prop} (hf : ∀ b, b < w.heap.size -> φ b) : B4 w φ v n sz xs := by
 obtain ⟨hl, a, cap, rfl, h1, h2, h3⟩ := h
 refine ⟨hl, a, cap, rfl, h1, h2, fun hn => ?_⟩
 obtain ⟨b, off, rfl, hb, hc⟩ := h3 hn
 exact ⟨b, off, rfl, hb, hf b hb, hc⟩
theorem B4.nil (w : World) (φ : Nat -> Prop) (sz : Nat) : B4 w φ (.slice none 0 0) 0 sz [] := ⟨by simp, none, 0, rfl, a14 _, by unfold maxLen; omega, fun h => absurd h (by omega)⟩
theorem E4 {w : World} {lo : Nat} {e : TypeId} {sz : Nat} {v : Value} {n : Nat} {xs : List Value} (h : w.ownsRow lo e sz v n xs) {φ : Nat -> Prop} (hf : ∀ g, v.ownBlock = some g -> φ g) : B4 w φ v n sz xs := by
 obtain ⟨hl, a, cap, hv, h1, h2, h3⟩ := R0 h
 refine ⟨hl, a, cap, hv, h1, h2, fun hn => ?_⟩
 obtain ⟨b, off, he, hb, hc⟩ := h3 hn
 refine ⟨b, off, he, hb, ?_, hc⟩
 rcases h.2 with ⟨hv', h0⟩ | ⟨g, cap', cur, hv', _⟩
 ·omega
 rw [hv'] at hv
 cases hv
 cases he
 exact hf _ (by rw [hv']; rfl)
inductive L8 where
 | box (b : Nat) (cs : List Value)
 | row (e : TypeId) (sz : Nat) (v : Value) (n : Nat) (xs : List Value)
 | dat (R : World -> (Nat -> Prop) -> Prop)
 | own (S : Nat -> Prop) (R : World -> Prop)
def L8.blk : L8 -> Nat -> Prop
 | .box b _ => fun g => g = b
 | .row _ _ v _ _ => fun g => v.ownBlock = some g
 | .dat _ => fun _ => False
 | .own S _ => S
def Fr (φ : Nat -> Prop) (L : List L8) (b : Nat) : Prop := φ b /\ ∀ r ∈ L, ¬ r.blk b
def L8.holds (w : World) (φ : Nat -> Prop) : L8 -> Prop
 | .box b cs => O2 w b cs
 | .row e sz v n xs => w.ownsRow 0 e sz v n xs
 | .dat R => S9 R /\ R w φ
 | .own S R => (∀ w w', R w -> (∀ b, S b -> b < w.heap.size -> w'.heap[b]? = w.heap[b]?) -> R w') /\ R w /\ ∀ b, S b -> b < w.heap.size
structure C1 (ψ : Nat -> Prop) (w w' : World) : Prop where
 os : w'.os = w.os
 tape : w'.tape = w.tape
 output : w'.output = w.output
 size : w.heap.size <= w'.heap.size
 block : ∀ b, b < w.heap.size -> ψ b -> w'.heap[b]? = w.heap[b]?
theorem C1.refl (ψ : Nat -> Prop) (w : World) : C1 ψ w w := ⟨rfl, rfl, rfl, a14 _, fun _ _ _ => rfl⟩
theorem C1.trans {ψ : Nat -> Prop} {a b c : World} (h : C1 ψ a b) (k : C1 ψ b c) : C1 ψ a c :=
 ⟨k.os.trans h.os, k.tape.trans h.tape, k.output.trans h.output, a15 h.size k.size, fun i hi hp => (k.block i (a36 hi h.size) hp).trans (h.block i hi hp)⟩
theorem C1.of_below {ψ : Nat -> Prop} {w w' : World} {B : Nat} (h : Below B w w') (hB : ∀ b, b < w.heap.size -> ψ b -> b < B) : C1 ψ w w' := ⟨h.os, h.tape, h.output, h.size, fun b hb hp => h.block b (hB b hb hp)⟩
theorem C1.below {w w' : World} {ψ : Nat -> Prop} (h : C1 ψ w w') (hp : ∀ b, b < w.heap.size -> ψ b) : Below w.heap.size w w' := ⟨h.os, h.tape, h.output, h.size, fun b hb => h.block b hb (hp b hb)⟩
structure A9 (φ ψ : Nat -> Prop) (w0 w : World) (L : List L8) : Prop where
 kept : C1 ψ w0 w
 fresh : ∀ b, w0.heap.size <= b -> φ b
 holds : ∀ (r : L8), r ∈ L -> r.holds w (Fr φ L)
 dis : ∀ (i j : Nat) (a b : L8) (g : Nat), L[i]? = some a -> L[j]? = some b -> i ≠ j -> a.blk g -> ¬ b.blk g
 ge : ∀ (r : L8) (b : Nat), r ∈ L -> r.blk b -> w0.heap.size <= b \/ ¬ ψ b
section
variable {φ ψ : Nat -> Prop} {w0 w w' : World} {L : List L8}
theorem A9.start (hf : ∀ b, w0.heap.size <= b -> φ b) : A9 φ ψ w0 w0 [] := ⟨C1.refl _ _, hf, (fun _ h => by cases h), (fun i j a b g h => by simp at h), (fun _ _ h => by cases h)⟩
theorem L8.lt {r : L8} (h : r.holds w φ) {b : Nat} (hb : r.blk b) : b < w.heap.size := by
 cases r with
 | box b' cs => cases hb; exact O2.lt h
 | row e sz v n xs => exact (World.ownsRow.lt h b hb).2
 | dat R => cases hb
 | own S R => exact h.2.2 b hb
theorem A9.lt (M : A9 φ ψ w0 w L) {r : L8} (hr : r ∈ L) {b : Nat} (hb : r.blk b) : b < w.heap.size := L8.lt (M.holds r hr) hb
theorem A9.frFresh (M : A9 φ ψ w0 w L) : ∀ b, w.heap.size <= b -> Fr φ L b := fun b hb => ⟨M.fresh b (a15 M.kept.size hb), fun r hr he => by have := M.lt hr he; omega⟩
theorem A9.size (M : A9 φ ψ w0 w L) : w0.heap.size <= w.heap.size := M.kept.size
theorem A9.below (M : A9 φ ψ w0 w L) (hp : ∀ b, b < w0.heap.size -> ψ b) : Below w0.heap.size w0 w := M.kept.below hp
theorem L8.keep {φ' : Nat -> Prop} {r : L8} (h : r.holds w φ) (ha : C0 φ φ' w w') (hb : ∀ b, r.blk b -> w'.heap[b]? = w.heap[b]?) : r.holds w' φ' := by
 cases r with
 | box b cs => obtain ⟨T, h⟩ := h; exact ⟨T, (hb b rfl).trans h⟩
 | row e sz v n xs => exact (P8.same (lo := 0) (hi := w.heap.size) ⟨h, fun g hg => (World.ownsRow.lt h g hg).2⟩ hb).1
 | dat R => exact ⟨h.1, h.1 _ _ _ _ ha h.2⟩
 | own S R => exact ⟨h.1, h.1 _ _ h.2.1 fun b hs _ => hb b hs, fun b hs => a36 (h.2.2 b hs) ha.1⟩
theorem A9.call (M : A9 φ ψ w0 w L) (b : Below w.heap.size w w') : A9 φ ψ w0 w' L :=
 ⟨M.kept.trans (C1.of_below b fun _ h _ => h), M.fresh, fun r hr => L8.keep (M.holds r hr) (C0.below b) fun g hg => b.block g (M.lt hr hg), M.dis, M.ge⟩
theorem A9.drew (M : A9 φ ψ w0 w L) : A9 φ ψ w0 w.drew L := M.call (Below.refl _ _).drew
theorem Fr.snoc {r : L8} {b : Nat} : Fr φ (L ++ [r]) b ↔ Fr φ L b /\ ¬ r.blk b := by
 unfold Fr
 constructor
 ·rintro ⟨h1, h2⟩; exact ⟨⟨h1, fun x hx => h2 x (by simp [hx])⟩, h2 r (by simp)⟩
 rintro ⟨⟨h1, h2⟩, h3⟩
 refine ⟨h1, fun x hx => ?_⟩
 simp only [a39, List.mem_singleton] at hx
 rcases hx with hx | rfl
 ·exact h2 x hx
 exact h3
theorem A9.add (M : A9 φ ψ w0 w L) (b : Below w.heap.size w w') (r : L8) (h : r.holds w' (Fr φ (L ++ [r]))) (hg : ∀ g, r.blk g -> w.heap.size <= g) : A9 φ ψ w0 w' (L ++ [r]) := by
 have M' := M.call b
 refine ⟨M'.kept, M.fresh, fun x hx => ?_, fun i j x y g hi hj hij hx hy => ?_, fun x g hx hxg => ?_⟩
 ·simp only [a39, List.mem_singleton] at hx
  rcases hx with hx | rfl
  ·exact L8.keep (M.holds x hx) ⟨b.size, fun c hc hf => ⟨Fr.snoc.2 ⟨hf, fun he => by have := hg c he; omega⟩, b.block c hc⟩⟩ fun g hgx => b.block g (M.lt hx hgx)
  exact h
 ·have lt : ∀ (k : Nat) (z : L8), (L ++ [r])[k]? = some z -> (k < L.length /\ L[k]? = some z) \/ (k = L.length /\ z = r) := by
   intro k z hz
   rcases Nat.lt_or_ge k L.length with hk | hk
   ·rw [a44 hk] at hz; exact .inl ⟨hk, hz⟩
   rw [a42 hk] at hz
   have : k - L.length = 0 := by
    rcases Nat.eq_zero_or_pos (k - L.length) with h | h
    ·exact h
    rw [a32 (by rw [List.length_singleton]; exact h)] at hz; cases hz
   rw [this] at hz; simp at hz
   exact .inr ⟨by omega, hz.symm⟩
  rcases lt i x hi with ⟨hi', h1⟩ | ⟨hi', rfl⟩ <;> rcases lt j y hj with ⟨hj', h2⟩ | ⟨hj', rfl⟩
  ·exact M.dis i j x y g h1 h2 hij hx hy
  ·have := M.lt (a17 h1) hx; have := hg g hy; omega
  ·have := M.lt (a17 h2) hy; have := hg g hx; omega
  omega
 simp only [a39, List.mem_singleton] at hx
 rcases hx with hx | rfl
 ·exact M.ge x g hx hxg
 exact .inl (a15 M.size (hg g hxg))
theorem A9.box (M : A9 φ ψ w0 w L) (cs : List Value) (T : TypeId) : A9 φ ψ w0 (w.alloc (.cells cs.toArray T)) (L ++ [.box w.heap.size cs]) :=
 M.add ((Below.refl _ _).alloc (a14 _) _) _ (O2.new w cs T) fun g hg => by cases hg; exact a14 _
theorem A9.box' (M : A9 φ ψ w0 w L) (cs : List Value) (T : TypeId) {b : Nat} (hb : b = w.heap.size) : A9 φ ψ w0 (w.alloc (.cells cs.toArray T)) (L ++ [.box b cs]) := by subst hb; exact M.box cs T
theorem A9.dat (M : A9 φ ψ w0 w L) {R : World -> (Nat -> Prop) -> Prop} (hn : S9 R) (h : R w (Fr φ L)) : A9 φ ψ w0 w (L ++ [.dat R]) :=
 M.add (Below.refl _ _) _ ⟨hn, hn _ _ _ _ (C0.mono fun b _ hf => Fr.snoc.2 ⟨hf, fun h => by cases h⟩) h⟩ fun g hg => by cases hg
theorem A9.callR (M : A9 φ ψ w0 w L) (b : Below w.heap.size w w') {e : TypeId} {sz : Nat} {v : Value} {n : Nat} {xs : List Value} (h : w'.ownsRow w.heap.size e sz v n xs) : A9 φ ψ w0 w' (L ++ [.row e sz v n xs]) :=
 M.add b _ (I4 h (a34 _)) fun g hg => (h.lt g hg).1
theorem A9.nil (M : A9 φ ψ w0 w L) (e : TypeId) (sz : Nat) : A9 φ ψ w0 w (L ++ [.row e sz (.slice none 0 0) 0 []]) :=
 M.add (Below.refl _ _) _ (World.ownsRow_nil _ _ _ _) fun g hg => by cases hg
theorem Fr.set {r : L8} {i : Nat} {a : L8} (_hi : L[i]? = some a) {b : Nat} (h : Fr φ L b) (hr : ¬ r.blk b) : Fr φ (L.set i r) b :=
 ⟨h.1, fun x hx => by
  rcases List.mem_or_eq_of_mem_set hx with hx | rfl
  ·exact h.2 x hx
  exact hr⟩
theorem A9.put (M : A9 φ ψ w0 w L) {i : Nat} {a : L8} (hi : L[i]? = some a) (r : L8) (hk : C1 (fun b => ¬ a.blk b) w w') (h : r.holds w' (Fr φ (L.set i r))) (hg : ∀ g, r.blk g -> a.blk g \/ w.heap.size <= g) : A9 φ ψ w0 w' (L.set i r) := by
 have hil := (a12.1 hi).1
 have ha := a17 hi
 have get : ∀ (j : Nat) (z : L8), (L.set i r)[j]? = some z -> (j ≠ i /\ L[j]? = some z) \/ (j = i /\ z = r) := by
  intro j z hz
  by_cases e : j = i
  ·subst e; rw [List.getElem?_set_self hil] at hz; exact .inr ⟨rfl, (Option.some.inj hz).symm⟩
  rw [List.getElem?_set_ne (fun h => e h.symm)] at hz; exact .inl ⟨e, hz⟩
 refine ⟨⟨hk.os.trans M.kept.os, hk.tape.trans M.kept.tape, hk.output.trans M.kept.output, a15 M.size hk.size, fun b hb hp => (hk.block b (a36 hb M.size) fun he => ?_).trans (M.kept.block b hb hp)⟩, M.fresh, fun x hx => ?_, fun j k x y g hj hk' hjk hx hy => ?_, fun x g hx hxg => ?_⟩
 ·rcases M.ge a b ha he with h' | h'
  ·omega
  exact h' hp
 ·obtain ⟨j, hj⟩ := List.mem_iff_getElem?.1 hx
  rcases get j x hj with ⟨hne, hj'⟩ | ⟨_, rfl⟩
  ·refine L8.keep (M.holds x (a17 hj')) ⟨hk.size, fun b hb hf => ⟨Fr.set hi hf fun he => ?_, hk.block b hb (hf.2 a ha)⟩⟩ fun g hgx => hk.block g (M.lt (a17 hj') hgx) fun he => M.dis i j a x g hi hj' (fun e => hne e.symm) he hgx
   rcases hg b he with h' | h'
   ·exact hf.2 a ha h'
   omega
  exact h
 ·rcases get j x hj with ⟨hne, hj'⟩ | ⟨e1, rfl⟩ <;> rcases get k y hk' with ⟨hne', hk''⟩ | ⟨e2, rfl⟩
  ·exact M.dis j k x y g hj' hk'' hjk hx hy
  ·rcases hg g hy with h' | h'
   ·exact M.dis j i x a g hj' hi hne hx h'
   have := M.lt (a17 hj') hx; omega
  ·rcases hg g hx with h' | h'
   ·exact M.dis i k a y g hi hk'' (fun e => hne' e.symm) h' hy
   have := M.lt (a17 hk'') hy; omega
  omega
 obtain ⟨j, hj⟩ := List.mem_iff_getElem?.1 hx
 rcases get j x hj with ⟨hne, hj'⟩ | ⟨_, rfl⟩
 ·exact M.ge x g (a17 hj') hxg
 rcases hg g hxg with h' | h'
 ·exact M.ge a g ha h'
 exact .inl (a15 M.size h')
theorem C1.mono {ψ ψ' : Nat -> Prop} {w w' : World} (h : C1 ψ w w') (hp : ∀ b, ψ' b -> ψ b) : C1 ψ' w w' := ⟨h.os, h.tape, h.output, h.size, fun b hb hp' => h.block b hb (hp b hp')⟩
theorem C1.setCell (w : World) (b j : Nat) (u : Value) : C1 (fun c => ¬ c = b) w (w.setCell ⟨b, j, none⟩ u) :=
 ⟨rfl, rfl, rfl, by simp [World.setCell], fun c _ hc => Below.heap_setCell _ _ _ _ hc⟩
theorem A9.set (M : A9 φ ψ w0 w L) (i : Nat) {b : Nat} {cs : List Value} (hi : L[i]? = some (.box b cs)) (j : Nat) (u : Value) : A9 φ ψ w0 (w.setCell ⟨b, j, none⟩ u) (L.set i (.box b (cs.set j u))) :=
 M.put hi _ (C1.setCell w b j u) (O2.set (M.holds _ (a17 hi)) u) fun _ hg => .inl hg
theorem A9.setFrom (us : List Value) : ∀ {w : World} {L : List L8} {p : Nat} {cs : List Value}, A9 φ ψ w0 w L -> ∀ (i : Nat) {b : Nat}, L[i]? = some (.box b cs) -> A9 φ ψ w0 (World.setFrom w b p us) (L.set i (.box b (Go.Proofs.YtcahndjigkledaaDoor.setFrom cs p us))) := by
 induction us with
 | nil =>
  intro w L p cs M i b hi
  have : L.set i (.box b cs) = L := by
   apply List.ext_getElem?
   intro j
   rw [List.getElem?_set]
   split
   ·rename_i e; subst e; rw [if_pos (a12.1 hi).1, hi]
   rfl
  show A9 φ ψ w0 w (L.set i (.box b cs))
  rw [this]; exact M
 | cons u r ih =>
  intro w L p cs M i b hi
  have h1 := M.set i hi p u
  have h2 := ih (p := p + 1) h1 i (by rw [List.getElem?_set_self (a12.1 hi).1])
  rw [List.set_set] at h2
  exact h2
theorem as9 {cs us : List Value} (h : us.length = cs.length) : Go.Proofs.YtcahndjigkledaaDoor.setFrom cs 0 us = us := by
 have h1 := M7 us cs 0 (by omega)
 rw [a45, a16 (by rw [E9]; omega)] at h1
 simpa using h1
theorem A9.fill (M : A9 φ ψ w0 w L) (i : Nat) {b : Nat} {cs : List Value} (hi : L[i]? = some (.box b cs)) (us : List Value) (h : us.length = cs.length) : A9 φ ψ w0 (World.setFrom w b 0 us) (L.set i (.box b us)) := by
 have h1 := M.setFrom us (p := 0) i hi
 rwa [as9 h] at h1
theorem A9.callB (M : A9 φ ψ w0 w L) (i : Nat) {b : Nat} {cs cs' : List Value} (hi : L[i]? = some (.box b cs)) (hk : C1 (fun c => ¬ c = b) w w') (h : O2 w' b cs') : A9 φ ψ w0 w' (L.set i (.box b cs')) :=
 M.put hi _ hk h fun _ hg => .inl hg
theorem A9.app (M : A9 φ ψ w0 w L) (i : Nat) {e : TypeId} {sz : Nat} {v v' : Value} {n n' : Nat} {xs xs' : List Value} (hi : L[i]? = some (.row e sz v n xs)) (h : w'.ownsRow 0 e sz v' n' xs') (hg : w.grownBy w' v.ownBlock) (hb : ∀ g, v'.ownBlock = some g -> v.ownBlock = some g \/ w.heap.size <= g) :
  A9 φ ψ w0 w' (L.set i (.row e sz v' n' xs')) :=
 M.put hi _ ⟨hg.os, hg.tape, hg.output, hg.size, fun b hb hn => hg.block b hb fun h => hn h.symm⟩ h hb
theorem A9.callO (M : A9 φ ψ w0 w L) (b : Below w.heap.size w w') {S : Nat -> Prop} {R : World -> Prop} (hR : ∀ w w', R w -> (∀ b, S b -> b < w.heap.size -> w'.heap[b]? = w.heap[b]?) -> R w') (h : R w') (hs : ∀ b, S b -> w.heap.size <= b /\ b < w'.heap.size) : A9 φ ψ w0 w' (L ++ [.own S R]) :=
 M.add b _ ⟨hR, h, fun b hb => (hs b hb).2⟩ fun g hg => (hs g hg).1
theorem A9.o (M : A9 φ ψ w0 w L) (i : Nat) {S : Nat -> Prop} {R : World -> Prop} (hi : L[i]? = some (.own S R)) : R w := (M.holds _ (a17 hi)).2.1
theorem A9.take (M : A9 φ ψ w0 w L) (k : Nat) : A9 φ ψ w0 w (L.take k) :=
 ⟨M.kept, M.fresh, fun r hr => L8.keep (M.holds r (List.mem_of_mem_take hr)) (C0.mono fun _ _ hf => ⟨hf.1, fun x hx => hf.2 x (List.mem_of_mem_take hx)⟩) fun _ _ => rfl,
  fun i j a b g hi hj hij => M.dis i j a b g (by rw [List.getElem?_take] at hi; split at hi; exact hi; cases hi) (by rw [List.getElem?_take] at hj; split at hj; exact hj; cases hj) hij, fun r b hr => M.ge r b (List.mem_of_mem_take hr)⟩
theorem A9.sel (M : A9 φ ψ w0 w L) (is : List Nat) (L' : List L8) (h : L'.map some = is.map fun i => L[i]?) (hn : is.Nodup) : A9 φ ψ w0 w L' := by
 have hl : L'.length = is.length := by simpa using congrArg List.length h
 have get : ∀ (j : Nat) (r : L8), L'[j]? = some r -> ∃ i, is[j]? = some i /\ L[i]? = some r := by
  intro j r hj
  have h1 : (L'.map some)[j]? = some (some r) := by simp [hj]
  rw [h, a26] at h1
  cases hi : is[j]? with
  | none => rw [hi] at h1; cases h1
  | some i => rw [hi] at h1; exact ⟨i, rfl, Option.some.inj h1⟩
 have mem : ∀ r, r ∈ L' -> r ∈ L := fun r hr => by
  obtain ⟨j, hj⟩ := List.mem_iff_getElem?.1 hr
  obtain ⟨i, _, hi⟩ := get j r hj
  exact a17 hi
 refine ⟨M.kept, M.fresh, fun r hr => L8.keep (M.holds r (mem r hr)) (C0.mono fun _ _ hf => ⟨hf.1, fun x hx => hf.2 x (mem x hx)⟩) fun _ _ => rfl, fun j k a b g hj hk hjk ha hb => ?_, fun r b hr => M.ge r b (mem r hr)⟩
 obtain ⟨i1, e1, h1⟩ := get j a hj
 obtain ⟨i2, e2, h2⟩ := get k b hk
 refine M.dis i1 i2 a b g h1 h2 (fun e => hjk ?_) ha hb
 subst e
 have hlt := (a12.1 e1).1
 exact (List.getElem?_inj hlt hn).1 (e1.trans e2.symm)
theorem A9.c (M : A9 φ ψ w0 w L) (i j : Nat) {b : Nat} {cs : List Value} {u : Value} (hi : L[i]? = some (.box b cs)) (hj : cs[j]? = some u) : w.cell? ⟨b, j, none⟩ = some u :=
 (O2.cell (M.holds _ (a17 hi)) j).trans hj
theorem A9.f (M : A9 φ ψ w0 w L) (i : Nat) {b : Nat} {cs : List Value} (hi : L[i]? = some (.box b cs)) : ∀ j, w.frozen? ⟨b, j, none⟩ = false := O2.free (M.holds _ (a17 hi))
theorem A9.blk (M : A9 φ ψ w0 w L) (i : Nat) {b : Nat} {cs : List Value} (hi : L[i]? = some (.box b cs)) : O2 w b cs := M.holds _ (a17 hi)
theorem A9.r (M : A9 φ ψ w0 w L) (i : Nat) {e : TypeId} {sz : Nat} {v : Value} {n : Nat} {xs : List Value} (hi : L[i]? = some (.row e sz v n xs)) : w.ownsRow 0 e sz v n xs := M.holds _ (a17 hi)
theorem A9.d (M : A9 φ ψ w0 w L) (i : Nat) {R : World -> (Nat -> Prop) -> Prop} (hi : L[i]? = some (.dat R)) : R w (Fr φ L) := (M.holds _ (a17 hi)).2
theorem A9.dn (M : A9 φ ψ w0 w L) (i : Nat) {R : World -> (Nat -> Prop) -> Prop} (hi : L[i]? = some (.dat R)) : S9 R := (M.holds _ (a17 hi)).1
theorem A9.out (M : A9 φ ψ w0 w L) (i : Nat) {R : World -> (Nat -> Prop) -> Prop} (hi : L[i]? = some (.dat R)) : R w φ := M.dn i hi _ _ _ _ (C0.mono fun _ _ hf => hf.1) (M.d i hi)
theorem A9.as (M : A9 φ ψ w0 w L) (L' : List L8) (h : L = L') : A9 φ ψ w0 w L' := h ▸ M
end
end Go.Proofs.YtcahndjigkledaaDoor

namespace Go.Proofs.YtcahndjigkledaaDoor
inductive b9 where
 | mk (kind value : Int) (kids : List b9)
def b9.kind : b9 -> Int | ⟨k, _, _⟩ => k
def b9.value : b9 -> Int | ⟨_, n, _⟩ => n
def b9.kids : b9 -> List b9 | ⟨_, _, ks⟩ => ks
inductive b6 where
 | mk (kind target : Int) (index value : b9) (count : Int) (body els : List b6)
def b6.kind : b6 -> Int | ⟨k, _, _, _, _, _, _⟩ => k
def b6.target : b6 -> Int | ⟨_, t, _, _, _, _, _⟩ => t
def b6.index : b6 -> b9 | ⟨_, _, i, _, _, _, _⟩ => i
def b6.value : b6 -> b9 | ⟨_, _, _, v, _, _, _⟩ => v
def b6.count : b6 -> Int | ⟨_, _, _, _, c, _, _⟩ => c
def b6.body : b6 -> List b6 | ⟨_, _, _, _, _, b, _⟩ => b
def b6.els : b6 -> List b6 | ⟨_, _, _, _, _, _, e⟩ => e
structure p8 where
 vars : List Int
 arrays : List Int
 body : List b6
mutual
theorem b9.ind {P : b9 -> Prop} (h : ∀ k n ks, (∀ e ∈ ks, P e) -> P ⟨k, n, ks⟩) : ∀ e : b9, P e
 | ⟨k, n, ks⟩ => h k n ks (b9.indL h ks)
theorem b9.indL {P : b9 -> Prop} (h : ∀ k n ks, (∀ e ∈ ks, P e) -> P ⟨k, n, ks⟩) : ∀ ks : List b9, ∀ e ∈ ks, P e
 | [] => fun _ hm => by cases hm
 | a :: r => fun _ hm => (List.mem_cons.1 hm).elim (fun he => he ▸ b9.ind h a) fun hm => b9.indL h r _ hm
end
mutual
theorem b6.ind {P : b6 -> Prop} (h : ∀ k t i v c b e, (∀ s ∈ b, P s) -> (∀ s ∈ e, P s) -> P ⟨k, t, i, v, c, b, e⟩) : ∀ s : b6, P s
 | ⟨k, t, i, v, c, b, e⟩ => h k t i v c b e (b6.indL h b) (b6.indL h e)
theorem b6.indL {P : b6 -> Prop} (h : ∀ k t i v c b e, (∀ s ∈ b, P s) -> (∀ s ∈ e, P s) -> P ⟨k, t, i, v, c, b, e⟩) : ∀ ss : List b6, ∀ s ∈ ss, P s
 | [] => fun _ hm => by cases hm
 | a :: r => fun _ hm => (List.mem_cons.1 hm).elim (fun he => he ▸ b6.ind h a) fun hm => b6.indL h r _ hm
end
mutual
def G9 : b9 -> Nat
 | ⟨_, _, ks⟩ => s4 ks
def s4 : List b9 -> Nat
 | [] => 0
 | e :: r => 1 + G9 e + s4 r
end
mutual
def szS : b6 -> Nat
 | ⟨_, _, i, v, _, b, e⟩ => G9 i + G9 v + t7 b + t7 e
def t7 : List b6 -> Nat
 | [] => 0
 | s :: r => 1 + szS s + t7 r
end
def p8.size (p : p8) : Nat := p.vars.length + p.arrays.length + t7 p.body
theorem O6 (a b : List b9) : s4 (a ++ b) = s4 a + s4 b := by
 induction a with
 | nil => simp [s4]
 | cons x r ih => simp [s4, ih]; omega
theorem ae0 (a b : List b6) : t7 (a ++ b) = t7 a + t7 b := by
 induction a with
 | nil => simp [t7]
 | cons x r ih => simp [t7, ih]; omega
theorem Y4 (a : List b9) : a.length <= s4 a := by
 induction a with
 | nil => simp
 | cons x r ih => simp only [s4, a04]; omega
theorem Q5 (a : List b6) : a.length <= t7 a := by
 induction a with
 | nil => simp
 | cons x r ih => simp only [t7, a04]; omega
theorem aN5 {e : b9} {ks : List b9} (h : e ∈ ks) : G9 e < s4 ks := by
 induction ks with
 | nil => cases h
 | cons x r ih =>
  simp only [s4]
  rcases List.mem_cons.1 h with rfl | h
  ·omega
  have := ih h; omega
theorem aB5 {s : b6} {ss : List b6} (h : s ∈ ss) : szS s < t7 ss := by
 induction ss with
 | nil => cases h
 | cons x r ih =>
  simp only [t7]
  rcases List.mem_cons.1 h with rfl | h
  ·omega
  have := ih h; omega
mutual
def Q8 : b9 -> b9 -> Bool
 | ⟨k, n, ks⟩, ⟨k', n', ks'⟩ => decide (k = k') && decide (n = n') && I8 ks ks'
def I8 : List b9 -> List b9 -> Bool
 | [], [] => true
 | e :: r, e' :: r' => Q8 e e' && I8 r r'
 | _, _ => false
end
mutual
def ai3 : b6 -> b6 -> Bool
 | ⟨k, t, i, v, c, b, e⟩, ⟨k', t', i', v', c', b', e'⟩ => decide (k = k') && decide (t = t') && Q8 i i' && Q8 v v' && decide (c = c') && E2 b b' && E2 e e'
def E2 : List b6 -> List b6 -> Bool
 | [], [] => true
 | s :: r, s' :: r' => ai3 s s' && E2 r r'
 | _, _ => false
end
mutual
theorem U0 : ∀ (a b : b9), Q8 a b = true ↔ a = b
 | ⟨k, n, ks⟩, ⟨k', n', ks'⟩ => by
  simp only [Q8, a05, decide_eq_true_eq, b9.mk.injEq, Q7 ks ks', and_assoc]
theorem Q7 : ∀ (a b : List b9), I8 a b = true ↔ a = b
 | [], [] => by simp [I8]
 | [], _ :: _ => by simp [I8]
 | _ :: _, [] => by simp [I8]
 | e :: r, e' :: r' => by simp only [I8, a05, List.cons.injEq, U0 e e', Q7 r r']
end
mutual
theorem ai2 : ∀ (a b : b6), ai3 a b = true ↔ a = b
 | ⟨k, t, i, v, c, b, e⟩, ⟨k', t', i', v', c', b', e'⟩ => by
  simp only [ai3, a05, decide_eq_true_eq, b6.mk.injEq, U0 i i', U0 v v', K4 b b', K4 e e', and_assoc]
theorem K4 : ∀ (a b : List b6), E2 a b = true ↔ a = b
 | [], [] => by simp [E2]
 | [], _ :: _ => by simp [E2]
 | _ :: _, [] => by simp [E2]
 | e :: r, e' :: r' => by simp only [E2, a05, List.cons.injEq, ai2 e e', K4 r r']
end
def p8.same (p q : p8) : Bool := decide (p.vars = q.vars) && decide (p.arrays = q.arrays) && E2 p.body q.body
theorem p8.same_eq {p q : p8} : p.same q = true ↔ p = q := by
 cases p; cases q
 simp only [p8.same, a05, decide_eq_true_eq, p8.mk.injEq, K4, and_assoc]
theorem ay0 {a b : List b9} (h : a.length ≠ b.length) : I8 a b = false := by
 cases hs : I8 a b
 ·rfl
 exact absurd (congrArg List.length ((Q7 a b).1 hs)) h
theorem ax9 {a b : List b6} (h : a.length ≠ b.length) : E2 a b = false := by
 cases hs : E2 a b
 ·rfl
 exact absurd (congrArg List.length ((K4 a b).1 hs)) h
end Go.Proofs.YtcahndjigkledaaDoor

namespace Go.Proofs.YtcahndjigkledaaDoor
open Go Go.RowKit
section
mutual
def G3 (w : World) (φ : Nat -> Prop) : b9 -> List Value -> Prop
 | ⟨k, n, ks⟩, cs => ∃ v xs, cs = [.int .i64 k, .int .i64 n, v] /\ B4 w φ v ks.length 3 xs /\ A4 w φ ks xs
def A4 (w : World) (φ : Nat -> Prop) : List b9 -> List Value -> Prop
 | [], xs => xs = []
 | e :: r, xs => ∃ c ys, xs = c ++ ys /\ G3 w φ e c /\ A4 w φ r ys
end
def m6 (w : World) (φ : Nat -> Prop) (v : Value) (ks : List b9) : Prop := ∃ xs, B4 w φ v ks.length 3 xs /\ A4 w φ ks xs
def s5 (w : World) (φ : Nat -> Prop) (v : Value) (e : b9) : Prop := ∃ kv, v = .agg #[.int .i64 e.kind, .int .i64 e.value, kv] /\ m6 w φ kv e.kids
mutual
def F7 (w : World) (φ : Nat -> Prop) : b6 -> List Value -> Prop
 | ⟨k, t, i, v, c, b, e⟩, cs => ∃ iv vv bv ev xb xe, cs = [.int .i64 k, .int .i64 t, .int .i64 i.kind, .int .i64 i.value, iv, .int .i64 v.kind, .int .i64 v.value, vv, .int .i64 c, bv, ev] /\
   m6 w φ iv i.kids /\ m6 w φ vv v.kids /\ B4 w φ bv b.length 11 xb /\ w9 w φ b xb /\ B4 w φ ev e.length 11 xe /\ w9 w φ e xe
def w9 (w : World) (φ : Nat -> Prop) : List b6 -> List Value -> Prop
 | [], xs => xs = []
 | s :: r, xs => ∃ c ys, xs = c ++ ys /\ F7 w φ s c /\ w9 w φ r ys
end
def s2 (w : World) (φ : Nat -> Prop) (v : Value) (ss : List b6) : Prop := ∃ xs, B4 w φ v ss.length 11 xs /\ w9 w φ ss xs
def P3 (w : World) (φ : Nat -> Prop) (v : Value) (s : b6) : Prop :=
 ∃ iv vv bv ev, v = .agg #[.int .i64 s.kind, .int .i64 s.target, .int .i64 s.index.kind, .int .i64 s.index.value, iv, .int .i64 s.value.kind, .int .i64 s.value.value, vv, .int .i64 s.count, bv, ev] /\
  m6 w φ iv s.index.kids /\ m6 w φ vv s.value.kids /\ s2 w φ bv s.body /\ s2 w φ ev s.els
def U9 (w : World) (φ : Nat -> Prop) (v : Value) (p : p8) : Prop :=
 ∃ v1 v2 v3, v = .agg #[v1, v2, v3] /\ B4 w φ v1 p.vars.length 1 (ints p.vars) /\ B4 w φ v2 p.arrays.length 1 (ints p.arrays) /\ s2 w φ v3 p.body
variable {w w' : World} {φ φ' : Nat -> Prop}
mutual
theorem G3.agr (ha : C0 φ φ' w w') : ∀ (e : b9) (cs : List Value), G3 w φ e cs -> G3 w' φ' e cs
 | ⟨_, _, ks⟩, _, ⟨v, xs, h1, h2, h3⟩ => ⟨v, xs, h1, B4.nice _ _ _ _ _ _ _ _ ha h2, A4.agr ha ks xs h3⟩
theorem A4.agr (ha : C0 φ φ' w w') : ∀ (ks : List b9) (xs : List Value), A4 w φ ks xs -> A4 w' φ' ks xs
 | [], _, h => h
 | e :: r, _, ⟨c, ys, h1, h2, h3⟩ => ⟨c, ys, h1, G3.agr ha e c h2, A4.agr ha r ys h3⟩
end
theorem A4.nice (ks : List b9) (xs : List Value) : S9 fun w φ => A4 w φ ks xs := fun _ _ _ _ ha h => A4.agr ha ks xs h
theorem m6.nice (v : Value) (ks : List b9) : S9 fun w φ => m6 w φ v ks := fun _ _ _ _ ha ⟨xs, h1, h2⟩ => ⟨xs, B4.nice _ _ _ _ _ _ _ _ ha h1, A4.agr ha ks xs h2⟩
theorem s5.nice (v : Value) (e : b9) : S9 fun w φ => s5 w φ v e := fun _ _ _ _ ha ⟨kv, h1, h2⟩ => ⟨kv, h1, m6.nice _ _ _ _ _ _ ha h2⟩
mutual
theorem F7.agr (ha : C0 φ φ' w w') : ∀ (s : b6) (cs : List Value), F7 w φ s cs -> F7 w' φ' s cs
 | ⟨_, _, _, _, _, b, e⟩, _, ⟨iv, vv, bv, ev, xb, xe, h1, h2, h3, h4, h5, h6, h7⟩ =>
  ⟨iv, vv, bv, ev, xb, xe, h1, m6.nice _ _ _ _ _ _ ha h2, m6.nice _ _ _ _ _ _ ha h3, B4.nice _ _ _ _ _ _ _ _ ha h4, w9.agr ha b xb h5, B4.nice _ _ _ _ _ _ _ _ ha h6, w9.agr ha e xe h7⟩
theorem w9.agr (ha : C0 φ φ' w w') : ∀ (ss : List b6) (xs : List Value), w9 w φ ss xs -> w9 w' φ' ss xs
 | [], _, h => h
 | s :: r, _, ⟨c, ys, h1, h2, h3⟩ => ⟨c, ys, h1, F7.agr ha s c h2, w9.agr ha r ys h3⟩
end
theorem w9.nice (ss : List b6) (xs : List Value) : S9 fun w φ => w9 w φ ss xs := fun _ _ _ _ ha h => w9.agr ha ss xs h
theorem s2.nice (v : Value) (ss : List b6) : S9 fun w φ => s2 w φ v ss := fun _ _ _ _ ha ⟨xs, h1, h2⟩ => ⟨xs, B4.nice _ _ _ _ _ _ _ _ ha h1, w9.agr ha ss xs h2⟩
theorem P3.nice (v : Value) (s : b6) : S9 fun w φ => P3 w φ v s := fun _ _ _ _ ha ⟨iv, vv, bv, ev, h1, h2, h3, h4, h5⟩ =>
 ⟨iv, vv, bv, ev, h1, m6.nice _ _ _ _ _ _ ha h2, m6.nice _ _ _ _ _ _ ha h3, s2.nice _ _ _ _ _ _ ha h4, s2.nice _ _ _ _ _ _ ha h5⟩
theorem U9.nice (v : Value) (p : p8) : S9 fun w φ => U9 w φ v p := fun _ _ _ _ ha ⟨v1, v2, v3, h1, h2, h3, h4⟩ =>
 ⟨v1, v2, v3, h1, B4.nice _ _ _ _ _ _ _ _ ha h2, B4.nice _ _ _ _ _ _ _ _ ha h3, s2.nice _ _ _ _ _ _ ha h4⟩
theorem G3.iff (e : b9) (cs : List Value) : G3 w φ e cs ↔ ∃ kv, cs = [.int .i64 e.kind, .int .i64 e.value, kv] /\ m6 w φ kv e.kids := by
 cases e with
 | mk k n ks => exact ⟨fun ⟨v, xs, h1, h2, h3⟩ => ⟨v, h1, xs, h2, h3⟩, fun ⟨v, h1, xs, h2, h3⟩ => ⟨v, xs, h1, h2, h3⟩⟩
theorem F7.iff (s : b6) (cs : List Value) : F7 w φ s cs ↔ ∃ iv vv bv ev, cs = [.int .i64 s.kind, .int .i64 s.target, .int .i64 s.index.kind, .int .i64 s.index.value, iv, .int .i64 s.value.kind, .int .i64 s.value.value, vv, .int .i64 s.count, bv, ev] /\
  m6 w φ iv s.index.kids /\ m6 w φ vv s.value.kids /\ s2 w φ bv s.body /\ s2 w φ ev s.els := by
 cases s with
 | mk k t i v c b e =>
  exact ⟨fun ⟨iv, vv, bv, ev, xb, xe, h1, h2, h3, h4, h5, h6, h7⟩ => ⟨iv, vv, bv, ev, h1, h2, h3, ⟨xb, h4, h5⟩, ⟨xe, h6, h7⟩⟩,
   fun ⟨iv, vv, bv, ev, h1, h2, h3, ⟨xb, h4, h5⟩, ⟨xe, h6, h7⟩⟩ => ⟨iv, vv, bv, ev, xb, xe, h1, h2, h3, h4, h5, h6, h7⟩⟩
theorem s5.iff {v : Value} {e : b9} : s5 w φ v e ↔ ∃ cs : List Value, v = .agg cs.toArray /\ G3 w φ e cs :=
 ⟨fun ⟨kv, h1, h2⟩ => ⟨_, h1, (G3.iff e _).2 ⟨kv, rfl, h2⟩⟩, fun ⟨cs, h1, h2⟩ => by obtain ⟨kv, rfl, h3⟩ := (G3.iff e cs).1 h2; exact ⟨kv, h1, h3⟩⟩
theorem P3.iff {v : Value} {s : b6} : P3 w φ v s ↔ ∃ cs : List Value, v = .agg cs.toArray /\ F7 w φ s cs :=
 ⟨fun ⟨iv, vv, bv, ev, h1, h2⟩ => ⟨_, h1, (F7.iff s _).2 ⟨iv, vv, bv, ev, rfl, h2⟩⟩, fun ⟨cs, h1, h2⟩ => by obtain ⟨iv, vv, bv, ev, rfl, h3⟩ := (F7.iff s cs).1 h2; exact ⟨iv, vv, bv, ev, h1, h3⟩⟩
theorem A4.len : ∀ {ks : List b9} {xs : List Value}, A4 w φ ks xs -> xs.length = ks.length * 3
 | [], _, h => by rw [show _ = [] from h]; rfl
 | e :: r, _, ⟨c, ys, h1, h2, h3⟩ => by
  obtain ⟨kv, rfl, _⟩ := (G3.iff e c).1 h2
  rw [h1, List.length_append, A4.len h3, a04]; simp; omega
theorem w9.len : ∀ {ss : List b6} {xs : List Value}, w9 w φ ss xs -> xs.length = ss.length * 11
 | [], _, h => by rw [show _ = [] from h]; rfl
 | s :: r, _, ⟨c, ys, h1, h2, h3⟩ => by
  obtain ⟨iv, vv, bv, ev, rfl, _⟩ := (F7.iff s c).1 h2
  rw [h1, List.length_append, w9.len h3, a04]; simp; omega
theorem A4.at : ∀ {ks : List b9} {xs : List Value}, A4 w φ ks xs -> ∀ (i : Nat) (hi : i < ks.length), ∃ kv, xs[i * 3]? = some (.int .i64 ks[i].kind) /\ xs[i * 3 + 1]? = some (.int .i64 ks[i].value) /\ xs[i * 3 + 2]? = some kv /\ m6 w φ kv ks[i].kids
 | [], _, _, i, hi => by simp at hi
 | e :: r, _, ⟨c, ys, h1, h2, h3⟩, i, hi => by
  obtain ⟨kv, rfl, hk⟩ := (G3.iff e c).1 h2
  subst h1
  cases i with
  | zero => exact ⟨kv, rfl, rfl, rfl, hk⟩
  | succ i =>
   obtain ⟨kv', a, b, d, f⟩ := A4.at h3 i (by simpa using hi)
   refine ⟨kv', ?_, ?_, ?_, f⟩ <;> (rw [a29]; simpa [Nat.add_assoc] using by assumption)
theorem w9.at : ∀ {ss : List b6} {xs : List Value}, w9 w φ ss xs -> ∀ (i : Nat) (hi : i < ss.length), ∃ cs : List Value, cs.length = 11 /\ F7 w φ ss[i] cs /\ ∀ j, j < 11 -> xs[i * 11 + j]? = cs[j]?
 | [], _, _, i, hi => by simp at hi
 | s :: r, _, ⟨c, ys, h1, h2, h3⟩, i, hi => by
  have hc : c.length = 11 := by obtain ⟨iv, vv, bv, ev, rfl, _⟩ := (F7.iff s c).1 h2; rfl
  subst h1
  cases i with
  | zero => exact ⟨c, hc, h2, fun j hj => by rw [a44 (by omega)]; simp⟩
  | succ i =>
   obtain ⟨cs, a, b, d⟩ := w9.at h3 i (by simpa using hi)
   refine ⟨cs, a, b, fun j hj => ?_⟩
   rw [a42 (by rw [hc, a29]; omega), <- d j hj]
   congr 1
   rw [hc, a29]; omega
theorem A4.append : ∀ {ks : List b9} {xs : List Value} {ls : List b9} {ys : List Value}, A4 w φ ks xs -> A4 w φ ls ys -> A4 w φ (ks ++ ls) (xs ++ ys)
 | [], _, _, _, h, k => by rw [show _ = [] from h]; exact k
 | e :: r, _, _, _, ⟨c, zs, h1, h2, h3⟩, k => ⟨c, zs ++ _, by rw [h1, a38], h2, A4.append h3 k⟩
theorem A4.one {e : b9} {c : List Value} (h : G3 w φ e c) : A4 w φ [e] c := ⟨c, [], by simp, h, rfl⟩
theorem w9.append : ∀ {ks : List b6} {xs : List Value} {ls : List b6} {ys : List Value}, w9 w φ ks xs -> w9 w φ ls ys -> w9 w φ (ks ++ ls) (xs ++ ys)
 | [], _, _, _, h, k => by rw [show _ = [] from h]; exact k
 | e :: r, _, _, _, ⟨c, zs, h1, h2, h3⟩, k => ⟨c, zs ++ _, by rw [h1, a38], h2, w9.append h3 k⟩
theorem w9.one {s : b6} {c : List Value} (h : F7 w φ s c) : w9 w φ [s] c := ⟨c, [], by simp, h, rfl⟩
theorem m6.open {v : Value} {ks : List b9} (h : m6 w φ v ks) : ∃ a cap, v = .slice a ks.length cap /\ ks.length <= cap /\ ks.length <= 9223372036854775807 /\ cap <= 9223372036854775807 /\
  ∀ i (hi : i < ks.length), ∃ b off kv, a = some ⟨b, off, none⟩ /\ b < w.heap.size /\ φ b /\ w.cell? ⟨b, off + i * 3, none⟩ = some (.int .i64 ks[i].kind) /\ w.cell? ⟨b, off + i * 3 + 1, none⟩ = some (.int .i64 ks[i].value) /\ w.cell? ⟨b, off + i * 3 + 2, none⟩ = some kv /\ m6 w φ kv ks[i].kids := by
 obtain ⟨xs, ⟨hl, a, cap, rfl, h1, h2, h3⟩, hx⟩ := h
 unfold maxLen at h2
 refine ⟨a, cap, rfl, h1, by omega, by omega, fun i hi => ?_⟩
 obtain ⟨b, off, rfl, hb, hf, hc⟩ := h3 (by omega)
 obtain ⟨kv, e0, e1, e2, hk⟩ := hx.at i hi
 exact ⟨b, off, kv, rfl, hb, hf, hc _ _ e0, hc _ _ e1, hc _ _ e2, hk⟩
theorem s2.open {v : Value} {ss : List b6} (h : s2 w φ v ss) : ∃ a cap, v = .slice a ss.length cap /\ ss.length <= cap /\ ss.length <= 9223372036854775807 /\ cap <= 9223372036854775807 /\
  ∀ i (hi : i < ss.length), ∃ b off iv vv bv ev, a = some ⟨b, off, none⟩ /\ b < w.heap.size /\ φ b /\
   (w.cell? ⟨b, off + i * 11, none⟩ = some (.int .i64 ss[i].kind) /\ w.cell? ⟨b, off + i * 11 + 1, none⟩ = some (.int .i64 ss[i].target) /\ w.cell? ⟨b, off + i * 11 + 2, none⟩ = some (.int .i64 ss[i].index.kind) /\ w.cell? ⟨b, off + i * 11 + 3, none⟩ = some (.int .i64 ss[i].index.value) /\ w.cell? ⟨b, off + i * 11 + 4, none⟩ = some iv /\
    w.cell? ⟨b, off + i * 11 + 5, none⟩ = some (.int .i64 ss[i].value.kind) /\ w.cell? ⟨b, off + i * 11 + 6, none⟩ = some (.int .i64 ss[i].value.value) /\ w.cell? ⟨b, off + i * 11 + 7, none⟩ = some vv /\ w.cell? ⟨b, off + i * 11 + 8, none⟩ = some (.int .i64 ss[i].count) /\ w.cell? ⟨b, off + i * 11 + 9, none⟩ = some bv /\ w.cell? ⟨b, off + i * 11 + 10, none⟩ = some ev) /\
   m6 w φ iv ss[i].index.kids /\ m6 w φ vv ss[i].value.kids /\ s2 w φ bv ss[i].body /\ s2 w φ ev ss[i].els := by
 obtain ⟨xs, ⟨hl, a, cap, rfl, h1, h2, h3⟩, hx⟩ := h
 unfold maxLen at h2
 refine ⟨a, cap, rfl, h1, by omega, by omega, fun i hi => ?_⟩
 obtain ⟨b, off, rfl, hb, hf, hc⟩ := h3 (by omega)
 obtain ⟨cs, hl2, hs, hj⟩ := hx.at i hi
 obtain ⟨iv, vv, bv, ev, rfl, k1, k2, k3, k4⟩ := (F7.iff _ _).1 hs
 refine ⟨b, off, iv, vv, bv, ev, rfl, hb, hf, ⟨?_, ?_, ?_, ?_, ?_, ?_, ?_, ?_, ?_, ?_, ?_⟩, k1, k2, k3, k4⟩
 ·have := hc (i * 11 + 0) _ ((hj 0 (by omega)).trans rfl); simpa using this
 ·exact hc (i * 11 + 1) _ ((hj 1 (by omega)).trans rfl)
 ·exact hc (i * 11 + 2) _ ((hj 2 (by omega)).trans rfl)
 ·exact hc (i * 11 + 3) _ ((hj 3 (by omega)).trans rfl)
 ·exact hc (i * 11 + 4) _ ((hj 4 (by omega)).trans rfl)
 ·exact hc (i * 11 + 5) _ ((hj 5 (by omega)).trans rfl)
 ·exact hc (i * 11 + 6) _ ((hj 6 (by omega)).trans rfl)
 ·exact hc (i * 11 + 7) _ ((hj 7 (by omega)).trans rfl)
 ·exact hc (i * 11 + 8) _ ((hj 8 (by omega)).trans rfl)
 ·exact hc (i * 11 + 9) _ ((hj 9 (by omega)).trans rfl)
 exact hc (i * 11 + 10) _ ((hj 10 (by omega)).trans rfl)
theorem m6.nil (w : World) (φ : Nat -> Prop) : m6 w φ (.slice none 0 0) [] := ⟨[], B4.nil _ _ _, rfl⟩
theorem s2.nil (w : World) (φ : Nat -> Prop) : s2 w φ (.slice none 0 0) [] := ⟨[], B4.nil _ _ _, rfl⟩
end
end Go.Proofs.YtcahndjigkledaaDoor

namespace Go.Proofs.YtcahndjigkledaaDoor
def v7 (k : Int) : Int := if k = 1 \/ k = 2 then 0 else if k = 3 then 1 else if 4 <= k /\ k <= 10 then 2 else if k = 11 then 3 else -1
def D9 (nv na : Nat) (k : Int) : Int := if k = 1 then 256 else if k = 2 then nv else if k = 3 then na else 1
def H7 (e : b9) : Bool := decide (e.kind = 1) || decide (e.kind = 2)
def C2 (nv na : Nat) (e : b9) : Bool := decide ((e.kids.length : Int) = v7 e.kind) && decide (0 <= e.value) && decide (e.value < D9 nv na e.kind)
def Q9 (e : b9) : Bool := decide (e.kind ≠ 3) || (match e.kids with | k :: _ => H7 k | [] => false)
def m9 (nv na : Nat) : Nat -> b9 -> Bool
 | 0, _ => false
 | d + 1, e => C2 nv na e && e.kids.all (m9 nv na d) && Q9 e
def T8 : Nat -> b9 -> Nat
 | 0, _ => 1
 | d + 1, e => 1 + (e.kids.map (T8 d)).sum
def n5 (nv na : Nat) (e : b9) : Bool := m9 nv na 5 e && decide (1 + G9 e <= 15)
theorem N4 (e : b9) : G9 e = s4 e.kids := by cases e; rfl
theorem av4 (nv na : Nat) : ∀ (d : Nat) (e : b9), m9 nv na d e = true -> T8 d e = 1 + G9 e := by
 intro d
 induction d with
 | zero => intro e h; simp [m9] at h
 | succ d ih =>
  intro e h
  simp only [m9, a05, a19] at h
  rw [T8, N4]
  have key : ∀ ks : List b9, (∀ e ∈ ks, m9 nv na d e = true) -> (ks.map (T8 d)).sum = s4 ks := by
   intro ks
   induction ks with
   | nil => intro _; rfl
   | cons a r ihr => intro hk; rw [a41, List.sum_cons, s4, ihr fun e he => hk e (a28 _ he), ih a (hk a a22)]
  rw [key _ h.1.2]
theorem ay2 (nv na : Nat) (e : b9) : n5 nv na e = (m9 nv na 5 e && decide (T8 5 e <= 15)) := by
 unfold n5
 cases h : m9 nv na 5 e
 ·rfl
 rw [av4 nv na 5 e h]
def A0 (nv na : Nat) (d c : Nat) (e : b9) : Bool := m9 nv na d e && decide (c + 1 + G9 e <= 15)
def w7 (nv na : Nat) (d c : Nat) (ks : List b9) (k : Nat) : Bool := (ks.take k).all (m9 nv na d) && decide (c + s4 (ks.take k) <= 15)
theorem am7 {ks : List b9} {k : Nat} (h : k < ks.length) : s4 (ks.take (k + 1)) = s4 (ks.take k) + (1 + G9 ks[k]) := by
 rw [G0 _ _ h, O6]
 simp [s4]
theorem ao6 (ks : List b9) (k : Nat) : s4 (ks.take k) <= s4 ks := by
 have := O6 (ks.take k) (ks.drop k)
 rw [List.take_append_drop] at this
 omega
theorem M9 (nv na : Nat) {d c : Nat} {ks : List b9} {k : Nat} (h : k < ks.length) : w7 nv na d c ks (k + 1) = (w7 nv na d c ks k && A0 nv na d (c + s4 (ks.take k)) ks[k]) := by
 unfold w7 A0
 rw [am7 h, G0 _ _ h, List.all_append]
 simp only [List.all_cons, List.all_nil, Bool.and_true]
 rw [a31]
 simp only [a05, decide_eq_true_eq]
 constructor
 ·rintro ⟨⟨h1, h2⟩, h3⟩; exact ⟨⟨h1, by omega⟩, h2, by omega⟩
 rintro ⟨⟨h1, _⟩, h3, h4⟩; exact ⟨⟨h1, h3⟩, by omega⟩
theorem ap2 (nv na : Nat) {d c : Nat} {ks : List b9} {k : Nat} (h : k < ks.length) (hs : A0 nv na d (c + s4 (ks.take k)) ks[k] = false) : (ks.all (m9 nv na d) && decide (c + s4 ks <= 15)) = false := by
 rw [Bool.eq_false_iff]
 intro ht
 simp only [a05, decide_eq_true_eq, a19] at ht
 have h1 := ht.1 _ (a11 h)
 have h2 := ao6 ks (k + 1)
 rw [am7 h] at h2
 unfold A0 at hs
 rw [h1] at hs
 simp at hs
 omega
def noneB (e : b9) : Bool := decide (e.kind = 0) && decide (e.value = 0) && decide (e.kids.length = 0)
def p9 (s : b6) : Bool :=
 if (s.kind = 3 \/ s.kind = 4) then
  decide (s.target = 0) && (if s.kind = 4 then decide (s.els.length = 0) && decide (1 <= s.count) && decide (s.count <= 3) && noneB s.index && noneB s.value
   else decide (s.count = 0) && noneB s.index)
 else decide (s.body.length = 0) && decide (s.els.length = 0) && decide (s.count = 0) && (decide (s.kind = 2) || noneB s.index)
def n4 (nv na : Nat) : Nat -> b6 -> Bool
  | 0, _ => false
  | d + 1, s => p9 s &&
    (if s.kind = 1 \/ s.kind = 5 then decide (0 <= s.target) && decide (s.target < nv) && n5 nv na s.value
     else if s.kind = 2 then decide (0 <= s.target) && decide (s.target < na) && n5 nv na s.index && H7 s.index && n5 nv na s.value
     else if s.kind = 3 then n5 nv na s.value && s.body.all (n4 nv na d) && s.els.all (n4 nv na d)
     else if s.kind = 4 then s.body.all (n4 nv na d)
     else false)
def X9 (nv na : Nat) (d : Nat) (ss : List b6) : Bool := ss.all (n4 nv na d)
mutual
def nS : b6 -> Nat
 | ⟨_, _, _, _, _, b, e⟩ => 1 + O1 b + O1 e
def O1 : List b6 -> Nat
 | [] => 0
 | s :: r => nS s + O1 r
end
def F1 (p : p8) : Bool := F0 p.vars p.arrays && X9 p.vars.length p.arrays.length 5 p.body && decide (O1 p.body <= 60)
end Go.Proofs.YtcahndjigkledaaDoor

namespace Go.Proofs.YtcahndjigkledaaDoor
open Go Go.RowKit
theorem L0 (l : Int) (w : World) : Calls Tryd.prog 52 #[.int .i64 l] w fun e w' => e = .returned (.bool (A8 l)) /\ w = w' := by
 go_enter Tryd.func52, Tryd.ntmps52
 go_wp2
 all_goals go_ret
 all_goals exact ⟨m5 (by simp [A8]; try omega), rfl⟩
theorem ao9 (v1 v2 v3 : Value) (vars arrays : List Int) (w : World) (h1 : K0 w v1 vars.length 1 (ints vars)) (h2 : K0 w v2 arrays.length 1 (ints arrays)) :
  Calls Tryd.prog 36 #[.agg #[v1, v2, v3]] w fun e w' => e = .returned (.bool (F0 vars arrays)) /\ Below w.heap.size w w' := by
 have B0 : Below w.heap.size w (w.alloc (.cells #[v1, v2, v3] 30)) := by go_grown
 obtain ⟨a1, c1, rfl, -, hm1, -, hc1⟩ := (h1.below B0).open1
 obtain ⟨a2, c2, rfl, -, hm2, -, hc2⟩ := (h2.below B0).open1
 have HT : Hid (F0 vars arrays = (vars.all A8 && arrays.all A8 && decide (1 <= vars.length) && decide (vars.length <= 12) && decide (arrays.length <= 2))) := rfl
 clear h1 h2
 go_enter Tryd.func36, Tryd.ntmps36
 go_wp2_with fail
 go_loop [3] (fun i => ∃ k : Nat, k <= vars.length /\ i = .int .i64 k /\ (vars.take k).all A8 = true) (fun i => vars.length - (intOf i).toNat)
 case atStart => exact ⟨0, a34 _, rfl, rfl⟩
 case round =>
  obtain ⟨k, hk, rfl, ha⟩ := hrel
  have HA := show Hid _ from ha
  clear ha
  by_cases hlt : k < vars.length
  ·obtain ⟨b1, o1, rfl, hb1, hx⟩ := hc1 k hlt
   rw [R1 _ _ hlt] at hx
   have HS := show Hid _ from P7 A8 vars k hlt
   clear hc1 hc2
   cases hl : A8 vars[k]
   all_goals
    have HL := show Hid _ from hl
    clear hl
    go_wp2_with fail
    refine (L0 _ _).mono ?_
    rintro e w1 ⟨rfl, rfl⟩
    rw [HL.out]
    go_wp2_with fail
   ·go_ret
    exact ⟨m5 (by rw [HT.out, af7 hlt HL.out]; rfl), B0⟩
   go_round
   case rel => exact ⟨k + 1, by omega, by go_num, by rw [HS.out, HA.out, HL.out]; rfl⟩
   case measure => simp [intOf]; omega
  have HA' := show Hid (vars.all A8 = true) from by have := HA.out; rwa [a16 (by omega)] at this
  clear HA hc1
  go_wp2_with fail
  go_loop [4] (fun i => ∃ k : Nat, k <= arrays.length /\ i = .int .i64 k /\ (arrays.take k).all A8 = true) (fun i => arrays.length - (intOf i).toNat)
  case atStart => exact ⟨0, a34 _, rfl, rfl⟩
  case round =>
   obtain ⟨j, hj, rfl, ha⟩ := hrel
   have HB := show Hid _ from ha
   clear ha
   by_cases hlj : j < arrays.length
   ·obtain ⟨b1, o1, rfl, hb1, hx⟩ := hc2 j hlj
    rw [R1 _ _ hlj] at hx
    have HS := show Hid _ from P7 A8 arrays j hlj
    clear hc2
    cases hl : A8 arrays[j]
    all_goals
     have HL := show Hid _ from hl
     clear hl
     go_wp2_with fail
     refine (L0 _ _).mono ?_
     rintro e w1 ⟨rfl, rfl⟩
     rw [HL.out]
     go_wp2_with fail
    ·go_ret
     exact ⟨m5 (by rw [HT.out, af7 hlj HL.out]; simp), B0⟩
    go_round
    case rel => exact ⟨j + 1, by omega, by go_num, by rw [HS.out, HB.out, HL.out]; rfl⟩
    case measure => simp [intOf]; omega
   have HB' := show Hid (arrays.all A8 = true) from by have := HB.out; rwa [a16 (by omega)] at this
   clear HB hc2
   go_wp2_with fail
   all_goals go_ret
   all_goals refine ⟨m5 ?_, B0⟩
   all_goals rw [HT.out, HA'.out, HB'.out]
   all_goals rw [a31]
   all_goals simp
   all_goals omega
theorem aE8 (ks : List b9) (k : Nat) : s4 ks = s4 (ks.take k) + s4 (ks.drop k) := by
 have := O6 (ks.take k) (ks.drop k)
 rwa [List.take_append_drop] at this
theorem I1 {ks : List b9} {k : Nat} (h : k < ks.length) : s4 (ks.take (k + 1)) = s4 (ks.take k) + (1 + G9 ks[k]) := by
 rw [A2 _ _ h, O6]
 simp [s4]
theorem aE7 (ks : List b6) (k : Nat) : t7 ks = t7 (ks.take k) + t7 (ks.drop k) := by
 have := ae0 (ks.take k) (ks.drop k)
 rwa [List.take_append_drop] at this
theorem W9 {ks : List b6} {k : Nat} (h : k < ks.length) : t7 (ks.take (k + 1)) = t7 (ks.take k) + (1 + szS ks[k]) := by
 rw [A2 _ _ h, ae0]
 simp [t7]
def SzE (e : b9) : Prop := ∀ (φ : Nat -> Prop) (v : Value) (m : Int) (w : World), s5 w φ v e -> 0 <= m -> m <= 1048576 ->
 Calls Tryd.prog 79 #[v, .int .i64 m] w fun e' w' => e' = .returned (.int .i64 (E0 m (G9 e))) /\ Below w.heap.size w w'
theorem ax4 (ks : List b9) (ih : ∀ e ∈ ks, SzE e) (φ : Nat -> Prop) (v : Value) (m : Int) (w : World) (h : m6 w φ v ks) (hm : 0 <= m) (hm2 : m <= 1048576) :
  Calls Tryd.prog 98 #[v, .int .i64 m] w fun e w' => e = .returned (.int .i64 (E0 m (s4 ks))) /\ Below w.heap.size w w' := by
 obtain ⟨a, cap, rfl, -, hn, -, hc⟩ := h.open
 have hlen := Y4 ks
 by_cases hlt : m < (ks.length : Int)
 ·have hneg := show Hid (E0 m (s4 ks) = -1) from s7 (by omega)
  clear hc h hlen
  go_enter Tryd.func98, Tryd.ntmps98
  go_wp2
  go_ret
  exact ⟨A6 hneg.out.symm, Below.refl _ _⟩
 have HC := show Hid _ from hc
 have HL := show Hid _ from hlen
 clear hc h hlen
 go_enter Tryd.func98, Tryd.ntmps98
 go_wp2
 go_loopw [1, 5] (fun l i wr => ∃ (k : Nat) (y : Int), k <= ks.length /\ i = .int .i64 k /\ l = .int .i64 y /\ y = m - ks.length + k - s4 (ks.take k) /\ 0 <= y /\ Below w.heap.size w wr) (fun _ i _ => ks.length - (intOf i).toNat)
 case atStart => exact ⟨0, m - ks.length, a34 _, rfl, rfl, by simp [s4], by omega, Below.refl _ _⟩
 case round =>
  obtain ⟨k, y, hk, rfl, rfl, hye, hy, hb⟩ := hrel
  have HY := show Hid _ from hye
  have HB := show Hid _ from hb
  have hy2 : y <= 1048576 := by
   have := I1 (ks := ks) (k := k)
   have : k <= s4 (ks.take k) := by have := Y4 (ks.take k); rw [List.length_take] at this; omega
   omega
  clear hye hb
  by_cases hlk : k < ks.length
  ·obtain ⟨b, off, kv, rfl, hbk, hf, c0, c1, c2, hkv⟩ := HC.out k hlk
   rw [<- (v6 HB.out).1 _ _ hbk] at c0 c1 c2
   have HE := show Hid (s5 wr φ (.agg #[.int .i64 ks[k].kind, .int .i64 ks[k].value, kv]) ks[k]) from ⟨kv, rfl, m6.nice _ _ _ _ _ _ (C0.below HB.out) hkv⟩
   clear hkv
   go_wp2_with fail
   refine (ih _ (a11 hlk) φ _ y _ HE.out hy hy2).mono ?_
   rintro e w1 ⟨rfl, b1⟩
   have B1 := show Hid _ from HB.out.trans (b1.mono HB.out.size)
   by_cases hs : y < (G9 ks[k] : Int)
   ·rw [s7 hs]
    have hneg := show Hid (E0 m (s4 ks) = -1) from by
     have h1 := aE8 ks (k + 1)
     have h2 := I1 hlk
     have h3 := Y4 (ks.drop (k + 1))
     rw [List.length_drop] at h3
     have h4 := HY.out
     exact s7 (by omega)
    clear hs
    go_wp2_with fail
    go_ret
    exact ⟨A6 hneg.out.symm, B1.out⟩
   rw [B6 hs]
   have hnn : ¬ (y - (G9 ks[k] : Int) < 0) := by omega
   have hlo : y - (G9 ks[k] : Int) <= 1048576 := by omega
   have HS := show Hid _ from hs
   clear hs
   go_wp2_with fail
   exact ⟨⟨k + 1, _, by omega, by go_num, rfl, by rw [HY.out, I1 hlk]; omega, by omega, B1.out⟩, by simp [intOf]; omega⟩
  have hkn : k = ks.length := by omega
  subst hkn
  go_wp2_with fail
  go_ret
  exact ⟨A6 (by have h4 := HY.out; rw [a16 (a14 _)] at h4; rw [B6 (by omega), h4]; omega), HB.out⟩
theorem ah6 (e : b9) : SzE e := by
 refine b9.ind (P := SzE) (fun k n ks ih => ?_) e
 intro φ v m w h hm hm2
 obtain ⟨kv, rfl, hk⟩ := h
 have bx : Below w.heap.size w (w.alloc (.cells #[.int .i64 k, .int .i64 n, kv] 74)) := by go_grown
 have HS := show Hid (G9 ⟨k, n, ks⟩ = s4 ks) from rfl
 have hk1 := m6.nice _ _ _ _ _ _ (C0.below bx) hk
 have HK := show Hid _ from hk1
 have HB := show Hid _ from bx
 clear hk hk1 bx
 go_enter Tryd.func79, Tryd.ntmps79
 go_wp2_with fail
 refine (ax4 ks ih φ kv m _ HK.out hm hm2).mono ?_
 rintro e w1 ⟨rfl, b1⟩
 have B1 := show Hid _ from HB.out.trans (b1.mono HB.out.size)
 by_cases hs : m < (s4 ks : Int)
 ·rw [s7 hs]
  go_wp2_with fail
  go_ret
  exact ⟨A6 (by rw [HS.out]; exact (s7 (by omega)).symm), B1.out⟩
 rw [B6 hs]
 have hnn : ¬ (m - (s4 ks : Int) < 0) := by omega
 have hlo : m - (s4 ks : Int) <= 1048576 := by omega
 go_wp2_with fail
 go_ret
 exact ⟨A6 (by rw [HS.out]; exact (B6 (by omega)).symm), B1.out⟩
def SzS (e : b6) : Prop := ∀ (φ : Nat -> Prop) (v : Value) (m : Int) (w : World), P3 w φ v e -> 0 <= m -> m <= 1048576 ->
 Calls Tryd.prog 49 #[v, .int .i64 m] w fun e' w' => e' = .returned (.int .i64 (E0 m (szS e))) /\ Below w.heap.size w w'
theorem W8 (ks : List b6) (ih : ∀ e ∈ ks, SzS e) (φ : Nat -> Prop) (v : Value) (m : Int) (w : World) (h : s2 w φ v ks) (hm : 0 <= m) (hm2 : m <= 1048576) :
  Calls Tryd.prog 21 #[v, .int .i64 m] w fun e w' => e = .returned (.int .i64 (E0 m (t7 ks))) /\ Below w.heap.size w w' := by
 obtain ⟨a, cap, rfl, -, hn, -, hc⟩ := h.open
 have hlen := Q5 ks
 by_cases hlt : m < (ks.length : Int)
 ·have hneg := show Hid (E0 m (t7 ks) = -1) from s7 (by omega)
  clear hc h hlen
  go_enter Tryd.func21, Tryd.ntmps21
  go_wp2
  go_ret
  exact ⟨A6 hneg.out.symm, Below.refl _ _⟩
 have HC := show Hid _ from hc
 have HL := show Hid _ from hlen
 clear hc h hlen
 go_enter Tryd.func21, Tryd.ntmps21
 go_wp2
 go_loopw [1, 5] (fun l i wr => ∃ (k : Nat) (y : Int), k <= ks.length /\ i = .int .i64 k /\ l = .int .i64 y /\ y = m - ks.length + k - t7 (ks.take k) /\ 0 <= y /\ Below w.heap.size w wr) (fun _ i _ => ks.length - (intOf i).toNat)
 case atStart => exact ⟨0, m - ks.length, a34 _, rfl, rfl, by simp [t7], by omega, Below.refl _ _⟩
 case round =>
  obtain ⟨k, y, hk, rfl, rfl, hye, hy, hb⟩ := hrel
  have HY := show Hid _ from hye
  have HB := show Hid _ from hb
  have hy2 : y <= 1048576 := by
   have := W9 (ks := ks) (k := k)
   have : k <= t7 (ks.take k) := by have := Q5 (ks.take k); rw [List.length_take] at this; omega
   omega
  clear hye hb
  by_cases hlk : k < ks.length
  ·obtain ⟨b, off, iv, vv, bv, ev, rfl, hbk, hf, ⟨c0, c1, c2, c3, c4, c5, c6, c7, c8, c9, c10⟩, g1, g2, g3, g4⟩ := HC.out k hlk
   rw [<- (v6 HB.out).1 _ _ hbk] at c0 c1 c2 c3 c4 c5 c6 c7 c8 c9 c10
   have HE := show Hid (P3 wr φ (.agg #[.int .i64 ks[k].kind, .int .i64 ks[k].target, .int .i64 ks[k].index.kind, .int .i64 ks[k].index.value, iv, .int .i64 ks[k].value.kind, .int .i64 ks[k].value.value, vv, .int .i64 ks[k].count, bv, ev]) ks[k]) from P3.nice _ _ _ _ _ _ (C0.below HB.out) ⟨iv, vv, bv, ev, rfl, g1, g2, g3, g4⟩
   clear g1 g2 g3 g4
   go_wp2_with fail
   refine (ih _ (a11 hlk) φ _ y _ HE.out hy hy2).mono ?_
   rintro e w1 ⟨rfl, b1⟩
   have B1 := show Hid _ from HB.out.trans (b1.mono HB.out.size)
   by_cases hs : y < (szS ks[k] : Int)
   ·rw [s7 hs]
    have hneg := show Hid (E0 m (t7 ks) = -1) from by
     have h1 := aE7 ks (k + 1)
     have h2 := W9 hlk
     have h3 := Q5 (ks.drop (k + 1))
     rw [List.length_drop] at h3
     have h4 := HY.out
     exact s7 (by omega)
    clear hs
    go_wp2_with fail
    go_ret
    exact ⟨A6 hneg.out.symm, B1.out⟩
   rw [B6 hs]
   have hnn : ¬ (y - (szS ks[k] : Int) < 0) := by omega
   have hlo : y - (szS ks[k] : Int) <= 1048576 := by omega
   have HS := show Hid _ from hs
   clear hs
   go_wp2_with fail
   exact ⟨⟨k + 1, _, by omega, by go_num, rfl, by rw [HY.out, W9 hlk]; omega, by omega, B1.out⟩, by simp [intOf]; omega⟩
  have hkn : k = ks.length := by omega
  subst hkn
  go_wp2_with fail
  go_ret
  exact ⟨A6 (by have h4 := HY.out; rw [a16 (a14 _)] at h4; rw [B6 (by omega), h4]; omega), HB.out⟩
theorem ax2 (s : b6) : SzS s := by
 refine b6.ind (P := SzS) (fun k t i v c b e ihb ihe => ?_) s
 intro φ u m w h hm hm2
 obtain ⟨iv, vv, bv, ev, rfl, g1, g2, g3, g4⟩ := h
 simp only [b6.index, b6.value, b6.body, b6.els, b6.kind, b6.target, b6.count] at g1 g2 g3 g4 ⊢
 have HS := show Hid (szS ⟨k, t, i, v, c, b, e⟩ = G9 i + G9 v + t7 b + t7 e) from rfl
 obtain ⟨W, hW, M⟩ : ∃ W, W = w.alloc (.cells #[.int .i64 k, .int .i64 t, .int .i64 i.kind, .int .i64 i.value, iv, .int .i64 v.kind, .int .i64 v.value, vv, .int .i64 c, bv, ev] 76) /\ A9 (fun _ => True) (fun _ => True) w W [.box w.heap.size [.int .i64 k, .int .i64 t, .int .i64 i.kind, .int .i64 i.value, iv, .int .i64 v.kind, .int .i64 v.value, vv, .int .i64 c, bv, ev]] :=
  ⟨_, rfl, (A9.start fun _ _ => trivial).box _ _⟩
 have HG := show Hid (∀ W', Below w.heap.size w W' -> s5 W' φ (.agg #[.int .i64 i.kind, .int .i64 i.value, iv]) i /\ s5 W' φ (.agg #[.int .i64 v.kind, .int .i64 v.value, vv]) v /\ s2 W' φ bv b /\ s2 W' φ ev e) from fun W' k =>
  ⟨⟨iv, rfl, m6.nice _ _ _ _ _ _ (C0.below k) g1⟩, ⟨vv, rfl, m6.nice _ _ _ _ _ _ (C0.below k) g2⟩, s2.nice _ _ _ _ _ _ (C0.below k) g3, s2.nice _ _ _ _ _ _ (C0.below k) g4⟩
 clear g1 g2 g3 g4
 have c2 := M.c 0 2 rfl rfl
 have c3 := M.c 0 3 rfl rfl
 have c4 := M.c 0 4 rfl rfl
 rw [hW] at c2 c3 c4
 go_enter Tryd.func49, Tryd.ntmps49
 go_wp2_with fail
 rw [<- hW]
 clear hW c2 c3 c4
 refine (ah6 i φ _ m _ (HG.out _ (M.below fun _ _ => trivial)).1 hm hm2).mono ?_
 rintro x w1 ⟨rfl, b1⟩
 replace M := M.call b1
 clear b1
 by_cases h1 : m < (G9 i : Int)
 ·rw [s7 h1]
  have HB := show Hid _ from M.below fun _ _ => trivial
  have HN := show Hid (E0 m (G9 i + G9 v + t7 b + t7 e) = -1) from s7 (by omega)
  clear h1 M
  go_wp2_with fail
  go_ret
  exact ⟨A6 (by rw [HS.out]; exact HN.out.symm), HB.out⟩
 have hx1 : 0 <= m - (G9 i : Int) := by omega
 have hy1 : m - (G9 i : Int) <= 1048576 := by omega
 rw [B6 h1]
 have c5 := M.c 0 5 rfl rfl
 have c6 := M.c 0 6 rfl rfl
 have c7 := M.c 0 7 rfl rfl
 clear h1
 have HM := show Hid _ from M
 clear M
 go_wp2_with fail
 have M := HM.out
 clear HM c5 c6 c7
 refine (ah6 v φ _ _ _ (HG.out _ (M.below fun _ _ => trivial)).2.1 hx1 hy1).mono ?_
 rintro x w2 ⟨rfl, b1⟩
 replace M := M.call b1
 clear b1
 by_cases h2 : m - (G9 i : Int) < (G9 v : Int)
 ·rw [s7 h2]
  have HB := show Hid _ from M.below fun _ _ => trivial
  have HN := show Hid (E0 m (G9 i + G9 v + t7 b + t7 e) = -1) from s7 (by omega)
  clear h2 M
  go_wp2_with fail
  go_ret
  exact ⟨A6 (by rw [HS.out]; exact HN.out.symm), HB.out⟩
 have hx2 : 0 <= m - (G9 i : Int) - (G9 v : Int) := by omega
 have hy2 : m - (G9 i : Int) - (G9 v : Int) <= 1048576 := by omega
 rw [B6 h2]
 have c9 := M.c 0 9 rfl rfl
 clear h2
 have HM := show Hid _ from M
 clear M
 go_wp2_with fail
 have M := HM.out
 clear HM c9
 refine (W8 b ihb φ _ _ _ (HG.out _ (M.below fun _ _ => trivial)).2.2.1 hx2 hy2).mono ?_
 rintro x w3 ⟨rfl, b1⟩
 replace M := M.call b1
 clear b1
 by_cases h3 : m - (G9 i : Int) - (G9 v : Int) < (t7 b : Int)
 ·rw [s7 h3]
  have HB := show Hid _ from M.below fun _ _ => trivial
  have HN := show Hid (E0 m (G9 i + G9 v + t7 b + t7 e) = -1) from s7 (by omega)
  clear h3 M
  go_wp2_with fail
  go_ret
  exact ⟨A6 (by rw [HS.out]; exact HN.out.symm), HB.out⟩
 have hx3 : 0 <= m - (G9 i : Int) - (G9 v : Int) - (t7 b : Int) := by omega
 have hy3 : m - (G9 i : Int) - (G9 v : Int) - (t7 b : Int) <= 1048576 := by omega
 rw [B6 h3]
 have c10 := M.c 0 10 rfl rfl
 clear h3
 have HM := show Hid _ from M
 clear M
 go_wp2_with fail
 have M := HM.out
 clear HM c10
 refine (W8 e ihe φ _ _ _ (HG.out _ (M.below fun _ _ => trivial)).2.2.2 hx3 hy3).mono ?_
 rintro x w4 ⟨rfl, b1⟩
 replace M := M.call b1
 clear b1
 have HB := show Hid _ from M.below fun _ _ => trivial
 clear M
 by_cases h4 : m - (G9 i : Int) - (G9 v : Int) - (t7 b : Int) < (t7 e : Int)
 ·rw [s7 h4]
  have HN := show Hid (E0 m (G9 i + G9 v + t7 b + t7 e) = -1) from s7 (by omega)
  clear h4
  go_wp2_with fail
  go_ret
  exact ⟨A6 (by rw [HS.out]; exact HN.out.symm), HB.out⟩
 rw [B6 h4]
 have HN := show Hid (E0 m (G9 i + G9 v + t7 b + t7 e) = m - (G9 i : Int) - (G9 v : Int) - (t7 b : Int) - (t7 e : Int)) from by unfold Hid; rw [B6 (by omega)]; omega
 have hx4 : ¬ (m - (G9 i : Int) - (G9 v : Int) - (t7 b : Int) - (t7 e : Int) < 0) := by omega
 have hy4 : m - (G9 i : Int) - (G9 v : Int) - (t7 b : Int) - (t7 e : Int) <= 1048576 := by omega
 clear h4
 go_wp2_with fail
 go_ret
 exact ⟨A6 (by rw [HS.out]; exact HN.out.symm), HB.out⟩
theorem al5 (φ : Nat -> Prop) (u : Value) (p : p8) (m : Int) (w : World) (h : U9 w φ u p) (hm : 0 <= m) (hm2 : m <= 1048576) :
  Calls Tryd.prog 6 #[u, .int .i64 m] w fun e w' => e = .returned (.int .i64 (E0 m p.size)) /\ Below w.heap.size w w' := by
 obtain ⟨v1, v2, v3, rfl, h1, h2, h3⟩ := h
 have HS : Hid (p.size = p.vars.length + p.arrays.length + t7 p.body) := rfl
 obtain ⟨W, hW, M⟩ : ∃ W, W = w.alloc (.cells #[v1, v2, v3] 25) /\ A9 (fun _ => True) (fun _ => True) w W [.box w.heap.size [v1, v2, v3]] :=
  ⟨_, rfl, (A9.start fun _ _ => trivial).box _ _⟩
 have HG := show Hid (∀ W', Below w.heap.size w W' -> K0 W' v1 p.vars.length 1 (ints p.vars) /\ K0 W' v2 p.arrays.length 1 (ints p.arrays) /\ s2 W' φ v3 p.body) from fun W' k =>
  ⟨h1.row.below k, h2.row.below k, s2.nice _ _ _ _ _ _ (C0.below k) h3⟩
 clear h1 h2 h3
 have c0 := M.c 0 0 rfl rfl
 rw [hW] at c0
 go_enter Tryd.func6, Tryd.ntmps6
 go_wp2_with fail
 rw [<- hW]
 clear hW c0
 refine (ah5 v1 p.vars.length _ m _ (HG.out _ (M.below fun _ _ => trivial)).1 hm hm2).mono ?_
 rintro x w1 ⟨rfl, rfl⟩
 by_cases q1 : m < (p.vars.length : Int)
 ·rw [s7 q1]
  have HB := show Hid _ from M.below fun _ _ => trivial
  have HN := show Hid (E0 m (p.vars.length + p.arrays.length + t7 p.body) = -1) from s7 (by omega)
  clear q1 M
  go_wp2_with fail
  go_ret
  exact ⟨A6 (by rw [HS.out]; exact HN.out.symm), HB.out⟩
 have hx1 : 0 <= m - (p.vars.length : Int) := by omega
 have hy1 : m - (p.vars.length : Int) <= 1048576 := by omega
 rw [B6 q1]
 have c1 := M.c 0 1 rfl rfl
 clear q1
 have HM := show Hid _ from M
 clear M
 go_wp2_with fail
 have M := HM.out
 clear HM c1
 refine (ah5 v2 p.arrays.length _ _ _ (HG.out _ (M.below fun _ _ => trivial)).2.1 hx1 hy1).mono ?_
 rintro x w1 ⟨rfl, rfl⟩
 by_cases q2 : m - (p.vars.length : Int) < (p.arrays.length : Int)
 ·rw [s7 q2]
  have HB := show Hid _ from M.below fun _ _ => trivial
  have HN := show Hid (E0 m (p.vars.length + p.arrays.length + t7 p.body) = -1) from s7 (by omega)
  clear q2 M
  go_wp2_with fail
  go_ret
  exact ⟨A6 (by rw [HS.out]; exact HN.out.symm), HB.out⟩
 have hx2 : 0 <= m - (p.vars.length : Int) - (p.arrays.length : Int) := by omega
 have hy2 : m - (p.vars.length : Int) - (p.arrays.length : Int) <= 1048576 := by omega
 rw [B6 q2]
 have c2 := M.c 0 2 rfl rfl
 clear q2
 have HM := show Hid _ from M
 clear M
 go_wp2_with fail
 have M := HM.out
 clear HM c2
 refine (W8 p.body (fun s _ => ax2 s) φ _ _ _ (HG.out _ (M.below fun _ _ => trivial)).2.2 hx2 hy2).mono ?_
 rintro x w3 ⟨rfl, b1⟩
 replace M := M.call b1
 clear b1
 have HB := show Hid _ from M.below fun _ _ => trivial
 clear M
 by_cases q3 : m - (p.vars.length : Int) - (p.arrays.length : Int) < (t7 p.body : Int)
 ·rw [s7 q3]
  have HN := show Hid (E0 m (p.vars.length + p.arrays.length + t7 p.body) = -1) from s7 (by omega)
  clear q3
  go_wp2_with fail
  go_ret
  exact ⟨A6 (by rw [HS.out]; exact HN.out.symm), HB.out⟩
 rw [B6 q3]
 have HN := show Hid (E0 m (p.vars.length + p.arrays.length + t7 p.body) = m - (p.vars.length : Int) - (p.arrays.length : Int) - (t7 p.body : Int)) from by unfold Hid; rw [B6 (by omega)]; omega
 have hx4 : ¬ (m - (p.vars.length : Int) - (p.arrays.length : Int) - (t7 p.body : Int) < 0) := by omega
 have hy4 : m - (p.vars.length : Int) - (p.arrays.length : Int) - (t7 p.body : Int) <= 1048576 := by omega
 clear q3
 go_wp2_with fail
 go_ret
 exact ⟨A6 (by rw [HS.out]; exact HN.out.symm), HB.out⟩
theorem U2 {nv na : Nat} {e : b9} (h : C2 nv na e = true) : (e.kids.length : Int) = v7 e.kind /\ 0 <= e.value /\ e.value < D9 nv na e.kind := by
 unfold C2 at h; simp at h; exact ⟨h.1.1, h.1.2, h.2⟩
theorem an1 {e : b9} (h3 : e.kind = 3) (hl : 0 < e.kids.length) : Q9 e = (decide (e.kids[0].kind = 1) || decide (e.kids[0].kind = 2)) := by
 rcases e with ⟨k, n, ks⟩
 cases ks with
 | nil => simp [b9.kids] at hl
 | cons a r =>
  have h3' : k = 3 := h3
  subst h3'
  simp only [Q9, b9.kids, List.getElem_cons_zero, H7]
  rw [decide_eq_false (by simp [b9.kind])]
  rfl
theorem O0 {nv na d : Nat} {e : b9} (h : m9 nv na (d + 1) e = true) : e.kids.length <= 3 /\ ∀ x ∈ e.kids, m9 nv na d x = true := by
 simp only [m9, C2, a05, decide_eq_true_eq, a19] at h
 refine ⟨?_, h.1.2⟩
 have h1 := h.1.1.1.1
 have : v7 e.kind <= 3 := by unfold v7; (repeat' split) <;> omega
 omega
theorem ax5 {ks : List b9} {B : Nat} (h : ∀ x ∈ ks, 1 + G9 x <= B) : s4 ks <= ks.length * B := by
 induction ks with
 | nil => simp [s4]
 | cons a r ih =>
  have h1 := h a a22
  have h2 := ih fun x hx => h x (a28 _ hx)
  simp only [s4, a04, a29]; omega
theorem aJ0 (nv na : Nat) : ∀ (d : Nat) (e : b9), m9 nv na d e = true -> 1 + G9 e <= 4 ^ d := by
 intro d
 induction d with
 | zero => intro e h; simp [m9] at h
 | succ d ih =>
  intro e h
  obtain ⟨h1, h2⟩ := O0 h
  have h3 := ax5 (ks := e.kids) fun x hx => ih x (h2 x hx)
  have h4 : e.kids.length * 4 ^ d <= 3 * 4 ^ d := a43 _ h1
  have h5 : 0 < 4 ^ d := Nat.pos_of_ne_zero (by simp)
  rw [N4, Nat.pow_succ]
  omega
def a00 (w : World) : Prop := Lib.TabIs Tryd.prog w "internal/strconv.uint64pow10" .u64 Lib.pow10Tab
def aN1 (ψ : Nat -> Prop) (w0 : World) : Prop := ∀ w', C1 ψ w0 w' -> a00 w'
section
mutual
def D0 (w : World) : b9 -> (Nat -> Prop) -> List Value -> Prop
 | ⟨k, n, ks⟩, S, cs => ∃ (v : Value) (xs : List Value) (S' : Nat -> Prop), cs = [.int .i64 k, .int .i64 n, v] /\ w.ownsRow 0 37 3 v ks.length xs /\ (∀ g, v.ownBlock = some g -> S g /\ ¬ S' g) /\ (∀ b, S' b -> S b) /\ p7 w ks S' xs
def p7 (w : World) : List b9 -> (Nat -> Prop) -> List Value -> Prop
 | [], _, xs => xs = []
 | e :: r, S, xs => ∃ (c ys : List Value) (S1 S2 : Nat -> Prop), xs = c ++ ys /\ (∀ b, S1 b -> S b /\ ¬ S2 b) /\ (∀ b, S2 b -> S b) /\ D0 w e S1 c /\ p7 w r S2 ys
end
def B2 (w : World) (v : Value) (ks : List b9) (S : Nat -> Prop) : Prop :=
 ∃ (xs : List Value) (S' : Nat -> Prop), w.ownsRow 0 37 3 v ks.length xs /\ (∀ g, v.ownBlock = some g -> S g /\ ¬ S' g) /\ (∀ b, S' b -> S b) /\ p7 w ks S' xs
mutual
def C9 (w : World) : b6 -> (Nat -> Prop) -> List Value -> Prop
 | ⟨k, t, i, v, c, b, e⟩, S, cs => ∃ (iv vv bv ev : Value) (xb xe : List Value) (Si Sv Sb Se Sb' Se' : Nat -> Prop), cs = [.int .i64 k, .int .i64 t, .int .i64 i.kind, .int .i64 i.value, iv, .int .i64 v.kind, .int .i64 v.value, vv, .int .i64 c, bv, ev] /\
   ((∀ b, Si b -> S b /\ ¬ Sv b /\ ¬ Sb b /\ ¬ Se b) /\ (∀ b, Sv b -> S b /\ ¬ Sb b /\ ¬ Se b) /\ (∀ b, Sb b -> S b /\ ¬ Se b) /\ (∀ b, Se b -> S b)) /\ B2 w iv i.kids Si /\ B2 w vv v.kids Sv /\
   (w.ownsRow 0 43 11 bv b.length xb /\ (∀ g, bv.ownBlock = some g -> Sb g /\ ¬ Sb' g) /\ (∀ b, Sb' b -> Sb b) /\ n9 w b Sb' xb) /\
   (w.ownsRow 0 43 11 ev e.length xe /\ (∀ g, ev.ownBlock = some g -> Se g /\ ¬ Se' g) /\ (∀ b, Se' b -> Se b) /\ n9 w e Se' xe)
def n9 (w : World) : List b6 -> (Nat -> Prop) -> List Value -> Prop
 | [], _, xs => xs = []
 | s :: r, S, xs => ∃ (c ys : List Value) (S1 S2 : Nat -> Prop), xs = c ++ ys /\ (∀ b, S1 b -> S b /\ ¬ S2 b) /\ (∀ b, S2 b -> S b) /\ C9 w s S1 c /\ n9 w r S2 ys
end
def B3 (w : World) (v : Value) (ss : List b6) (S : Nat -> Prop) : Prop :=
 ∃ (xs : List Value) (S' : Nat -> Prop), w.ownsRow 0 43 11 v ss.length xs /\ (∀ g, v.ownBlock = some g -> S g /\ ¬ S' g) /\ (∀ b, S' b -> S b) /\ n9 w ss S' xs
def ab4 (w : World) (v : Value) (p : p8) (S : Nat -> Prop) : Prop :=
 ∃ (v1 v2 v3 : Value) (S3 : Nat -> Prop), v = .agg #[v1, v2, v3] /\ w.ownsRow 0 3 1 v1 p.vars.length (ints p.vars) /\ w.ownsRow 0 3 1 v2 p.arrays.length (ints p.arrays) /\ B3 w v3 p.body S3 /\
  (∀ g, v1.ownBlock = some g -> S g /\ ¬ S3 g /\ v2.ownBlock ≠ some g) /\ (∀ g, v2.ownBlock = some g -> S g /\ ¬ S3 g) /\ (∀ b, S3 b -> S b)
variable {w w' : World} {S S' φ : Nat -> Prop}
theorem E3 {e : TypeId} {sz : Nat} {v : Value} {n : Nat} {xs : List Value} (h : w.ownsRow 0 e sz v n xs) (hs : ∀ g, v.ownBlock = some g -> w'.heap[g]? = w.heap[g]?) : w'.ownsRow 0 e sz v n xs :=
 (P8.same (P8.mk' h) hs).1
mutual
theorem D0.same : ∀ (e : b9) (S : Nat -> Prop) (cs : List Value), D0 w e S cs -> (∀ b, S b -> b < w.heap.size -> w'.heap[b]? = w.heap[b]?) -> D0 w' e S cs
 | ⟨_, _, ks⟩, S, _, ⟨v, xs, S', h1, h2, h3, h4, h5⟩, hs => ⟨v, xs, S', h1, E3 h2 fun g hg => hs g (h3 g hg).1 (World.ownsRow.lt h2 g hg).2, h3, h4, p7.same ks S' xs h5 fun b hb => hs b (h4 b hb)⟩
theorem p7.same : ∀ (ks : List b9) (S : Nat -> Prop) (xs : List Value), p7 w ks S xs -> (∀ b, S b -> b < w.heap.size -> w'.heap[b]? = w.heap[b]?) -> p7 w' ks S xs
 | [], _, _, h, _ => h
 | e :: r, S, _, ⟨c, ys, S1, S2, h1, h2, h3, h4, h5⟩, hs => ⟨c, ys, S1, S2, h1, h2, h3, D0.same e S1 c h4 fun b hb => hs b (h2 b hb).1, p7.same r S2 ys h5 fun b hb => hs b (h3 b hb)⟩
end
theorem B2.same {v : Value} {ks : List b9} (h : B2 w v ks S) (hs : ∀ b, S b -> b < w.heap.size -> w'.heap[b]? = w.heap[b]?) : B2 w' v ks S := by
 obtain ⟨xs, S', h2, h3, h4, h5⟩ := h
 exact ⟨xs, S', E3 h2 fun g hg => hs g (h3 g hg).1 (World.ownsRow.lt h2 g hg).2, h3, h4, p7.same ks S' xs h5 fun b hb => hs b (h4 b hb)⟩
mutual
theorem C9.same : ∀ (s : b6) (S : Nat -> Prop) (cs : List Value), C9 w s S cs -> (∀ b, S b -> b < w.heap.size -> w'.heap[b]? = w.heap[b]?) -> C9 w' s S cs
 | ⟨_, _, _, _, _, b, e⟩, S, _, ⟨iv, vv, bv, ev, xb, xe, Si, Sv, Sb, Se, Sb', Se', h1, ⟨d1, d2, d3, d4⟩, h2, h3, ⟨b1, b2, b3, b4⟩, ⟨e1, e2, e3, e4⟩⟩, hs =>
  ⟨iv, vv, bv, ev, xb, xe, Si, Sv, Sb, Se, Sb', Se', h1, ⟨d1, d2, d3, d4⟩, h2.same fun b hb => hs b (d1 b hb).1, h3.same fun b hb => hs b (d2 b hb).1,
   ⟨E3 b1 fun g hg => hs g (d3 g (b2 g hg).1).1 (World.ownsRow.lt b1 g hg).2, b2, b3, n9.same b Sb' xb b4 fun x hx => hs x (d3 x (b3 x hx)).1⟩,
   ⟨E3 e1 fun g hg => hs g (d4 g (e2 g hg).1) (World.ownsRow.lt e1 g hg).2, e2, e3, n9.same e Se' xe e4 fun x hx => hs x (d4 x (e3 x hx))⟩⟩
theorem n9.same : ∀ (ss : List b6) (S : Nat -> Prop) (xs : List Value), n9 w ss S xs -> (∀ b, S b -> b < w.heap.size -> w'.heap[b]? = w.heap[b]?) -> n9 w' ss S xs
 | [], _, _, h, _ => h
 | s :: r, S, _, ⟨c, ys, S1, S2, h1, h2, h3, h4, h5⟩, hs => ⟨c, ys, S1, S2, h1, h2, h3, C9.same s S1 c h4 fun b hb => hs b (h2 b hb).1, n9.same r S2 ys h5 fun b hb => hs b (h3 b hb)⟩
end
theorem B3.same {v : Value} {ss : List b6} (h : B3 w v ss S) (hs : ∀ b, S b -> b < w.heap.size -> w'.heap[b]? = w.heap[b]?) : B3 w' v ss S := by
 obtain ⟨xs, S', h2, h3, h4, h5⟩ := h
 exact ⟨xs, S', E3 h2 fun g hg => hs g (h3 g hg).1 (World.ownsRow.lt h2 g hg).2, h3, h4, n9.same ss S' xs h5 fun b hb => hs b (h4 b hb)⟩
theorem ab4.same {v : Value} {p : p8} (h : ab4 w v p S) (hs : ∀ b, S b -> b < w.heap.size -> w'.heap[b]? = w.heap[b]?) : ab4 w' v p S := by
 obtain ⟨v1, v2, v3, S3, rfl, h1, h2, h3, d1, d2, d3⟩ := h
 exact ⟨v1, v2, v3, S3, rfl, E3 h1 fun g hg => hs g (d1 g hg).1 (World.ownsRow.lt h1 g hg).2, E3 h2 fun g hg => hs g (d2 g hg).1 (World.ownsRow.lt h2 g hg).2, h3.same fun b hb => hs b (d3 b hb), d1, d2, d3⟩
theorem B2.mono {v : Value} {ks : List b9} (h : B2 w v ks S) (hs : ∀ b, S b -> S' b) : B2 w v ks S' := by
 obtain ⟨xs, T, h2, h3, h4, h5⟩ := h
 exact ⟨xs, T, h2, fun g hg => ⟨hs g (h3 g hg).1, (h3 g hg).2⟩, fun b hb => hs b (h4 b hb), h5⟩
theorem B3.mono {v : Value} {ss : List b6} (h : B3 w v ss S) (hs : ∀ b, S b -> S' b) : B3 w v ss S' := by
 obtain ⟨xs, T, h2, h3, h4, h5⟩ := h
 exact ⟨xs, T, h2, fun g hg => ⟨hs g (h3 g hg).1, (h3 g hg).2⟩, fun b hb => hs b (h4 b hb), h5⟩
theorem ab4.mono {v : Value} {p : p8} (h : ab4 w v p S) (hs : ∀ b, S b -> S' b) : ab4 w v p S' := by
 obtain ⟨v1, v2, v3, S3, rfl, h1, h2, h3, d1, d2, d3⟩ := h
 exact ⟨v1, v2, v3, S3, rfl, h1, h2, h3, fun g hg => ⟨hs g (d1 g hg).1, (d1 g hg).2⟩, fun g hg => ⟨hs g (d2 g hg).1, (d2 g hg).2⟩, fun b hb => hs b (d3 b hb)⟩
mutual
theorem D0.read : ∀ (e : b9) (S : Nat -> Prop) (cs : List Value), D0 w e S cs -> (∀ b, S b -> φ b) -> G3 w φ e cs
 | ⟨_, _, ks⟩, S, _, ⟨v, xs, S', h1, h2, h3, h4, h5⟩, hs => ⟨v, xs, h1, E4 h2 fun g hg => hs g (h3 g hg).1, p7.read ks S' xs h5 fun b hb => hs b (h4 b hb)⟩
theorem p7.read : ∀ (ks : List b9) (S : Nat -> Prop) (xs : List Value), p7 w ks S xs -> (∀ b, S b -> φ b) -> A4 w φ ks xs
 | [], _, _, h, _ => h
 | e :: r, S, _, ⟨c, ys, S1, S2, h1, h2, h3, h4, h5⟩, hs => ⟨c, ys, h1, D0.read e S1 c h4 fun b hb => hs b (h2 b hb).1, p7.read r S2 ys h5 fun b hb => hs b (h3 b hb)⟩
end
theorem B2.read {v : Value} {ks : List b9} (h : B2 w v ks S) (hs : ∀ b, S b -> φ b) : m6 w φ v ks := by
 obtain ⟨xs, T, h2, h3, h4, h5⟩ := h
 exact ⟨xs, E4 h2 fun g hg => hs g (h3 g hg).1, p7.read ks T xs h5 fun b hb => hs b (h4 b hb)⟩
mutual
theorem C9.read : ∀ (s : b6) (S : Nat -> Prop) (cs : List Value), C9 w s S cs -> (∀ b, S b -> φ b) -> F7 w φ s cs
 | ⟨_, _, _, _, _, b, e⟩, S, _, ⟨iv, vv, bv, ev, xb, xe, Si, Sv, Sb, Se, Sb', Se', h1, ⟨d1, d2, d3, d4⟩, h2, h3, ⟨b1, b2, b3, b4⟩, ⟨e1, e2, e3, e4⟩⟩, hs =>
  ⟨iv, vv, bv, ev, xb, xe, h1, h2.read fun b hb => hs b (d1 b hb).1, h3.read fun b hb => hs b (d2 b hb).1,
   E4 b1 fun g hg => hs g (d3 g (b2 g hg).1).1, n9.read b Sb' xb b4 fun x hx => hs x (d3 x (b3 x hx)).1,
   E4 e1 fun g hg => hs g (d4 g (e2 g hg).1), n9.read e Se' xe e4 fun x hx => hs x (d4 x (e3 x hx))⟩
theorem n9.read : ∀ (ss : List b6) (S : Nat -> Prop) (xs : List Value), n9 w ss S xs -> (∀ b, S b -> φ b) -> w9 w φ ss xs
 | [], _, _, h, _ => h
 | s :: r, S, _, ⟨c, ys, S1, S2, h1, h2, h3, h4, h5⟩, hs => ⟨c, ys, h1, C9.read s S1 c h4 fun b hb => hs b (h2 b hb).1, n9.read r S2 ys h5 fun b hb => hs b (h3 b hb)⟩
end
theorem B3.read {v : Value} {ss : List b6} (h : B3 w v ss S) (hs : ∀ b, S b -> φ b) : s2 w φ v ss := by
 obtain ⟨xs, T, h2, h3, h4, h5⟩ := h
 exact ⟨xs, E4 h2 fun g hg => hs g (h3 g hg).1, n9.read ss T xs h5 fun b hb => hs b (h4 b hb)⟩
theorem ab4.read {v : Value} {p : p8} (h : ab4 w v p S) (hs : ∀ b, S b -> φ b) : U9 w φ v p := by
 obtain ⟨v1, v2, v3, S3, rfl, h1, h2, h3, d1, d2, d3⟩ := h
 exact ⟨v1, v2, v3, rfl, E4 h1 fun g hg => hs g (d1 g hg).1, E4 h2 fun g hg => hs g (d2 g hg).1, h3.read fun b hb => hs b (d3 b hb)⟩
def aX3 (R : World -> (Nat -> Prop) -> Prop) (S : Nat -> Prop) : World -> (Nat -> Prop) -> Prop := fun w φ => R w S /\ ∀ b, S b -> b < w.heap.size /\ φ b
theorem aX3.nice {R : World -> (Nat -> Prop) -> Prop} (S : Nat -> Prop) (hR : ∀ w w' : World, R w S -> (∀ b, S b -> b < w.heap.size -> w'.heap[b]? = w.heap[b]?) -> R w' S) : S9 (aX3 R S) :=
 fun w w' _ _ ha ⟨h1, h2⟩ => ⟨hR w w' h1 fun b hb hlt => (ha.2 b hlt (h2 b hb).2).2, fun b hb => ⟨a36 (h2 b hb).1 ha.1, (ha.2 b (h2 b hb).1 (h2 b hb).2).1⟩⟩
theorem p7.mono : ∀ {ks : List b9} {S S' : Nat -> Prop} {xs : List Value}, p7 w ks S xs -> (∀ b, S b -> S' b) -> p7 w ks S' xs
 | [], _, _, _, h, _ => h
 | _ :: _, _, _, _, ⟨c, ys, S1, S2, h1, h2, h3, h4, h5⟩, hs => ⟨c, ys, S1, S2, h1, fun b hb => ⟨hs b (h2 b hb).1, (h2 b hb).2⟩, fun b hb => hs b (h3 b hb), h4, h5⟩
theorem n9.mono : ∀ {ks : List b6} {S S' : Nat -> Prop} {xs : List Value}, n9 w ks S xs -> (∀ b, S b -> S' b) -> n9 w ks S' xs
 | [], _, _, _, h, _ => h
 | _ :: _, _, _, _, ⟨c, ys, S1, S2, h1, h2, h3, h4, h5⟩, hs => ⟨c, ys, S1, S2, h1, fun b hb => ⟨hs b (h2 b hb).1, (h2 b hb).2⟩, fun b hb => hs b (h3 b hb), h4, h5⟩
theorem p7.snoc : ∀ {ks : List b9} {S S' T : Nat -> Prop} {xs c : List Value} {e : b9}, p7 w ks S xs -> D0 w e T c -> (∀ b, S b -> S' b /\ ¬ T b) -> (∀ b, T b -> S' b) -> p7 w (ks ++ [e]) S' (xs ++ c)
 | [], S, S', T, xs, c, e, h, k, d, f => by
  rw [show xs = [] from h]
  exact ⟨c, [], T, fun _ => False, by simp, fun b hb => ⟨f b hb, fun h => h⟩, fun b hb => hb.elim, k, rfl⟩
 | a :: r, S, S', T, _, c, e, ⟨x, ys, S1, S2, h1, h2, h3, h4, h5⟩, k, d, f =>
  ⟨x, ys ++ c, S1, fun b => S2 b \/ T b, by rw [h1, a38], fun b hb => ⟨(d b (h2 b hb).1).1, fun h => h.elim (h2 b hb).2 (d b (h2 b hb).1).2⟩, fun b hb => hb.elim (fun h => (d b (h3 b h)).1) (f b), h4,
   p7.snoc h5 k (fun b hb => ⟨.inl hb, (d b (h3 b hb)).2⟩) fun b hb => .inr hb⟩
theorem n9.snoc : ∀ {ks : List b6} {S S' T : Nat -> Prop} {xs c : List Value} {e : b6}, n9 w ks S xs -> C9 w e T c -> (∀ b, S b -> S' b /\ ¬ T b) -> (∀ b, T b -> S' b) -> n9 w (ks ++ [e]) S' (xs ++ c)
 | [], S, S', T, xs, c, e, h, k, d, f => by
  rw [show xs = [] from h]
  exact ⟨c, [], T, fun _ => False, by simp, fun b hb => ⟨f b hb, fun h => h⟩, fun b hb => hb.elim, k, rfl⟩
 | a :: r, S, S', T, _, c, e, ⟨x, ys, S1, S2, h1, h2, h3, h4, h5⟩, k, d, f =>
  ⟨x, ys ++ c, S1, fun b => S2 b \/ T b, by rw [h1, a38], fun b hb => ⟨(d b (h2 b hb).1).1, fun h => h.elim (h2 b hb).2 (d b (h2 b hb).1).2⟩, fun b hb => hb.elim (fun h => (d b (h3 b h)).1) (f b), h4,
   n9.snoc h5 k (fun b hb => ⟨.inl hb, (d b (h3 b hb)).2⟩) fun b hb => .inr hb⟩
theorem D0.iff (e : b9) (S : Nat -> Prop) (cs : List Value) : D0 w e S cs ↔ ∃ kv, cs = [.int .i64 e.kind, .int .i64 e.value, kv] /\ B2 w kv e.kids S := by
 cases e with
 | mk k n ks => exact ⟨fun ⟨v, xs, T, h1, h2⟩ => ⟨v, h1, xs, T, h2⟩, fun ⟨v, h1, xs, T, h2⟩ => ⟨v, xs, T, h1, h2⟩⟩
theorem C9.iff (s : b6) (S : Nat -> Prop) (cs : List Value) : C9 w s S cs ↔ ∃ (iv vv bv ev : Value) (Si Sv Sb Se : Nat -> Prop), cs = [.int .i64 s.kind, .int .i64 s.target, .int .i64 s.index.kind, .int .i64 s.index.value, iv, .int .i64 s.value.kind, .int .i64 s.value.value, vv, .int .i64 s.count, bv, ev] /\
  ((∀ b, Si b -> S b /\ ¬ Sv b /\ ¬ Sb b /\ ¬ Se b) /\ (∀ b, Sv b -> S b /\ ¬ Sb b /\ ¬ Se b) /\ (∀ b, Sb b -> S b /\ ¬ Se b) /\ (∀ b, Se b -> S b)) /\ B2 w iv s.index.kids Si /\ B2 w vv s.value.kids Sv /\ B3 w bv s.body Sb /\ B3 w ev s.els Se := by
 cases s with
 | mk k t i v c b e =>
  exact ⟨fun ⟨iv, vv, bv, ev, xb, xe, Si, Sv, Sb, Se, Sb', Se', h1, h2, h3, h4, h5, h6⟩ => ⟨iv, vv, bv, ev, Si, Sv, Sb, Se, h1, h2, h3, h4, ⟨xb, Sb', h5⟩, ⟨xe, Se', h6⟩⟩,
   fun ⟨iv, vv, bv, ev, Si, Sv, Sb, Se, h1, h2, h3, h4, ⟨xb, Sb', h5⟩, ⟨xe, Se', h6⟩⟩ => ⟨iv, vv, bv, ev, xb, xe, Si, Sv, Sb, Se, Sb', Se', h1, h2, h3, h4, h5, h6⟩⟩
end
theorem aW4 : (Tryd.prog.info? 37).map (fun i => (i.zero, i.size, i.bytes)) = some (some (.agg #[.int .i64 0, .int .i64 0, .slice none 0 0]), 3, 40) := by kernel_rfl
theorem M8 {w : World} {g p : Nat} {us : List Value} {b : Nat} (hb : b < w.heap.size) (hne : b ≠ g) : (World.setFrom w g p us).heap[b]? = w.heap[b]? :=
 (Y0.setFrom us (Y0.refl g (g + 1) w) (a14 _) (Nat.lt_succ_self _)).block b hb (by omega)
def ToE (e : b9) : Prop := ∀ (φ : Nat -> Prop) (v : Value) (w : World), s5 w φ v e -> G9 e <= 1048576 ->
 Calls Tryd.prog 81 #[v] w fun x w' => ∃ a c S, x = .returned (.agg #[.int .i64 e.kind, .int .i64 e.value, .slice a e.kids.length c]) /\ B2 w' (.slice a e.kids.length c) e.kids S /\ (∀ b, S b -> w.heap.size <= b /\ b < w'.heap.size) /\ Below w.heap.size w w'
theorem ax1 (ks : List b9) (ih : ∀ e ∈ ks, ToE e) (φ : Nat -> Prop) (v : Value) (w : World) (h : m6 w φ v ks) (hb : s4 ks <= 1048576) :
  Calls Tryd.prog 100 #[v] w fun x w' => ∃ a c S, x = .returned (.slice a ks.length c) /\ B2 w' (.slice a ks.length c) ks S /\ (∀ b, S b -> w.heap.size <= b /\ b < w'.heap.size) /\ Below w.heap.size w w' := by
 obtain ⟨a1, c1, rfl, -, hm1, -, hc1⟩ := h.open
 have hlen := Y4 ks
 have HC := show Hid _ from hc1
 clear h hc1
 have hmk := Z6 (P := Tryd.prog) (t := 35) Tryd.underlying35 aW4 rfl (by omega) ks.length (by omega) hm1
 have hown := Z3 w (Value.agg #[.int .i64 0, .int .i64 0, .slice none 0 0]).cells.toList ks.length 3 37 rfl hm1
 have HB := show Hid _ from hb
 have HLN := show Hid _ from hlen
 clear hb hlen
 go_enter Tryd.func100, Tryd.ntmps100
 go_wp2_with fail
 clear hmk
 go_loopw [4] (fun i wr => ∃ (k : Nat) (ys : List Value), k <= ks.length /\ i = .int .i64 k /\ P8 wr w.heap.size (w.heap.size + 1) 37 3 (.slice (some ⟨w.heap.size, 0, none⟩) ks.length ks.length) ks.length ys /\ p7 wr (ks.take k) (fun b => w.heap.size < b /\ b < wr.heap.size) (ys.take (k * 3)) /\ Below w.heap.size w wr) (fun i _ => ks.length - (intOf i).toNat)
 case atStart => exact ⟨0, _, a34 _, rfl, hown, by simp [p7], (Below.refl _ _).alloc (a14 _) _⟩
 case round =>
  obtain ⟨k, ys, hk, rfl, ho, ht, hbw⟩ := hrel
  have HT := show Hid _ from ht
  clear ht hown
  by_cases hlt : k < ks.length
  ·obtain ⟨b1, o1, kv, rfl, hb1, hf, x0, x1, x2, hkv⟩ := HC.out k hlt
   rw [<- (v6 hbw).1 _ _ hb1] at x0 x1 x2
   have HY := show Hid (ys.length = ks.length * 3) from ho.1.1
   have HE := show Hid (s5 wr φ (.agg #[.int .i64 ks[k].kind, .int .i64 ks[k].value, kv]) ks[k]) from ⟨kv, rfl, m6.nice _ _ _ _ _ _ (C0.below hbw) hkv⟩
   clear hkv
   go_wp2_with fail
   refine (ih _ (a11 hlt) φ _ _ HE.out (by have h1 := aN5 (a11 hlt); have h2 := HB.out; omega)).mono ?_
   rintro e w1 ⟨ra, rc, S1, rfl, hO, hS, hbc⟩
   have ho1 := ho.keep hbc (by have := ho.lt _ rfl; omega)
   have hin : ∀ j, j < 3 -> k * 3 + j < ys.length := fun j hj => by rw [HY.out]; omega
   obtain ⟨g, cap, hv, hg1, hg2, hg3, f0, u0, y0⟩ := ho1.at (hin 0 (by omega))
   cases hv
   obtain ⟨g, cap, hv, -, -, -, f1, u1, y1⟩ := ho1.at (hin 1 (by omega))
   cases hv
   obtain ⟨g, cap, hv, -, -, -, f2, u2, y2⟩ := ho1.at (hin 2 (by omega))
   cases hv
   simp only [Nat.add_zero] at f0 y0
   have hg4 : w.heap.size < w1.heap.size := hg3
   have HO := show Hid _ from hO
   have HS := show Hid _ from hS
   have hsz0 := hbw.size
   have hszr := hbc.size
   have hgr : w.heap.size < wr.heap.size := (ho.lt _ rfl).2.2
   clear hin hO hS
   go_wp2_with fail
   have hb3 := W5 (p := k * 3) [.int .i64 ks[k].kind, .int .i64 ks[k].value, (.slice ra ks[k].kids.length rc)] (hbw.trans (hbc.mono hbw.size)) (a14 w.heap.size)
   have hsz := (Y0.setFrom (p := k * 3) [.int .i64 ks[k].kind, .int .i64 ks[k].value, (.slice ra ks[k].kids.length rc)] (Y0.refl w.heap.size (w.heap.size + 1) w1) (a14 _) (Nat.lt_succ_self _)).size
   refine ⟨⟨k + 1, _, by omega, by go_num, ho1.setFrom [.int .i64 ks[k].kind, .int .i64 ks[k].value, (.slice ra ks[k].kids.length rc)] (by simp; rw [HY.out]; omega), ?_, hb3⟩, by simp [intOf]; omega⟩
   rw [a29, A2 _ _ hlt]
   rw [show (setFrom ys (k * 3) [.int .i64 ks[k].kind, .int .i64 ks[k].value, (.slice ra ks[k].kids.length rc)]).take (k * 3 + 3) = ys.take (k * 3) ++ [.int .i64 ks[k].kind, .int .i64 ks[k].value, (.slice ra ks[k].kids.length rc)] from M7 [_, _, _] _ _ (by simp; rw [HY.out]; omega)]
   refine p7.snoc (S := fun b => w.heap.size < b /\ b < wr.heap.size) (T := S1) (p7.same _ _ _ HT.out fun b hbb hlt' => ?_) ((D0.iff _ _ _).2 ⟨.slice ra ks[k].kids.length rc, rfl, B2.same HO.out fun b hbb hlt' => ?_⟩) (fun b hbb => ⟨⟨hbb.1, ?_⟩, fun h1 => ?_⟩) fun b hbb => ⟨?_, ?_⟩
   ·obtain ⟨p1, p2⟩ : w.heap.size < b /\ b < wr.heap.size := hbb
    exact (M8 (p := k * 3) (us := [.int .i64 ks[k].kind, .int .i64 ks[k].value, (.slice ra ks[k].kids.length rc)]) (by omega) (by omega)).trans (hbc.block b p2)
   ·obtain ⟨p1, p2⟩ : wr.heap.size <= b /\ b < w1.heap.size := HS.out b hbb
    exact M8 (p := k * 3) (us := [.int .i64 ks[k].kind, .int .i64 ks[k].value, (.slice ra ks[k].kids.length rc)]) hlt' (by omega)
   ·exact a36 (a36 hbb.2 hszr) hsz
   ·have h2 : wr.heap.size <= b /\ b < w1.heap.size := HS.out b h1
    have h3 : b < wr.heap.size := hbb.2
    omega
   ·have h2 : wr.heap.size <= b /\ b < w1.heap.size := HS.out b hbb
    show w.heap.size < b
    omega
   exact a36 (HS.out b hbb).2 hsz
  have hkn : k = ks.length := by omega
  subst hkn
  go_wp2_with fail
  go_ret
  have hl : ys.take (ks.length * 3) = ys := a16 (by rw [ho.1.1]; exact a14 _)
  have ht := HT.out
  rw [hl, a16 (a14 _)] at ht
  exact ⟨_, _, fun b => w.heap.size <= b /\ b < wr.heap.size, rfl, ⟨ys, fun b => w.heap.size < b /\ b < wr.heap.size, I4 ho.1 (a34 _), fun g hg => by cases hg; exact ⟨⟨a14 _, (ho.lt _ rfl).2.2⟩, fun h => absurd h.1 (Nat.lt_irrefl _)⟩, fun b hb => ⟨by omega, hb.2⟩, ht⟩, fun b hb => hb, hbw⟩
theorem ah3 (e : b9) : ToE e := by
 refine b9.ind (P := ToE) (fun k n ks ih => ?_) e
 intro φ v w h hb
 obtain ⟨kv, rfl, hk⟩ := h
 simp only [b9.kind, b9.value, b9.kids] at hk ⊢
 obtain ⟨W, hW, M⟩ : ∃ W, W = (((w.alloc (.cells #[.int .i64 k, .int .i64 n, kv] 74)).alloc (.cells #[.int .i64 0, .int .i64 0, .slice none 0 0] 37)).alloc (.cells #[.int .i64 k, .int .i64 n, .slice none 0 0] 37)) /\ A9 (fun _ => True) (fun _ => True) w W [.box w.heap.size [.int .i64 k, .int .i64 n, kv], .box (w.heap.size + 1) [.int .i64 0, .int .i64 0, .slice none 0 0], .box (w.heap.size + 1 + 1) [.int .i64 k, .int .i64 n, .slice none 0 0]] :=
  ⟨_, rfl, (((A9.start fun _ _ => trivial).box _ _).box' _ _ (by simp)).box' _ _ (by simp)⟩
 have HK := show Hid _ from m6.nice _ _ _ _ _ _ (C0.below (M.below fun _ _ => trivial)) hk
 have sW : W.heap.size = w.heap.size + 1 + 1 + 1 := by rw [hW]; simp
 have HM := show Hid _ from M
 have HS := show Hid _ from sW
 clear hk M sW
 go_enter Tryd.func81, Tryd.ntmps81
 go_wp2_with fail
 rw [<- hW]
 clear hW
 refine (ax1 ks ih φ kv _ HK.out hb).mono ?_
 rintro x w1 ⟨ra, rc, S1, rfl, hO, hS, b1⟩
 have M := HM.out.callO b1 (S := S1) (R := fun w => B2 w (.slice ra ks.length rc) ks S1) (fun w w' h hs => B2.same h hs) hO hS
 clear HM b1 hO
 have c0 := M.c 2 0 rfl rfl
 have c1 := M.c 2 1 rfl rfl
 have c2 := M.c 2 2 rfl rfl
 have d0 := M.c 1 0 rfl rfl
 have d1 := M.c 1 1 rfl rfl
 have d2 := M.c 1 2 rfl rfl
 have f1 := M.f 1 rfl
 have f2 := M.f 2 rfl
 have M2 := (((M.set 2 rfl 2 (.slice ra ks.length rc)).set 1 rfl 0 (.int .i64 k)).set 1 rfl 1 (.int .i64 n)).set 1 rfl 2 (.slice ra ks.length rc)
 have HM2 := show Hid _ from M2
 have HSS := show Hid _ from hS
 clear M M2 hS
 go_wp2_with fail
 have M2 := HM2.out
 have r0 : World.cell? _ ⟨w.heap.size + 1, 0, none⟩ = some (.int .i64 k) := M2.c 1 0 rfl rfl
 have r1 : World.cell? _ ⟨w.heap.size + 1, 1, none⟩ = some (.int .i64 n) := M2.c 1 1 rfl rfl
 have r2 : World.cell? _ ⟨w.heap.size + 1, 2, none⟩ = some (.slice ra ks.length rc) := M2.c 1 2 rfl rfl
 refine bodyPost_ret (v := .agg #[.int .i64 k, .int .i64 n, .slice ra ks.length rc]) (by simp [results, Tryd.results81, go_sem, r0, r1, r2]) rfl ⟨ra, rc, S1, rfl, M2.o 3 rfl, fun b hbb => ⟨?_, M2.lt (a17 (i := 3) rfl) hbb⟩, M2.below fun _ _ => trivial⟩
 have := HSS.out b hbb
 have := HS.out
 omega
theorem aW2 : (Tryd.prog.info? 43).map (fun i => (i.zero, i.size, i.bytes)) = some (some (.agg #[.int .i64 0, .int .i64 0, .int .i64 0, .int .i64 0, .slice none 0 0, .int .i64 0, .int .i64 0, .slice none 0 0, .int .i64 0, .slice none 0 0, .slice none 0 0]), 11, 152) := by kernel_rfl
def aB9 (s : b6) (ai : Option Addr) (ci : Nat) (av : Option Addr) (cv : Nat) (ab : Option Addr) (cb : Nat) (ae : Option Addr) (ce : Nat) : List Value :=
 [.int .i64 s.kind, .int .i64 s.target, .int .i64 s.index.kind, .int .i64 s.index.value, .slice ai s.index.kids.length ci, .int .i64 s.value.kind, .int .i64 s.value.value, .slice av s.value.kids.length cv, .int .i64 s.count, .slice ab s.body.length cb, .slice ae s.els.length ce]
def ToS (s : b6) : Prop := ∀ (φ : Nat -> Prop) (v : Value) (w : World), P3 w φ v s -> szS s <= 1048576 ->
 Calls Tryd.prog 55 #[v] w fun x w' => ∃ ai ci av cv ab cb ae ce S, x = .returned (.agg #[.int .i64 s.kind, .int .i64 s.target, .int .i64 s.index.kind, .int .i64 s.index.value, .slice ai s.index.kids.length ci, .int .i64 s.value.kind, .int .i64 s.value.value, .slice av s.value.kids.length cv, .int .i64 s.count, .slice ab s.body.length cb, .slice ae s.els.length ce]) /\
  C9 w' s S (aB9 s ai ci av cv ab cb ae ce) /\ (∀ b, S b -> w.heap.size <= b /\ b < w'.heap.size) /\ Below w.heap.size w w'
theorem W7 (ks : List b6) (ih : ∀ e ∈ ks, ToS e) (φ : Nat -> Prop) (v : Value) (w : World) (h : s2 w φ v ks) (hb : t7 ks <= 1048576) :
  Calls Tryd.prog 26 #[v] w fun x w' => ∃ a c S, x = .returned (.slice a ks.length c) /\ B3 w' (.slice a ks.length c) ks S /\ (∀ b, S b -> w.heap.size <= b /\ b < w'.heap.size) /\ Below w.heap.size w w' := by
 obtain ⟨a1, c1, rfl, -, hm1, -, hc1⟩ := h.open
 have hlen := Q5 ks
 have HC := show Hid _ from hc1
 clear h hc1
 have hmk := Z6 (P := Tryd.prog) (t := 28) Tryd.underlying28 aW2 rfl (by omega) ks.length (by omega) hm1
 have hown := Z3 w (Value.agg #[.int .i64 0, .int .i64 0, .int .i64 0, .int .i64 0, .slice none 0 0, .int .i64 0, .int .i64 0, .slice none 0 0, .int .i64 0, .slice none 0 0, .slice none 0 0]).cells.toList ks.length 11 43 rfl hm1
 have HB := show Hid _ from hb
 have HLN := show Hid _ from hlen
 clear hb hlen
 go_enter Tryd.func26, Tryd.ntmps26
 go_wp2_with fail
 clear hmk
 go_loopw [4] (fun i wr => ∃ (k : Nat) (ys : List Value), k <= ks.length /\ i = .int .i64 k /\ P8 wr w.heap.size (w.heap.size + 1) 43 11 (.slice (some ⟨w.heap.size, 0, none⟩) ks.length ks.length) ks.length ys /\ n9 wr (ks.take k) (fun b => w.heap.size < b /\ b < wr.heap.size) (ys.take (k * 11)) /\ Below w.heap.size w wr) (fun i _ => ks.length - (intOf i).toNat)
 case atStart => exact ⟨0, _, a34 _, rfl, hown, by simp [n9], (Below.refl _ _).alloc (a14 _) _⟩
 case round =>
  obtain ⟨k, ys, hk, rfl, ho, ht, hbw⟩ := hrel
  have HT := show Hid _ from ht
  clear ht hown
  by_cases hlt : k < ks.length
  ·obtain ⟨b1, o1, iv, vv, bv, ev, rfl, hb1, hf, ⟨x0, x1, x2, x3, x4, x5, x6, x7, x8, x9, x10⟩, k1, k2, k3, k4⟩ := HC.out k hlt
   rw [<- (v6 hbw).1 _ _ hb1] at x0 x1 x2 x3 x4 x5 x6 x7 x8 x9 x10
   have HY := show Hid (ys.length = ks.length * 11) from ho.1.1
   have HE := show Hid (P3 wr φ (.agg #[.int .i64 ks[k].kind, .int .i64 ks[k].target, .int .i64 ks[k].index.kind, .int .i64 ks[k].index.value, iv, .int .i64 ks[k].value.kind, .int .i64 ks[k].value.value, vv, .int .i64 ks[k].count, bv, ev]) ks[k]) from P3.nice _ _ _ _ _ _ (C0.below hbw) ⟨iv, vv, bv, ev, rfl, k1, k2, k3, k4⟩
   clear k1 k2 k3 k4
   go_wp2_with fail
   refine (ih _ (a11 hlt) φ _ _ HE.out (by have h1 := aB5 (a11 hlt); have h2 := HB.out; omega)).mono ?_
   rintro e w1 ⟨ai, ci, av, cv, ab, cb, ae, ce, S1, rfl, hO, hS, hbc⟩
   have ho1 := ho.keep hbc (by have := ho.lt _ rfl; omega)
   have hin : ∀ j, j < 11 -> k * 11 + j < ys.length := fun j hj => by rw [HY.out]; omega
   obtain ⟨g, cap, hv, hg1, hg2, hg3, f0, u0, y0⟩ := ho1.at (hin 0 (by omega))
   cases hv
   obtain ⟨g, cap, hv, -, -, -, f1, u1, y1⟩ := ho1.at (hin 1 (by omega))
   cases hv
   obtain ⟨g, cap, hv, -, -, -, f2, u2, y2⟩ := ho1.at (hin 2 (by omega))
   cases hv
   obtain ⟨g, cap, hv, -, -, -, f3, u3, y3⟩ := ho1.at (hin 3 (by omega))
   cases hv
   obtain ⟨g, cap, hv, -, -, -, f4, u4, y4⟩ := ho1.at (hin 4 (by omega))
   cases hv
   obtain ⟨g, cap, hv, -, -, -, f5, u5, y5⟩ := ho1.at (hin 5 (by omega))
   cases hv
   obtain ⟨g, cap, hv, -, -, -, f6, u6, y6⟩ := ho1.at (hin 6 (by omega))
   cases hv
   obtain ⟨g, cap, hv, -, -, -, f7, u7, y7⟩ := ho1.at (hin 7 (by omega))
   cases hv
   obtain ⟨g, cap, hv, -, -, -, f8, u8, y8⟩ := ho1.at (hin 8 (by omega))
   cases hv
   obtain ⟨g, cap, hv, -, -, -, f9, u9, y9⟩ := ho1.at (hin 9 (by omega))
   cases hv
   obtain ⟨g, cap, hv, -, -, -, f10, u10, y10⟩ := ho1.at (hin 10 (by omega))
   cases hv
   simp only [Nat.add_zero] at f0 y0
   have hg4 : w.heap.size < w1.heap.size := hg3
   have HO := show Hid _ from hO
   have HS := show Hid _ from hS
   have hsz0 := hbw.size
   have hszr := hbc.size
   have hgr : w.heap.size < wr.heap.size := (ho.lt _ rfl).2.2
   clear hin hO hS
   go_wp2_with fail
   have hb3 := W5 (p := k * 11) [.int .i64 ks[k].kind, .int .i64 ks[k].target, .int .i64 ks[k].index.kind, .int .i64 ks[k].index.value, .slice ai ks[k].index.kids.length ci, .int .i64 ks[k].value.kind, .int .i64 ks[k].value.value, .slice av ks[k].value.kids.length cv, .int .i64 ks[k].count, .slice ab ks[k].body.length cb, .slice ae ks[k].els.length ce] (hbw.trans (hbc.mono hbw.size)) (a14 w.heap.size)
   have hsz := (Y0.setFrom (p := k * 11) [.int .i64 ks[k].kind, .int .i64 ks[k].target, .int .i64 ks[k].index.kind, .int .i64 ks[k].index.value, .slice ai ks[k].index.kids.length ci, .int .i64 ks[k].value.kind, .int .i64 ks[k].value.value, .slice av ks[k].value.kids.length cv, .int .i64 ks[k].count, .slice ab ks[k].body.length cb, .slice ae ks[k].els.length ce] (Y0.refl w.heap.size (w.heap.size + 1) w1) (a14 _) (Nat.lt_succ_self _)).size
   refine ⟨⟨k + 1, _, by omega, by go_num, ho1.setFrom [.int .i64 ks[k].kind, .int .i64 ks[k].target, .int .i64 ks[k].index.kind, .int .i64 ks[k].index.value, .slice ai ks[k].index.kids.length ci, .int .i64 ks[k].value.kind, .int .i64 ks[k].value.value, .slice av ks[k].value.kids.length cv, .int .i64 ks[k].count, .slice ab ks[k].body.length cb, .slice ae ks[k].els.length ce] (by simp; rw [HY.out]; omega), ?_, hb3⟩, by simp [intOf]; omega⟩
   rw [a29, A2 _ _ hlt]
   rw [show (setFrom ys (k * 11) [.int .i64 ks[k].kind, .int .i64 ks[k].target, .int .i64 ks[k].index.kind, .int .i64 ks[k].index.value, .slice ai ks[k].index.kids.length ci, .int .i64 ks[k].value.kind, .int .i64 ks[k].value.value, .slice av ks[k].value.kids.length cv, .int .i64 ks[k].count, .slice ab ks[k].body.length cb, .slice ae ks[k].els.length ce]).take (k * 11 + 11) = ys.take (k * 11) ++ [.int .i64 ks[k].kind, .int .i64 ks[k].target, .int .i64 ks[k].index.kind, .int .i64 ks[k].index.value, .slice ai ks[k].index.kids.length ci, .int .i64 ks[k].value.kind, .int .i64 ks[k].value.value, .slice av ks[k].value.kids.length cv, .int .i64 ks[k].count, .slice ab ks[k].body.length cb, .slice ae ks[k].els.length ce] from M7 [_, _, _, _, _, _, _, _, _, _, _] _ _ (by simp; rw [HY.out]; omega)]
   refine n9.snoc (S := fun b => w.heap.size < b /\ b < wr.heap.size) (T := S1) (n9.same _ _ _ HT.out fun b hbb hlt' => ?_) (C9.same _ _ _ HO.out fun b hbb hlt' => ?_) (fun b hbb => ⟨⟨hbb.1, ?_⟩, fun h1 => ?_⟩) fun b hbb => ⟨?_, ?_⟩
   ·obtain ⟨p1, p2⟩ : w.heap.size < b /\ b < wr.heap.size := hbb
    exact (M8 (p := k * 11) (us := [.int .i64 ks[k].kind, .int .i64 ks[k].target, .int .i64 ks[k].index.kind, .int .i64 ks[k].index.value, .slice ai ks[k].index.kids.length ci, .int .i64 ks[k].value.kind, .int .i64 ks[k].value.value, .slice av ks[k].value.kids.length cv, .int .i64 ks[k].count, .slice ab ks[k].body.length cb, .slice ae ks[k].els.length ce]) (by omega) (by omega)).trans (hbc.block b p2)
   ·obtain ⟨p1, p2⟩ : wr.heap.size <= b /\ b < w1.heap.size := HS.out b hbb
    exact M8 (p := k * 11) (us := [.int .i64 ks[k].kind, .int .i64 ks[k].target, .int .i64 ks[k].index.kind, .int .i64 ks[k].index.value, .slice ai ks[k].index.kids.length ci, .int .i64 ks[k].value.kind, .int .i64 ks[k].value.value, .slice av ks[k].value.kids.length cv, .int .i64 ks[k].count, .slice ab ks[k].body.length cb, .slice ae ks[k].els.length ce]) hlt' (by omega)
   ·exact a36 (a36 hbb.2 hszr) hsz
   ·have h2 : wr.heap.size <= b /\ b < w1.heap.size := HS.out b h1
    have h3 : b < wr.heap.size := hbb.2
    omega
   ·have h2 : wr.heap.size <= b /\ b < w1.heap.size := HS.out b hbb
    show w.heap.size < b
    omega
   exact a36 (HS.out b hbb).2 hsz
  have hkn : k = ks.length := by omega
  subst hkn
  go_wp2_with fail
  go_ret
  have hl : ys.take (ks.length * 11) = ys := a16 (by rw [ho.1.1]; exact a14 _)
  have ht := HT.out
  rw [hl, a16 (a14 _)] at ht
  exact ⟨_, _, fun b => w.heap.size <= b /\ b < wr.heap.size, rfl, ⟨ys, fun b => w.heap.size < b /\ b < wr.heap.size, I4 ho.1 (a34 _), fun g hg => by cases hg; exact ⟨⟨a14 _, (ho.lt _ rfl).2.2⟩, fun h => absurd h.1 (Nat.lt_irrefl _)⟩, fun b hb => ⟨by omega, hb.2⟩, ht⟩, fun b hb => hb, hbw⟩
theorem ax0 (s : b6) : ToS s := by
 refine b6.ind (P := ToS) (fun k t i v c b e ihb ihe => ?_) s
 intro φ u w h hb
 obtain ⟨iv, vv, bv, ev, rfl, g1, g2, g3, g4⟩ := h
 have hsz : G9 i + G9 v + t7 b + t7 e <= 1048576 := hb
 simp only [b6.index, b6.value, b6.body, b6.els, b6.kind, b6.target, b6.count, aB9] at g1 g2 g3 g4 ⊢
 obtain ⟨W, hW, M⟩ : ∃ W, W = (((w.alloc (.cells #[.int .i64 k, .int .i64 t, .int .i64 i.kind, .int .i64 i.value, iv, .int .i64 v.kind, .int .i64 v.value, vv, .int .i64 c, bv, ev] 76)).alloc (.cells #[.int .i64 0, .int .i64 0, .int .i64 0, .int .i64 0, .slice none 0 0, .int .i64 0, .int .i64 0, .slice none 0 0, .int .i64 0, .slice none 0 0, .slice none 0 0] 43)).alloc (.cells #[.int .i64 k, .int .i64 t, .int .i64 0, .int .i64 0, .slice none 0 0, .int .i64 0, .int .i64 0, .slice none 0 0, .int .i64 0, .slice none 0 0, .slice none 0 0] 43)) /\ A9 (fun _ => True) (fun _ => True) w W [.box w.heap.size [.int .i64 k, .int .i64 t, .int .i64 i.kind, .int .i64 i.value, iv, .int .i64 v.kind, .int .i64 v.value, vv, .int .i64 c, bv, ev], .box (w.heap.size + 1) [.int .i64 0, .int .i64 0, .int .i64 0, .int .i64 0, .slice none 0 0, .int .i64 0, .int .i64 0, .slice none 0 0, .int .i64 0, .slice none 0 0, .slice none 0 0], .box (w.heap.size + 1 + 1) [.int .i64 k, .int .i64 t, .int .i64 0, .int .i64 0, .slice none 0 0, .int .i64 0, .int .i64 0, .slice none 0 0, .int .i64 0, .slice none 0 0, .slice none 0 0]] :=
  ⟨_, rfl, (((A9.start fun _ _ => trivial).box _ _).box' _ _ (by simp)).box' _ _ (by simp)⟩
 have HG := show Hid (∀ W', Below w.heap.size w W' -> s5 W' φ (.agg #[.int .i64 i.kind, .int .i64 i.value, iv]) i /\ s5 W' φ (.agg #[.int .i64 v.kind, .int .i64 v.value, vv]) v /\ s2 W' φ bv b /\ s2 W' φ ev e) from fun W' k =>
  ⟨⟨iv, rfl, m6.nice _ _ _ _ _ _ (C0.below k) g1⟩, ⟨vv, rfl, m6.nice _ _ _ _ _ _ (C0.below k) g2⟩, s2.nice _ _ _ _ _ _ (C0.below k) g3, s2.nice _ _ _ _ _ _ (C0.below k) g4⟩
 clear g1 g2 g3 g4
 have c2 := M.c 0 2 rfl rfl
 have c3 := M.c 0 3 rfl rfl
 have c4 := M.c 0 4 rfl rfl
 rw [hW] at c2 c3 c4
 have HZ := show Hid _ from hsz
 have HM := show Hid _ from M
 clear M hsz hb
 go_enter Tryd.func55, Tryd.ntmps55
 go_wp2_with fail
 rw [<- hW]
 have M := HM.out
 clear hW HM c2 c3 c4
 refine (ah3 i φ _ _ (HG.out _ (M.below fun _ _ => trivial)).1 (by have := HZ.out; omega)).mono ?_
 rintro x w1 ⟨ai, ci, S1, rfl, hO, hS, b1⟩
 replace M := M.callO b1 (S := S1) (R := fun w => B2 w (.slice ai i.kids.length ci) i.kids S1) (fun w w' h hs => B2.same h hs) hO (fun b hb => hS b hb)
 clear hO hS b1
 have q2_2 := M.c 2 2 rfl rfl
 have q2_3 := M.c 2 3 rfl rfl
 have q2_4 := M.c 2 4 rfl rfl
 have q0_5 := M.c 0 5 rfl rfl
 have q0_6 := M.c 0 6 rfl rfl
 have q0_7 := M.c 0 7 rfl rfl
 have fo := M.f 2 rfl
 have M2 := (((M.set 2 rfl 2 (.int .i64 i.kind)).set 2 rfl 3 (.int .i64 i.value)).set 2 rfl 4 (.slice ai i.kids.length ci))
 have HM2 := show Hid _ from M2
 clear M M2
 go_wp2_with fail
 have M := HM2.out
 clear HM2 fo q2_2 q2_3 q2_4 q0_5 q0_6 q0_7
 refine (ah3 v φ _ _ (HG.out _ (M.below fun _ _ => trivial)).2.1 (by have := HZ.out; omega)).mono ?_
 rintro x w1 ⟨av, cv, S2, rfl, hO, hS, b1⟩
 replace M := M.callO b1 (S := S2) (R := fun w => B2 w (.slice av v.kids.length cv) v.kids S2) (fun w w' h hs => B2.same h hs) hO (fun b hb => hS b hb)
 clear hO hS b1
 have q2_5 := M.c 2 5 rfl rfl
 have q2_6 := M.c 2 6 rfl rfl
 have q2_7 := M.c 2 7 rfl rfl
 have q0_8 := M.c 0 8 rfl rfl
 have q2_8 := M.c 2 8 rfl rfl
 have q0_9 := M.c 0 9 rfl rfl
 have fo := M.f 2 rfl
 have M2 := ((((M.set 2 rfl 5 (.int .i64 v.kind)).set 2 rfl 6 (.int .i64 v.value)).set 2 rfl 7 (.slice av v.kids.length cv)).set 2 rfl 8 (.int .i64 c))
 have HM2 := show Hid _ from M2
 clear M M2
 go_wp2_with fail
 have M := HM2.out
 clear HM2 fo q2_5 q2_6 q2_7 q0_8 q2_8 q0_9
 refine (W7 b ihb φ _ _ (HG.out _ (M.below fun _ _ => trivial)).2.2.1 (by have := HZ.out; omega)).mono ?_
 rintro x w1 ⟨ab, cb, S3, rfl, hO, hS, b1⟩
 replace M := M.callO b1 (S := S3) (R := fun w => B3 w (.slice ab b.length cb) b S3) (fun w w' h hs => B3.same h hs) hO (fun b hb => hS b hb)
 clear hO hS b1
 have q2_9 := M.c 2 9 rfl rfl
 have q0_10 := M.c 0 10 rfl rfl
 have fo := M.f 2 rfl
 have M2 := (M.set 2 rfl 9 (.slice ab b.length cb))
 have HM2 := show Hid _ from M2
 clear M M2
 go_wp2_with fail
 have M := HM2.out
 clear HM2 fo q2_9 q0_10
 refine (W7 e ihe φ _ _ (HG.out _ (M.below fun _ _ => trivial)).2.2.2 (by have := HZ.out; omega)).mono ?_
 rintro x w1 ⟨ae, ce, S4, rfl, hO, hS, b1⟩
 replace M := M.callO b1 (S := S4) (R := fun w => B3 w (.slice ae e.length ce) e S4) (fun w w' h hs => B3.same h hs) hO (fun b hb => hS b hb)
 clear hO hS b1
 replace M := M.as [.box w.heap.size [.int .i64 k, .int .i64 t, .int .i64 i.kind, .int .i64 i.value, iv, .int .i64 v.kind, .int .i64 v.value, vv, .int .i64 c, bv, ev], .box (w.heap.size + 1) [.int .i64 0, .int .i64 0, .int .i64 0, .int .i64 0, .slice none 0 0, .int .i64 0, .int .i64 0, .slice none 0 0, .int .i64 0, .slice none 0 0, .slice none 0 0], .box (w.heap.size + 1 + 1) [.int .i64 k, .int .i64 t, .int .i64 i.kind, .int .i64 i.value, .slice ai i.kids.length ci, .int .i64 v.kind, .int .i64 v.value, .slice av v.kids.length cv, .int .i64 c, .slice ab b.length cb, .slice none 0 0], .own S1 (fun w => B2 w (.slice ai i.kids.length ci) i.kids S1), .own S2 (fun w => B2 w (.slice av v.kids.length cv) v.kids S2), .own S3 (fun w => B3 w (.slice ab b.length cb) b S3), .own S4 (fun w => B3 w (.slice ae e.length ce) e S4)] rfl
 have o0 : World.cell? _ ⟨w.heap.size + 1 + 1, 0, none⟩ = some (.int .i64 k) := M.c 2 0 rfl rfl
 have o1 : World.cell? _ ⟨w.heap.size + 1 + 1, 1, none⟩ = some (.int .i64 t) := M.c 2 1 rfl rfl
 have o2 : World.cell? _ ⟨w.heap.size + 1 + 1, 2, none⟩ = some (.int .i64 i.kind) := M.c 2 2 rfl rfl
 have o3 : World.cell? _ ⟨w.heap.size + 1 + 1, 3, none⟩ = some (.int .i64 i.value) := M.c 2 3 rfl rfl
 have o4 : World.cell? _ ⟨w.heap.size + 1 + 1, 4, none⟩ = some (.slice ai i.kids.length ci) := M.c 2 4 rfl rfl
 have o5 : World.cell? _ ⟨w.heap.size + 1 + 1, 5, none⟩ = some (.int .i64 v.kind) := M.c 2 5 rfl rfl
 have o6 : World.cell? _ ⟨w.heap.size + 1 + 1, 6, none⟩ = some (.int .i64 v.value) := M.c 2 6 rfl rfl
 have o7 : World.cell? _ ⟨w.heap.size + 1 + 1, 7, none⟩ = some (.slice av v.kids.length cv) := M.c 2 7 rfl rfl
 have o8 : World.cell? _ ⟨w.heap.size + 1 + 1, 8, none⟩ = some (.int .i64 c) := M.c 2 8 rfl rfl
 have o9 : World.cell? _ ⟨w.heap.size + 1 + 1, 9, none⟩ = some (.slice ab b.length cb) := M.c 2 9 rfl rfl
 have o10 : World.cell? _ ⟨w.heap.size + 1 + 1, 10, none⟩ = some (.slice none 0 0) := M.c 2 10 rfl rfl
 have z0 : World.cell? _ ⟨w.heap.size + 1, 0, none⟩ = some (.int .i64 0) := M.c 1 0 rfl rfl
 have z1 : World.cell? _ ⟨w.heap.size + 1, 1, none⟩ = some (.int .i64 0) := M.c 1 1 rfl rfl
 have z2 : World.cell? _ ⟨w.heap.size + 1, 2, none⟩ = some (.int .i64 0) := M.c 1 2 rfl rfl
 have z3 : World.cell? _ ⟨w.heap.size + 1, 3, none⟩ = some (.int .i64 0) := M.c 1 3 rfl rfl
 have z4 : World.cell? _ ⟨w.heap.size + 1, 4, none⟩ = some (.slice none 0 0) := M.c 1 4 rfl rfl
 have z5 : World.cell? _ ⟨w.heap.size + 1, 5, none⟩ = some (.int .i64 0) := M.c 1 5 rfl rfl
 have z6 : World.cell? _ ⟨w.heap.size + 1, 6, none⟩ = some (.int .i64 0) := M.c 1 6 rfl rfl
 have z7 : World.cell? _ ⟨w.heap.size + 1, 7, none⟩ = some (.slice none 0 0) := M.c 1 7 rfl rfl
 have z8 : World.cell? _ ⟨w.heap.size + 1, 8, none⟩ = some (.int .i64 0) := M.c 1 8 rfl rfl
 have z9 : World.cell? _ ⟨w.heap.size + 1, 9, none⟩ = some (.slice none 0 0) := M.c 1 9 rfl rfl
 have z10 : World.cell? _ ⟨w.heap.size + 1, 10, none⟩ = some (.slice none 0 0) := M.c 1 10 rfl rfl
 have fo := M.f 2 rfl
 have fz := M.f 1 rfl
 have M2 := ((M.set 2 rfl 10 (.slice ae e.length ce)).fill 1 rfl [.int .i64 k, .int .i64 t, .int .i64 i.kind, .int .i64 i.value, .slice ai i.kids.length ci, .int .i64 v.kind, .int .i64 v.value, .slice av v.kids.length cv, .int .i64 c, .slice ab b.length cb, .slice ae e.length ce] rfl).as [.box w.heap.size [.int .i64 k, .int .i64 t, .int .i64 i.kind, .int .i64 i.value, iv, .int .i64 v.kind, .int .i64 v.value, vv, .int .i64 c, bv, ev], .box (w.heap.size + 1) [.int .i64 k, .int .i64 t, .int .i64 i.kind, .int .i64 i.value, .slice ai i.kids.length ci, .int .i64 v.kind, .int .i64 v.value, .slice av v.kids.length cv, .int .i64 c, .slice ab b.length cb, .slice ae e.length ce], .box (w.heap.size + 1 + 1) [.int .i64 k, .int .i64 t, .int .i64 i.kind, .int .i64 i.value, .slice ai i.kids.length ci, .int .i64 v.kind, .int .i64 v.value, .slice av v.kids.length cv, .int .i64 c, .slice ab b.length cb, .slice ae e.length ce], .own S1 (fun w => B2 w (.slice ai i.kids.length ci) i.kids S1), .own S2 (fun w => B2 w (.slice av v.kids.length cv) v.kids S2), .own S3 (fun w => B3 w (.slice ab b.length cb) b S3), .own S4 (fun w => B3 w (.slice ae e.length ce) e S4)] rfl
 simp only [World.setFrom] at M2
 have HM2 := show Hid _ from M2
 clear M M2
 go_wp2_with fail
 have M2 := HM2.out
 have r0 : World.cell? _ ⟨w.heap.size + 1, 0, none⟩ = some (.int .i64 k) := M2.c 1 0 rfl rfl
 have r1 : World.cell? _ ⟨w.heap.size + 1, 1, none⟩ = some (.int .i64 t) := M2.c 1 1 rfl rfl
 have r2 : World.cell? _ ⟨w.heap.size + 1, 2, none⟩ = some (.int .i64 i.kind) := M2.c 1 2 rfl rfl
 have r3 : World.cell? _ ⟨w.heap.size + 1, 3, none⟩ = some (.int .i64 i.value) := M2.c 1 3 rfl rfl
 have r4 : World.cell? _ ⟨w.heap.size + 1, 4, none⟩ = some (.slice ai i.kids.length ci) := M2.c 1 4 rfl rfl
 have r5 : World.cell? _ ⟨w.heap.size + 1, 5, none⟩ = some (.int .i64 v.kind) := M2.c 1 5 rfl rfl
 have r6 : World.cell? _ ⟨w.heap.size + 1, 6, none⟩ = some (.int .i64 v.value) := M2.c 1 6 rfl rfl
 have r7 : World.cell? _ ⟨w.heap.size + 1, 7, none⟩ = some (.slice av v.kids.length cv) := M2.c 1 7 rfl rfl
 have r8 : World.cell? _ ⟨w.heap.size + 1, 8, none⟩ = some (.int .i64 c) := M2.c 1 8 rfl rfl
 have r9 : World.cell? _ ⟨w.heap.size + 1, 9, none⟩ = some (.slice ab b.length cb) := M2.c 1 9 rfl rfl
 have r10 : World.cell? _ ⟨w.heap.size + 1, 10, none⟩ = some (.slice ae e.length ce) := M2.c 1 10 rfl rfl
 have e1 := fun b (h1 : S1 b) => M2.dis 3 4 _ _ b rfl rfl (by omega) h1
 have e2 := fun b (h1 : S1 b) => M2.dis 3 5 _ _ b rfl rfl (by omega) h1
 have e3 := fun b (h1 : S1 b) => M2.dis 3 6 _ _ b rfl rfl (by omega) h1
 have e4 := fun b (h1 : S2 b) => M2.dis 4 5 _ _ b rfl rfl (by omega) h1
 have e5 := fun b (h1 : S2 b) => M2.dis 4 6 _ _ b rfl rfl (by omega) h1
 have e6 := fun b (h1 : S3 b) => M2.dis 5 6 _ _ b rfl rfl (by omega) h1
 refine bodyPost_ret (v := .agg #[.int .i64 k, .int .i64 t, .int .i64 i.kind, .int .i64 i.value, .slice ai i.kids.length ci, .int .i64 v.kind, .int .i64 v.value, .slice av v.kids.length cv, .int .i64 c, .slice ab b.length cb, .slice ae e.length ce]) (by simp [results, Tryd.results55, go_sem, r0, r1, r2, r3, r4, r5, r6, r7, r8, r9, r10]) rfl ⟨ai, ci, av, cv, ab, cb, ae, ce, fun b => S1 b \/ S2 b \/ S3 b \/ S4 b, rfl, (C9.iff ⟨k, t, i, v, c, b, e⟩ _ _).2 ⟨_, _, _, _, S1, S2, S3, S4, rfl, ⟨fun b hb => ⟨.inl hb, e1 b hb, e2 b hb, e3 b hb⟩, fun b hb => ⟨.inr (.inl hb), e4 b hb, e5 b hb⟩, fun b hb => ⟨.inr (.inr (.inl hb)), e6 b hb⟩, fun b hb => .inr (.inr (.inr hb))⟩, M2.o 3 rfl, M2.o 4 rfl, M2.o 5 rfl, M2.o 6 rfl⟩, fun b hb => ?_, M2.below fun _ _ => trivial⟩
 have fin : ∀ (j : Nat) (S : Nat -> Prop) (R : World -> Prop) (L : List L8) (W : World), A9 (fun _ => True) (fun _ => True) w W L -> L[j]? = some (.own S R) -> S b -> w.heap.size <= b /\ b < W.heap.size := fun j S R L W M hj hs =>
  ⟨(M.ge _ b (a17 hj) hs).elim (fun h => h) fun h => absurd a18 h, M.lt (a17 hj) hs⟩
 rcases hb with hb | hb | hb | hb
 ·exact fin 3 _ _ _ _ M2 rfl hb
 ·exact fin 4 _ _ _ _ M2 rfl hb
 ·exact fin 5 _ _ _ _ M2 rfl hb
 exact fin 6 _ _ _ _ M2 rfl hb
theorem al4 (φ : Nat -> Prop) (u : Value) (p : p8) (w : World) (h : U9 w φ u p) (hb : p.size <= 1048576) :
  Calls Tryd.prog 8 #[u] w fun x w' => ∃ a1 k1 a2 k2 a3 k3 S, x = .returned (.agg #[.slice a1 p.vars.length k1, .slice a2 p.arrays.length k2, .slice a3 p.body.length k3]) /\ ab4 w' (.agg #[.slice a1 p.vars.length k1, .slice a2 p.arrays.length k2, .slice a3 p.body.length k3]) p S /\ (∀ b, S b -> w.heap.size <= b /\ b < w'.heap.size) /\ Below w.heap.size w w' := by
 obtain ⟨v1, v2, v3, rfl, h1, h2, h3⟩ := h
 have hsz : p.vars.length + p.arrays.length + t7 p.body <= 1048576 := hb
 obtain ⟨W, hW, M⟩ : ∃ W, W = (((w.alloc (.cells #[v1, v2, v3] 25)).alloc (.cells #[.slice none 0 0, .slice none 0 0, .slice none 0 0] 30)).alloc (.cells #[.slice none 0 0, .slice none 0 0, .slice none 0 0] 30)) /\ A9 (fun _ => True) (fun _ => True) w W [.box w.heap.size [v1, v2, v3], .box (w.heap.size + 1) [.slice none 0 0, .slice none 0 0, .slice none 0 0], .box (w.heap.size + 1 + 1) [.slice none 0 0, .slice none 0 0, .slice none 0 0]] :=
  ⟨_, rfl, (((A9.start fun _ _ => trivial).box _ _).box' _ _ (by simp)).box' _ _ (by simp)⟩
 have HG := show Hid (∀ W', Below w.heap.size w W' -> K0 W' v1 p.vars.length 1 (ints p.vars) /\ K0 W' v2 p.arrays.length 1 (ints p.arrays) /\ s2 W' φ v3 p.body) from fun W' k =>
  ⟨h1.row.below k, h2.row.below k, s2.nice _ _ _ _ _ _ (C0.below k) h3⟩
 clear h1 h2 h3 hb
 have c0 := M.c 0 0 rfl rfl
 rw [hW] at c0
 have HZ := show Hid _ from hsz
 have HM := show Hid _ from M
 clear M hsz
 go_enter Tryd.func8, Tryd.ntmps8
 go_wp2_with fail
 rw [<- hW]
 have M := HM.out
 clear hW HM c0
 refine (ah2 v1 p.vars _ (HG.out _ (M.below fun _ _ => trivial)).1 (by have := HZ.out; omega)).mono ?_
 rintro x w1 ⟨u1, rfl, o1, b1⟩
 obtain ⟨a1, k1, rfl⟩ := o1.form
 replace M := M.callR b1 o1.1
 clear o1 b1
 have x1 := M.c 0 1 rfl rfl
 have y0 := M.c 2 0 rfl rfl
 have fo := M.f 2 rfl
 have M2 := (M.set 2 rfl 0 (.slice a1 p.vars.length k1))
 have HM := show Hid _ from M2
 clear M M2
 go_wp2_with fail
 have M := HM.out
 clear HM x1 y0 fo
 refine (ah2 v2 p.arrays _ (HG.out _ (M.below fun _ _ => trivial)).2.1 (by have := HZ.out; omega)).mono ?_
 rintro x w2 ⟨u2, rfl, o2, b2⟩
 obtain ⟨a2, k2, rfl⟩ := o2.form
 replace M := M.callR b2 o2.1
 clear o2 b2
 have x2 := M.c 0 2 rfl rfl
 have y1 := M.c 2 1 rfl rfl
 have fo := M.f 2 rfl
 have M2 := (M.set 2 rfl 1 (.slice a2 p.arrays.length k2))
 have HM := show Hid _ from M2
 clear M M2
 go_wp2_with fail
 have M := HM.out
 clear HM x2 y1 fo
 refine (W7 p.body (fun s _ => ax0 s) φ v3 _ (HG.out _ (M.below fun _ _ => trivial)).2.2 (by have := HZ.out; omega)).mono ?_
 rintro x w3 ⟨a3, k3, S3, rfl, hO, hS, b3⟩
 replace M := M.callO b3 (S := S3) (R := fun w => B3 w (.slice a3 p.body.length k3) p.body S3) (fun w w' h hs => B3.same h hs) hO (fun b hb => hS b hb)
 clear hO hS b3
 have y0 : World.cell? _ ⟨w.heap.size + 1 + 1, 0, none⟩ = some (.slice a1 p.vars.length k1) := M.c 2 0 rfl rfl
 have y1 : World.cell? _ ⟨w.heap.size + 1 + 1, 1, none⟩ = some (.slice a2 p.arrays.length k2) := M.c 2 1 rfl rfl
 have y2 : World.cell? _ ⟨w.heap.size + 1 + 1, 2, none⟩ = some (.slice none 0 0) := M.c 2 2 rfl rfl
 have z0 := M.c 1 0 rfl rfl
 have z1 := M.c 1 1 rfl rfl
 have z2 := M.c 1 2 rfl rfl
 have fo := M.f 2 rfl
 have fz := M.f 1 rfl
 have M2 := (M.set 2 rfl 2 (.slice a3 p.body.length k3)).fill 1 rfl [.slice a1 p.vars.length k1, .slice a2 p.arrays.length k2, .slice a3 p.body.length k3] rfl
 simp only [World.setFrom] at M2
 have HM2 := show Hid _ from M2
 clear M M2
 go_wp2_with fail
 have M2 := HM2.out
 have r0 : World.cell? _ ⟨w.heap.size + 1, 0, none⟩ = some (.slice a1 p.vars.length k1) := M2.c 1 0 rfl rfl
 have r1 : World.cell? _ ⟨w.heap.size + 1, 1, none⟩ = some (.slice a2 p.arrays.length k2) := M2.c 1 1 rfl rfl
 have r2 : World.cell? _ ⟨w.heap.size + 1, 2, none⟩ = some (.slice a3 p.body.length k3) := M2.c 1 2 rfl rfl
 have fin : ∀ (b j : Nat) (r : L8) (L : List L8) (W : World), A9 (fun _ => True) (fun _ => True) w W L -> L[j]? = some r -> r.blk b -> w.heap.size <= b /\ b < W.heap.size := fun b j r L W M hj hs =>
  ⟨(M.ge _ b (a17 hj) hs).elim (fun h => h) fun h => absurd a18 h, M.lt (a17 hj) hs⟩
 have e1 := fun b => M2.dis 3 4 _ _ b rfl rfl (by omega)
 have e2 := fun b => M2.dis 3 5 _ _ b rfl rfl (by omega)
 have e3 := fun b => M2.dis 4 5 _ _ b rfl rfl (by omega)
 refine bodyPost_ret (v := .agg #[.slice a1 p.vars.length k1, .slice a2 p.arrays.length k2, .slice a3 p.body.length k3]) (by simp [results, Tryd.results8, go_sem, r0, r1, r2]) rfl ⟨a1, k1, a2, k2, a3, k3, fun b => (Value.slice a1 p.vars.length k1).ownBlock = some b \/ (Value.slice a2 p.arrays.length k2).ownBlock = some b \/ S3 b, rfl,
  ⟨_, _, _, S3, rfl, M2.r 3 rfl, M2.r 4 rfl, M2.o 5 rfl, fun g hg => ⟨.inl hg, e2 g hg, e1 g hg⟩, fun g hg => ⟨.inr (.inl hg), e3 g hg⟩, fun b hb => .inr (.inr hb)⟩, fun b hb => ?_, M2.below fun _ _ => trivial⟩
 rcases hb with hb | hb | hb
 ·exact fin b 3 _ _ _ M2 rfl hb
 ·exact fin b 4 _ _ _ M2 rfl hb
 exact fin b 5 _ _ _ M2 rfl hb
theorem K8 (us : List Value) : ∀ (c ys : List Value) (p : Nat), c.length <= p -> setFrom (c ++ ys) p us = c ++ setFrom ys (p - c.length) us := by
 induction us with
 | nil => intro c ys p _; rfl
 | cons u r ih =>
  intro c ys p hp
  simp only [setFrom]
  rw [List.set_append_right _ _ hp, ih _ _ _ (by omega), show p + 1 - c.length = p - c.length + 1 by omega]
theorem L5 (us : List Value) : ∀ (c ys : List Value) (p : Nat), p + us.length <= c.length -> setFrom (c ++ ys) p us = setFrom c p us ++ ys := by
 induction us with
 | nil => intro c ys p _; rfl
 | cons u r ih =>
  intro c ys p hp
  simp only [a04] at hp
  simp only [setFrom]
  rw [List.set_append_left _ _ (by omega), ih _ _ _ (by simp; omega)]
theorem W4 {c us : List Value} (h : us.length = c.length) : setFrom c 0 us = us := by
 have h1 := M7 us c 0 (by omega)
 rw [a45, a16 (by rw [E9]; omega)] at h1
 simpa using h1
theorem D0.len {w : World} {e : b9} {S : Nat -> Prop} {c : List Value} (h : D0 w e S c) : c.length = 3 := by
 obtain ⟨kv, rfl, _⟩ := (D0.iff e S c).1 h; rfl
theorem C9.len {w : World} {s : b6} {S : Nat -> Prop} {c : List Value} (h : C9 w s S c) : c.length = 11 := by
 obtain ⟨_, _, _, _, _, _, _, _, rfl, _⟩ := (C9.iff s S c).1 h; rfl
theorem p7.focus {w : World} : ∀ {ls : List b9} {S : Nat -> Prop} {xs : List Value}, p7 w ls S xs -> ∀ (i : Nat) (hi : i < ls.length), ∃ (c : List Value) (Sc : Nat -> Prop), D0 w ls[i] Sc c /\ (∀ b, Sc b -> S b) /\ (∀ j, j < 3 -> xs[i * 3 + j]? = c[j]?) /\
  ∀ (w' : World) (e' : b9) (c' : List Value), (∀ b, S b -> ¬ Sc b -> b < w.heap.size -> w'.heap[b]? = w.heap[b]?) -> D0 w' e' Sc c' -> p7 w' (ls.set i e') S (setFrom xs (i * 3) c')
 | [], _, _, _, i, hi => by simp at hi
 | e :: r, S, xs, ⟨c, ys, S1, S2, h1, h2, h3, h4, h5⟩, i, hi => by
  have hc := h4.len
  subst h1
  cases i with
  | zero =>
   refine ⟨c, S1, h4, fun b hb => (h2 b hb).1, fun j hj => by rw [a44 (by omega)]; simp, fun w' e' c' hs hO => ?_⟩
   refine ⟨c', ys, S1, S2, ?_, h2, h3, hO, p7.same r S2 ys h5 fun b hb hlt => hs b (h3 b hb) (fun h => (h2 b h).2 hb) hlt⟩
   rw [Nat.zero_mul, L5 c' c ys 0 (by rw [hO.len]; omega), W4 (by rw [hO.len, hc])]
  | succ i =>
   obtain ⟨d, Sc, k1, k2, k3, k4⟩ := p7.focus h5 i (by simpa using hi)
   refine ⟨d, Sc, k1, fun b hb => h3 b (k2 b hb), fun j hj => ?_, fun w' e' c' hs hO => ?_⟩
   ·rw [a42 (by rw [hc, a29]; omega), <- k3 j hj]
    congr 1
    rw [hc, a29]; omega
   refine ⟨c, setFrom ys (i * 3) c', S1, S2, ?_, h2, h3, D0.same e S1 c h4 fun b hb hlt => hs b (h2 b hb).1 (fun h => (h2 b hb).2 (k2 b h)) hlt, k4 w' e' c' (fun b hb hn hlt => hs b (h3 b hb) hn hlt) hO⟩
   rw [K8 c' c ys _ (by rw [hc, a29]; omega), hc, a29, Nat.add_sub_cancel]
theorem n9.focus {w : World} : ∀ {ls : List b6} {S : Nat -> Prop} {xs : List Value}, n9 w ls S xs -> ∀ (i : Nat) (hi : i < ls.length), ∃ (c : List Value) (Sc : Nat -> Prop), C9 w ls[i] Sc c /\ (∀ b, Sc b -> S b) /\ (∀ j, j < 11 -> xs[i * 11 + j]? = c[j]?) /\
  ∀ (w' : World) (e' : b6) (c' : List Value), (∀ b, S b -> ¬ Sc b -> b < w.heap.size -> w'.heap[b]? = w.heap[b]?) -> C9 w' e' Sc c' -> n9 w' (ls.set i e') S (setFrom xs (i * 11) c')
 | [], _, _, _, i, hi => by simp at hi
 | e :: r, S, xs, ⟨c, ys, S1, S2, h1, h2, h3, h4, h5⟩, i, hi => by
  have hc := h4.len
  subst h1
  cases i with
  | zero =>
   refine ⟨c, S1, h4, fun b hb => (h2 b hb).1, fun j hj => by rw [a44 (by omega)]; simp, fun w' e' c' hs hO => ?_⟩
   refine ⟨c', ys, S1, S2, ?_, h2, h3, hO, n9.same r S2 ys h5 fun b hb hlt => hs b (h3 b hb) (fun h => (h2 b h).2 hb) hlt⟩
   rw [Nat.zero_mul, L5 c' c ys 0 (by rw [hO.len]; omega), W4 (by rw [hO.len, hc])]
  | succ i =>
   obtain ⟨d, Sc, k1, k2, k3, k4⟩ := n9.focus h5 i (by simpa using hi)
   refine ⟨d, Sc, k1, fun b hb => h3 b (k2 b hb), fun j hj => ?_, fun w' e' c' hs hO => ?_⟩
   ·rw [a42 (by rw [hc, a29]; omega), <- k3 j hj]
    congr 1
    rw [hc, a29]; omega
   refine ⟨c, setFrom ys (i * 11) c', S1, S2, ?_, h2, h3, C9.same e S1 c h4 fun b hb hlt => hs b (h2 b hb).1 (fun h => (h2 b hb).2 (k2 b h)) hlt, k4 w' e' c' (fun b hb hn hlt => hs b (h3 b hb) hn hlt) hO⟩
   rw [K8 c' c ys _ (by rw [hc, a29]; omega), hc, a29, Nat.add_sub_cancel]
section
variable {φ ψ : Nat -> Prop} {w0 w w' : World} {L : List L8}
theorem p7.at : ∀ {ks : List b9} {S : Nat -> Prop} {xs : List Value}, p7 w ks S xs -> ∀ (i : Nat) (hi : i < ks.length), ∃ kv, xs[i * 3]? = some (.int .i64 ks[i].kind) /\ xs[i * 3 + 1]? = some (.int .i64 ks[i].value) /\ xs[i * 3 + 2]? = some kv /\ B2 w kv ks[i].kids S
 | [], _, _, _, i, hi => by simp at hi
 | e :: r, S, _, ⟨c, ys, S1, S2, h1, h2, h3, h4, h5⟩, i, hi => by
  obtain ⟨kv, rfl, hk⟩ := (D0.iff e S1 c).1 h4
  subst h1
  cases i with
  | zero => exact ⟨kv, rfl, rfl, rfl, hk.mono fun b hb => (h2 b hb).1⟩
  | succ i =>
   obtain ⟨kv', a, b, d, f⟩ := p7.at h5 i (by simpa using hi)
   refine ⟨kv', ?_, ?_, ?_, f.mono h3⟩ <;> (rw [a29]; simpa [Nat.add_assoc] using by assumption)
theorem B2.open {v : Value} {ks : List b9} {S : Nat -> Prop} (h : B2 w v ks S) : ∃ a cap, v = .slice a ks.length cap /\ ks.length <= cap /\ ks.length <= 9223372036854775807 /\ cap <= 9223372036854775807 /\
  ∀ i (hi : i < ks.length), ∃ b off kv, a = some ⟨b, off, none⟩ /\ b < w.heap.size /\ S b /\ w.cell? ⟨b, off + i * 3, none⟩ = some (.int .i64 ks[i].kind) /\ w.cell? ⟨b, off + i * 3 + 1, none⟩ = some (.int .i64 ks[i].value) /\ w.cell? ⟨b, off + i * 3 + 2, none⟩ = some kv /\ B2 w kv ks[i].kids S := by
 obtain ⟨xs, S', h2, h3, h4, h5⟩ := h
 obtain ⟨hl, a, cap, hv, n1, n2, n3⟩ := E4 (φ := fun g => S g /\ ¬ S' g) h2 h3
 unfold maxLen at n2
 refine ⟨a, cap, hv, n1, by omega, by omega, fun i hi => ?_⟩
 obtain ⟨b, off, he, hb, hf, hc⟩ := n3 (by omega)
 obtain ⟨kv, e0, e1, e2, hk⟩ := h5.at i hi
 exact ⟨b, off, kv, he, hb, hf.1, hc _ _ e0, hc _ _ e1, hc _ _ e2, hk.mono h4⟩
theorem B2.nil (w : World) (S : Nat -> Prop) : B2 w (.slice none 0 0) [] S := ⟨[], fun _ => False, World.ownsRow_nil _ _ _ _, (fun g hg => by cases hg), fun _ h => h.elim, rfl⟩
end
theorem T9 (us : List Value) : ∀ (ys : List Value) (p q : Nat), p + us.length <= ys.length -> (setFrom ys p us)[q]? = if p <= q /\ q < p + us.length then us[q - p]? else ys[q]? := by
 induction us with
 | nil => intro ys p q _; simp only [setFrom, a09]; split; omega; rfl
 | cons u r ih =>
  intro ys p q h
  simp only [a04] at h
  simp only [setFrom, a04]
  rw [ih _ _ _ (by simp; omega)]
  by_cases h1 : q = p
  ·subst h1
   rw [if_neg (by omega), if_pos (by omega), List.getElem?_set_self (by omega), Nat.sub_self]; rfl
  by_cases h2 : p + 1 <= q /\ q < p + 1 + r.length
  ·rw [if_pos h2, if_pos (by omega), show q - p = q - (p + 1) + 1 by omega]; rfl
  rw [if_neg h2, if_neg (by omega), List.getElem?_set_ne (by omega)]
theorem Y8 {xs cs : List Value} {p : Nat} (h : p + cs.length <= xs.length) (hc : ∀ j, j < cs.length -> xs[p + j]? = cs[j]?) : setFrom xs p cs = xs := by
 apply List.ext_getElem?
 intro q
 rw [T9 _ _ _ _ h]
 split
 ·rename_i h1
  rw [<- hc _ (by omega)]; congr 1; omega
 rfl
theorem ae3 {xs cs : List Value} {p k : Nat} (u : Value) (h : p + cs.length <= xs.length) (hk : k < cs.length) : (setFrom xs p cs).set (p + k) u = setFrom xs p (cs.set k u) := by
 apply List.ext_getElem?
 intro q
 rw [T9 _ _ _ _ (by simpa using h), List.getElem?_set, T9 _ _ _ _ h, E9, List.length_set]
 by_cases h1 : p + k = q
 ·subst h1
  rw [if_pos rfl, if_pos (by omega), if_pos (by omega), Nat.add_sub_cancel_left, List.getElem?_set_self hk]
 rw [if_neg h1]
 split
 ·rw [List.getElem?_set_ne (by omega)]
 rfl
def L8.plain : L8 -> Prop
 | .dat _ => False
 | _ => True
theorem L8.holds_plain {w : World} {φ φ' : Nat -> Prop} {r : L8} (hp : r.plain) (h : r.holds w φ) : r.holds w φ' := by
 cases r with
 | dat R => exact hp.elim
 | box b cs => exact h
 | row e sz v n xs => exact h
 | own S R => exact h
theorem A9.adopt {φ ψ : Nat -> Prop} {w0 w : World} {L : List L8} (M : A9 φ ψ w0 w L) (r : L8) (hL : ∀ a ∈ L, a.plain) (hp : r.plain) (h : r.holds w (fun _ => True)) (hd : ∀ a ∈ L, ∀ g, r.blk g -> ¬ a.blk g) (hg : ∀ g, r.blk g -> ¬ ψ g) : A9 φ ψ w0 w (L ++ [r]) := by
 have get : ∀ (i : Nat) (x : L8), (L ++ [r])[i]? = some x -> (i < L.length /\ x ∈ L /\ L[i]? = some x) \/ (i = L.length /\ x = r) := by
  intro k z hz
  rcases Nat.lt_or_ge k L.length with hk | hk
  ·rw [a44 hk] at hz; exact .inl ⟨hk, a17 hz, hz⟩
  rw [a42 hk] at hz
  have : k - L.length = 0 := by
   rcases Nat.eq_zero_or_pos (k - L.length) with h | h
   ·exact h
   rw [a32 (by rw [List.length_singleton]; exact h)] at hz; cases hz
  rw [this] at hz; simp at hz
  exact .inr ⟨by omega, hz.symm⟩
 refine ⟨M.kept, M.fresh, fun x hx => ?_, fun i j x y g hi hj hij hx hy => ?_, fun x g hx hxg => ?_⟩
 ·rcases a39.1 hx with hx | hx
  ·exact L8.holds_plain (hL x hx) (M.holds x hx)
  rw [List.mem_singleton] at hx; subst hx; exact L8.holds_plain hp h
 ·rcases get i x hi with ⟨hi1, hi2, hi3⟩ | ⟨hi1, rfl⟩ <;> rcases get j y hj with ⟨hj1, hj2, hj3⟩ | ⟨hj1, rfl⟩
  ·exact M.dis i j x y g hi3 hj3 hij hx hy
  ·exact hd x hi2 g hy hx
  ·exact hd y hj2 g hx hy
  omega
 rcases a39.1 hx with hx | hx
 ·exact M.ge x g hx hxg
 rw [List.mem_singleton] at hx; subst hx; exact .inr (hg g hxg)
section
variable {w : World}
mutual
theorem D0.cut : ∀ (e : b9) (S : Nat -> Prop) (cs : List Value), D0 w e S cs -> D0 w e (fun b => S b /\ b < w.heap.size) cs
 | ⟨_, _, ks⟩, _, _, ⟨v, xs, S', h1, h2, h3, h4, h5⟩ => ⟨v, xs, fun b => S' b /\ b < w.heap.size, h1, h2, fun g hg => ⟨⟨(h3 g hg).1, (World.ownsRow.lt h2 g hg).2⟩, fun h => (h3 g hg).2 h.1⟩, fun b hb => ⟨h4 b hb.1, hb.2⟩, p7.cut ks S' xs h5⟩
theorem p7.cut : ∀ (ks : List b9) (S : Nat -> Prop) (xs : List Value), p7 w ks S xs -> p7 w ks (fun b => S b /\ b < w.heap.size) xs
 | [], _, _, h => h
 | e :: r, _, _, ⟨c, ys, S1, S2, h1, h2, h3, h4, h5⟩ => ⟨c, ys, fun b => S1 b /\ b < w.heap.size, fun b => S2 b /\ b < w.heap.size, h1, fun b hb => ⟨⟨(h2 b hb.1).1, hb.2⟩, fun h => (h2 b hb.1).2 h.1⟩, fun b hb => ⟨h3 b hb.1, hb.2⟩, D0.cut e S1 c h4, p7.cut r S2 ys h5⟩
end
theorem B2.cut {v : Value} {ks : List b9} {S : Nat -> Prop} (h : B2 w v ks S) : B2 w v ks (fun b => S b /\ b < w.heap.size) := by
 obtain ⟨xs, S', h2, h3, h4, h5⟩ := h
 exact ⟨xs, fun b => S' b /\ b < w.heap.size, h2, fun g hg => ⟨⟨(h3 g hg).1, (World.ownsRow.lt h2 g hg).2⟩, fun h => (h3 g hg).2 h.1⟩, fun b hb => ⟨h4 b hb.1, hb.2⟩, p7.cut ks S' xs h5⟩
mutual
theorem C9.cut : ∀ (s : b6) (S : Nat -> Prop) (cs : List Value), C9 w s S cs -> C9 w s (fun b => S b /\ b < w.heap.size) cs
 | ⟨_, _, _, _, _, b, e⟩, _, _, ⟨iv, vv, bv, ev, xb, xe, Si, Sv, Sb, Se, Sb', Se', h1, ⟨d1, d2, d3, d4⟩, h2, h3, ⟨b1, b2, b3, b4⟩, ⟨e1, e2, e3, e4⟩⟩ =>
  ⟨iv, vv, bv, ev, xb, xe, fun b => Si b /\ b < w.heap.size, fun b => Sv b /\ b < w.heap.size, fun b => Sb b /\ b < w.heap.size, fun b => Se b /\ b < w.heap.size, fun b => Sb' b /\ b < w.heap.size, fun b => Se' b /\ b < w.heap.size, h1,
   ⟨fun b hb => ⟨⟨(d1 b hb.1).1, hb.2⟩, fun h => (d1 b hb.1).2.1 h.1, fun h => (d1 b hb.1).2.2.1 h.1, fun h => (d1 b hb.1).2.2.2 h.1⟩, fun b hb => ⟨⟨(d2 b hb.1).1, hb.2⟩, fun h => (d2 b hb.1).2.1 h.1, fun h => (d2 b hb.1).2.2 h.1⟩,
    fun b hb => ⟨⟨(d3 b hb.1).1, hb.2⟩, fun h => (d3 b hb.1).2 h.1⟩, fun b hb => ⟨d4 b hb.1, hb.2⟩⟩, h2.cut, h3.cut,
   ⟨b1, fun g hg => ⟨⟨(b2 g hg).1, (World.ownsRow.lt b1 g hg).2⟩, fun h => (b2 g hg).2 h.1⟩, fun b hb => ⟨b3 b hb.1, hb.2⟩, n9.cut b Sb' xb b4⟩,
   ⟨e1, fun g hg => ⟨⟨(e2 g hg).1, (World.ownsRow.lt e1 g hg).2⟩, fun h => (e2 g hg).2 h.1⟩, fun b hb => ⟨e3 b hb.1, hb.2⟩, n9.cut e Se' xe e4⟩⟩
theorem n9.cut : ∀ (ks : List b6) (S : Nat -> Prop) (xs : List Value), n9 w ks S xs -> n9 w ks (fun b => S b /\ b < w.heap.size) xs
 | [], _, _, h => h
 | e :: r, _, _, ⟨c, ys, S1, S2, h1, h2, h3, h4, h5⟩ => ⟨c, ys, fun b => S1 b /\ b < w.heap.size, fun b => S2 b /\ b < w.heap.size, h1, fun b hb => ⟨⟨(h2 b hb.1).1, hb.2⟩, fun h => (h2 b hb.1).2 h.1⟩, fun b hb => ⟨h3 b hb.1, hb.2⟩, C9.cut e S1 c h4, n9.cut r S2 ys h5⟩
end
theorem B3.cut {v : Value} {ks : List b6} {S : Nat -> Prop} (h : B3 w v ks S) : B3 w v ks (fun b => S b /\ b < w.heap.size) := by
 obtain ⟨xs, S', h2, h3, h4, h5⟩ := h
 exact ⟨xs, fun b => S' b /\ b < w.heap.size, h2, fun g hg => ⟨⟨(h3 g hg).1, (World.ownsRow.lt h2 g hg).2⟩, fun h => (h3 g hg).2 h.1⟩, fun b hb => ⟨h4 b hb.1, hb.2⟩, n9.cut ks S' xs h5⟩
end
section
variable {φ ψ : Nat -> Prop} {w0 w : World} {L : List L8}
end
section
variable {P : Program}
structure R5 (wr w : World) (S : Nat -> Prop) : Prop where
 below : Below wr.heap.size wr w
 box : ∀ b, S b -> wr.heap.size <= b /\ b < w.heap.size
theorem R5.start (w : World) : R5 w w.drew fun _ => False := ⟨(Below.refl _ _).drew, fun _ h => h.elim⟩
theorem R5.call {wr w w' : World} {S : Nat -> Prop} (h : R5 wr w S) (b : Below w.heap.size w w') : R5 wr w' S := ⟨h.below.trans (b.mono h.below.size), fun c hc => ⟨(h.box c hc).1, a36 (h.box c hc).2 b.size⟩⟩
theorem R5.new {wr w w' : World} {S : Nat -> Prop} (h : R5 wr w S) (b : Below w.heap.size w w') (hs : w.heap.size < w'.heap.size) : R5 wr w' fun c => S c \/ c = w.heap.size :=
 ⟨h.below.trans (b.mono h.below.size), fun c hc => by
  rcases hc with hc | rfl
  ·exact ⟨(h.box c hc).1, a36 (h.box c hc).2 b.size⟩
  exact ⟨h.below.size, hs⟩⟩
def RF (φ S : Nat -> Prop) (b : Nat) : Prop := φ b /\ ¬ S b
theorem R5.fresh {wr w : World} {S φ : Nat -> Prop} (h : R5 wr w S) (hf : ∀ b, wr.heap.size <= b -> φ b) : ∀ b, w.heap.size <= b -> RF φ S b := fun b hb => ⟨hf b (a15 h.below.size hb), fun hs => by have := (h.box b hs).2; omega⟩
theorem R5.old {wr w : World} {S φ : Nat -> Prop} (h : R5 wr w S) {R : World -> (Nat -> Prop) -> Prop} (hn : S9 R) (hr : R wr φ) : R w (RF φ S) :=
 hn _ _ _ _ ⟨h.below.size, fun b hb hf => ⟨⟨hf, fun hs => by have := (h.box b hs).1; omega⟩, h.below.block b hb⟩⟩ hr
end
theorem A9.region {φ ψ : Nat -> Prop} {w0 wr w : World} {L : List L8} {S : Nat -> Prop} (M : A9 φ ψ w0 wr L) (hg : R5 wr w S) {g : Nat} {cs : List Value} (hb : O2 w g cs) (hs : S g) : A9 φ ψ w0 w (L ++ [.box g cs]) :=
 M.add hg.below _ hb fun g' h => by cases h; exact (hg.box _ hs).1
theorem RF.app {φ S : Nat -> Prop} {L : List L8} {b : Nat} (h : RF (Fr φ L) S b) (X : List L8) (hX : ∀ r ∈ X, ∀ g, r.blk g -> S g) : Fr φ (L ++ X) b :=
 ⟨h.1.1, fun r hr he => by
  rcases a39.1 hr with hr | hr
  ·exact h.1.2 r hr he
  exact h.2 (hX r hr b he)⟩
section
variable {P : Program}
def U8 (ops : Array Oper) : Bool := (a25 ops.size).all fun j => (ops[j]?).any fun o => o.after.all fun e => !Region.binds .any e || decide (e.on < j)
theorem al1 {ops : Array Oper} (hb : U8 ops = true) {k : Nat} {o : Oper} (hk : k < ops.size) (ho : ops[k]? = some o) {e : Edge} (he : e ∈ o.after) (hbi : Region.binds .any e = true) : e.on < k := by
 have h1 := a19.1 hb k (List.mem_range.2 hk)
 rw [ho] at h1
 simp only [Option.any_some] at h1
 have h2 := Array.all_eq_true'.1 h1 e he
 rw [hbi] at h2
 simpa using h2
theorem as6 {ops : Array Oper} (hb : U8 ops = true) {listed : Array Bool} (hsz : listed.size = ops.size) : ∀ k, k < ops.size -> listed.getD k true = false -> Region.ready .any ops listed ≠ [] := by
 intro k
 induction k using Nat.strongRecOn with
 | _ k ih =>
  intro hk hl hn
  by_cases hall : ∃ j, j < k /\ listed.getD j true = false
  ·obtain ⟨j, hj, hlj⟩ := hall
   exact ih j hj (by omega) hlj hn
  have hok : ops[k]? = some ops[k] := Array.getElem?_eq_getElem hk
  have : k ∈ Region.ready .any ops listed := by
   refine mem_ready.2 ⟨hl, ops[k], hok, fun e he hbi => ?_⟩
   have h2 := al1 hb hk hok he hbi
   cases h3 : listed.getD e.on true
   ·exact absurd ⟨e.on, h2, h3⟩ hall
   have : e.on < listed.size := by omega
   simp [this] at h3 ⊢
   exact h3
  rw [hn] at this
  cases this
theorem aD4 {a : Array Bool} {j : Nat} (h : j < a.size) : a.getD j true = a.getD j false := by simp [h]
end
theorem B7 (n lo hi : Int) (w : World) : Calls Tryd.prog 64 #[.int .i64 n, .int .i64 lo, .int .i64 hi] w fun e w' => e = .returned (.bool (decide (lo <= n) && decide (n <= hi))) /\ w = w' := by
 go_enter Tryd.func64, Tryd.ntmps64
 go_wp2
 all_goals go_ret
 all_goals exact ⟨m5 (by simp; try omega), rfl⟩
theorem af2 (l : Int) (w : World) : Calls Tryd.prog 70 #[.int .i64 l] w fun e w' => e = .returned (.bool (A8 l)) /\ w = w' := by
 go_enter Tryd.func70, Tryd.ntmps70
 go_wp2_with fail
 refine (B7 l 0 3 _).mono ?_
 rintro e w1 ⟨rfl, rfl⟩
 go_wp2_with fail
 go_ret
 exact ⟨rfl, rfl⟩
theorem af1 (l : Int) (w : World) : Calls Tryd.prog 69 #[.int .i64 l] w fun e w' => e = .returned (.bool (!A8 l)) /\ w = w' := by
 go_enter Tryd.func69, Tryd.ntmps69
 go_wp2_with fail
 refine (af2 l _).mono ?_
 rintro e w1 ⟨rfl, rfl⟩
 go_wp2_with fail
 go_ret
 exact ⟨rfl, rfl⟩
theorem al7 (p : Int -> Bool) (f : FuncId) (v : Value) (xs : List Int) (w : World) (h : K0 w v xs.length 1 (ints xs)) (he : ∀ args w, (callFunc f args).run Tryd.prog w = .ok (.enter f args) w)
  (hf : ∀ x w', Calls Tryd.prog f #[.int .i64 x] w' fun e w'' => e = .returned (.bool (p x)) /\ w' = w'') :
  Calls Tryd.prog 92 #[v, .func (.func f) #[] #[]] w fun e w' => ∃ r : Int, e = .returned (.int .i64 r) /\ decide (0 <= r) = xs.any p /\ w = w' := by
 obtain ⟨a1, c1, rfl, -, hm1, -, hc1⟩ := h.open1
 have HF := show Hid _ from hf
 clear h hf
 go_enter Tryd.func92, Tryd.ntmps92
 go_wp2_with fail
 go_loop [5, 8] (fun _ i => ∃ k : Nat, k <= xs.length /\ i = .int .i64 k /\ (xs.take k).any p = false) (fun _ i => xs.length - (intOf i).toNat)
 case atStart => exact ⟨0, a34 _, rfl, rfl⟩
 case round =>
  obtain ⟨k, hk, rfl, ha⟩ := hrel
  have HA := show Hid _ from ha
  clear ha
  by_cases hlt : k < xs.length
  ·obtain ⟨b1, o1, rfl, hb1, hx⟩ := hc1 k hlt
   rw [R1 _ _ hlt] at hx
   clear hc1
   cases hp : p xs[k]
   all_goals
    have HP := show Hid _ from hp
    clear hp
    go_wp2_with fail
    refine (HF.out xs[k] _).mono ?_
    rintro e w1 ⟨rfl, rfl⟩
    rw [HP.out]
    go_wp2_with fail
   ·go_round
    case rel => exact ⟨k + 1, by omega, by go_num, by rw [A2 _ _ hlt, List.any_append, HA.out]; simp [HP.out]⟩
    case measure => simp [intOf]; omega
   go_ret
   exact ⟨_, rfl, by rw [decide_eq_true (by omega)]; symm; rw [List.any_eq_true]; exact ⟨_, a11 hlt, HP.out⟩, rfl⟩
  go_wp2_with fail
  go_ret
  refine ⟨_, rfl, ?_, rfl⟩
  have := HA.out
  rw [a16 (by omega)] at this
  rw [this]; rfl
theorem ac7 (p : Int -> Bool) (f : FuncId) (v : Value) (xs : List Int) (w : World) (h : K0 w v xs.length 1 (ints xs)) (he : ∀ args w, (callFunc f args).run Tryd.prog w = .ok (.enter f args) w)
  (hf : ∀ x w', Calls Tryd.prog f #[.int .i64 x] w' fun e w'' => e = .returned (.bool (p x)) /\ w' = w'') :
  Calls Tryd.prog 68 #[v, .func (.func f) #[] #[]] w fun e w' => e = .returned (.bool (xs.any p)) /\ w = w' := by
 obtain ⟨a1, c1, rfl, -⟩ := h.open1
 have HF := show Hid _ from hf
 have HE := show Hid _ from he
 clear hf he
 go_enter Tryd.func68, Tryd.ntmps68
 go_wp2_with fail
 refine (al7 p f _ xs _ h HE.out HF.out).mono ?_
 rintro e w1 ⟨r, rfl, hr, rfl⟩
 have HR := show Hid _ from hr
 clear hr
 go_wp2_with fail
 go_ret
 exact ⟨m5 HR.out, rfl⟩
theorem aw5 (xs : List Int) : (!xs.any fun l => !A8 l) = xs.all A8 := by
 induction xs with
 | nil => rfl
 | cons x r ih => simp only [List.any_cons, List.all_cons, <- ih]; cases A8 x <;> simp
theorem J3 (v : Value) (xs : List Int) (w : World) (h : K0 w v xs.length 1 (ints xs)) :
  Calls Tryd.prog 38 #[v] w fun e w' => e = .returned (.bool (xs.all A8)) /\ w = w' := by
 obtain ⟨a1, c1, rfl, -⟩ := h.open1
 go_enter Tryd.func38, Tryd.ntmps38
 go_wp2_with fail
 refine (ac7 (fun l => !A8 l) 69 _ xs _ h (an7 Tryd.func69 (by kernel_rfl) rfl) (fun x w' => af1 x w')).mono ?_
 rintro e w1 ⟨rfl, rfl⟩
 have HN := show Hid _ from aw5 xs
 go_wp2_with fail
 go_ret
 exact ⟨m5 HN.out, rfl⟩
theorem am0 (v1 v2 : Value) (vars arrays : List Int) (w : World) (h1 : K0 w v1 vars.length 1 (ints vars)) (h2 : K0 w v2 arrays.length 1 (ints arrays)) :
  Calls Tryd.prog 34 #[v1, v2] w fun e w' => e = .returned (.bool (F0 vars arrays)) /\ w = w' := by
 obtain ⟨a1, c1, rfl, -, q1, -⟩ := h1.open1
 obtain ⟨a2, c2, rfl, -, q2, -⟩ := h2.open1
 have HT : Hid (F0 vars arrays = (vars.all A8 && arrays.all A8 && decide (1 <= vars.length) && decide (vars.length <= 12) && decide (arrays.length <= 2))) := rfl
 by_cases hn : (1 : Int) <= (vars.length : Int) /\ (vars.length : Int) <= 12
 ·have hb : (decide ((1 : Int) <= vars.length) && decide ((vars.length : Int) <= 12)) = true := by simpa using hn
  have HB := show Hid _ from hb
  by_cases hm : (arrays.length : Int) <= 2
  ·cases hv : vars.all A8
   ·have HV := show Hid _ from hv
    clear hv hb hn
    go_enter Tryd.func34, Tryd.ntmps34
    go_wp2_with fail
    refine (B7 _ 1 12 _).mono ?_
    rintro e w1 ⟨rfl, rfl⟩
    rw [HB.out]
    go_wp2_with fail
    refine (J3 _ vars _ h1).mono ?_
    rintro e w1 ⟨rfl, rfl⟩
    rw [HV.out]
    go_wp2_with fail
    go_ret
    exact ⟨m5 (by rw [HT.out, HV.out]; rfl), rfl⟩
   have HV := show Hid _ from hv
   have hn' := show Hid _ from hn
   have hm' := show Hid _ from hm
   clear hv hb hn
   go_enter Tryd.func34, Tryd.ntmps34
   go_wp2_with fail
   refine (B7 _ 1 12 _).mono ?_
   rintro e w1 ⟨rfl, rfl⟩
   rw [HB.out]
   go_wp2_with fail
   refine (J3 _ vars _ h1).mono ?_
   rintro e w1 ⟨rfl, rfl⟩
   rw [HV.out]
   go_wp2_with fail
   refine (J3 _ arrays _ h2).mono ?_
   rintro e w1 ⟨rfl, rfl⟩
   go_wp2_with fail
   go_ret
   refine ⟨m5 ?_, rfl⟩
   have h3 := hn'.out
   have h4 := hm'.out
   rw [HT.out, HV.out, decide_eq_true (show 1 <= vars.length by omega), decide_eq_true (show vars.length <= 12 by omega), decide_eq_true (show arrays.length <= 2 by omega)]
   simp
  have hF : Hid (F0 vars arrays = false) := by unfold Hid; rw [HT.out, decide_eq_false (show ¬ arrays.length <= 2 by omega)]; simp
  clear hb hn
  go_enter Tryd.func34, Tryd.ntmps34
  go_wp2_with fail
  refine (B7 _ 1 12 _).mono ?_
  rintro e w1 ⟨rfl, rfl⟩
  rw [HB.out]
  go_wp2_with fail
  go_ret
  exact ⟨m5 hF.out.symm, rfl⟩
 have hb : (decide ((1 : Int) <= vars.length) && decide ((vars.length : Int) <= 12)) = false := by
  rw [Bool.eq_false_iff]; simp only [ne_eq, a05, decide_eq_true_eq]; exact hn
 have HB := show Hid _ from hb
 have hF : Hid (F0 vars arrays = false) := by
  unfold Hid; rw [HT.out]
  rcases Classical.not_and_iff_not_or_not.1 hn with h | h
  ·rw [decide_eq_false (show ¬ 1 <= vars.length by omega)]; simp
  rw [decide_eq_false (show ¬ vars.length <= 12 by omega)]; simp
 clear hb hn
 go_enter Tryd.func34, Tryd.ntmps34
 go_wp2_with fail
 refine (B7 _ 1 12 _).mono ?_
 rintro e w1 ⟨rfl, rfl⟩
 rw [HB.out]
 go_wp2_with fail
 go_ret
 exact ⟨m5 hF.out.symm, rfl⟩
theorem aa0 (k n : Int) (kv : Value) (w : World) : Calls Tryd.prog 88 #[.agg #[.int .i64 k, .int .i64 n, kv]] w fun e w' => e = .returned (.bool (decide (k = 1) || decide (k = 2))) /\ Below w.heap.size w w' := by
 by_cases h1 : k = 1
 ·have p1 : (k == 1) = true := by simp [h1]
  have Q := show Hid _ from h1
  clear h1
  go_enter Tryd.func88, Tryd.ntmps88
  go_wp2
  go_ret
  exact ⟨m5 (by simp [Q.out]), by go_grown⟩
 have p1 : (k == 1) = false := by simp [h1]
 have Q := show Hid _ from h1
 clear h1
 by_cases h2 : k = 2
 ·have p2 : (k == 2) = true := by simp [h2]
  have Q2 := show Hid _ from h2
  clear h2
  go_enter Tryd.func88, Tryd.ntmps88
  go_wp2
  go_ret
  exact ⟨m5 (by simp [Q2.out]), by go_grown⟩
 have p2 : (k == 2) = false := by simp [h2]
 have Q2 := show Hid _ from h2
 clear h2
 go_enter Tryd.func88, Tryd.ntmps88
 go_wp2
 go_ret
 exact ⟨m5 (by rw [decide_eq_false Q.out, decide_eq_false Q2.out]; rfl), by go_grown⟩
theorem al8 (k : Int) (w : World) : Calls Tryd.prog 87 #[.int .i64 k] w fun e w' => e = .returned (.int .i64 (v7 k)) /\ w = w' := by
 by_cases h1 : k = 1
 ·subst h1
  go_enter Tryd.func87, Tryd.ntmps87
  go_wp2_with fail
  go_ret
  exact ⟨A6 (by simp [v7]), rfl⟩
 by_cases h2 : k = 2
 ·subst h2
  go_enter Tryd.func87, Tryd.ntmps87
  go_wp2_with fail
  go_ret
  exact ⟨A6 (by simp [v7]), rfl⟩
 by_cases h3 : k = 3
 ·subst h3
  go_enter Tryd.func87, Tryd.ntmps87
  go_wp2_with fail
  go_ret
  exact ⟨A6 (by simp [v7]), rfl⟩
 have p1 : (k == 1) = false := by simp [h1]
 have p2 : (k == 2) = false := by simp [h2]
 have p3 : (k == 3) = false := by simp [h3]
 have H := show Hid _ from And.intro h1 (And.intro h2 h3)
 clear h1 h2 h3
 go_enter Tryd.func87, Tryd.ntmps87
 go_wp2_with fail
 refine (B7 k 4 10 _).mono ?_
 rintro x w1 ⟨rfl, rfl⟩
 by_cases h4 : 4 <= k /\ k <= 10
 ·have p4 : (decide (4 <= k) && decide (k <= 10)) = true := by simp [h4]
  rw [p4]
  have H4 := show Hid _ from h4
  clear h4 p4
  go_wp2_with fail
  go_ret
  exact ⟨A6 (by have := H.out; have := H4.out; unfold v7; rw [if_neg (by omega), if_neg (by omega), if_pos (by omega)]), rfl⟩
 have p4 : (decide (4 <= k) && decide (k <= 10)) = false := by simp; omega
 rw [p4]
 have H4 := show Hid _ from h4
 clear h4 p4
 by_cases h5 : k = 11
 ·subst h5
  go_wp2_with fail
  go_ret
  exact ⟨A6 (by simp [v7]), rfl⟩
 have p5 : (k == 11) = false := by simp [h5]
 have H5 := show Hid _ from h5
 clear h5
 go_wp2_with fail
 go_ret
 exact ⟨A6 (by have := H.out; have := H4.out; have := H5.out; unfold v7; rw [if_neg (by omega), if_neg (by omega), if_neg (by omega), if_neg (by omega)]), rfl⟩
theorem R7 {nv na d c : Nat} {e : b9} (h1 : C2 nv na e = true) (h2 : Q9 e = true) : A0 nv na (d + 1) c e = w7 nv na d (c + 1) e.kids e.kids.length := by
 unfold A0 w7
 rw [a16 (a14 _), m9, h1, h2, N4]
 simp
theorem O8 {nv na d c k : Nat} {ks : List b9} (hk : k < ks.length) (hs : A0 nv na d (c + s4 (ks.take k)) ks[k] = false) : w7 nv na d c ks ks.length = false := by
 unfold w7
 rw [a16 (a14 _)]
 exact ap2 nv na hk hs
theorem I7 {nv na d c : Nat} {e : b9} (h1 : C2 nv na e = false) : A0 nv na (d + 1) c e = false := by
 unfold A0; rw [m9, h1]; rfl
theorem ap3 {nv na d c : Nat} {e : b9} (h1 : Q9 e = false) : A0 nv na (d + 1) c e = false := by
 unfold A0; rw [m9, h1]; simp
theorem S0 {nv na : Nat} {k n h : Int} (hh : h = D9 nv na k - 1) : (decide (0 <= n) && decide (n <= h)) = (decide (0 <= n) && decide (n < D9 nv na k)) := by
 congr 1; exact decide_eq_decide.2 (by omega)
theorem aG0 (a1 a2 : Option Addr) (nv c1 na c2 : Nat) (v3 : Value) (h1 : nv <= 9223372036854775807) (h2 : na <= 9223372036854775807) : ∀ (d : Nat) (deep : Int), deep + d = 6 -> 1 <= deep -> ∀ (e : b9) (φ : Nat -> Prop) (v : Value) (c cb : Nat) (w : World), s5 w φ v e -> ¬ φ cb -> O2 w cb [.int .i64 c] -> c <= 15 ->
  Calls Tryd.prog 65 #[.agg #[.slice a1 nv c1, .slice a2 na c2, v3], v, .int .i64 deep, .pointer (some ⟨cb, 0, none⟩)] w fun x w' =>
   x = .returned (.bool (A0 nv na d c e)) /\ (A0 nv na d c e = true -> O2 w' cb [.int .i64 (c + 1 + G9 e : Nat)]) /\ (∃ u, O2 w' cb [u]) /\ C1 (fun b => ¬ b = cb) w w' := by
 intro d
 induction d with
 | zero =>
  intro deep hdp hd1 e φ v c cb w h hcb hblk hc
  obtain ⟨kv, rfl, hk⟩ := h
  have HF : Hid (A0 nv na 0 c e = false) := rfl
  obtain rfl : deep = 6 := by omega
  have hl := hblk.lt
  have x0 : w.cell? ⟨cb, 0, none⟩ = some (.int .i64 c) := (hblk.cell 0).trans rfl
  have f0 := hblk.free
  obtain ⟨W, hW, M⟩ : ∃ W, W = (((w.setCell ⟨cb, 0, none⟩ (.int .i64 ((c : Int) + 1))).alloc (.cells #[.slice a1 nv c1, .slice a2 na c2, v3] 30)).alloc (.cells #[.int .i64 e.kind, .int .i64 e.value, kv] 37)) /\ A9 (fun _ => True) (fun b => ¬ b = cb) w W [.box cb [.int .i64 ((c : Int) + 1)]] :=
   ⟨_, rfl, (((A9.start fun _ _ => trivial).adopt (.box cb [.int .i64 c]) (fun _ ha => by cases ha) a18 hblk (fun _ ha => by cases ha) (fun g hg hn => by cases hg; exact hn rfl)).set 0 rfl 0 (.int .i64 ((c : Int) + 1))).call (by go_grown)⟩
  have y0 := M.c 0 0 rfl rfl
  have z0 := fun X => b5 y0 X
  clear hk y0 hblk
  by_cases q : (15 : Int) < (c : Int) + 1
  ·have p : decide ((15 : Int) < (c : Int) + 1) = true := by simp; omega
   clear q
   go_enter Tryd.func65, Tryd.ntmps65
   go_wp2_with fail
   rw [<- hW]
   clear hW
   refine m7 (by kernel_rfl) (by kernel_rfl) ?_
   repeat (any_goals (first | go_big_quiet_step (((fail))) | quiet_step (((fail)))))
   refine wpQuiet_nil ?_
   rintro _ ⟨X, rfl⟩
   replace M := M.call (k6 W X)
   go_wp2_with fail
   go_ret
   exact ⟨m5 (by rw [HF.out]), fun h => absurd (h.symm.trans HF.out) (by simp), ⟨_, M.blk 0 rfl⟩, M.kept⟩
  have p : decide ((15 : Int) < (c : Int) + 1) = false := by simp; omega
  clear q
  go_enter Tryd.func65, Tryd.ntmps65
  go_wp2_with fail
  rw [<- hW]
  clear hW
  refine m7 (by kernel_rfl) (by kernel_rfl) ?_
  repeat (any_goals (first | go_big_quiet_step (((fail))) | quiet_step (((fail)))))
  refine wpQuiet_nil ?_
  rintro _ ⟨X, rfl⟩
  replace M := M.call (k6 W X)
  go_wp2_with fail
  go_ret
  exact ⟨m5 (by rw [HF.out]), fun h => absurd (h.symm.trans HF.out) (by simp), ⟨_, M.blk 0 rfl⟩, M.kept⟩
 | succ d ih =>
  intro deep hdp hd1 e φ v c cb w h hcb hblk hc
  obtain ⟨kv, rfl, hk⟩ := h
  obtain ⟨ak, ck, rfl, -, hn, -, -⟩ := hk.open
  have hl := hblk.lt
  have hd5 : deep <= 5 := by omega
  obtain ⟨φ', hφ'⟩ : ∃ φ' : Nat -> Prop, φ' = fun b => φ b \/ w.heap.size <= b := ⟨_, rfl⟩
  have x0 : w.cell? ⟨cb, 0, none⟩ = some (.int .i64 c) := (hblk.cell 0).trans rfl
  have f0 := hblk.free
  obtain ⟨W, hW, M⟩ : ∃ W, W = (((w.setCell ⟨cb, 0, none⟩ (.int .i64 ((c : Int) + 1))).alloc (.cells #[.slice a1 nv c1, .slice a2 na c2, v3] 30)).alloc (.cells #[.int .i64 e.kind, .int .i64 e.value, .slice ak e.kids.length ck] 37)) /\
    A9 φ' (fun b => ¬ b = cb) w W [.box cb [.int .i64 ((c : Int) + 1)], .box w.heap.size [.slice a1 nv c1, .slice a2 na c2, v3], .box (w.heap.size + 1) [.int .i64 e.kind, .int .i64 e.value, .slice ak e.kids.length ck], .dat (fun w φ => m6 w φ (.slice ak e.kids.length ck) e.kids)] := by
   refine ⟨_, rfl, (((((A9.start (by rw [hφ']; exact fun _ h => .inr h)).adopt (.box cb [.int .i64 c]) (fun _ ha => by cases ha) a18 hblk (fun _ ha => by cases ha) (fun g hg hn => by cases hg; exact hn rfl)).set 0 rfl 0 (.int .i64 ((c : Int) + 1))).box' _ _ (by simp)).box' _ _ (by simp)).dat (m6.nice _ _) (m6.nice _ _ _ _ _ _ ⟨by simp; omega, fun b hb hf => ⟨⟨by rw [hφ']; exact .inl hf, fun r hr he => ?_⟩, ?_⟩⟩ hk)⟩
   ·simp at hr
    rcases hr with rfl | rfl | rfl
    ·cases he; exact hcb hf
    ·cases he; omega
    cases he; omega
   have hbc : b ≠ cb := fun he => hcb (he ▸ hf)
   exact (((Below.refl w.heap.size (w.setCell ⟨cb, 0, none⟩ (.int .i64 ((c : Int) + 1)))).alloc (by simp) _ |>.alloc (by simp) _).block b (by simpa using hb)).trans (Below.heap_setCell _ _ _ _ hbc)
  clear hk hblk hφ'
  have y0 := M.c 0 0 rfl rfl
  have y1 := M.c 2 0 rfl rfl
  have y2 := M.c 2 2 rfl rfl
  have z0 := fun X => b5 y0 X
  have z1 := fun X => b5 y1 X
  have z2 := fun X => b5 y2 X
  have HA : Hid (∀ X, Calls Tryd.prog 87 #[.int .i64 e.kind] (W.ext X) fun x w'' => x = .returned (.int .i64 (v7 e.kind)) /\ ∃ Y, w'' = W.ext Y) := fun X =>
   Calls.ext_of' ((al8 e.kind _).mono fun x w' h => ⟨h.1, h.2 ▸ Below.refl _ _⟩)
  clear y0 y1 y2
  have p2 : decide ((5 : Int) < deep) = false := decide_eq_false (by omega)
  by_cases q1 : (15 : Int) < (c : Int) + 1
  ·have p1 : decide ((15 : Int) < (c : Int) + 1) = true := decide_eq_true q1
   have HF : Hid (A0 nv na (d + 1) c e = false) := by unfold Hid A0; rw [decide_eq_false (by omega), Bool.and_false]
   clear q1
   go_enter Tryd.func65, Tryd.ntmps65
   go_wp2_with fail
   rw [<- hW]
   clear hW
   refine m7 (by kernel_rfl) (by kernel_rfl) ?_
   repeat (any_goals (first | go_big_quiet_step (((go_at_call 87; exact HA.out _))) | quiet_step (((go_at_call 87; exact HA.out _)))))
   refine wpQuiet_nil ?_
   rintro _ ⟨X, rfl⟩
   replace M := M.call (k6 W X)
   go_wp2_with fail
   go_ret
   exact ⟨m5 (by rw [HF.out]), fun h => absurd (h.symm.trans HF.out) (by simp), ⟨_, M.blk 0 rfl⟩, M.kept⟩
  have p1 : decide ((15 : Int) < (c : Int) + 1) = false := decide_eq_false q1
  by_cases q3 : (e.kids.length : Int) = v7 e.kind
  case neg =>
   have p3 : (v7 e.kind != (e.kids.length : Int)) = true := by simp; omega
   have HF : Hid (A0 nv na (d + 1) c e = false) := I7 (by unfold C2; rw [decide_eq_false q3]; rfl)
   clear q1 q3
   go_enter Tryd.func65, Tryd.ntmps65
   go_wp2_with fail
   rw [<- hW]
   clear hW
   refine m7 (by kernel_rfl) (by kernel_rfl) ?_
   repeat (any_goals (first | go_big_quiet_step (((go_at_call 87; exact HA.out _))) | quiet_step (((go_at_call 87; exact HA.out _)))))
   refine wpQuiet_nil ?_
   rintro _ ⟨X, rfl⟩
   replace M := M.call (k6 W X)
   go_wp2_with fail
   go_ret
   exact ⟨m5 (by rw [HF.out]), fun h => absurd (h.symm.trans HF.out) (by simp), ⟨_, M.blk 0 rfl⟩, M.kept⟩
  have p3 : (v7 e.kind != (e.kids.length : Int)) = false := by simp; omega
  have HQ := show Hid _ from And.intro q1 q3
  clear q1 q3
  go_enter Tryd.func65, Tryd.ntmps65
  go_wp2_with fail
  rw [<- hW]
  clear hW
  refine m7 (by kernel_rfl) (by kernel_rfl) ?_
  repeat (any_goals (first | go_big_quiet_step (((go_at_call 87; exact HA.out _))) | quiet_step (((go_at_call 87; exact HA.out _)))))
  refine wpQuiet_nil ?_
  rintro _ ⟨X, rfl⟩
  replace M := M.call (k6 W X)
  generalize W.ext X = W1 at *
  clear z0 z1 z2 HA p1 p2 p3 f0 x0
  have y0 := M.c 1 0 rfl rfl
  have y1 := M.c 1 1 rfl rfl
  have y2 := M.c 2 0 rfl rfl
  have y3 := M.c 2 1 rfl rfl
  have y4 := M.c 2 2 rfl rfl
  have HM := show Hid _ from M
  clear M
  by_cases k1 : e.kind = 1
  ·have qq1 : (e.kind == 1) = true := by simp [k1]
   have qq2 : (e.kind == 3) = false := by simp [k1]
   have HRD : Hid (Q9 e = true) := by unfold Hid Q9; simp [k1]
   have hhi : (255 : Int) = D9 nv na e.kind - 1 := by rw [k1]; simp [D9]
   clear k1
   have HNB := show Hid (C2 nv na e = (decide (0 <= e.value) && decide (e.value <= 255))) from by
    unfold Hid C2; rw [decide_eq_true HQ.out.2, S0 hhi]; rfl
   clear hhi
   go_wp2_with fail
   refine (B7 e.value 0 _ _).mono ?_
   rintro x w1 ⟨rfl, rfl⟩
   have HNB2 := show Hid (C2 nv na e = (decide (0 <= e.value) && decide (e.value <= 255))) from HNB.out
   clear HNB
   obtain ⟨qn, hqn⟩ : ∃ qn, qn = (decide (0 <= e.value) && decide (e.value <= 255)) := ⟨_, rfl⟩
   rw [<- hqn]
   have HN := show Hid (C2 nv na e = qn) from HNB2.out.trans hqn.symm
   clear hqn HNB2
   cases qn
   ·have HF : Hid (A0 nv na (d + 1) c e = false) := I7 HN.out
    have M := HM.out
    clear HM
    go_wp2_with fail
    go_ret
    exact ⟨m5 (by rw [HF.out]), fun h => absurd (h.symm.trans HF.out) (by simp), ⟨_, M.blk 0 rfl⟩, M.kept⟩
   have HSC : Hid (A0 nv na (d + 1) c e = w7 nv na d (c + 1) e.kids e.kids.length) := R7 HN.out HRD.out
   go_wp2_with fail
   clear y0 y1 y2 y3 y4
   have HST : Hid (w7 nv na d (c + 1) e.kids 0 = true /\ A9 φ' (fun b => ¬ b = cb) w W1 [.box cb [.int .i64 (c + 1 + s4 (e.kids.take 0) : Nat)], .box w.heap.size [.slice a1 nv c1, .slice a2 na c2, v3], .box (w.heap.size + 1) [.int .i64 e.kind, .int .i64 e.value, .slice ak e.kids.length ck], .dat (fun w φ => m6 w φ (.slice ak e.kids.length ck) e.kids)]) := by
    refine ⟨?_, ?_⟩
    ·have := HQ.out.1
     simp [w7, s4]; omega
    rw [show ((c + 1 + s4 (e.kids.take 0) : Nat) : Int) = (c : Int) + 1 by simp [s4]]
    exact HM.out
   go_loopw [71] (fun i wr => ∃ k : Nat, k <= e.kids.length /\ i = .int .i64 k /\ w7 nv na d (c + 1) e.kids k = true /\ A9 φ' (fun b => ¬ b = cb) w wr [.box cb [.int .i64 (c + 1 + s4 (e.kids.take k) : Nat)], .box w.heap.size [.slice a1 nv c1, .slice a2 na c2, v3], .box (w.heap.size + 1) [.int .i64 e.kind, .int .i64 e.value, .slice ak e.kids.length ck], .dat (fun w φ => m6 w φ (.slice ak e.kids.length ck) e.kids)]) (fun i _ => e.kids.length - (intOf i).toNat)
   case atStart => exact ⟨0, a34 _, rfl, HST.out.1, HST.out.2⟩
   case round =>
    clear HM
    obtain ⟨k, hk, rfl, hpre, M⟩ := hrel
    have HPRE := show Hid _ from hpre
    have hle : c + 1 + s4 (e.kids.take k) <= 15 := by unfold w7 at hpre; simp at hpre; exact hpre.2
    clear hpre
    by_cases hlt : k < e.kids.length
    ·have hncb : ¬ Fr φ' [.box cb [.int .i64 (c + 1 + s4 (e.kids.take k) : Nat)], .box w.heap.size [.slice a1 nv c1, .slice a2 na c2, v3], .box (w.heap.size + 1) [.int .i64 e.kind, .int .i64 e.value, .slice ak e.kids.length ck], .dat (fun w φ => m6 w φ (.slice ak e.kids.length ck) e.kids)] cb := fun h => h.2 _ a22 rfl
     obtain ⟨a', c', he, -, -, -, hcell⟩ := (M.d 3 rfl).open
     cases he
     obtain ⟨b, off, kv, hbo, hbk, hf, g0, g1, g2, hkk⟩ := hcell k hlt
     cases hbo
     obtain ⟨ka, kc, rfl, -, -, -, -⟩ := hkk.open
     have bz : Below wr.heap.size wr (wr.alloc (.cells #[.int .i64 e.kids[k].kind, .int .i64 e.kids[k].value, .slice ka e.kids[k].kids.length kc] 37)) := by go_grown
     have HE := show Hid _ from m6.nice _ _ _ _ _ _ (C0.below bz) hkk
     have HNCB := show Hid _ from hncb
     have x0 := M.c 1 0 rfl rfl
     have x1 := M.c 1 1 rfl rfl
     have x2 := M.c 1 2 rfl rfl
     have s1 : w.heap.size < wr.heap.size := M.lt (r := .box w.heap.size [.slice a1 nv c1, .slice a2 na c2, v3]) (a28 _ a22) rfl
     have HM := show Hid _ from M.box [.int .i64 e.kids[k].kind, .int .i64 e.kids[k].value, .slice ka e.kids[k].kids.length kc] 37
     have HP := show Hid _ from M9 nv na (d := d) (c := c + 1) hlt
     have HX := show Hid (A0 nv na d (c + 1 + s4 (e.kids.take k)) e.kids[k] = false -> A0 nv na (d + 1) c e = false) from fun h => HSC.out.trans (O8 hlt h)
     have HT := show Hid _ from I1 hlt
     clear hcell hncb bz hkk M
     go_wp2_with fail
     refine (ih (deep + 1) (by omega) (by omega) e.kids[k] _ _ (c + 1 + s4 (e.kids.take k)) cb _ ⟨_, rfl, HE.out⟩ HNCB.out (HM.out.blk 0 rfl) hle).mono ?_
     rintro x w2 ⟨rfl, r1, ⟨u, r2⟩, kp⟩
     obtain ⟨q, hq⟩ : ∃ q, q = A0 nv na d (c + 1 + s4 (e.kids.take k)) e.kids[k] := ⟨_, rfl⟩
     rw [<- hq] at r1 ⊢
     have HQ2 := show Hid _ from hq
     clear hq x0 x1 x2 g0 g1 g2
     cases q
     ·have M2 := HM.out.callB 0 rfl kp r2
      have HF := show Hid _ from HX.out HQ2.out.symm
      clear r1 r2 kp
      go_wp2_with fail
      go_ret
      exact ⟨m5 (by rw [HF.out]), fun h => absurd (h.symm.trans HF.out) (by simp), ⟨_, M2.blk 0 rfl⟩, M2.kept⟩
     have M2 := (HM.out.callB 0 rfl kp (r1 rfl)).take 4
     have HM2 := show Hid _ from M2
     clear r1 r2 kp M2
     go_wp2_with fail
     refine ⟨⟨k + 1, by omega, by go_num, by rw [HP.out, HPRE.out, <- HQ2.out]; rfl, ?_⟩, by simp [intOf]; omega⟩
     rw [HT.out, show c + 1 + (s4 (e.kids.take k) + (1 + G9 e.kids[k])) = c + 1 + s4 (e.kids.take k) + 1 + G9 e.kids[k] by omega]
     exact HM2.out
    have hkn : k = e.kids.length := by omega
    subst hkn
    have HM := show Hid _ from M
    have HS : Hid (A0 nv na (d + 1) c e = true) := HSC.out.trans HPRE.out
    clear M
    go_wp2_with fail
    go_ret
    refine ⟨m5 (by rw [HS.out]), fun _ => ?_, ⟨_, HM.out.blk 0 rfl⟩, HM.out.kept⟩
    have := HM.out.blk 0 rfl
    rw [a16 (a14 _)] at this
    rw [N4]
    exact this
  have k1' : (e.kind == 1) = false := by simp [k1]
  by_cases k2 : e.kind = 2
  ·have qq1 : (e.kind == 2) = true := by simp [k2]
   have qq2 : (e.kind == 3) = false := by simp [k2]
   have HRD : Hid (Q9 e = true) := by unfold Hid Q9; simp [k2]
   have hhi : (nv : Int) - 1 = D9 nv na e.kind - 1 := by rw [k2]; simp [D9]
   clear k1 k2
   have HNB := show Hid (C2 nv na e = (decide (0 <= e.value) && decide (e.value <= (nv : Int) - 1))) from by
    unfold Hid C2; rw [decide_eq_true HQ.out.2, S0 hhi]; rfl
   clear hhi
   go_wp2_with fail
   refine (B7 e.value 0 _ _).mono ?_
   rintro x w1 ⟨rfl, rfl⟩
   have HNB2 := show Hid (C2 nv na e = (decide (0 <= e.value) && decide (e.value <= (nv : Int) - 1))) from HNB.out
   clear HNB
   obtain ⟨qn, hqn⟩ : ∃ qn, qn = (decide (0 <= e.value) && decide (e.value <= (nv : Int) - 1)) := ⟨_, rfl⟩
   rw [<- hqn]
   have HN := show Hid (C2 nv na e = qn) from HNB2.out.trans hqn.symm
   clear hqn HNB2
   cases qn
   ·have HF : Hid (A0 nv na (d + 1) c e = false) := I7 HN.out
    have M := HM.out
    clear HM
    go_wp2_with fail
    go_ret
    exact ⟨m5 (by rw [HF.out]), fun h => absurd (h.symm.trans HF.out) (by simp), ⟨_, M.blk 0 rfl⟩, M.kept⟩
   have HSC : Hid (A0 nv na (d + 1) c e = w7 nv na d (c + 1) e.kids e.kids.length) := R7 HN.out HRD.out
   go_wp2_with fail
   clear y0 y1 y2 y3 y4
   have HST : Hid (w7 nv na d (c + 1) e.kids 0 = true /\ A9 φ' (fun b => ¬ b = cb) w W1 [.box cb [.int .i64 (c + 1 + s4 (e.kids.take 0) : Nat)], .box w.heap.size [.slice a1 nv c1, .slice a2 na c2, v3], .box (w.heap.size + 1) [.int .i64 e.kind, .int .i64 e.value, .slice ak e.kids.length ck], .dat (fun w φ => m6 w φ (.slice ak e.kids.length ck) e.kids)]) := by
    refine ⟨?_, ?_⟩
    ·have := HQ.out.1
     simp [w7, s4]; omega
    rw [show ((c + 1 + s4 (e.kids.take 0) : Nat) : Int) = (c : Int) + 1 by simp [s4]]
    exact HM.out
   go_loopw [71] (fun i wr => ∃ k : Nat, k <= e.kids.length /\ i = .int .i64 k /\ w7 nv na d (c + 1) e.kids k = true /\ A9 φ' (fun b => ¬ b = cb) w wr [.box cb [.int .i64 (c + 1 + s4 (e.kids.take k) : Nat)], .box w.heap.size [.slice a1 nv c1, .slice a2 na c2, v3], .box (w.heap.size + 1) [.int .i64 e.kind, .int .i64 e.value, .slice ak e.kids.length ck], .dat (fun w φ => m6 w φ (.slice ak e.kids.length ck) e.kids)]) (fun i _ => e.kids.length - (intOf i).toNat)
   case atStart => exact ⟨0, a34 _, rfl, HST.out.1, HST.out.2⟩
   case round =>
    clear HM
    obtain ⟨k, hk, rfl, hpre, M⟩ := hrel
    have HPRE := show Hid _ from hpre
    have hle : c + 1 + s4 (e.kids.take k) <= 15 := by unfold w7 at hpre; simp at hpre; exact hpre.2
    clear hpre
    by_cases hlt : k < e.kids.length
    ·have hncb : ¬ Fr φ' [.box cb [.int .i64 (c + 1 + s4 (e.kids.take k) : Nat)], .box w.heap.size [.slice a1 nv c1, .slice a2 na c2, v3], .box (w.heap.size + 1) [.int .i64 e.kind, .int .i64 e.value, .slice ak e.kids.length ck], .dat (fun w φ => m6 w φ (.slice ak e.kids.length ck) e.kids)] cb := fun h => h.2 _ a22 rfl
     obtain ⟨a', c', he, -, -, -, hcell⟩ := (M.d 3 rfl).open
     cases he
     obtain ⟨b, off, kv, hbo, hbk, hf, g0, g1, g2, hkk⟩ := hcell k hlt
     cases hbo
     obtain ⟨ka, kc, rfl, -, -, -, -⟩ := hkk.open
     have bz : Below wr.heap.size wr (wr.alloc (.cells #[.int .i64 e.kids[k].kind, .int .i64 e.kids[k].value, .slice ka e.kids[k].kids.length kc] 37)) := by go_grown
     have HE := show Hid _ from m6.nice _ _ _ _ _ _ (C0.below bz) hkk
     have HNCB := show Hid _ from hncb
     have x0 := M.c 1 0 rfl rfl
     have x1 := M.c 1 1 rfl rfl
     have x2 := M.c 1 2 rfl rfl
     have s1 : w.heap.size < wr.heap.size := M.lt (r := .box w.heap.size [.slice a1 nv c1, .slice a2 na c2, v3]) (a28 _ a22) rfl
     have HM := show Hid _ from M.box [.int .i64 e.kids[k].kind, .int .i64 e.kids[k].value, .slice ka e.kids[k].kids.length kc] 37
     have HP := show Hid _ from M9 nv na (d := d) (c := c + 1) hlt
     have HX := show Hid (A0 nv na d (c + 1 + s4 (e.kids.take k)) e.kids[k] = false -> A0 nv na (d + 1) c e = false) from fun h => HSC.out.trans (O8 hlt h)
     have HT := show Hid _ from I1 hlt
     clear hcell hncb bz hkk M
     go_wp2_with fail
     refine (ih (deep + 1) (by omega) (by omega) e.kids[k] _ _ (c + 1 + s4 (e.kids.take k)) cb _ ⟨_, rfl, HE.out⟩ HNCB.out (HM.out.blk 0 rfl) hle).mono ?_
     rintro x w2 ⟨rfl, r1, ⟨u, r2⟩, kp⟩
     obtain ⟨q, hq⟩ : ∃ q, q = A0 nv na d (c + 1 + s4 (e.kids.take k)) e.kids[k] := ⟨_, rfl⟩
     rw [<- hq] at r1 ⊢
     have HQ2 := show Hid _ from hq
     clear hq x0 x1 x2 g0 g1 g2
     cases q
     ·have M2 := HM.out.callB 0 rfl kp r2
      have HF := show Hid _ from HX.out HQ2.out.symm
      clear r1 r2 kp
      go_wp2_with fail
      go_ret
      exact ⟨m5 (by rw [HF.out]), fun h => absurd (h.symm.trans HF.out) (by simp), ⟨_, M2.blk 0 rfl⟩, M2.kept⟩
     have M2 := (HM.out.callB 0 rfl kp (r1 rfl)).take 4
     have HM2 := show Hid _ from M2
     clear r1 r2 kp M2
     go_wp2_with fail
     refine ⟨⟨k + 1, by omega, by go_num, by rw [HP.out, HPRE.out, <- HQ2.out]; rfl, ?_⟩, by simp [intOf]; omega⟩
     rw [HT.out, show c + 1 + (s4 (e.kids.take k) + (1 + G9 e.kids[k])) = c + 1 + s4 (e.kids.take k) + 1 + G9 e.kids[k] by omega]
     exact HM2.out
    have hkn : k = e.kids.length := by omega
    subst hkn
    have HM := show Hid _ from M
    have HS : Hid (A0 nv na (d + 1) c e = true) := HSC.out.trans HPRE.out
    clear M
    go_wp2_with fail
    go_ret
    refine ⟨m5 (by rw [HS.out]), fun _ => ?_, ⟨_, HM.out.blk 0 rfl⟩, HM.out.kept⟩
    have := HM.out.blk 0 rfl
    rw [a16 (a14 _)] at this
    rw [N4]
    exact this
  have k2' : (e.kind == 2) = false := by simp [k2]
  by_cases k3 : e.kind = 3
  ·have qq1 : (e.kind == 3) = true := by simp [k3]
   have qq2 := k2'
   have HRD : Hid (e.kind = 3) := k3
   have hhi : (na : Int) - 1 = D9 nv na e.kind - 1 := by rw [k3]; simp [D9]
   clear k1 k2 k3
   have HNB := show Hid (C2 nv na e = (decide (0 <= e.value) && decide (e.value <= (na : Int) - 1))) from by
    unfold Hid C2; rw [decide_eq_true HQ.out.2, S0 hhi]; rfl
   clear hhi
   go_wp2_with fail
   refine (B7 e.value 0 _ _).mono ?_
   rintro x w1 ⟨rfl, rfl⟩
   have HNB2 := show Hid (C2 nv na e = (decide (0 <= e.value) && decide (e.value <= (na : Int) - 1))) from HNB.out
   clear HNB
   obtain ⟨qn, hqn⟩ : ∃ qn, qn = (decide (0 <= e.value) && decide (e.value <= (na : Int) - 1)) := ⟨_, rfl⟩
   rw [<- hqn]
   have HN := show Hid (C2 nv na e = qn) from HNB2.out.trans hqn.symm
   clear hqn HNB2
   cases qn
   ·have HF : Hid (A0 nv na (d + 1) c e = false) := I7 HN.out
    have M := HM.out
    clear HM
    go_wp2_with fail
    go_ret
    exact ⟨m5 (by rw [HF.out]), fun h => absurd (h.symm.trans HF.out) (by simp), ⟨_, M.blk 0 rfl⟩, M.kept⟩
   have hl1 : e.kids.length = 1 := by have := HQ.out.2; rw [HRD.out] at this; simp [v7] at this; omega
   have hpos : 0 < (e.kids.length : Int) := by omega
   obtain ⟨a', c', he, -, -, -, hcell⟩ := (HM.out.d 3 rfl).open
   have e1 : ak = a' := by cases he; rfl
   have e2 : ck = c' := by cases he; rfl
   subst e1 e2
   obtain ⟨b, off, kv, rfl, hbk, hf, g0, g1, g2, hkk⟩ := hcell 0 (by omega)
   simp only [Nat.zero_mul, Nat.add_zero] at g0 g1 g2
   have HR := show Hid _ from an1 HRD.out (by omega)
   clear hcell hkk
   go_wp2_with fail
   refine (aa0 _ _ _ _).mono ?_
   rintro x w2 ⟨rfl, b2⟩
   replace HM := show Hid _ from HM.out.call b2
   obtain ⟨qr, hqr⟩ : ∃ qr, qr = (decide ((e.kids[0]'(by omega)).kind = 1) || decide ((e.kids[0]'(by omega)).kind = 2)) := ⟨_, rfl⟩
   rw [<- hqr]
   have HRR := show Hid (Q9 e = qr) from HR.out.trans hqr.symm
   clear hqr b2 HR g0 g1 g2
   cases qr
   ·have HF : Hid (A0 nv na (d + 1) c e = false) := ap3 HRR.out
    have M := HM.out
    clear HM
    go_wp2_with fail
    go_ret
    exact ⟨m5 (by rw [HF.out]), fun h => absurd (h.symm.trans HF.out) (by simp), ⟨_, M.blk 0 rfl⟩, M.kept⟩
   clear y0 y1 y2 y3 y4
   have y4 := HM.out.c 2 2 rfl rfl
   have HSC : Hid (A0 nv na (d + 1) c e = w7 nv na d (c + 1) e.kids e.kids.length) := R7 HN.out HRR.out
   go_wp2_with fail
   clear y4
   have HST : Hid (w7 nv na d (c + 1) e.kids 0 = true /\ A9 φ' (fun b => ¬ b = cb) w w2 [.box cb [.int .i64 (c + 1 + s4 (e.kids.take 0) : Nat)], .box w.heap.size [.slice a1 nv c1, .slice a2 na c2, v3], .box (w.heap.size + 1) [.int .i64 e.kind, .int .i64 e.value, .slice (some ⟨b, off, none⟩) e.kids.length ck], .dat (fun w φ => m6 w φ (.slice (some ⟨b, off, none⟩) e.kids.length ck) e.kids)]) := by
    refine ⟨?_, ?_⟩
    ·have := HQ.out.1
     simp [w7, s4]; omega
    rw [show ((c + 1 + s4 (e.kids.take 0) : Nat) : Int) = (c : Int) + 1 by simp [s4]]
    exact HM.out
   go_loopw [71] (fun i wr => ∃ k : Nat, k <= e.kids.length /\ i = .int .i64 k /\ w7 nv na d (c + 1) e.kids k = true /\ A9 φ' (fun b => ¬ b = cb) w wr [.box cb [.int .i64 (c + 1 + s4 (e.kids.take k) : Nat)], .box w.heap.size [.slice a1 nv c1, .slice a2 na c2, v3], .box (w.heap.size + 1) [.int .i64 e.kind, .int .i64 e.value, .slice (some ⟨b, off, none⟩) e.kids.length ck], .dat (fun w φ => m6 w φ (.slice (some ⟨b, off, none⟩) e.kids.length ck) e.kids)]) (fun i _ => e.kids.length - (intOf i).toNat)
   case atStart => exact ⟨0, a34 _, rfl, HST.out.1, HST.out.2⟩
   case round =>
    clear HM
    obtain ⟨k, hk, rfl, hpre, M⟩ := hrel
    have HPRE := show Hid _ from hpre
    have hle : c + 1 + s4 (e.kids.take k) <= 15 := by unfold w7 at hpre; simp at hpre; exact hpre.2
    clear hpre
    by_cases hlt : k < e.kids.length
    ·have hncb : ¬ Fr φ' [.box cb [.int .i64 (c + 1 + s4 (e.kids.take k) : Nat)], .box w.heap.size [.slice a1 nv c1, .slice a2 na c2, v3], .box (w.heap.size + 1) [.int .i64 e.kind, .int .i64 e.value, .slice (some ⟨b, off, none⟩) e.kids.length ck], .dat (fun w φ => m6 w φ (.slice (some ⟨b, off, none⟩) e.kids.length ck) e.kids)] cb := fun h => h.2 _ a22 rfl
     obtain ⟨a', c', he, -, -, -, hcell⟩ := (M.d 3 rfl).open
     cases he
     obtain ⟨b, off, kv, hbo, hbk, hf, g0, g1, g2, hkk⟩ := hcell k hlt
     cases hbo
     obtain ⟨ka, kc, rfl, -, -, -, -⟩ := hkk.open
     have bz : Below wr.heap.size wr (wr.alloc (.cells #[.int .i64 e.kids[k].kind, .int .i64 e.kids[k].value, .slice ka e.kids[k].kids.length kc] 37)) := by go_grown
     have HE := show Hid _ from m6.nice _ _ _ _ _ _ (C0.below bz) hkk
     have HNCB := show Hid _ from hncb
     have x0 := M.c 1 0 rfl rfl
     have x1 := M.c 1 1 rfl rfl
     have x2 := M.c 1 2 rfl rfl
     have s1 : w.heap.size < wr.heap.size := M.lt (r := .box w.heap.size [.slice a1 nv c1, .slice a2 na c2, v3]) (a28 _ a22) rfl
     have HM := show Hid _ from M.box [.int .i64 e.kids[k].kind, .int .i64 e.kids[k].value, .slice ka e.kids[k].kids.length kc] 37
     have HP := show Hid _ from M9 nv na (d := d) (c := c + 1) hlt
     have HX := show Hid (A0 nv na d (c + 1 + s4 (e.kids.take k)) e.kids[k] = false -> A0 nv na (d + 1) c e = false) from fun h => HSC.out.trans (O8 hlt h)
     have HT := show Hid _ from I1 hlt
     clear hcell hncb bz hkk M
     go_wp2_with fail
     refine (ih (deep + 1) (by omega) (by omega) e.kids[k] _ _ (c + 1 + s4 (e.kids.take k)) cb _ ⟨_, rfl, HE.out⟩ HNCB.out (HM.out.blk 0 rfl) hle).mono ?_
     rintro x w2 ⟨rfl, r1, ⟨u, r2⟩, kp⟩
     obtain ⟨q, hq⟩ : ∃ q, q = A0 nv na d (c + 1 + s4 (e.kids.take k)) e.kids[k] := ⟨_, rfl⟩
     rw [<- hq] at r1 ⊢
     have HQ2 := show Hid _ from hq
     clear hq x0 x1 x2 g0 g1 g2
     cases q
     ·have M2 := HM.out.callB 0 rfl kp r2
      have HF := show Hid _ from HX.out HQ2.out.symm
      clear r1 r2 kp
      go_wp2_with fail
      go_ret
      exact ⟨m5 (by rw [HF.out]), fun h => absurd (h.symm.trans HF.out) (by simp), ⟨_, M2.blk 0 rfl⟩, M2.kept⟩
     have M2 := (HM.out.callB 0 rfl kp (r1 rfl)).take 4
     have HM2 := show Hid _ from M2
     clear r1 r2 kp M2
     go_wp2_with fail
     refine ⟨⟨k + 1, by omega, by go_num, by rw [HP.out, HPRE.out, <- HQ2.out]; rfl, ?_⟩, by simp [intOf]; omega⟩
     rw [HT.out, show c + 1 + (s4 (e.kids.take k) + (1 + G9 e.kids[k])) = c + 1 + s4 (e.kids.take k) + 1 + G9 e.kids[k] by omega]
     exact HM2.out
    have hkn : k = e.kids.length := by omega
    subst hkn
    have HM := show Hid _ from M
    have HS : Hid (A0 nv na (d + 1) c e = true) := HSC.out.trans HPRE.out
    clear M
    go_wp2_with fail
    go_ret
    refine ⟨m5 (by rw [HS.out]), fun _ => ?_, ⟨_, HM.out.blk 0 rfl⟩, HM.out.kept⟩
    have := HM.out.blk 0 rfl
    rw [a16 (a14 _)] at this
    rw [N4]
    exact this
  have qq1 : (e.kind == 3) = false := by simp [k3]
  have qq2 := qq1
  have HRD : Hid (Q9 e = true) := by unfold Hid Q9; simp [k3]
  have hhi : (0 : Int) = D9 nv na e.kind - 1 := by unfold D9; rw [if_neg k1, if_neg k2, if_neg k3]; rfl
  clear k1 k2 k3
  have HNB := show Hid (C2 nv na e = (decide (0 <= e.value) && decide (e.value <= 0))) from by
   unfold Hid C2; rw [decide_eq_true HQ.out.2, S0 hhi]; rfl
  clear hhi
  go_wp2_with fail
  refine (B7 e.value 0 _ _).mono ?_
  rintro x w1 ⟨rfl, rfl⟩
  have HNB2 := show Hid (C2 nv na e = (decide (0 <= e.value) && decide (e.value <= 0))) from HNB.out
  clear HNB
  obtain ⟨qn, hqn⟩ : ∃ qn, qn = (decide (0 <= e.value) && decide (e.value <= 0)) := ⟨_, rfl⟩
  rw [<- hqn]
  have HN := show Hid (C2 nv na e = qn) from HNB2.out.trans hqn.symm
  clear hqn HNB2
  cases qn
  ·have HF : Hid (A0 nv na (d + 1) c e = false) := I7 HN.out
   have M := HM.out
   clear HM
   go_wp2_with fail
   go_ret
   exact ⟨m5 (by rw [HF.out]), fun h => absurd (h.symm.trans HF.out) (by simp), ⟨_, M.blk 0 rfl⟩, M.kept⟩
  have HSC : Hid (A0 nv na (d + 1) c e = w7 nv na d (c + 1) e.kids e.kids.length) := R7 HN.out HRD.out
  go_wp2_with fail
  clear y0 y1 y2 y3 y4
  have HST : Hid (w7 nv na d (c + 1) e.kids 0 = true /\ A9 φ' (fun b => ¬ b = cb) w W1 [.box cb [.int .i64 (c + 1 + s4 (e.kids.take 0) : Nat)], .box w.heap.size [.slice a1 nv c1, .slice a2 na c2, v3], .box (w.heap.size + 1) [.int .i64 e.kind, .int .i64 e.value, .slice ak e.kids.length ck], .dat (fun w φ => m6 w φ (.slice ak e.kids.length ck) e.kids)]) := by
   refine ⟨?_, ?_⟩
   ·have := HQ.out.1
    simp [w7, s4]; omega
   rw [show ((c + 1 + s4 (e.kids.take 0) : Nat) : Int) = (c : Int) + 1 by simp [s4]]
   exact HM.out
  go_loopw [71] (fun i wr => ∃ k : Nat, k <= e.kids.length /\ i = .int .i64 k /\ w7 nv na d (c + 1) e.kids k = true /\ A9 φ' (fun b => ¬ b = cb) w wr [.box cb [.int .i64 (c + 1 + s4 (e.kids.take k) : Nat)], .box w.heap.size [.slice a1 nv c1, .slice a2 na c2, v3], .box (w.heap.size + 1) [.int .i64 e.kind, .int .i64 e.value, .slice ak e.kids.length ck], .dat (fun w φ => m6 w φ (.slice ak e.kids.length ck) e.kids)]) (fun i _ => e.kids.length - (intOf i).toNat)
  case atStart => exact ⟨0, a34 _, rfl, HST.out.1, HST.out.2⟩
  case round =>
   clear HM
   obtain ⟨k, hk, rfl, hpre, M⟩ := hrel
   have HPRE := show Hid _ from hpre
   have hle : c + 1 + s4 (e.kids.take k) <= 15 := by unfold w7 at hpre; simp at hpre; exact hpre.2
   clear hpre
   by_cases hlt : k < e.kids.length
   ·have hncb : ¬ Fr φ' [.box cb [.int .i64 (c + 1 + s4 (e.kids.take k) : Nat)], .box w.heap.size [.slice a1 nv c1, .slice a2 na c2, v3], .box (w.heap.size + 1) [.int .i64 e.kind, .int .i64 e.value, .slice ak e.kids.length ck], .dat (fun w φ => m6 w φ (.slice ak e.kids.length ck) e.kids)] cb := fun h => h.2 _ a22 rfl
    obtain ⟨a', c', he, -, -, -, hcell⟩ := (M.d 3 rfl).open
    cases he
    obtain ⟨b, off, kv, hbo, hbk, hf, g0, g1, g2, hkk⟩ := hcell k hlt
    cases hbo
    obtain ⟨ka, kc, rfl, -, -, -, -⟩ := hkk.open
    have bz : Below wr.heap.size wr (wr.alloc (.cells #[.int .i64 e.kids[k].kind, .int .i64 e.kids[k].value, .slice ka e.kids[k].kids.length kc] 37)) := by go_grown
    have HE := show Hid _ from m6.nice _ _ _ _ _ _ (C0.below bz) hkk
    have HNCB := show Hid _ from hncb
    have x0 := M.c 1 0 rfl rfl
    have x1 := M.c 1 1 rfl rfl
    have x2 := M.c 1 2 rfl rfl
    have s1 : w.heap.size < wr.heap.size := M.lt (r := .box w.heap.size [.slice a1 nv c1, .slice a2 na c2, v3]) (a28 _ a22) rfl
    have HM := show Hid _ from M.box [.int .i64 e.kids[k].kind, .int .i64 e.kids[k].value, .slice ka e.kids[k].kids.length kc] 37
    have HP := show Hid _ from M9 nv na (d := d) (c := c + 1) hlt
    have HX := show Hid (A0 nv na d (c + 1 + s4 (e.kids.take k)) e.kids[k] = false -> A0 nv na (d + 1) c e = false) from fun h => HSC.out.trans (O8 hlt h)
    have HT := show Hid _ from I1 hlt
    clear hcell hncb bz hkk M
    go_wp2_with fail
    refine (ih (deep + 1) (by omega) (by omega) e.kids[k] _ _ (c + 1 + s4 (e.kids.take k)) cb _ ⟨_, rfl, HE.out⟩ HNCB.out (HM.out.blk 0 rfl) hle).mono ?_
    rintro x w2 ⟨rfl, r1, ⟨u, r2⟩, kp⟩
    obtain ⟨q, hq⟩ : ∃ q, q = A0 nv na d (c + 1 + s4 (e.kids.take k)) e.kids[k] := ⟨_, rfl⟩
    rw [<- hq] at r1 ⊢
    have HQ2 := show Hid _ from hq
    clear hq x0 x1 x2 g0 g1 g2
    cases q
    ·have M2 := HM.out.callB 0 rfl kp r2
     have HF := show Hid _ from HX.out HQ2.out.symm
     clear r1 r2 kp
     go_wp2_with fail
     go_ret
     exact ⟨m5 (by rw [HF.out]), fun h => absurd (h.symm.trans HF.out) (by simp), ⟨_, M2.blk 0 rfl⟩, M2.kept⟩
    have M2 := (HM.out.callB 0 rfl kp (r1 rfl)).take 4
    have HM2 := show Hid _ from M2
    clear r1 r2 kp M2
    go_wp2_with fail
    refine ⟨⟨k + 1, by omega, by go_num, by rw [HP.out, HPRE.out, <- HQ2.out]; rfl, ?_⟩, by simp [intOf]; omega⟩
    rw [HT.out, show c + 1 + (s4 (e.kids.take k) + (1 + G9 e.kids[k])) = c + 1 + s4 (e.kids.take k) + 1 + G9 e.kids[k] by omega]
    exact HM2.out
   have hkn : k = e.kids.length := by omega
   subst hkn
   have HM := show Hid _ from M
   have HS : Hid (A0 nv na (d + 1) c e = true) := HSC.out.trans HPRE.out
   clear M
   go_wp2_with fail
   go_ret
   refine ⟨m5 (by rw [HS.out]), fun _ => ?_, ⟨_, HM.out.blk 0 rfl⟩, HM.out.kept⟩
   have := HM.out.blk 0 rfl
   rw [a16 (a14 _)] at this
   rw [N4]
   exact this
theorem ax8 (nv na : Nat) (e : b9) : A0 nv na 5 0 e = n5 nv na e := by
 have h : (0 + 1 + G9 e <= 15) = (1 + G9 e <= 15) := by rw [a45]
 unfold A0 n5
 simp only [h]
theorem aG1 (a1 a2 : Option Addr) (nv c1 na c2 : Nat) (v3 : Value) (h1 : nv <= 9223372036854775807) (h2 : na <= 9223372036854775807) (e : b9) (φ : Nat -> Prop) (v : Value) (w : World) (h : s5 w φ v e) :
  Calls Tryd.prog 35 #[.agg #[.slice a1 nv c1, .slice a2 na c2, v3], v] w fun x w' => x = .returned (.bool (n5 nv na e)) /\ Below w.heap.size w w' := by
 obtain ⟨kv, rfl, hk⟩ := h
 obtain ⟨W, hW, M⟩ : ∃ W, W = ((w.alloc (.cells #[.slice a1 nv c1, .slice a2 na c2, v3] 30)).alloc (.cells #[.int .i64 e.kind, .int .i64 e.value, kv] 37)).alloc (.cells #[.int .i64 0] 3) /\ A9 (fun _ => True) (fun _ => True) w W [.box w.heap.size [.slice a1 nv c1, .slice a2 na c2, v3], .box (w.heap.size + 1) [.int .i64 e.kind, .int .i64 e.value, kv], .box (w.heap.size + 1 + 1) [.int .i64 0]] :=
  ⟨_, rfl, (((A9.start fun _ _ => trivial).box _ _).box' _ _ (by simp)).box' _ _ (by simp)⟩
 have hb := M.below fun _ _ => trivial
 have HK := show Hid _ from m6.nice _ _ _ _ φ (fun b => φ b /\ b < w.heap.size) ⟨hb.size, fun b hl hf => ⟨⟨hf, hl⟩, hb.block b hl⟩⟩ hk
 clear hb hk
 have x0 := M.c 0 0 rfl rfl
 have x1 := M.c 0 1 rfl rfl
 have x2 := M.c 0 2 rfl rfl
 have y0 := M.c 1 0 rfl rfl
 have y1 := M.c 1 1 rfl rfl
 have y2 := M.c 1 2 rfl rfl
 have HM := show Hid _ from M
 rw [hW] at x0 x1 x2 y0 y1 y2
 clear M
 go_enter Tryd.func35, Tryd.ntmps35
 go_wp2_with fail
 rw [<- hW]
 clear hW x0 x1 x2 y0 y1 y2
 refine (aG0 a1 a2 nv c1 na c2 v3 h1 h2 5 1 (by omega) (by omega) e _ _ 0 _ _ ⟨kv, rfl, HK.out⟩ (fun h => by have := h.2; omega) (HM.out.blk 2 rfl) (by omega)).mono ?_
 rintro x w1 ⟨rfl, -, ⟨u, r2⟩, kp⟩
 rw [ax8]
 have M := HM.out.callB 2 rfl kp r2
 have HB := show Hid _ from M.below fun _ _ => trivial
 clear kp r2 M
 go_wp2_with fail
 go_ret
 exact ⟨rfl, HB.out⟩
theorem aF1 {ks ls : List b9} {k : Nat} (h1 : k < ks.length) (h2 : k < ls.length) (h : Q8 ks[k] ls[k] = false) : I8 ks ls = false := by
 cases hs : I8 ks ls
 ·rfl
 have := (Q7 ks ls).1 hs
 subst this
 rw [(U0 _ _).2 rfl] at h; cases h
theorem aF0 {ks ls : List b6} {k : Nat} (h1 : k < ks.length) (h2 : k < ls.length) (h : ai3 ks[k] ls[k] = false) : E2 ks ls = false := by
 cases hs : E2 ks ls
 ·rfl
 have := (K4 ks ls).1 hs
 subst this
 rw [(ai2 _ _).2 rfl] at h; cases h
def EqE (e : b9) : Prop := ∀ (φ φ' : Nat -> Prop) (v u : Value) (e' : b9) (w : World), s5 w φ v e -> s5 w φ' u e' ->
 Calls Tryd.prog 83 #[v, u] w fun x w' => x = .returned (.bool (Q8 e e')) /\ Below w.heap.size w w'
theorem aA0 (ks : List b9) (ih : ∀ e ∈ ks, EqE e) (φ φ' : Nat -> Prop) (v u : Value) (ls : List b9) (w : World) (h : m6 w φ v ks) (h' : m6 w φ' u ls) :
  Calls Tryd.prog 102 #[v, u] w fun x w' => x = .returned (.bool (I8 ks ls)) /\ Below w.heap.size w w' := by
 obtain ⟨a, cap, rfl, -, hn, -, hc⟩ := h.open
 obtain ⟨a', cap', rfl, -, hn', -, hc'⟩ := h'.open
 have HC := show Hid _ from hc
 have HC' := show Hid _ from hc'
 clear hc hc' h h'
 by_cases hl : ks.length = ls.length
 ·have heq : ((ks.length : Int) == (ls.length : Int)) = true := by simp; omega
  have HL := show Hid _ from hl
  clear hl
  go_enter Tryd.func102, Tryd.ntmps102
  go_wp2
  go_loopw [5] (fun i wr => ∃ k : Nat, k <= ks.length /\ i = .int .i64 k /\ ks.take k = ls.take k /\ Below w.heap.size w wr) (fun i _ => ks.length - (intOf i).toNat)
  case atStart => exact ⟨0, a34 _, rfl, rfl, Below.refl _ _⟩
  case round =>
   obtain ⟨k, hk, rfl, ht, hb⟩ := hrel
   have HT := show Hid _ from ht
   have HB := show Hid _ from hb
   clear ht hb
   by_cases hlt : k < ks.length
   ·have hlt2 : k < ls.length := by have := HL.out; omega
    obtain ⟨b, off, kv, rfl, hbk, hf, c0, c1, c2, hkv⟩ := HC.out k hlt
    obtain ⟨b', off', kv', rfl, hbk', hf', d0, d1, d2, hkv'⟩ := HC'.out k hlt2
    rw [<- (v6 HB.out).1 _ _ hbk] at c0 c1 c2
    rw [<- (v6 HB.out).1 _ _ hbk'] at d0 d1 d2
    obtain ⟨q, hq⟩ : ∃ q, q = Q8 ks[k] ls[k] := ⟨_, rfl⟩
    have HC3 : Hid (∀ X, Calls Tryd.prog 83 #[.agg #[.int .i64 ks[k].kind, .int .i64 ks[k].value, kv], .agg #[.int .i64 ls[k].kind, .int .i64 ls[k].value, kv']] (wr.ext X) fun e w'' => e = .returned (.bool q) /\ ∃ Y, w'' = wr.ext Y) := fun X => by
     have bb := HB.out.trans ((k6 wr X).mono HB.out.size)
     rw [hq]
     exact Calls.ext_of' (ih _ (a11 hlt) φ φ' _ _ _ _ ⟨kv, rfl, m6.nice _ _ _ _ _ _ (C0.below bb) hkv⟩ ⟨kv', rfl, m6.nice _ _ _ _ _ _ (C0.below bb) hkv'⟩)
    have HQ := show Hid _ from hq
    have j0 := fun X => b5 c0 X
    have j1 := fun X => b5 c1 X
    have j2 := fun X => b5 c2 X
    have i0 := fun X => b5 d0 X
    have i1 := fun X => b5 d1 X
    have i2 := fun X => b5 d2 X
    clear hkv hkv' hq c0 c1 c2 d0 d1 d2
    cases q
    ·go_wp2_with fail
     refine m7 (by kernel_rfl) (by kernel_rfl) ?_
     repeat (any_goals (first | go_big_quiet_step (((go_at_call 83; exact HC3.out _))) | quiet_step (((go_at_call 83; exact HC3.out _)))))
     refine wpQuiet_nil ?_
     rintro _ ⟨X, rfl⟩
     go_wp2_with fail
     go_ret
     exact ⟨m5 (aF1 hlt hlt2 HQ.out.symm).symm, HB.out.trans ((k6 wr X).mono HB.out.size)⟩
    go_wp2_with fail
    refine m7 (by kernel_rfl) (by kernel_rfl) ?_
    repeat (any_goals (first | go_big_quiet_step (((go_at_call 83; exact HC3.out _))) | quiet_step (((go_at_call 83; exact HC3.out _)))))
    refine wpQuiet_nil ?_
    rintro _ ⟨X, rfl⟩
    go_wp2_with fail
    exact ⟨⟨k + 1, by omega, by go_num, R6 HT.out hlt hlt2 ((U0 _ _).1 HQ.out.symm), HB.out.trans ((k6 wr X).mono HB.out.size)⟩, by simp [intOf]; omega⟩
   have hge : ¬ ((k : Int) < (ks.length : Int)) := by omega
   go_wp2_with fail
   go_ret
   exact ⟨m5 (by rw [O5 HT.out (by omega) (by have := HL.out; omega)]; exact ((Q7 _ _).2 rfl).symm), HB.out⟩
 have hne : ((ks.length : Int) == (ls.length : Int)) = false := by simp; omega
 have HL := show Hid _ from hl
 clear hl
 go_enter Tryd.func102, Tryd.ntmps102
 go_wp2
 go_ret
 exact ⟨m5 (ay0 HL.out).symm, Below.refl _ _⟩
theorem ak2 (e : b9) : EqE e := by
 refine b9.ind (P := EqE) (fun k n ks ih => ?_) e
 intro φ φ' v u e' w h h'
 obtain ⟨kv, rfl, hk⟩ := h
 obtain ⟨ku, rfl, hk'⟩ := h'
 simp only [b9.kind, b9.value, b9.kids] at hk ⊢
 cases e' with
 | mk k' n' ks' =>
 have HS : Hid (Q8 ⟨k, n, ks⟩ ⟨k', n', ks'⟩ = (decide (k = k') && decide (n = n') && I8 ks ks')) := rfl
 simp only [b9.kind, b9.value, b9.kids] at hk' ⊢
 obtain ⟨W, hW, M⟩ : ∃ W, W = (w.alloc (.cells #[.int .i64 k, .int .i64 n, kv] 37)).alloc (.cells #[.int .i64 k', .int .i64 n', ku] 37) /\ A9 (fun _ => True) (fun _ => True) w W [.box w.heap.size [.int .i64 k, .int .i64 n, kv], .box (w.heap.size + 1) [.int .i64 k', .int .i64 n', ku]] :=
  ⟨_, rfl, ((A9.start fun _ _ => trivial).box _ _).box' _ _ (by simp)⟩
 have HK := show Hid (m6 W φ kv ks /\ m6 W φ' ku ks') from ⟨m6.nice _ _ _ _ _ _ (C0.below (M.below fun _ _ => trivial)) hk, m6.nice _ _ _ _ _ _ (C0.below (M.below fun _ _ => trivial)) hk'⟩
 have HB := show Hid _ from M.below fun _ _ => trivial
 have c0 := M.c 0 0 rfl rfl
 have c1 := M.c 0 1 rfl rfl
 have c2 := M.c 0 2 rfl rfl
 have d0 := M.c 1 0 rfl rfl
 have d1 := M.c 1 1 rfl rfl
 have d2 := M.c 1 2 rfl rfl
 rw [hW] at c0 c1 c2 d0 d1 d2
 clear hk hk' M
 by_cases q0 : k = k'
 ·have p0 : (k == k') = true := by simp [q0]
  by_cases q1 : n = n'
  ·have p1 : (n == n') = true := by simp [q1]
   have Q := show Hid _ from And.intro q0 q1
   clear q0 q1
   go_enter Tryd.func83, Tryd.ntmps83
   go_wp2_with fail
   rw [<- hW]
   clear hW c0 c1 c2 d0 d1 d2
   refine (aA0 ks ih φ φ' kv ku ks' _ HK.out.1 HK.out.2).mono ?_
   rintro x w1 ⟨rfl, b1⟩
   have B1 := show Hid _ from HB.out.trans (b1.mono HB.out.size)
   obtain ⟨q, hq⟩ : ∃ q, q = I8 ks ks' := ⟨_, rfl⟩
   rw [<- hq]
   have HQ := show Hid _ from hq
   clear hq
   cases q
   ·go_wp2_with fail
    go_ret
    exact ⟨m5 (by rw [HS.out, <- HQ.out]; simp), B1.out⟩
   go_wp2_with fail
   go_ret
   exact ⟨m5 (by rw [HS.out, <- HQ.out]; simp [Q.out.1, Q.out.2]), B1.out⟩
  have p1 : (n == n') = false := by simp [q1]
  have Q := show Hid _ from q1
  clear q0 q1
  go_enter Tryd.func83, Tryd.ntmps83
  go_wp2_with fail
  go_ret
  exact ⟨m5 (by rw [HS.out, show decide (n = n') = false from decide_eq_false Q.out]; simp), by rw [<- hW]; exact HB.out⟩
 have p0 : (k == k') = false := by simp [q0]
 have Q := show Hid _ from q0
 clear q0
 go_enter Tryd.func83, Tryd.ntmps83
 go_wp2_with fail
 go_ret
 exact ⟨m5 (by rw [HS.out, show decide (k = k') = false from decide_eq_false Q.out]; simp), by rw [<- hW]; exact HB.out⟩
def EqS (e : b6) : Prop := ∀ (φ φ' : Nat -> Prop) (v u : Value) (e' : b6) (w : World), P3 w φ v e -> P3 w φ' u e' ->
 Calls Tryd.prog 58 #[v, u] w fun x w' => x = .returned (.bool (ai3 e e')) /\ Below w.heap.size w w'
theorem X8 (ks : List b6) (ih : ∀ e ∈ ks, EqS e) (φ φ' : Nat -> Prop) (v u : Value) (ls : List b6) (w : World) (h : s2 w φ v ks) (h' : s2 w φ' u ls) :
  Calls Tryd.prog 30 #[v, u] w fun x w' => x = .returned (.bool (E2 ks ls)) /\ Below w.heap.size w w' := by
 obtain ⟨a, cap, rfl, -, hn, -, hc⟩ := h.open
 obtain ⟨a', cap', rfl, -, hn', -, hc'⟩ := h'.open
 have HC := show Hid _ from hc
 have HC' := show Hid _ from hc'
 clear hc hc' h h'
 by_cases hl : ks.length = ls.length
 ·have heq : ((ks.length : Int) == (ls.length : Int)) = true := by simp; omega
  have HL := show Hid _ from hl
  clear hl
  go_enter Tryd.func30, Tryd.ntmps30
  go_wp2
  go_loopw [5] (fun i wr => ∃ k : Nat, k <= ks.length /\ i = .int .i64 k /\ ks.take k = ls.take k /\ Below w.heap.size w wr) (fun i _ => ks.length - (intOf i).toNat)
  case atStart => exact ⟨0, a34 _, rfl, rfl, Below.refl _ _⟩
  case round =>
   obtain ⟨k, hk, rfl, ht, hb⟩ := hrel
   have HT := show Hid _ from ht
   have HB := show Hid _ from hb
   clear ht hb
   by_cases hlt : k < ks.length
   ·have hlt2 : k < ls.length := by have := HL.out; omega
    obtain ⟨b, off, iv, vv, bv, ev, rfl, hbk, hf, ⟨c0, c1, c2, c3, c4, c5, c6, c7, c8, c9, c10⟩, g1, g2, g3, g4⟩ := HC.out k hlt
    obtain ⟨b', off', iv', vv', bv', ev', rfl, hbk', hf', ⟨d0, d1, d2, d3, d4, d5, d6, d7, d8, d9, d10⟩, g1', g2', g3', g4'⟩ := HC'.out k hlt2
    rw [<- (v6 HB.out).1 _ _ hbk] at c0 c1 c2 c3 c4 c5 c6 c7 c8 c9 c10
    rw [<- (v6 HB.out).1 _ _ hbk'] at d0 d1 d2 d3 d4 d5 d6 d7 d8 d9 d10
    obtain ⟨q, hq⟩ : ∃ q, q = ai3 ks[k] ls[k] := ⟨_, rfl⟩
    have HC3 : Hid (∀ X, Calls Tryd.prog 58 #[.agg #[.int .i64 ks[k].kind, .int .i64 ks[k].target, .int .i64 ks[k].index.kind, .int .i64 ks[k].index.value, iv, .int .i64 ks[k].value.kind, .int .i64 ks[k].value.value, vv, .int .i64 ks[k].count, bv, ev], .agg #[.int .i64 ls[k].kind, .int .i64 ls[k].target, .int .i64 ls[k].index.kind, .int .i64 ls[k].index.value, iv', .int .i64 ls[k].value.kind, .int .i64 ls[k].value.value, vv', .int .i64 ls[k].count, bv', ev']] (wr.ext X) fun e w'' => e = .returned (.bool q) /\ ∃ Y, w'' = wr.ext Y) := fun X => by
     have bb := HB.out.trans ((k6 wr X).mono HB.out.size)
     rw [hq]
     exact Calls.ext_of' (ih _ (a11 hlt) φ φ' _ _ _ _ (P3.nice _ _ _ _ _ _ (C0.below bb) ⟨iv, vv, bv, ev, rfl, g1, g2, g3, g4⟩) (P3.nice _ _ _ _ _ _ (C0.below bb) ⟨iv', vv', bv', ev', rfl, g1', g2', g3', g4'⟩))
    have HQ := show Hid _ from hq
    have j0 := fun X => b5 c0 X
    have j1 := fun X => b5 c1 X
    have j2 := fun X => b5 c2 X
    have j3 := fun X => b5 c3 X
    have j4 := fun X => b5 c4 X
    have j5 := fun X => b5 c5 X
    have j6 := fun X => b5 c6 X
    have j7 := fun X => b5 c7 X
    have j8 := fun X => b5 c8 X
    have j9 := fun X => b5 c9 X
    have j10 := fun X => b5 c10 X
    have i0 := fun X => b5 d0 X
    have i1 := fun X => b5 d1 X
    have i2 := fun X => b5 d2 X
    have i3 := fun X => b5 d3 X
    have i4 := fun X => b5 d4 X
    have i5 := fun X => b5 d5 X
    have i6 := fun X => b5 d6 X
    have i7 := fun X => b5 d7 X
    have i8 := fun X => b5 d8 X
    have i9 := fun X => b5 d9 X
    have i10 := fun X => b5 d10 X
    clear g1 g2 g3 g4 g1' g2' g3' g4' hq c0 d0 c1 d1 c2 d2 c3 d3 c4 d4 c5 d5 c6 d6 c7 d7 c8 d8 c9 d9 c10 d10
    cases q
    ·go_wp2_with fail
     refine m7 (by kernel_rfl) (by kernel_rfl) ?_
     repeat (any_goals (first | go_big_quiet_step (((go_at_call 58; exact HC3.out _))) | quiet_step (((go_at_call 58; exact HC3.out _)))))
     refine wpQuiet_nil ?_
     rintro _ ⟨X, rfl⟩
     go_wp2_with fail
     go_ret
     exact ⟨m5 (aF0 hlt hlt2 HQ.out.symm).symm, HB.out.trans ((k6 wr X).mono HB.out.size)⟩
    go_wp2_with fail
    refine m7 (by kernel_rfl) (by kernel_rfl) ?_
    repeat (any_goals (first | go_big_quiet_step (((go_at_call 58; exact HC3.out _))) | quiet_step (((go_at_call 58; exact HC3.out _)))))
    refine wpQuiet_nil ?_
    rintro _ ⟨X, rfl⟩
    go_wp2_with fail
    exact ⟨⟨k + 1, by omega, by go_num, R6 HT.out hlt hlt2 ((ai2 _ _).1 HQ.out.symm), HB.out.trans ((k6 wr X).mono HB.out.size)⟩, by simp [intOf]; omega⟩
   have hge : ¬ ((k : Int) < (ks.length : Int)) := by omega
   go_wp2_with fail
   go_ret
   exact ⟨m5 (by rw [O5 HT.out (by omega) (by have := HL.out; omega)]; exact ((K4 _ _).2 rfl).symm), HB.out⟩
 have hne : ((ks.length : Int) == (ls.length : Int)) = false := by simp; omega
 have HL := show Hid _ from hl
 clear hl
 go_enter Tryd.func30, Tryd.ntmps30
 go_wp2
 go_ret
 exact ⟨m5 (ax9 HL.out).symm, Below.refl _ _⟩
theorem az9 (s : b6) : EqS s := by
 refine b6.ind (P := EqS) (fun k t i v c b e ihb ihe => ?_) s
 intro φ φ' x u s' w h h'
 obtain ⟨iv, vv, bv, ev, rfl, g1, g2, g3, g4⟩ := h
 obtain ⟨iv', vv', bv', ev', rfl, g1', g2', g3', g4'⟩ := h'
 cases s' with
 | mk k' t' i' v' c' b' e' =>
 have HS : Hid (ai3 ⟨k, t, i, v, c, b, e⟩ ⟨k', t', i', v', c', b', e'⟩ = (decide (k = k') && decide (t = t') && Q8 i i' && Q8 v v' && decide (c = c') && E2 b b' && E2 e e')) := rfl
 simp only [b6.index, b6.value, b6.body, b6.els, b6.kind, b6.target, b6.count] at g1 g2 g3 g4 g1' g2' g3' g4' ⊢
 obtain ⟨W, hW, M⟩ : ∃ W, W = (w.alloc (.cells #[.int .i64 k, .int .i64 t, .int .i64 i.kind, .int .i64 i.value, iv, .int .i64 v.kind, .int .i64 v.value, vv, .int .i64 c, bv, ev] 43)).alloc (.cells #[.int .i64 k', .int .i64 t', .int .i64 i'.kind, .int .i64 i'.value, iv', .int .i64 v'.kind, .int .i64 v'.value, vv', .int .i64 c', bv', ev'] 43) /\ A9 (fun _ => True) (fun _ => True) w W [.box w.heap.size [.int .i64 k, .int .i64 t, .int .i64 i.kind, .int .i64 i.value, iv, .int .i64 v.kind, .int .i64 v.value, vv, .int .i64 c, bv, ev], .box (w.heap.size + 1) [.int .i64 k', .int .i64 t', .int .i64 i'.kind, .int .i64 i'.value, iv', .int .i64 v'.kind, .int .i64 v'.value, vv', .int .i64 c', bv', ev']] :=
  ⟨_, rfl, ((A9.start fun _ _ => trivial).box _ _).box' _ _ (by simp)⟩
 have HG := show Hid (∀ W', Below w.heap.size w W' -> s5 W' φ (.agg #[.int .i64 i.kind, .int .i64 i.value, iv]) i /\ s5 W' φ (.agg #[.int .i64 v.kind, .int .i64 v.value, vv]) v /\ s2 W' φ bv b /\ s2 W' φ ev e) from fun W' k =>
  ⟨⟨iv, rfl, m6.nice _ _ _ _ _ _ (C0.below k) g1⟩, ⟨vv, rfl, m6.nice _ _ _ _ _ _ (C0.below k) g2⟩, s2.nice _ _ _ _ _ _ (C0.below k) g3, s2.nice _ _ _ _ _ _ (C0.below k) g4⟩
 have HG' := show Hid (∀ W', Below w.heap.size w W' -> s5 W' φ' (.agg #[.int .i64 i'.kind, .int .i64 i'.value, iv']) i' /\ s5 W' φ' (.agg #[.int .i64 v'.kind, .int .i64 v'.value, vv']) v' /\ s2 W' φ' bv' b' /\ s2 W' φ' ev' e') from fun W' k =>
  ⟨⟨iv', rfl, m6.nice _ _ _ _ _ _ (C0.below k) g1'⟩, ⟨vv', rfl, m6.nice _ _ _ _ _ _ (C0.below k) g2'⟩, s2.nice _ _ _ _ _ _ (C0.below k) g3', s2.nice _ _ _ _ _ _ (C0.below k) g4'⟩
 clear g1 g2 g3 g4 g1' g2' g3' g4'
 have c0 := M.c 0 0 rfl rfl
 have d0 := M.c 1 0 rfl rfl
 have c1 := M.c 0 1 rfl rfl
 have d1 := M.c 1 1 rfl rfl
 have c2 := M.c 0 2 rfl rfl
 have d2 := M.c 1 2 rfl rfl
 have c3 := M.c 0 3 rfl rfl
 have d3 := M.c 1 3 rfl rfl
 have c4 := M.c 0 4 rfl rfl
 have d4 := M.c 1 4 rfl rfl
 rw [hW] at c0 d0 c1 d1 c2 d2 c3 d3 c4 d4
 have HB0 := show Hid _ from M.below fun _ _ => trivial
 have HM := show Hid _ from M
 clear M
 by_cases q0 : k = k'
 rotate_left
 ·have p0 : (k == k') = false := by simp [q0]
  have Q := show Hid _ from q0
  clear q0
  go_enter Tryd.func58, Tryd.ntmps58
  go_wp2_with fail
  go_ret
  exact ⟨m5 (by rw [HS.out, show decide (k = k') = false from decide_eq_false Q.out]; simp), by rw [<- hW]; exact HB0.out⟩
 have p0 : (k == k') = true := by simp [q0]
 by_cases q1 : t = t'
 rotate_left
 ·have p1 : (t == t') = false := by simp [q1]
  have Q := show Hid _ from q1
  clear q0 q1
  go_enter Tryd.func58, Tryd.ntmps58
  go_wp2_with fail
  go_ret
  exact ⟨m5 (by rw [HS.out, show decide (t = t') = false from decide_eq_false Q.out]; simp), by rw [<- hW]; exact HB0.out⟩
 have p1 : (t == t') = true := by simp [q1]
 have Q0 := show Hid _ from And.intro q0 q1
 clear q0 q1
 go_enter Tryd.func58, Tryd.ntmps58
 go_wp2_with fail
 rw [<- hW]
 have M := HM.out
 clear hW HM p0 p1 c0 d0 c1 d1 c2 d2 c3 d3 c4 d4
 refine (ak2 i φ φ' _ _ i' _ (HG.out _ (M.below fun _ _ => trivial)).1 (HG'.out _ (M.below fun _ _ => trivial)).1).mono ?_
 rintro x w1 ⟨rfl, b1⟩
 replace M := M.call b1
 clear b1
 obtain ⟨r1, hq⟩ : ∃ q, q = Q8 i i' := ⟨_, rfl⟩
 rw [<- hq]
 have Hr1 := show Hid _ from hq
 clear hq
 have HB := show Hid _ from M.below fun _ _ => trivial
 have c5 := M.c 0 5 rfl rfl
 have d5 := M.c 1 5 rfl rfl
 have c6 := M.c 0 6 rfl rfl
 have d6 := M.c 1 6 rfl rfl
 have c7 := M.c 0 7 rfl rfl
 have d7 := M.c 1 7 rfl rfl
 have HM := show Hid _ from M
 clear M
 cases r1
 ·go_wp2_with fail
  go_ret
  exact ⟨m5 (by rw [HS.out, <- Hr1.out]; simp), HB.out⟩
 go_wp2_with fail
 have M := HM.out
 clear HM HB c5 d5 c6 d6 c7 d7
 refine (ak2 v φ φ' _ _ v' _ (HG.out _ (M.below fun _ _ => trivial)).2.1 (HG'.out _ (M.below fun _ _ => trivial)).2.1).mono ?_
 rintro x w1 ⟨rfl, b1⟩
 replace M := M.call b1
 clear b1
 obtain ⟨r2, hq⟩ : ∃ q, q = Q8 v v' := ⟨_, rfl⟩
 rw [<- hq]
 have Hr2 := show Hid _ from hq
 clear hq
 have HB := show Hid _ from M.below fun _ _ => trivial
 have c8 := M.c 0 8 rfl rfl
 have d8 := M.c 1 8 rfl rfl
 have c9 := M.c 0 9 rfl rfl
 have d9 := M.c 1 9 rfl rfl
 have HM := show Hid _ from M
 clear M
 cases r2
 ·go_wp2_with fail
  go_ret
  exact ⟨m5 (by rw [HS.out, <- Hr2.out]; simp), HB.out⟩
 by_cases q4 : c = c'
 rotate_left
 ·have p4 : (c == c') = false := by simp [q4]
  have Q := show Hid _ from q4
  clear q4
  go_wp2_with fail
  go_ret
  exact ⟨m5 (by rw [HS.out, show decide (c = c') = false from decide_eq_false Q.out]; simp), HB.out⟩
 have p4 : (c == c') = true := by simp [q4]
 have Q4 := show Hid _ from q4
 clear q4
 go_wp2_with fail
 have M := HM.out
 clear HM HB p4 c8 d8 c9 d9
 refine (X8 b ihb φ φ' bv bv' b' _ (HG.out _ (M.below fun _ _ => trivial)).2.2.1 (HG'.out _ (M.below fun _ _ => trivial)).2.2.1).mono ?_
 rintro x w1 ⟨rfl, b1⟩
 replace M := M.call b1
 clear b1
 obtain ⟨r3, hq⟩ : ∃ q, q = E2 b b' := ⟨_, rfl⟩
 rw [<- hq]
 have Hr3 := show Hid _ from hq
 clear hq
 have HB := show Hid _ from M.below fun _ _ => trivial
 have c10 := M.c 0 10 rfl rfl
 have d10 := M.c 1 10 rfl rfl
 have HM := show Hid _ from M
 clear M
 cases r3
 ·go_wp2_with fail
  go_ret
  exact ⟨m5 (by rw [HS.out, <- Hr3.out]; simp), HB.out⟩
 go_wp2_with fail
 have M := HM.out
 clear HM HB c10 d10
 refine (X8 e ihe φ φ' ev ev' e' _ (HG.out _ (M.below fun _ _ => trivial)).2.2.2 (HG'.out _ (M.below fun _ _ => trivial)).2.2.2).mono ?_
 rintro x w1 ⟨rfl, b1⟩
 replace M := M.call b1
 clear b1
 obtain ⟨r4, hq⟩ : ∃ q, q = E2 e e' := ⟨_, rfl⟩
 rw [<- hq]
 have Hr4 := show Hid _ from hq
 clear hq
 have HB := show Hid _ from M.below fun _ _ => trivial
 have HM := show Hid _ from M
 clear M
 cases r4
 ·go_wp2_with fail
  go_ret
  exact ⟨m5 (by rw [HS.out, <- Hr4.out]; simp), HB.out⟩
 go_wp2_with fail
 go_ret
 exact ⟨m5 (by rw [HS.out, <- Hr1.out, <- Hr2.out, <- Hr3.out, <- Hr4.out, decide_eq_true Q0.out.1, decide_eq_true Q0.out.2, decide_eq_true Q4.out]; rfl), HB.out⟩
theorem am1 (φ φ' : Nat -> Prop) (x u : Value) (p q : p8) (w : World) (h : U9 w φ x p) (h' : U9 w φ' u q) :
  Calls Tryd.prog 10 #[x, u] w fun e w' => e = .returned (.bool (p.same q)) /\ Below w.heap.size w w' := by
 obtain ⟨v1, v2, v3, rfl, h1, h2, h3⟩ := h
 obtain ⟨u1, u2, u3, rfl, k1, k2, k3⟩ := h'
 have HS : Hid (p.same q = (decide (p.vars = q.vars) && decide (p.arrays = q.arrays) && E2 p.body q.body)) := rfl
 obtain ⟨W, hW, M⟩ : ∃ W, W = (w.alloc (.cells #[v1, v2, v3] 30)).alloc (.cells #[u1, u2, u3] 30) /\ A9 (fun _ => True) (fun _ => True) w W [.box w.heap.size [v1, v2, v3], .box (w.heap.size + 1) [u1, u2, u3]] :=
  ⟨_, rfl, ((A9.start fun _ _ => trivial).box _ _).box' _ _ (by simp)⟩
 have HG := show Hid (∀ W', Below w.heap.size w W' -> (K0 W' v1 p.vars.length 1 (ints p.vars) /\ K0 W' v2 p.arrays.length 1 (ints p.arrays) /\ s2 W' φ v3 p.body) /\ (K0 W' u1 q.vars.length 1 (ints q.vars) /\ K0 W' u2 q.arrays.length 1 (ints q.arrays) /\ s2 W' φ' u3 q.body)) from fun W' k =>
  ⟨⟨h1.row.below k, h2.row.below k, s2.nice _ _ _ _ _ _ (C0.below k) h3⟩, k1.row.below k, k2.row.below k, s2.nice _ _ _ _ _ _ (C0.below k) k3⟩
 clear h1 h2 h3 k1 k2 k3
 have c0 := M.c 0 0 rfl rfl
 have d0 := M.c 1 0 rfl rfl
 rw [hW] at c0 d0
 have HM := show Hid _ from M
 clear M
 go_enter Tryd.func10, Tryd.ntmps10
 go_wp2_with fail
 rw [<- hW]
 have M := HM.out
 clear hW HM c0 d0
 refine (ak1 _ _ p.vars q.vars _ (HG.out _ (M.below fun _ _ => trivial)).1.1 (HG.out _ (M.below fun _ _ => trivial)).2.1).mono ?_
 rintro x w1 ⟨rfl, n1, rfl⟩
 replace M := M.call (below_drewN (Below.refl _ _) n1)
 obtain ⟨r1, hq⟩ : ∃ r, r = decide (p.vars = q.vars) := ⟨_, rfl⟩
 rw [<- hq]
 have Hr1 := show Hid _ from hq
 clear hq
 have HB := show Hid _ from M.below fun _ _ => trivial
 have c1 := M.c 0 1 rfl rfl
 have d1 := M.c 1 1 rfl rfl
 have HM := show Hid _ from M
 clear M
 cases r1
 ·go_wp2_with fail
  go_ret
  exact ⟨m5 (by rw [HS.out, <- Hr1.out]; simp), HB.out⟩
 go_wp2_with fail
 have M := HM.out
 clear HM HB c1 d1
 refine (ak1 _ _ p.arrays q.arrays _ (HG.out _ (M.below fun _ _ => trivial)).1.2.1 (HG.out _ (M.below fun _ _ => trivial)).2.2.1).mono ?_
 rintro x w1 ⟨rfl, n2, rfl⟩
 replace M := M.call (below_drewN (Below.refl _ _) n2)
 rw [World.drewN_drewN] at M
 obtain ⟨r2, hq⟩ : ∃ r, r = decide (p.arrays = q.arrays) := ⟨_, rfl⟩
 rw [<- hq]
 have Hr2 := show Hid _ from hq
 clear hq
 have HB := show Hid _ from M.below fun _ _ => trivial
 have c2 := M.c 0 2 rfl rfl
 have d2 := M.c 1 2 rfl rfl
 have HM := show Hid _ from M
 clear M
 cases r2
 ·go_wp2_with fail
  go_ret
  exact ⟨m5 (by rw [HS.out, <- Hr2.out]; simp), HB.out⟩
 go_wp2_with fail
 have M := HM.out
 clear HM HB c2 d2
 refine (X8 p.body (fun s _ => az9 s) φ φ' v3 u3 q.body _ (HG.out _ (M.below fun _ _ => trivial)).1.2.2 (HG.out _ (M.below fun _ _ => trivial)).2.2.2).mono ?_
 rintro x w1 ⟨rfl, b1⟩
 replace M := M.call b1
 clear b1
 obtain ⟨r3, hq⟩ : ∃ r, r = E2 p.body q.body := ⟨_, rfl⟩
 rw [<- hq]
 have Hr3 := show Hid _ from hq
 clear hq
 have HB := show Hid _ from M.below fun _ _ => trivial
 clear M
 cases r3
 ·go_wp2_with fail
  go_ret
  exact ⟨m5 (by rw [HS.out, <- Hr3.out]; simp), HB.out⟩
 go_wp2_with fail
 go_ret
 exact ⟨m5 (by rw [HS.out, <- Hr1.out, <- Hr2.out, <- Hr3.out]; rfl), HB.out⟩
end Go.Proofs.YtcahndjigkledaaDoor
